/-
  What the formulas say, over numbers and lists alone. Nothing here is trusted.
-/
import Derived.Test.YtpeijfnfffogeaaMExactSameDeskWa
namespace Go.Proofs.Ytpeijfnfffogeaa.G
open Go Go.Ab
set_option maxRecDepth 100000
set_option linter.unusedVariables false
set_option linter.unusedSimpArgs false
set_option maxHeartbeats 1000000
/-! ### truth -/
theorem tT {A B : Prop} (h : A) : (true = true → A) ∧ (true = false → B) := ⟨fun _ => h, fun c => (by cases c)⟩
theorem tF {A B : Prop} (h : B) : (false = true → A) ∧ (false = false → B) := ⟨fun c => (by cases c), fun _ => h⟩
theorem tB {A B : Prop} {b : Bool} (h : A) : ((b == b) = true → A) ∧ ((b == b) = false → B) := ⟨fun _ => h, fun c => (by simp at c)⟩
theorem tE {A B : Prop} {b : Bool} (e : b = true) (h : A) : (b = true → A) ∧ (b = false → B) := ⟨fun _ => h, fun c => (by rw [e] at c; cases c)⟩
theorem tG {A B : Prop} {b : Bool} (e : b = false) (h : B) : (b = true → A) ∧ (b = false → B) := ⟨fun c => (by rw [e] at c; cases c), fun _ => h⟩
theorem tP {p A B : Prop} (e : p) (h : A) : (p → A) ∧ (¬p → B) := ⟨fun _ => h, fun c => absurd e c⟩
theorem tN {p A B : Prop} (e : ¬p) (h : B) : (p → A) ∧ (¬p → B) := ⟨fun c => absurd c e, fun _ => h⟩
theorem tI {b : Bool} {K : Bool → Prop} {A B : Prop} (h1 : b = true → A) (h2 : b = false → B) : (b = true → A) ∧ (b = false → B) := ⟨h1, h2⟩
/-! ### loops -/
theorem up {Y : Nat → Prop} (n : Nat) (last : Y n) (step : ∀ i, i < n → Y (i + 1) → Y i) : Y 0 := by
  have key : ∀ d i, i + d = n → Y i := by
    intro d
    induction d with
    | zero => intro i h; obtain rfl : i = n := by omega
              exact last
    | succ d ih => intro i h; exact step i (by omega) (ih (i + 1) (by omega))
  exact key n 0 (by omega)
theorem upFrom {Y : Nat → Prop} (k n : Nat) (hk : k ≤ n) (last : Y n) (step : ∀ i, k ≤ i → i < n → Y (i + 1) → Y i) : Y k := by
  have key : ∀ d i, k ≤ i → i + d = n → Y i := by
    intro d
    induction d with
    | zero => intro i _ h; obtain rfl : i = n := by omega
              exact last
    | succ d ih => intro i h0 h; exact step i h0 (by omega) (ih (i + 1) (by omega) (by omega))
  exact key (n - k) k (Nat.le_refl _) (by omega)
theorem w1 {i : Nat} (h : i < 4611686018427387904) : IntKind.i64.wrap ((i : Int) + (1 : Int)) = ((i + 1 : Nat) : Int) := wrap_succ (by omega)
theorem wI {n : Int} (h : -9223372036854775808 ≤ n ∧ n < 9223372036854775808) : IntKind.i64.wrap n = n := wrap_i64 h.1 h.2
theorem nn (i : Nat) : ((i : Int)).toNat = i := rfl
theorem gD {α : Type} {l : List α} {i : Nat} (h : i < l.length) (d : α) : l.getD i d = l[i] := by rw [List.getD_eq_getElem?_getD, List.getElem?_eq_getElem h]; rfl
theorem dropC {α : Type} {l : List α} {i : Nat} (h : i < l.length) : l.drop i = l[i] :: l.drop (i + 1) := List.drop_eq_getElem_cons h
theorem len1 {α : Type} (a : α) : ([a] : List α).length = 1 := rfl
theorem cz32 (n : Nat) (h : (FloatKind.f32.decode n).isNaN = false) : cz .f32 n = n := by simp [cz, h]
theorem c0_32 : cz .f32 0 = 0 := cz_zero32
theorem c0_64 : cz .f64 0 = 0 := cz_zero64
/-! ### copies, comparisons, marks -/
theorem toFloat32S_wp {l : List Nat} {K : List Nat → Prop} (hl : l.length ≤ 2 ^ 20) (h : K l) : laws_toFloat32S.wp l K := by
  refine ⟨⟨by omega, by omega, by omega, by omega⟩, fun X hX => ?_⟩
  have key : X (l.take 0 ++ List.replicate (l.length - 0) (0 : Nat)) ((0 : Nat) : Int) := by
    refine up (Y := fun i => X (l.take i ++ List.replicate (l.length - i) (0 : Nat)) (i : Int)) l.length ?_ fun i hi hn => ?_
    · refine hX _ _ ⟨fun c => absurd c (by omega), fun _ => ?_⟩
      rw [List.take_length, Nat.sub_self, List.replicate_zero, List.append_nil]; exact h
    · refine hX _ _ ⟨fun _ => ⟨⟨by omega, by omega⟩, ⟨by omega, ?_⟩, ?_⟩, fun c => absurd (show (i : Int) < l.length by omega) c⟩
      · rw [List.length_append, List.length_take, List.length_replicate]; omega
      · rw [nn, w1 (by omega), gD hi, set_fill (0 : Nat) (by omega) hi]
        exact hn
  rw [List.take_zero, List.nil_append, Nat.sub_zero] at key; exact key
theorem toInt64S_wp {l : List Int} {K : List Int → Prop} (hl : l.length ≤ 2 ^ 20) (h : K l) : laws_toInt64S.wp l K := by
  refine ⟨⟨by omega, by omega, by omega, by omega⟩, fun X hX => ?_⟩
  have key : X (l.take 0 ++ List.replicate (l.length - 0) (0 : Int)) ((0 : Nat) : Int) := by
    refine up (Y := fun i => X (l.take i ++ List.replicate (l.length - i) (0 : Int)) (i : Int)) l.length ?_ fun i hi hn => ?_
    · refine hX _ _ ⟨fun c => absurd c (by omega), fun _ => ?_⟩
      rw [List.take_length, Nat.sub_self, List.replicate_zero, List.append_nil]; exact h
    · refine hX _ _ ⟨fun _ => ⟨⟨by omega, by omega⟩, ⟨by omega, ?_⟩, ?_⟩, fun c => absurd (show (i : Int) < l.length by omega) c⟩
      · rw [List.length_append, List.length_take, List.length_replicate]; omega
      · rw [nn, w1 (by omega), gD hi, set_fill (0 : Int) (by omega) hi]
        exact hn
  rw [List.take_zero, List.nil_append, Nat.sub_zero] at key; exact key
theorem toBoolS_wp {l : List Bool} {K : List Bool → Prop} (hl : l.length ≤ 2 ^ 20) (h : K l) : laws_toBoolS.wp l K := by
  refine ⟨⟨by omega, by omega, by omega, by omega⟩, fun X hX => ?_⟩
  have key : X (l.take 0 ++ List.replicate (l.length - 0) false) ((0 : Nat) : Int) := by
    refine up (Y := fun i => X (l.take i ++ List.replicate (l.length - i) false) (i : Int)) l.length ?_ fun i hi hn => ?_
    · refine hX _ _ ⟨fun c => absurd c (by omega), fun _ => ?_⟩
      rw [List.take_length, Nat.sub_self, List.replicate_zero, List.append_nil]; exact h
    · refine hX _ _ ⟨fun _ => ⟨⟨by omega, by omega⟩, ⟨by omega, ?_⟩, ?_⟩, fun c => absurd (show (i : Int) < l.length by omega) c⟩
      · rw [List.length_append, List.length_take, List.length_replicate]; omega
      · rw [nn, w1 (by omega), gD hi, set_fill false (by omega) hi]
        exact hn
  rw [List.take_zero, List.nil_append, Nat.sub_zero] at key; exact key
theorem sameFloat_wp {a : Nat} {K : Bool → Prop} (h : K true) : laws_sameFloat.wp a a K := by
  rcases order_self Ieee.double a with ho | ho
  · have e : fcmp .neq .f64 a a = true := by simp [fcmp, FloatKind.format, ho]
    exact tE e (by rw [e]; exact h)
  · have e : fcmp .neq .f64 a a = false := by simp [fcmp, FloatKind.format, ho]
    have e2 : fcmp .eql .f64 a a = true := by simp [fcmp, FloatKind.format, ho]
    refine tG e (tG e ⟨fun c => ⟨fun _ => by rw [BEq.rfl]; exact h, fun c2 => (by rw [c] at c2; cases c2)⟩, fun _ => by rw [e2]; exact h⟩)
theorem eqFloat32S_wp {l : List Nat} {K : Bool → Prop} (hl : l.length ≤ 2 ^ 20) (h : K true) : laws_eqFloat32S.wp l l K := by
  refine tP rfl fun X hX => ?_
  refine up (Y := fun i => X (i : Int)) l.length ?_ fun i hi hn => ?_
  · exact hX _ ⟨fun c => absurd c (by omega), fun _ => h⟩
  · refine hX _ ⟨fun _ => ⟨⟨by omega, by omega⟩, ⟨by omega, by omega⟩, sameFloat_wp (tT ?_)⟩, fun c => absurd (show (i : Int) < l.length by omega) c⟩
    rw [w1 (by omega)]; exact hn
theorem eqInt64S_wp {l : List Int} {K : Bool → Prop} (hl : l.length ≤ 2 ^ 20) (h : K true) : laws_eqInt64S.wp l l K := by
  refine tP rfl fun X hX => ?_
  refine up (Y := fun i => X (i : Int)) l.length ?_ fun i hi hn => ?_
  · exact hX _ ⟨fun c => absurd c (by omega), fun _ => h⟩
  · refine hX _ ⟨fun _ => ⟨⟨by omega, by omega⟩, ⟨by omega, by omega⟩, tP rfl ?_⟩, fun c => absurd (show (i : Int) < l.length by omega) c⟩
    rw [w1 (by omega)]; exact hn
theorem eqBoolS_wp {l : List Bool} {K : Bool → Prop} (hl : l.length ≤ 2 ^ 20) (h : K true) : laws_eqBoolS.wp l l K := by
  refine tP rfl fun X hX => ?_
  refine up (Y := fun i => X (i : Int)) l.length ?_ fun i hi hn => ?_
  · exact hX _ ⟨fun c => absurd c (by omega), fun _ => h⟩
  · refine hX _ ⟨fun _ => ⟨⟨by omega, by omega⟩, ⟨by omega, by omega⟩, tB ?_⟩, fun c => absurd (show (i : Int) < l.length by omega) c⟩
    rw [w1 (by omega)]; exact hn
theorem markFloat32S_wp {l : List Nat} {k : Nat} {K : Int → List Nat → Prop} (hl : l.length ≤ 2 ^ 20) (hk : k ≤ 2 ^ 40) (h : K ((k + l.length : Nat) : Int) (marks k l.length)) : laws_markFloat32S.wp l (k : Int) K := by
  intro X hX
  have key : X (marks k 0 ++ l.drop 0) ((k + 0 : Nat) : Int) ((0 : Nat) : Int) := by
    refine up (Y := fun i => X (marks k i ++ l.drop i) ((k + i : Nat) : Int) (i : Int)) l.length ?_ fun i hi hn => ?_
    · refine hX _ _ _ ⟨fun c => absurd c (by rw [List.length_append, marks_length, List.length_drop]; omega), fun _ => ?_⟩
      rw [List.drop_length, List.append_nil]; exact h
    · have hlen : (marks k i ++ l.drop i).length = l.length := by rw [List.length_append, marks_length, List.length_drop]; omega
      refine hX _ _ _ ⟨fun _ => ⟨⟨by omega, by rw [hlen]; omega⟩, ?_⟩, fun c => absurd (show (i : Int) < _ by rw [hlen]; omega) c⟩
      rw [nn, w1 (by omega), w1 (by omega)]
      have e := marks_step (l := l) (i := i) (m := l.length - i) k (by omega) hi
      rw [show (k : Int) + (i : Int) = ((k + i : Nat) : Int) by omega] at e
      rw [show itof .f32 ((k + i : Nat) : Int) = fl ((k + i : Nat) : Int) from rfl]
      rw [e]; exact hn
  exact key
theorem heldFloat32S_wp {k n : Nat} {K : Int → Prop} (hl : n ≤ 2 ^ 20) (hk : k ≤ 2 ^ 40) (h : K ((k + n : Nat) : Int)) : laws_heldFloat32S.wp (marks k n) (k : Int) K := by
  intro X hX
  have hlen : (marks k n).length = n := marks_length _ _
  have key : X ((k + 0 : Nat) : Int) ((0 : Nat) : Int) := by
    refine up (Y := fun i => X ((k + i : Nat) : Int) (i : Int)) n ?_ fun i hi hn => ?_
    · exact hX _ _ ⟨fun c => absurd c (by omega), fun _ => h⟩
    · refine hX _ _ ⟨fun _ => ⟨⟨by omega, by omega⟩, ?_⟩, fun c => absurd (show (i : Int) < _ by omega) c⟩
      rw [nn, gD (by omega), marks_at k n i (by omega), show (k : Int) + (i : Int) = ((k + i : Nat) : Int) by omega]
      refine tG (show fcmp .neq .f32 (fl ((k + i : Nat) : Int)) (itof .f32 ((k + i : Nat) : Int)) = false from fl_neq _) ?_
      rw [w1 (by omega), w1 (by omega)]; exact hn
  exact key
theorem markInt64S_wp {l : List Int} {k : Nat} {K : Int → List Int → Prop} (hl : l.length ≤ 2 ^ 20) (hk : k ≤ 2 ^ 40) (h : K ((k + l.length : Nat) : Int) (marksI k l.length)) : laws_markInt64S.wp l (k : Int) K := by
  intro X hX
  have key : X (marksI k 0 ++ l.drop 0) ((k + 0 : Nat) : Int) ((0 : Nat) : Int) := by
    refine up (Y := fun i => X (marksI k i ++ l.drop i) ((k + i : Nat) : Int) (i : Int)) l.length ?_ fun i hi hn => ?_
    · refine hX _ _ _ ⟨fun c => absurd c (by rw [List.length_append, marksI_length, List.length_drop]; omega), fun _ => ?_⟩
      rw [List.drop_length, List.append_nil]; exact h
    · have hlen : (marksI k i ++ l.drop i).length = l.length := by rw [List.length_append, marksI_length, List.length_drop]; omega
      refine hX _ _ _ ⟨fun _ => ⟨⟨by omega, by rw [hlen]; omega⟩, ?_⟩, fun c => absurd (show (i : Int) < _ by rw [hlen]; omega) c⟩
      rw [nn, w1 (by omega), w1 (by omega)]
      have e := marksI_step (l := l) (i := i) (m := l.length - i) k (by omega) hi
      rw [show (k : Int) + (i : Int) = ((k + i : Nat) : Int) by omega] at e
      
      rw [e]; exact hn
  exact key
theorem heldInt64S_wp {k n : Nat} {K : Int → Prop} (hl : n ≤ 2 ^ 20) (hk : k ≤ 2 ^ 40) (h : K ((k + n : Nat) : Int)) : laws_heldInt64S.wp (marksI k n) (k : Int) K := by
  intro X hX
  have hlen : (marksI k n).length = n := marksI_length _ _
  have key : X ((k + 0 : Nat) : Int) ((0 : Nat) : Int) := by
    refine up (Y := fun i => X ((k + i : Nat) : Int) (i : Int)) n ?_ fun i hi hn => ?_
    · exact hX _ _ ⟨fun c => absurd c (by omega), fun _ => h⟩
    · refine hX _ _ ⟨fun _ => ⟨⟨by omega, by omega⟩, ?_⟩, fun c => absurd (show (i : Int) < _ by omega) c⟩
      rw [nn, gD (by omega), marksI_at k n i (by omega), show (k : Int) + (i : Int) = ((k + i : Nat) : Int) by omega]
      refine tP rfl ?_
      rw [w1 (by omega), w1 (by omega)]; exact hn
  exact key

end Go.Proofs.Ytpeijfnfffogeaa.G

namespace Go.Proofs.Ytpeijfnfffogeaa.G
open Go Go.Ab
set_option maxRecDepth 100000
set_option linter.unusedVariables false
set_option linter.unusedSimpArgs false
set_option maxHeartbeats 1000000
def pFin (x : Nat) : Bool := fcmp .eql .f32 (fop .sub .f32 x x) (cz .f32 0)
def pAll (l : List Nat) : Bool := l.all pFin
theorem pAll_cons (x : Nat) (l : List Nat) : pAll (x :: l) = (pFin x && pAll l) := rfl
/-- A loop that ends early where something does not hold. -/
theorem all_loop {α : Type} (l : List α) (p : α → Bool) {X : Int → Prop} {T F : Prop} (hX : ∀ (i : Nat) (h : i < l.length), ((p l[i] = true → X ((i + 1 : Nat) : Int)) ∧ (p l[i] = false → F)) → X (i : Int))
    (hend : T → X (l.length : Int)) (ht : l.all p = true → T) (hf : l.all p = false → F) : X (0 : Int) := by
  have key := up (Y := fun i => ((l.drop i).all p = true → T) → ((l.drop i).all p = false → F) → X (i : Int)) l.length (fun h _ => hend (h (by rw [List.drop_length]; rfl))) fun i hi hn h1 h2 => ?_
  · exact key (by rw [List.drop_zero]; exact ht) (by rw [List.drop_zero]; exact hf)
  · rw [dropC hi, List.all_cons] at h1 h2
    refine hX i hi ⟨fun e => hn (fun a => h1 (by rw [e, a]; rfl)) (fun a => h2 (by rw [e, a]; rfl)), fun e => h2 (by rw [e]; rfl)⟩
/-- A loop that makes a list, and ends early where something does not hold. -/
theorem map_loop {α β : Type} (l : List α) (p : α → Bool) (f : α → β) {X : List β → Int → Prop} {T F : Prop} (hX : ∀ (i : Nat) (h : i < l.length) (o : List β), o.length = i → ((p l[i] = true → X (o ++ [f l[i]]) ((i + 1 : Nat) : Int)) ∧ (p l[i] = false → F)) → X o (i : Int))
    (hend : T → X (l.map f) (l.length : Int)) (ht : l.all p = true → T) (hf : l.all p = false → F) : X [] (0 : Int) := by
  have key := up (Y := fun i => ((l.drop i).all p = true → T) → ((l.drop i).all p = false → F) → X ((l.take i).map f) (i : Int)) l.length (fun h _ => by rw [List.take_length]; exact hend (h (by rw [List.drop_length]; rfl))) fun i hi hn h1 h2 => ?_
  · have := key (by rw [List.drop_zero]; exact ht) (by rw [List.drop_zero]; exact hf)
    rw [List.take_zero] at this; exact this
  · rw [dropC hi, List.all_cons] at h1 h2
    refine hX i hi _ (by rw [List.length_map, List.length_take]; omega) ⟨fun e => ?_, fun e => h2 (by rw [e]; rfl)⟩
    have := hn (fun a => h1 (by rw [e, a]; rfl)) (fun a => h2 (by rw [e, a]; rfl))
    rw [List.take_succ_eq_append_getElem hi, List.map_append] at this
    exact this
theorem spec_l01Finite_wp {a : Nat} {K : Bool → Prop} (h : K (pFin a)) : spec_l01Finite.wp a K := h
theorem impl_IsFinite_wp {a : Nat} {K : Bool → Prop} (h : K (pFin a)) : impl_IsFinite.wp a K := h
theorem spec_l02Finite_wp {l : List Nat} {K : Bool → Prop} (hl : l.length ≤ 2 ^ 20) (h : K (pAll l)) : spec_l02Finite.wp l K := by
  intro X hX
  refine all_loop l pFin (X := X) (T := K true) (F := K false) (fun i hi hh => ?_) (fun ht => hX _ ⟨fun c => absurd c (by omega), fun _ => ht⟩) (fun e => by rw [pAll, e] at h; exact h) (fun e => by rw [pAll, e] at h; exact h)
  refine hX _ ⟨fun _ => ⟨⟨by omega, by omega⟩, spec_l01Finite_wp ?_⟩, fun c => absurd (show (i : Int) < l.length by omega) c⟩
  rw [nn, gD hi, w1 (by omega)]; exact hh
theorem impl_areFinite_wp {ll : List (List Nat)} {K : Bool → Prop} (hll : ll.length ≤ 2 ^ 20) (hl : ∀ l ∈ ll, l.length ≤ 2 ^ 20) (h : K (ll.all pAll)) : impl_areFinite.wp ll K := by
  intro X hX
  refine all_loop ll pAll (X := X) (T := K true) (F := K false) (fun i hi hh => ?_) (fun ht => hX _ ⟨fun c => absurd c (by omega), fun _ => ht⟩) (fun e => by rw [e] at h; exact h) (fun e => by rw [e] at h; exact h)
  refine hX _ ⟨fun _ => ⟨⟨by omega, by omega⟩, fun Y hY => ?_⟩, fun c => absurd (show (i : Int) < ll.length by omega) c⟩
  have hlen := hl ll[i] (List.getElem_mem hi)
  rw [nn, gD hi, w1 (by omega)] at hY
  refine all_loop ll[i] pFin (X := Y) (T := X ((i + 1 : Nat) : Int)) (F := K false) (fun j hj h2 => ?_) (fun ht => hY _ ⟨fun c => absurd c (by omega), fun _ => ht⟩) (fun e => hh.1 e) (fun e => hh.2 e)
  refine hY _ ⟨fun _ => ⟨⟨by omega, by omega⟩, impl_IsFinite_wp ?_⟩, fun c => absurd (show (j : Int) < ll[i].length by omega) c⟩
  rw [nn, gD hj, w1 (by omega)]; exact h2
theorem impl_areFinite1_wp {l : List Nat} {K : Bool → Prop} (hl : l.length ≤ 2 ^ 20) (h : K (pAll l)) : impl_areFinite.wp [l] K := by
  refine impl_areFinite_wp (by simp) (fun x hx => by rw [List.mem_singleton] at hx; subst hx; exact hl) ?_
  rw [List.all_cons, List.all_nil, Bool.and_true]; exact h
theorem impl_within_wp {a b c : Int} {K : Bool → Prop} (h : K (decide (b ≤ a ∧ a ≤ c))) : impl_within.wp a b c K := by
  refine ⟨fun h1 => ?_, fun h1 => ?_⟩
  · have : decide (b ≤ a ∧ a ≤ c) = decide (a ≤ c) := by simp [h1]
    rw [this] at h; exact h
  · have : decide (b ≤ a ∧ a ≤ c) = false := by simp [h1]
    rw [this] at h; exact h
theorem spec_l00In_wp {a b c : Int} {K : Bool → Prop} (h : K (decide (b ≤ a ∧ a ≤ c))) : spec_l00In.wp a b c K := by
  refine ⟨fun h1 => ?_, fun h1 => ?_⟩
  · have : decide (b ≤ a ∧ a ≤ c) = decide (a ≤ c) := by simp [h1]
    rw [this] at h; exact h
  · have : decide (b ≤ a ∧ a ≤ c) = false := by simp [h1]
    rw [this] at h; exact h
theorem bT {b : Bool} {A B : Prop} (h1 : b = true → A) (h2 : b = false → B) : (b = true → A) ∧ (b = false → B) := ⟨h1, h2⟩
def isL (l : List Nat) : Bool := decide (1 ≤ l.length ∧ l.length ≤ 128) && pAll l
theorem spec_l02Is_wp {l : List Nat} {K : Bool → Prop} (hl : l.length ≤ 2 ^ 20) (h : K (isL l)) : spec_l02Is.wp l K := by
  refine ⟨fun h1 => ⟨fun h2 => spec_l02Finite_wp hl ?_, fun h2 => ?_⟩, fun h1 => ?_⟩
  · rw [isL, decide_eq_true (show 1 ≤ l.length ∧ l.length ≤ 128 by omega), Bool.true_and] at h; exact h
  · rw [isL, decide_eq_false (show ¬(1 ≤ l.length ∧ l.length ≤ 128) by omega), Bool.false_and] at h; exact h
  · rw [isL, decide_eq_false (show ¬(1 ≤ l.length ∧ l.length ≤ 128) by omega), Bool.false_and] at h; exact h
theorem impl_IsList_wp {l : List Nat} {K : Bool → Prop} (hl : l.length ≤ 2 ^ 20) (h : K (isL l)) : impl_IsList.wp l K := by
  refine impl_within_wp ⟨fun h1 => ?_, fun h1 => ?_⟩
  · have h1 := of_decide_eq_true h1
    refine impl_areFinite1_wp hl ?_
    rw [isL, decide_eq_true (show 1 ≤ l.length ∧ l.length ≤ 128 by omega), Bool.true_and] at h; exact h
  · have h1 := of_decide_eq_false h1
    rw [isL, decide_eq_false (show ¬(1 ≤ l.length ∧ l.length ≤ 128) by omega), Bool.false_and] at h; exact h
def isOver (x : Nat) : Bool := pFin x && fcmp .gtr .f32 x (cz .f32 0)
def isLeast (x : Nat) : Bool := pFin x && fcmp .geq .f32 x (cz .f32 0)
theorem spec_l02Above_wp {a : Nat} {K : Bool → Prop} (h : K (isOver a)) : spec_l02Above.wp a K := by
  refine spec_l01Finite_wp ⟨fun h1 => ?_, fun h1 => ?_⟩ <;> (rw [isOver, h1] at h; exact h)
theorem impl_isOver_wp {a : Nat} {K : Bool → Prop} (h : K (isOver a)) : impl_isOver.wp a K := by
  refine impl_IsFinite_wp ⟨fun h1 => ?_, fun h1 => ?_⟩ <;> (rw [isOver, h1] at h; exact h)
theorem spec_l02Least_wp {a : Nat} {K : Bool → Prop} (h : K (isLeast a)) : spec_l02Least.wp a K := by
  refine spec_l01Finite_wp ⟨fun h1 => ?_, fun h1 => ?_⟩ <;> (rw [isLeast, h1] at h; exact h)
theorem impl_isLeast_wp {a : Nat} {K : Bool → Prop} (h : K (isLeast a)) : impl_isLeast.wp a K := by
  refine impl_IsFinite_wp ⟨fun h1 => ?_, fun h1 => ?_⟩ <;> (rw [isLeast, h1] at h; exact h)
def isShare (x : Nat) : Bool := fcmp .geq .f32 x (cz .f32 0) && fcmp .leq .f32 x (cz .f32 1065353216)
theorem spec_l02Share_wp {a : Nat} {K : Bool → Prop} (h : K (isShare a)) : spec_l02Share.wp a K := by
  refine ⟨fun h1 => ?_, fun h1 => ?_⟩ <;> (rw [isShare, h1] at h; exact h)
theorem impl_isShare_wp {a : Nat} {K : Bool → Prop} (h : K (isShare a)) : impl_isShare.wp a K := by
  refine ⟨fun h1 => ?_, fun h1 => ?_⟩ <;> (rw [isShare, h1] at h; exact h)
/-! ### integers -/
def bnd (m : Int) (l : List Int) : Bool := l.all fun n => decide (-m ≤ n ∧ n ≤ m)
def isI (l : List Int) : Bool := decide (1 ≤ l.length ∧ l.length ≤ 128) && bnd 1000000 l
theorem spec_l02Bound_wp {l : List Int} {m : Int} {K : Bool → Prop} (hl : l.length ≤ 2 ^ 20) (hm : 0 ≤ m ∧ m ≤ 2 ^ 40) (h : K (bnd m l)) : spec_l02Bound.wp l m K := by
  intro X hX
  refine all_loop l (fun n => decide (-m ≤ n ∧ n ≤ m)) (X := X) (T := K true) (F := K false) (fun i hi hh => ?_) (fun ht => hX _ ⟨fun c => absurd c (by omega), fun _ => ht⟩) (fun e => by rw [bnd, e] at h; exact h) (fun e => by rw [bnd, e] at h; exact h)
  refine hX _ ⟨fun _ => ⟨⟨by omega, by omega⟩, spec_l00In_wp ?_⟩, fun c => absurd (show (i : Int) < l.length by omega) c⟩
  rw [nn, gD hi, w1 (by omega), wI (show -9223372036854775808 ≤ (0 : Int) - m ∧ (0 : Int) - m < 9223372036854775808 by omega), Int.zero_sub]; exact hh
theorem impl_areWithin_wp {l : List Int} {m : Int} {K : Bool → Prop} (hl : l.length ≤ 2 ^ 20) (hm : 0 ≤ m ∧ m ≤ 2 ^ 40) (h : K (bnd m l)) : impl_areWithin.wp l m K := by
  intro X hX
  refine all_loop l (fun n => decide (-m ≤ n ∧ n ≤ m)) (X := X) (T := K true) (F := K false) (fun i hi hh => ?_) (fun ht => hX _ ⟨fun c => absurd c (by omega), fun _ => ht⟩) (fun e => by rw [bnd, e] at h; exact h) (fun e => by rw [bnd, e] at h; exact h)
  refine hX _ ⟨fun _ => ⟨⟨by omega, by omega⟩, impl_within_wp ?_⟩, fun c => absurd (show (i : Int) < l.length by omega) c⟩
  rw [nn, gD hi, w1 (by omega), wI (show -9223372036854775808 ≤ (0 : Int) - m ∧ (0 : Int) - m < 9223372036854775808 by omega), Int.zero_sub]; exact hh
theorem spec_l02Integers_wp {l : List Int} {K : Bool → Prop} (hl : l.length ≤ 2 ^ 20) (h : K (isI l)) : spec_l02Integers.wp l K := by
  refine ⟨fun h1 => ⟨fun h2 => spec_l02Bound_wp hl (by omega) ?_, fun h2 => ?_⟩, fun h1 => ?_⟩
  · rw [isI, decide_eq_true (show 1 ≤ l.length ∧ l.length ≤ 128 by omega), Bool.true_and] at h; exact h
  · rw [isI, decide_eq_false (show ¬(1 ≤ l.length ∧ l.length ≤ 128) by omega), Bool.false_and] at h; exact h
  · rw [isI, decide_eq_false (show ¬(1 ≤ l.length ∧ l.length ≤ 128) by omega), Bool.false_and] at h; exact h
theorem impl_AreIntegers_wp {l : List Int} {K : Bool → Prop} (hl : l.length ≤ 2 ^ 20) (h : K (isI l)) : impl_AreIntegers.wp l K := by
  refine impl_within_wp ⟨fun h1 => ?_, fun h1 => ?_⟩
  · have h1 := of_decide_eq_true h1
    refine impl_areWithin_wp hl (by omega) ?_
    rw [isI, decide_eq_true (show 1 ≤ l.length ∧ l.length ≤ 128 by omega), Bool.true_and] at h; exact h
  · have h1 := of_decide_eq_false h1
    rw [isI, decide_eq_false (show ¬(1 ≤ l.length ∧ l.length ≤ 128) by omega), Bool.false_and] at h; exact h
theorem impl_finiteList_wp {l : List Nat} {K : Bool → Bool → Prop} (hl : l.length ≤ 2 ^ 20) (h : K (pAll l) (pAll l)) : impl_finiteList.wp l K := by
  refine impl_areFinite1_wp hl ⟨fun h1 => ?_, fun h1 => ?_⟩ <;> (rw [h1] at h; exact h)
theorem spec_l02List_wp {l : List Nat} {K : Bool → Bool → Prop} (hl : l.length ≤ 2 ^ 20) (h : K (pAll l) (pAll l)) : spec_l02List.wp l K := by
  refine spec_l02Finite_wp hl ⟨fun h1 => ?_, fun h1 => ?_⟩ <;> (rw [h1] at h; exact h)

end Go.Proofs.Ytpeijfnfffogeaa.G

namespace Go.Proofs.Ytpeijfnfffogeaa.G
open Go Go.Ab
set_option maxRecDepth 100000
set_option linter.unusedVariables false
set_option linter.unusedSimpArgs false
set_option maxHeartbeats 1000000
/-- What is like itself is a number. -/
theorem num_of_eq {x : Nat} (h : fcmp .neq .f32 x x = false) : num .f32 x = true := by
  unfold num
  cases hd : (FloatKind.f32.decode x).isNaN with
  | false => rfl
  | true =>
    exfalso
    have h2 : Ieee.single.order x x = none := by
      unfold Ieee.Format.order
      have hd' : (Ieee.single.read x).isNaN = true := hd
      cases hr : Ieee.single.read x with
      | nan s t => rfl
      | _ => rw [hr] at hd'; cases hd'
    unfold fcmp at h
    rw [show FloatKind.f32.format = Ieee.single from rfl, h2] at h
    cases h
theorem ixor {a b : Nat} (ha : a < 2 ^ 32) (hb : b < 2 ^ 32) : ibits .xor .i64 (a : Int) (b : Int) = ((a ^^^ b : Nat) : Int) := by
  have hx : a ^^^ b < 2 ^ 32 := Nat.xor_lt_two_pow ha hb
  have ea : (BitVec.ofInt 64 (a : Int)).toNat = a := by rw [BitVec.ofInt_natCast, BitVec.toNat_ofNat]; omega
  have eb : (BitVec.ofInt 64 (b : Int)).toNat = b := by rw [BitVec.ofInt_natCast, BitVec.toNat_ofNat]; omega
  show IntKind.i64.wrap ((BitVec.ofInt 64 (a : Int) ^^^ BitVec.ofInt 64 (b : Int)).toNat : Int) = _
  rw [BitVec.toNat_xor, ea, eb]
  exact wI (by omega)
theorem ior {a b : Nat} (ha : a < 2 ^ 32) (hb : b < 2 ^ 32) : ibits .or .i64 (a : Int) (b : Int) = ((a ||| b : Nat) : Int) := by
  have hx : a ||| b < 2 ^ 32 := Nat.or_lt_two_pow ha hb
  have ea : (BitVec.ofInt 64 (a : Int)).toNat = a := by rw [BitVec.ofInt_natCast, BitVec.toNat_ofNat]; omega
  have eb : (BitVec.ofInt 64 (b : Int)).toNat = b := by rw [BitVec.ofInt_natCast, BitVec.toNat_ofNat]; omega
  show IntKind.i64.wrap ((BitVec.ofInt 64 (a : Int) ||| BitVec.ofInt 64 (b : Int)).toNat : Int) = _
  rw [BitVec.toNat_or, ea, eb]
  exact wI (by omega)
theorem p8 : (2 ^ (min (8 : Int).toNat IntKind.i64.bits) : Int) = 256 := by decide
theorem fdiv8 (m : Nat) : Int.fdiv (m : Int) (2 ^ (min (8 : Int).toNat IntKind.i64.bits)) = ((m / 256 : Nat) : Int) := by
  rw [p8, Int.fdiv_eq_ediv_of_nonneg _ (by decide)]; omega
theorem tdivN (m k : Nat) (h : m < 2 ^ 40) : IntKind.i64.wrap (Int.tdiv (m : Int) (k : Int)) = ((m / k : Nat) : Int) := by
  rw [show (m : Int).tdiv (k : Int) = ((m / k : Nat) : Int) by rw [Int.tdiv_eq_ediv_of_nonneg (by omega)]; rfl]
  have := Nat.div_le_self m k
  generalize m / k = d at this
  exact wI (by omega)
theorem u8wrap (m : Nat) : IntKind.u8.wrap (m : Int) = ((m % 256 : Nat) : Int) := by
  show (m : Int) % 256 = _
  omega
theorem tmod8 (m : Nat) : Int.tmod (m : Int) 256 = ((m % 256 : Nat) : Int) := by
  rw [Int.tmod_eq_emod_of_nonneg (by omega)]; rfl
/-- How many bytes a number fills. -/
def nb (x : Nat) : Nat := if x = 0 then 0 else if x < 256 then 1 else if x < 65536 then 2 else if x < 16777216 then 3 else 4
theorem nb_le (x : Nat) : nb x ≤ 4 := by unfold nb; repeat' split
                                         all_goals omega
theorem nb_div {m : Nat} (h : 0 < m) (h32 : m < 2 ^ 32) : nb (m / 256) + 1 = nb m := by
  unfold nb; repeat' split
  all_goals omega
def lowB : Nat → Nat → List Int
  | 0, _ => []
  | n + 1, x => ((x % 256 : Nat) : Int) :: lowB n (x / 256)
theorem lowB_len : ∀ n x, (lowB n x).length = n
  | 0, _ => rfl
  | n + 1, x => by rw [lowB, List.length_cons, lowB_len]
def bitsN (x : Nat) : Nat := if fcmp .neq .f32 x x = true then 2143289344 else x
theorem bitsN_lt {x : Nat} (h : x < 2 ^ 32) : bitsN x < 2 ^ 32 := by unfold bitsN; split <;> omega
def oneB (y : Nat) : List Int := ((4 - nb y : Nat) : Int) :: lowB (nb y) y
theorem oneB_len (y : Nat) : (oneB y).length ≤ 5 := by rw [oneB, List.length_cons, lowB_len]; have := nb_le y; omega
def packTo : List Nat → Nat → List Int
  | [], _ => []
  | x :: l, b => oneB (bitsN x ^^^ b) ++ packTo l (bitsN x)
def packL (l : List Nat) : List UInt8 := byts (packTo l 0)
/-- The loop over the values. -/
theorem pack_loop (l : List Nat) (hl : l.length ≤ 2 ^ 20) (hw : ∀ x ∈ l, x < 2 ^ 32) {X : List Int → Int → Int → Prop} (hX : ∀ (o : List Int) (b i : Nat) (hi : i < l.length), b < 2 ^ 32 → o.length ≤ 5 * i → X (o ++ oneB (bitsN l[i] ^^^ b)) (bitsN l[i] : Nat) ((i + 1 : Nat) : Int) → X o (b : Int) (i : Int)) (hend : ∀ b : Int, X (packTo l 0) b (l.length : Int)) : X [] ((0 : Nat) : Int) ((0 : Nat) : Int) := by
  have key : ∀ (m i : Nat) (o : List Int) (b : Nat), m + i = l.length → b < 2 ^ 32 → o.length ≤ 5 * i → o ++ packTo (l.drop i) b = packTo l 0 → X o (b : Int) (i : Int) := by
    intro m
    induction m with
    | zero => intro i o b h1 h2 h3 h4
              obtain rfl : i = l.length := by omega
              rw [List.drop_length, packTo, List.append_nil] at h4
              rw [h4]; exact hend _
    | succ m ih =>
      intro i o b h1 h2 h3 h4
      have hi : i < l.length := by omega
      refine hX o b i hi h2 h3 (ih (i + 1) _ _ (by omega) (bitsN_lt (hw _ (List.getElem_mem hi))) (by rw [List.length_append]; have := oneB_len (bitsN l[i] ^^^ b); omega) ?_)
      rw [dropC hi, packTo] at h4
      rw [List.append_assoc]; exact h4
  exact key l.length 0 [] 0 (by omega) (by decide) (by simp) rfl
/-- The loop over a number's bytes. -/
theorem bytes_loop (M : Nat) {X : List Int → Int → Int → Prop} {N : Nat} (hX : ∀ (o : List Int) (x k : Nat), k < N → x < 2 ^ 32 → o.length < M → X (o ++ [((x % 256 : Nat) : Int)]) ((x / 256 : Nat) : Int) ((k + 1 : Nat) : Int) → X o (x : Int) (k : Int)) : ∀ (n k x : Nat) (o : List Int), k + n = N → x < 2 ^ 32 → o.length + n ≤ M → (∀ x, X (o ++ lowB n x) x (N : Int) → True) → (∀ y : Int, X (o ++ lowB n x) y (N : Int)) → X o (x : Int) (k : Int) := by
  intro n
  induction n with
  | zero => intro k x o h1 h2 h3 _ h4
            obtain rfl : k = N := by omega
            have := h4 x
            rw [lowB, List.append_nil] at this; exact this
  | succ n ih =>
    intro k x o h1 h2 h3 _ h4
    refine hX o x k (by omega) h2 (by omega) (ih (k + 1) (x / 256) _ (by omega) (by omega) (by rw [List.length_append, List.length_singleton]; omega) (fun _ _ => trivial) fun y => ?_)
    have := h4 y
    rw [lowB] at this
    rw [List.append_assoc]; exact this
theorem spec_l01Bits_wp {x : Nat} {K : Int → Prop} (hx : x < 2 ^ 32) (h : K (bitsN x : Nat)) : spec_l01Bits.wp x K := by
  refine ⟨fun c => ?_, fun c => ⟨?_, ?_⟩⟩
  · rw [bitsN, if_pos c] at h; exact h
  · exact num_of_eq c
  · rw [bitsN, if_neg (by rw [c]; decide)] at h
    rw [wI (by omega)]; exact h
theorem impl_BitsOf_wp {x : Nat} {K : Int → Prop} (hx : x < 2 ^ 32) (h : K (bitsN x : Nat)) : impl_BitsOf.wp x K := by
  refine ⟨fun c => ?_, fun c => ⟨?_, ?_⟩⟩
  · rw [bitsN, if_pos c] at h; exact h
  · exact num_of_eq c
  · rw [bitsN, if_neg (by rw [c]; decide)] at h
    rw [wI (by omega)]; exact h
theorem impl_packed_wp {l : List Nat} {K : List UInt8 → Prop} (hl : l.length ≤ 2 ^ 20) (hw : ∀ x ∈ l, x < 2 ^ 32) (h : K (packL l)) : impl_packed.wp l K := by
  intro X hX
  refine pack_loop l hl hw (X := X) (fun o b i hi hb ho hn => hX _ _ _ ⟨fun _ => ⟨⟨by omega, by omega⟩, ?_⟩, fun c => absurd (show (i : Int) < l.length by omega) c⟩) (fun b => hX _ _ _ ⟨fun c => absurd c (by omega), fun _ => h⟩)
  have hxi := hw _ (List.getElem_mem hi)
  rw [nn, gD hi]
  refine impl_BitsOf_wp hxi ?_
  have hbi := bitsN_lt hxi
  rw [ixor hbi hb, w1 (by omega)]
  generalize hy : bitsN l[i] ^^^ b = y at hn
  have hy32 : y < 2 ^ 32 := by rw [← hy]; exact Nat.xor_lt_two_pow hbi hb
  have hnb := nb_le y
  intro Z hZ
  have key : ∀ (n z m : Nat), nb m = n → z + nb y = 4 + n → m < 2 ^ 32 → Z (z : Int) (m : Int) := by
    intro n
    induction n with
    | zero =>
      intro z m h1 h2 h3
      obtain rfl : m = 0 := by
        unfold nb at h1; repeat' split at h1
        all_goals first | assumption | omega
      refine hZ _ _ ⟨fun c => absurd c (by omega), fun _ => ⟨by rw [len1]; omega, fun Y hY => ?_⟩⟩
      have e1 : IntKind.u8.wrap (z : Int) = ((4 - nb y : Nat) : Int) := by rw [u8wrap]; omega
      have e2 : IntKind.i64.wrap ((4 : Int) - (z : Int)) = ((nb y : Nat) : Int) := by rw [wI (by omega)]; omega
      rw [e1]
      refine bytes_loop (5 * i + 5) (X := Y) (N := nb y) (fun q x k hk hx hq hn2 => hY _ _ _ ⟨fun _ => ⟨by rw [len1]; omega, ?_⟩, fun c => absurd (by rw [e2]; omega) c⟩) (nb y) 0 y _ (by omega) hy32 (by rw [List.length_append, List.length_singleton]; omega) (fun _ _ => trivial) (fun w => hY _ _ _ ⟨fun c => absurd c (by rw [e2]; omega), fun _ => ?_⟩)
      · rw [u8wrap, fdiv8, w1 (by omega)]; exact hn2
      · rw [List.append_assoc]; exact hn
    | succ n ih =>
      intro z m h1 h2 h3
      have hm : 0 < m := by
        unfold nb at h1; repeat' split at h1
        all_goals omega
      have := nb_div hm h3
      have := nb_le m
      refine hZ _ _ ⟨fun _ => ?_, fun c => absurd (show (0 : Int) < m by omega) c⟩
      rw [fdiv8, show IntKind.i64.wrap ((z : Int) - 1) = ((z - 1 : Nat) : Int) by rw [wI (by omega)]; omega]
      exact ih (z - 1) (m / 256) (by omega) (by omega) (by omega)
  exact key (nb y) 4 y rfl (by omega) hy32
theorem spec_l07Pack_wp {l : List Nat} {K : List UInt8 → Prop} (hl : l.length ≤ 2 ^ 20) (hw : ∀ x ∈ l, x < 2 ^ 32) (h : K (packL l)) : spec_l07Pack.wp l K := by
  intro X hX
  refine pack_loop l hl hw (X := X) (fun o b i hi hb ho hn => hX _ _ _ ⟨fun _ => ⟨⟨by omega, by omega⟩, ?_⟩, fun c => absurd (show (i : Int) < l.length by omega) c⟩) (fun b => hX _ _ _ ⟨fun c => absurd c (by omega), fun _ => h⟩)
  have hxi := hw _ (List.getElem_mem hi)
  rw [nn, gD hi]
  refine spec_l01Bits_wp hxi ?_
  have hbi := bitsN_lt hxi
  rw [ixor hbi hb, w1 (by omega)]
  generalize hy : bitsN l[i] ^^^ b = y at hn
  have hy32 : y < 2 ^ 32 := by rw [← hy]; exact Nat.xor_lt_two_pow hbi hb
  have hnb := nb_le y
  intro Z hZ
  have fin : ∀ (z : Nat), z + nb y = 4 → ∀ Y : List Int → Int → Int → Prop, (∀ (q : List Int) (x k : Int), ((k < 4 → ((q.length + ([(IntKind.u8.wrap (Int.tmod x 256))] : List (Int)).length) * 1 ≤ 2 ^ 40) ∧ Y (q ++ ([(IntKind.u8.wrap (Int.tmod x 256))] : List (Int))) (IntKind.i64.wrap (Int.tdiv x 256)) (IntKind.i64.wrap (k + 1))) ∧ (¬(k < 4) → X q (bitsN l[i] : Nat) ((i + 1 : Nat) : Int))) → Y q x k) → Y (o ++ ([(z : Int)] : List Int)) (y : Int) (z : Int) := by
    intro z hz Y hY
    refine bytes_loop (5 * i + 5) (X := Y) (N := 4) (fun q x k hk hx hq hn2 => hY _ _ _ ⟨fun _ => ⟨by rw [len1]; omega, ?_⟩, fun c => absurd (show (k : Int) < 4 by omega) c⟩) (nb y) z y _ hz hy32 (by rw [List.length_append, List.length_singleton]; omega) (fun _ _ => trivial) (fun w => hY _ _ _ ⟨fun c => absurd c (by omega), fun _ => ?_⟩)
    · rw [tmod8, u8wrap, Nat.mod_mod, show (256 : Int) = ((256 : Nat) : Int) from rfl, tdivN _ _ (by omega), w1 (by omega)]; exact hn2
    · rw [List.append_assoc]
      rw [oneB, show 4 - nb y = z by omega] at hn; exact hn
  have wz : ∀ z : Nat, z ≤ 4 → IntKind.u8.wrap (z : Int) = (z : Int) := fun z hz => by rw [u8wrap]; omega
  have q3 : y < 256 → Z ((3 : Nat) : Int) ((1 : Nat) : Int) := fun hy3 => by
    refine hZ _ _ ⟨fun _ => ⟨by decide, ?_⟩, fun c => absurd (by decide) c⟩
    rw [tdivN _ _ (by omega), Nat.div_one]
    refine ⟨fun c => ⟨fun _ => ⟨by rw [len1]; omega, ?_⟩, fun c2 => absurd rfl c2⟩, fun c => ⟨by rw [len1]; omega, ?_⟩⟩
    · rw [w1 (by decide), wz 4 (by decide)]
      exact fin 4 (by unfold nb; rw [if_pos (by omega)])
    · rw [wz 3 (by decide)]
      exact fin 3 (by unfold nb; rw [if_neg (by omega), if_pos (by omega)])
  have q2 : y < 65536 → Z ((2 : Nat) : Int) ((256 : Nat) : Int) := fun hy3 => by
    refine hZ _ _ ⟨fun _ => ⟨by decide, ?_⟩, fun c => absurd (by decide) c⟩
    rw [tdivN _ _ (by omega), w1 (by decide), show IntKind.i64.wrap (Int.tdiv ((256 : Nat) : Int) 256) = ((1 : Nat) : Int) by decide]
    refine ⟨fun c => ⟨fun c2 => absurd c2 (by decide), fun _ => q3 (by omega)⟩, fun c => ⟨by rw [len1]; omega, ?_⟩⟩
    rw [wz 2 (by decide)]
    exact fin 2 (by unfold nb; rw [if_neg (by omega), if_neg (by omega), if_pos (by omega)])
  have q1 : y < 16777216 → Z ((1 : Nat) : Int) ((65536 : Nat) : Int) := fun hy3 => by
    refine hZ _ _ ⟨fun _ => ⟨by decide, ?_⟩, fun c => absurd (by decide) c⟩
    rw [tdivN _ _ (by omega), w1 (by decide), show IntKind.i64.wrap (Int.tdiv ((65536 : Nat) : Int) 256) = ((256 : Nat) : Int) by decide]
    refine ⟨fun c => ⟨fun c2 => absurd c2 (by decide), fun _ => q2 (by omega)⟩, fun c => ⟨by rw [len1]; omega, ?_⟩⟩
    rw [wz 1 (by decide)]
    exact fin 1 (by unfold nb; rw [if_neg (by omega), if_neg (by omega), if_neg (by omega), if_pos (by omega)])
  show Z ((0 : Nat) : Int) ((16777216 : Nat) : Int)
  refine hZ _ _ ⟨fun _ => ⟨by decide, ?_⟩, fun c => absurd (by decide) c⟩
  rw [tdivN _ _ (by omega), w1 (by decide), show IntKind.i64.wrap (Int.tdiv ((16777216 : Nat) : Int) 256) = ((65536 : Nat) : Int) by decide]
  refine ⟨fun c => ⟨fun c2 => absurd c2 (by decide), fun _ => q1 (by omega)⟩, fun c => ⟨by rw [len1]; omega, ?_⟩⟩
  rw [wz 0 (by decide)]
  exact fin 0 (by unfold nb; rw [if_neg (by omega), if_neg (by omega), if_neg (by omega), if_neg (by omega)])

end Go.Proofs.Ytpeijfnfffogeaa.G

namespace Go.Proofs.Ytpeijfnfffogeaa.G
open Go Go.Ab
set_option maxRecDepth 100000
set_option linter.unusedVariables false
set_option linter.unusedSimpArgs false
set_option maxHeartbeats 1000000
theorem szFloat32S_wp {l : List Nat} {n : Int} {K : Int → Prop} (hl : l.length ≤ maxLen) (hn : 0 ≤ n ∧ n ≤ 2 ^ 40) (h0 : K (-1)) (h : (l.length : Int) ≤ n → K (n - (l.length : Int))) : laws_szFloat32S.wp l n K := by
  have hm : l.length < 2 ^ 63 := Nat.lt_of_le_of_lt hl (by decide)
  have e : IntKind.i64.wrap (n - (l.length : Int)) = n - (l.length : Int) := wI (by omega)
  refine ⟨fun c => h0, fun c => ?_⟩
  rw [e] at c ⊢; exact h (by omega)
theorem eqTake_wp {a : List UInt8} {k : Int} {l : List Nat} {K : Bool → Prop} (hl : l.length ≤ 2 ^ 20) (h : K true) : laws_eqTake.wp a k l a k l K :=
  tP rfl (tP rfl (eqFloat32S_wp hl (tT h)))
def btOk (a : List UInt8) (i : Nat) : Bool := !decide (bt a i < 97) && !decide (122 < bt a i)
def isNm (a : List UInt8) : Bool := (List.range a.length).all (btOk a) && decide (1 ≤ (a.length : Int) ∧ (a.length : Int) ≤ 8)
theorem range_get2 {n i : Nat} (h : i < (List.range n).length) : (List.range n)[i] = i := List.getElem_range h
theorem nm_yes {a : List UInt8} (h : (List.range a.length).all (btOk a) = true) : isNm a = decide (1 ≤ (a.length : Int) ∧ (a.length : Int) ≤ 8) := by rw [isNm, h]; rfl
theorem nm_no {a : List UInt8} (h : (List.range a.length).all (btOk a) = false) : isNm a = false := by rw [isNm, h]; rfl
theorem spec_l07Name_wp {a : List UInt8} {K : Bool → Prop} (ha : a.length ≤ 2 ^ 40) (h : K (isNm a)) : spec_l07Name.wp a K := by
  intro X hX
  refine all_loop (List.range a.length) (btOk a) (X := X) (T := K (decide (1 ≤ (a.length : Int) ∧ (a.length : Int) ≤ 8))) (F := K false) (fun i hi hh => ?_) (fun ht => hX _ ⟨fun c => absurd c (by rw [List.length_range]; omega), fun _ => ⟨fun h1 => ?_, fun h1 => ?_⟩⟩) (fun e => by rw [nm_yes e] at h; exact h) (fun e => by rw [nm_no e] at h; exact h)
  · rw [range_get2] at hh; rw [List.length_range] at hi
    refine hX _ ⟨fun _ => ⟨⟨by omega, by omega⟩, ?_⟩, fun c => absurd (show (i : Int) < a.length by omega) c⟩
    rw [w1 (by omega)]
    refine ⟨fun c1 => hh.2 (by rw [btOk, decide_eq_true c1]; rfl), fun c1 => ⟨fun c2 => hh.2 (by rw [btOk, decide_eq_true c2, Bool.not_true, Bool.and_false]), fun c2 => hh.1 (by rw [btOk, decide_eq_false c1, decide_eq_false c2]; rfl)⟩⟩
  · rw [show decide (1 ≤ (a.length : Int) ∧ (a.length : Int) ≤ 8) = decide ((a.length : Int) ≤ 8) by simp [h1]] at ht; exact ht
  · rw [show decide (1 ≤ (a.length : Int) ∧ (a.length : Int) ≤ 8) = false by simp [h1]] at ht; exact ht
theorem impl_IsName_wp {a : List UInt8} {K : Bool → Prop} (ha : a.length ≤ 2 ^ 40) (h : K (isNm a)) : impl_IsName.wp a K := by
  intro X hX
  refine all_loop (List.range a.length) (btOk a) (X := X) (T := K (decide (1 ≤ (a.length : Int) ∧ (a.length : Int) ≤ 8))) (F := K false) (fun i hi hh => ?_) (fun ht => hX _ ⟨fun c => absurd c (by rw [List.length_range]; omega), fun _ => ⟨fun h1 => ?_, fun h1 => ?_⟩⟩) (fun e => by rw [nm_yes e] at h; exact h) (fun e => by rw [nm_no e] at h; exact h)
  · rw [range_get2] at hh; rw [List.length_range] at hi
    refine hX _ ⟨fun _ => ⟨⟨by omega, by omega⟩, ?_⟩, fun c => absurd (show (i : Int) < a.length by omega) c⟩
    rw [w1 (by omega)]
    refine ⟨fun c1 => hh.2 (by rw [btOk, decide_eq_true c1]; rfl), fun c1 => ⟨fun c2 => hh.2 (by rw [btOk, decide_eq_true c2, Bool.not_true, Bool.and_false]), fun c2 => hh.1 (by rw [btOk, decide_eq_false c1, decide_eq_false c2]; rfl)⟩⟩
  · rw [show decide (1 ≤ (a.length : Int) ∧ (a.length : Int) ≤ 8) = decide ((a.length : Int) ≤ 8) by simp [h1]] at ht; exact ht
  · rw [show decide (1 ≤ (a.length : Int) ∧ (a.length : Int) ≤ 8) = false by simp [h1]] at ht; exact ht
def isVals (l : List Nat) : Bool := decide (1 ≤ (l.length : Int) ∧ (l.length : Int) ≤ 128)
theorem spec_l07Values_wp {l : List Nat} {K : Bool → Prop} (h : K (isVals l)) : spec_l07Values.wp l K := by
  unfold isVals at h
  refine ⟨fun h1 => ?_, fun h1 => ?_⟩
  · rw [show decide (1 ≤ (l.length : Int) ∧ (l.length : Int) ≤ 128) = decide ((l.length : Int) ≤ 128) by simp [h1]] at h; exact h
  · rw [show decide (1 ≤ (l.length : Int) ∧ (l.length : Int) ≤ 128) = false by simp [h1]] at h; exact h
def isTk (a : List UInt8) (k : Int) (l : List Nat) : Bool := isNm a && decide (1 ≤ k ∧ k ≤ 65535) && isVals l
theorem spec_l07Take_wp {a : List UInt8} {k : Int} {l : List Nat} {K : Bool → Prop} (ha : a.length ≤ 2 ^ 40) (h : K (isTk a k l)) : spec_l07Take.wp a k l K := by
  refine spec_l07Name_wp ha ⟨fun h1 => spec_l00In_wp ⟨fun h2 => spec_l07Values_wp ?_, fun h2 => ?_⟩, fun h1 => ?_⟩
  · rw [isTk, h1, h2] at h; exact h
  · rw [isTk, h1, h2] at h; exact h
  · rw [isTk, h1] at h; exact h
theorem impl_ValidTake_wp {a : List UInt8} {k : Int} {l : List Nat} {K : Bool → Prop} (ha : a.length ≤ 2 ^ 40) (h : K (isTk a k l)) : impl_ValidTake.wp a k l K := by
  refine impl_IsName_wp ha ⟨fun h1 => impl_within_wp ⟨fun h2 => impl_within_wp ?_, fun h2 => ?_⟩, fun h1 => ?_⟩
  · rw [isTk, h1, h2] at h; exact h
  · rw [isTk, h1, h2] at h; exact h
  · rw [isTk, h1] at h; exact h

end Go.Proofs.Ytpeijfnfffogeaa.G

namespace Go.Proofs.Ytpeijfnfffogeaa.G
open Go Go.Ab
set_option maxRecDepth 100000
set_option linter.unusedVariables false
set_option linter.unusedSimpArgs false
set_option maxHeartbeats 1000000
theorem szBoolS_wp {l : List Bool} {n : Int} {K : Int → Prop} (hl : l.length ≤ maxLen) (hn : 0 ≤ n ∧ n ≤ 2 ^ 40) (h0 : K (-1)) (h : (l.length : Int) ≤ n → K (n - (l.length : Int))) : laws_szBoolS.wp l n K := by
  have hm : l.length < 2 ^ 63 := Nat.lt_of_le_of_lt hl (by decide)
  have e : IntKind.i64.wrap (n - (l.length : Int)) = n - (l.length : Int) := wI (by omega)
  refine ⟨fun c => h0, fun c => ?_⟩
  rw [e] at c ⊢; exact h (by omega)
theorem szScheme_wp {l : List Nat} {s : Nat} {n : Int} {K : Int → Prop} (hl : l.length ≤ maxLen) (hn : 0 ≤ n ∧ n ≤ 2 ^ 40) (h0 : K (-1)) (h : (l.length : Int) ≤ n → K (n - (l.length : Int))) : laws_szScheme.wp l s n K :=
  szFloat32S_wp hl hn (tP (by omega) h0) fun h1 => tN (by omega) (h h1)
theorem szPicture_wp {a b : Int} {l : List Nat} {n : Int} {K : Int → Prop} (hl : l.length ≤ maxLen) (hn : 0 ≤ n ∧ n ≤ 2 ^ 40) (h0 : K (-1)) (h : (l.length : Int) ≤ n → K (n - (l.length : Int))) : laws_szPicture.wp a b l n K :=
  szFloat32S_wp hl hn (tP (by omega) h0) fun h1 => tN (by omega) (h h1)
theorem szCoded_wp {a b : Int} {l : List Bool} {n : Int} {K : Int → Prop} (hl : l.length ≤ maxLen) (hn : 0 ≤ n ∧ n ≤ 2 ^ 40) (h0 : K (-1)) (h : (l.length : Int) ≤ n → K (n - (l.length : Int))) : laws_szCoded.wp a b l n K :=
  szBoolS_wp hl hn (tP (by omega) h0) fun h1 => tN (by omega) (h h1)
theorem szDesk_wp {l m : List Nat} {s : Nat} {w v : Int} {p : List Nat} {c t : Int} {b : List Bool} {n : Int} {K : Int → Prop} (hl : l.length ≤ maxLen) (hm : m.length ≤ maxLen) (hp : p.length ≤ maxLen) (hb : b.length ≤ maxLen) (hn : 0 ≤ n ∧ n ≤ 2 ^ 40) (h0 : K (-1)) (h : (l.length : Int) + (m.length : Int) + (p.length : Int) + (b.length : Int) ≤ n → K (n - (l.length : Int) - (m.length : Int) - (p.length : Int) - (b.length : Int))) : laws_szDesk.wp l m s w v p c t b n K :=
  szFloat32S_wp hl hn (tP (by omega) h0) fun h1 => tN (by omega) (szScheme_wp hm (by omega) (tP (by omega) h0) fun h2 => tN (by omega) (szPicture_wp hp (by omega) (tP (by omega) h0) fun h3 => tN (by omega) (szCoded_wp hb (by omega) (tP (by omega) h0) fun h4 => tN (by omega) (h (by omega)))))
theorem toScheme_wp {l : List Nat} {s : Nat} {K : List Nat → Nat → Prop} (hl : l.length ≤ 2 ^ 20) (h : K l s) : laws_toScheme.wp l s K := toFloat32S_wp hl h
theorem toPicture_wp {a b : Int} {l : List Nat} {K : Int → Int → List Nat → Prop} (hl : l.length ≤ 2 ^ 20) (h : K a b l) : laws_toPicture.wp a b l K := toFloat32S_wp hl h
theorem toCoded_wp {a b : Int} {l : List Bool} {K : Int → Int → List Bool → Prop} (hl : l.length ≤ 2 ^ 20) (h : K a b l) : laws_toCoded.wp a b l K := toBoolS_wp hl h
theorem toDesk_wp {l m : List Nat} {s : Nat} {w v : Int} {p : List Nat} {c t : Int} {b : List Bool} {K : List Nat → List Nat → Nat → Int → Int → List Nat → Int → Int → List Bool → Prop} (hl : l.length ≤ 2 ^ 20) (hm : m.length ≤ 2 ^ 20) (hp : p.length ≤ 2 ^ 20) (hb : b.length ≤ 2 ^ 20) (h : K l m s w v p c t b) : laws_toDesk.wp l m s w v p c t b K :=
  toFloat32S_wp hl (toScheme_wp hm (toPicture_wp hp (toCoded_wp hb h)))
theorem eqScheme_wp {l : List Nat} {s : Nat} {K : Bool → Prop} (hl : l.length ≤ 2 ^ 20) (h : K true) : laws_eqScheme.wp l s l s K := eqFloat32S_wp hl (tT (sameFloat_wp (tT h)))
theorem eqPicture_wp {a b : Int} {l : List Nat} {K : Bool → Prop} (hl : l.length ≤ 2 ^ 20) (h : K true) : laws_eqPicture.wp a b l a b l K := tP rfl (tP rfl (eqFloat32S_wp hl (tT h)))
theorem eqCoded_wp {a b : Int} {l : List Bool} {K : Bool → Prop} (hl : l.length ≤ 2 ^ 20) (h : K true) : laws_eqCoded.wp a b l a b l K := tP rfl (tP rfl (eqBoolS_wp hl (tT h)))
theorem eqDesk_wp {l m : List Nat} {s : Nat} {w v : Int} {p : List Nat} {c t : Int} {b : List Bool} {K : Bool → Prop} (hl : l.length ≤ 2 ^ 20) (hm : m.length ≤ 2 ^ 20) (hp : p.length ≤ 2 ^ 20) (hb : b.length ≤ 2 ^ 20) (h : K true) : laws_eqDesk.wp l m s w v p c t b l m s w v p c t b K :=
  eqFloat32S_wp hl (tT (eqScheme_wp hm (tT (eqPicture_wp hp (tT (eqCoded_wp hb (tT h)))))))
def isSch (l : List Nat) (s : Nat) : Bool := decide (1 ≤ (l.length : Int) ∧ (l.length : Int) ≤ 8) && pAll l && isOver s
theorem spec_l02Scheme_wp {l : List Nat} {s : Nat} {K : Bool → Prop} (hl : l.length ≤ 2 ^ 20) (h : K (isSch l s)) : spec_l02Scheme.wp l s K := by
  refine ⟨fun h1 => ⟨fun h2 => ?_, fun h2 => ?_⟩, fun h1 => ?_⟩
  · rw [isSch, decide_eq_true ⟨h1, h2⟩, Bool.true_and] at h
    refine spec_l02Finite_wp hl ⟨fun h3 => spec_l02Above_wp ?_, fun h3 => ?_⟩ <;> (rw [h3] at h; exact h)
  · rw [isSch, decide_eq_false (by omega)] at h; exact h
  · rw [isSch, decide_eq_false (by omega)] at h; exact h
theorem impl_ValidScheme_wp {l : List Nat} {s : Nat} {K : Bool → Prop} (hl : l.length ≤ 2 ^ 20) (h : K (isSch l s)) : impl_ValidScheme.wp l s K := by
  refine impl_within_wp ⟨fun h1 => impl_areFinite1_wp hl ⟨fun h3 => impl_isOver_wp ?_, fun h3 => ?_⟩, fun h1 => ?_⟩
  · rw [isSch, h1, h3] at h; exact h
  · rw [isSch, h1, h3] at h; exact h
  · rw [isSch, h1] at h; exact h
def isPic (a b : Int) (l : List Nat) : Bool := decide (1 ≤ a ∧ a ≤ 16) && decide (1 ≤ b ∧ b ≤ 16) && decide ((l.length : Int) = a * b) && pAll l
theorem w16 {a b : Int} (h1 : decide (1 ≤ a ∧ a ≤ 16) = true) (h2 : decide (1 ≤ b ∧ b ≤ 16) = true) : IntKind.i64.wrap (a * b) = a * b := by
  simp only [decide_eq_true_eq] at h1 h2
  obtain ⟨an, rfl⟩ : ∃ n : Nat, a = n := ⟨a.toNat, by omega⟩
  obtain ⟨bn, rfl⟩ : ∃ n : Nat, b = n := ⟨b.toNat, by omega⟩
  have : an * bn ≤ 16 * 16 := Nat.mul_le_mul (by omega) (by omega)
  rw [show (an : Int) * (bn : Int) = ((an * bn : Nat) : Int) from rfl]
  exact wI (by omega)
theorem impl_ValidPicture_wp {a b : Int} {l : List Nat} {K : Bool → Prop} (hl : l.length ≤ 2 ^ 20) (h : K (isPic a b l)) : impl_ValidPicture.wp a b l K := by
  refine impl_within_wp ⟨fun h1 => impl_within_wp ⟨fun h2 => ?_, fun h2 => ?_⟩, fun h1 => ?_⟩
  · rw [w16 h1 h2]
    rw [isPic, h1, h2, Bool.true_and, Bool.true_and] at h
    refine ⟨fun h3 => impl_areFinite1_wp hl ?_, fun h3 => ?_⟩
    · rw [decide_eq_true h3] at h; exact h
    · rw [decide_eq_false h3] at h; exact h
  · rw [isPic, h1, h2] at h; exact h
  · rw [isPic, h1] at h; exact h
def isCod (a b : Int) (l : List Bool) : Bool := decide (1 ≤ a ∧ a ≤ 128) && decide (0 ≤ b ∧ b ≤ 24) && decide ((l.length : Int) ≤ 32768)
def isDesk (l m : List Nat) (s : Nat) (w v : Int) (p : List Nat) (c t : Int) (b : List Bool) : Bool := isL l && isSch m s && isPic w v p && isCod c t b

end Go.Proofs.Ytpeijfnfffogeaa.G

namespace Go.Proofs.Ytpeijfnfffogeaa.G
open Go Go.Ab
set_option maxRecDepth 100000
set_option linter.unusedVariables false
set_option linter.unusedSimpArgs false
set_option maxHeartbeats 1000000
open Ieee in
theorem neg_read (b : Nat) : single.read (Op.negFloat .f32 b) = (single.read b).opposite := by
  have hs : single.signWeight = 2 ^ 31 := rfl
  have h2 : Op.negFloat .f32 b % 2 ^ 31 = b % 2 ^ 31 := by
    show (b ^^^ 2 ^ 31) % 2 ^ 31 = _
    rw [Nat.xor_mod_two_pow]; simp
  have h3 : Op.negFloat .f32 b / 2 ^ 31 % 2 = (b / 2 ^ 31 + 1) % 2 := by
    show (b ^^^ 2 ^ 31) / 2 ^ 31 % 2 = _
    rw [Nat.xor_div_two_pow, Nat.div_self (by decide)]
    have := Nat.xor_mod_two_pow (a := b / 2 ^ 31) (b := 1) (n := 1)
    rw [Nat.pow_one] at this; rw [this]
    rcases Nat.mod_two_eq_zero_or_one (b / 2 ^ 31) with h | h
    · rw [h, show (b / 2 ^ 31 + 1) % 2 = 1 by omega]; decide
    · rw [h, show (b / 2 ^ 31 + 1) % 2 = 0 by omega]; decide
  have h4 : (Op.negFloat .f32 b / 2 ^ 31 % 2 == 1) = !(b / 2 ^ 31 % 2 == 1) := by
    rw [h3]
    rcases Nat.mod_two_eq_zero_or_one (b / 2 ^ 31) with h | h
    · rw [h, show (b / 2 ^ 31 + 1) % 2 = 1 by omega]; rfl
    · rw [h, show (b / 2 ^ 31 + 1) % 2 = 0 by omega]; rfl
  unfold Format.read
  rw [hs, h2, h4]
  dsimp only
  split
  · rfl
  · split
    · rfl
    · split <;> rfl
open Ieee in
theorem fneg_read {b : Nat} (h : (single.read b).isNaN = false) : single.read (fneg .f32 b) = (single.read b).opposite := by
  have e : (FloatKind.f32.decode (Op.negFloat .f32 b)).isNaN = false := by
    show (single.read _).isNaN = false
    rw [neg_read]; cases hr : single.read b with
    | nan s t => rw [hr] at h; cases h
    | _ => rfl
  rw [fneg, cz32 _ e, neg_read]
/-! ### values, in units of the last place -/
open Ieee in
def val : Datum → Int
  | .number s m e => signed s m (e + 149).toNat
  | _ => 0
open Ieee in
theorem signed_up (s : Bool) (m a b : Nat) : signed s m (a + b) = signed s m a * (2 ^ b : Nat) := by
  unfold signed
  cases s <;> simp [Nat.shiftLeft_eq, Nat.pow_add, Int.mul_assoc, Int.neg_mul]
open Ieee in
theorem order_val {s t : Bool} {m n : Nat} {i j : Int} (hi : -149 ≤ i) (hj : -149 ≤ j) : (Datum.number s m i).order (.number t n j) = some (compare (val (.number s m i)) (val (.number t n j))) := by
  have e1 : val (.number s m i) = signed s m (i - min i j).toNat * (2 ^ (min i j + 149).toNat : Nat) := by
    show signed s m _ = _
    rw [← signed_up]; congr 1; omega
  have e2 : val (.number t n j) = signed t n (j - min i j).toNat * (2 ^ (min i j + 149).toNat : Nat) := by
    show signed t n _ = _
    rw [← signed_up]; congr 1; omega
  rw [e1, e2]
  show some (compare (signed s m (i - min i j).toNat) (signed t n (j - min i j).toNat)) = _
  congr 1
  have hp : (0 : Int) < ((2 ^ (min i j + 149).toNat : Nat) : Int) := by have := Nat.two_pow_pos (min i j + 149).toNat; omega
  generalize signed s m (i - min i j).toNat = a
  generalize signed t n (j - min i j).toNat = b
  generalize ((2 ^ (min i j + 149).toNat : Nat) : Int) = p at hp
  rw [show compare a b = compareOfLessAndEq a b from rfl, show compare (a * p) (b * p) = compareOfLessAndEq (a * p) (b * p) from rfl]
  unfold compareOfLessAndEq
  have h1 : (a * p < b * p) = (a < b) := propext ⟨fun h => Int.lt_of_mul_lt_mul_right h (Int.le_of_lt hp), fun h => Int.mul_lt_mul_of_pos_right h hp⟩
  have h2 : (a * p = b * p) = (a = b) := propext ⟨fun h => Int.eq_of_mul_eq_mul_right (Int.ne_of_gt hp) h, fun h => by rw [h]⟩
  simp only [h1, h2]
/-- A word of single precision: no number, or how it stands to others. -/
theorem cmp_lt {a b : Int} : (compare a b == Ordering.lt) = decide (a < b) := by
  rw [show compare a b = compareOfLessAndEq a b from rfl]; unfold compareOfLessAndEq
  split
  · simp [*]
  · split <;> simp [*]
theorem cmp_eq {a b : Int} : (compare a b == Ordering.eq) = decide (a = b) := by
  rw [show compare a b = compareOfLessAndEq a b from rfl]; unfold compareOfLessAndEq
  split
  · simp; omega
  · split <;> simp [*]
theorem cmp_gt {a b : Int} : (compare a b == Ordering.gt) = decide (b < a) := by
  rw [show compare a b = compareOfLessAndEq a b from rfl]; unfold compareOfLessAndEq
  split
  · simp; omega
  · split
    · simp; omega
    · simp; omega
/-! ### from nought -/
open Ieee in
theorem read_f32 (x : Nat) : single.read x = if x % 2147483648 < 8388608 then .number (x / 2147483648 % 2 == 1) (x % 2147483648) (-149) else if x % 2147483648 < 2139095040 then .number (x / 2147483648 % 2 == 1) (8388608 + x % 2147483648 % 8388608) (-149 + ((x % 2147483648 / 8388608 - 1 : Nat) : Int)) else if x % 2147483648 = 2139095040 then .infinity (x / 2147483648 % 2 == 1) else .nan (x / 2147483648 % 2 == 1) (x % 2147483648 - 2139095040) := by
  unfold Format.read
  rw [show single.binade = 8388608 from rfl, show single.infRung = 2139095040 by decide, show single.signWeight = 2147483648 from rfl, show single.leastPlace = -149 by decide]
open Ieee in
theorem read_rung {r : Nat} (h : r < 2147483648) : single.read r = if r < 8388608 then .number false r (-149) else if r < 2139095040 then .number false (8388608 + r % 8388608) (-149 + ((r / 8388608 - 1 : Nat) : Int)) else if r = 2139095040 then .infinity false else .nan false (r - 2139095040) := by
  rw [read_f32, Nat.mod_eq_of_lt h, Nat.div_eq_of_lt h]; rfl
open Ieee in
theorem word_rung (r : Nat) : single.word false r = r := rfl
open Ieee in
theorem log2_full {a : Nat} (h : a < 8388608) : (8388608 + a).log2 = 23 := by
  apply Nat.le_antisymm
  · have : (8388608 + a).log2 < 24 := (Nat.log2_lt (by omega)).2 (by omega)
    omega
  · have : ¬ (8388608 + a).log2 < 23 := fun hh => by
      have := (Nat.log2_lt (by omega)).1 hh; omega
    omega
open Ieee in
theorem near_low {r : Nat} (h0 : r ≠ 0) (h : r < 8388608) : single.nearest false r (-149) = r := by
  unfold Format.nearest
  rw [if_neg h0, show single.infRung = 2139095040 by decide, show single.binade = 8388608 from rfl, show single.leastPlace = -149 by decide, show single.fractionBits = 23 from rfl]
  have hlog : r.log2 < 23 := (Nat.log2_lt h0).2 h
  have hmax : max (-149 + (r.log2 : Int) - ((23 : Nat) : Int)) (-149) = -149 := by omega
  simp only [hmax, Int.sub_self, Int.toNat_zero, Nat.shiftLeft_zero, cut_zero, Nat.zero_mul, Nat.zero_add, word_rung]
  omega
open Ieee in
theorem near_gen (f : Format) {m : Nat} {e : Int} (h0 : m ≠ 0) (hl : m.log2 = f.fractionBits) (he : f.leastPlace ≤ e) : f.nearest false m e = min ((e - f.leastPlace).toNat * f.binade + m) f.infRung := by
  have hmax : max (e + ((f.fractionBits : Nat) : Int) - ((f.fractionBits : Nat) : Int)) f.leastPlace = e := by omega
  have hw : ∀ a : Nat, f.word false a = a := fun a => if_neg (by decide)
  unfold Format.nearest
  rw [if_neg h0, hl]
  dsimp only
  rw [hmax, Int.sub_self, Int.toNat_zero, Nat.shiftLeft_zero, cut_zero, hw]
open Ieee in
theorem near_full {r : Nat} (h0 : ¬ r < 8388608) (h : r < 2139095040) : single.nearest false (8388608 + r % 8388608) (-149 + ((r / 8388608 - 1 : Nat) : Int)) = r := by
  have hmd : r % 8388608 < 8388608 := Nat.mod_lt _ (by decide)
  have hl : single.leastPlace = -149 := by decide
  have hb : single.binade = 8388608 := rfl
  have hi : single.infRung = 2139095040 := by decide
  rw [near_gen single (by omega) (log2_full hmd) (by rw [hl]; omega), hl, hb, hi]
  have ht : (-149 + ((r / 8388608 - 1 : Nat) : Int) - -149).toNat = r / 8388608 - 1 := by omega
  rw [ht]
  have := Nat.div_add_mod r 8388608
  have h1 : 1 ≤ r / 8388608 := by omega
  have h2 : (r / 8388608 - 1) * 8388608 + (8388608 + r % 8388608) = r := by omega
  rw [h2]
  exact Nat.min_eq_left (Nat.le_of_lt h)
open Ieee in
theorem sub0_near {x m : Nat} {e : Int} (h : single.read x = .number true m e) (hm : m ≠ 0) (he : -149 ≤ e) : single.sub 0 x = some (single.nearest false m e) := by
  have h0 : single.read 0 = .number false 0 (-149) := by decide +kernel
  unfold Format.sub
  rw [h0, h]
  simp only [Datum.opposite, Datum.sum, Bool.not_true]
  have hmin : min (-149 : Int) e = -149 := by omega
  rw [hmin]
  have ht : signed false 0 (-149 - -149 : Int).toNat + signed false m (e - -149).toNat = ((m * 2 ^ (e + 149).toNat : Nat) : Int) := by
    simp [signed, Nat.shiftLeft_eq]
  rw [ht]
  have hp := Nat.two_pow_pos (e + 149).toNat
  have hne : m * 2 ^ (e + 149).toNat ≠ 0 := Nat.mul_ne_zero hm (by omega)
  rw [if_neg (by omega), Option.map_some]
  have hd : decide (((m * 2 ^ (e + 149).toNat : Nat) : Int) < 0) = false := decide_eq_false (by omega)
  rw [hd, Int.natAbs_natCast]
  show some (single.nearest false (m * 2 ^ (e + 149).toNat) (-149)) = _
  rw [nearest_shift]
  congr 2; omega
open Ieee in
theorem sub0_num {x m : Nat} {e : Int} (h : single.read x = .number true m e) (hm : m ≠ 0) : ∃ y, single.sub 0 x = some y ∧ single.read y = .number false m e := by
  refine ⟨x % 2147483648, ?_⟩
  have hr : x % 2147483648 < 2147483648 := Nat.mod_lt _ (by decide)
  have h' := h
  rw [read_f32] at h'
  rw [read_rung hr]
  by_cases h1 : x % 2147483648 < 8388608
  · rw [if_pos h1] at h' ⊢
    simp only [Datum.number.injEq] at h'
    obtain ⟨_, rfl, rfl⟩ := h'
    exact ⟨by rw [sub0_near h hm (by omega), near_low hm h1], rfl⟩
  · rw [if_neg h1] at h' ⊢
    by_cases h2 : x % 2147483648 < 2139095040
    · rw [if_pos h2] at h' ⊢
      simp only [Datum.number.injEq] at h'
      obtain ⟨_, rfl, rfl⟩ := h'
      exact ⟨by rw [sub0_near h hm (by omega), near_full h1 h2], rfl⟩
    · rw [if_neg h2] at h'
      split at h' <;> cases h'
open Ieee in
theorem sub0_inf {x : Nat} (h : single.read x = .infinity true) : ∃ y, single.sub 0 x = some y ∧ single.read y = .infinity false := by
  have h0 : single.read 0 = .number false 0 (-149) := by decide +kernel
  refine ⟨single.word false single.infRung, ?_, by decide +kernel⟩
  unfold Format.sub
  rw [h0, h]; rfl
/-! ### sizes -/
def sizI (x : Nat) : Nat := if fcmp .lss .f32 x (cz .f32 0) = true then fneg .f32 x else if fcmp .eql .f32 x (cz .f32 0) = true then cz .f32 0 else x
def sizS (x : Nat) : Nat := if fcmp .leq .f32 x (cz .f32 0) = true then fop .sub .f32 (cz .f32 0) x else x
theorem fc_lss {x y : Nat} {c : Option Ordering} (h : Ieee.single.order x y = c) : fcmp .lss .f32 x y = (c == some .lt) := by subst h; rfl
theorem fc_leq {x y : Nat} {c : Option Ordering} (h : Ieee.single.order x y = c) : fcmp .leq .f32 x y = (c == some .lt || c == some .eq) := by subst h; rfl
theorem fc_eql {x y : Nat} {c : Option Ordering} (h : Ieee.single.order x y = c) : fcmp .eql .f32 x y = (c == some .eq) := by subst h; rfl
theorem fc_gtr {x y : Nat} {c : Option Ordering} (h : Ieee.single.order x y = c) : fcmp .gtr .f32 x y = (c == some .gt) := by subst h; rfl
open Ieee in
theorem fop_sub0 {x y : Nat} (hy : single.sub 0 x = some y) (hn : (single.read y).isNaN = false) : single.read (fop .sub .f32 0 x) = single.read y := by
  have : fop .sub .f32 0 x = cz .f32 y := by
    show ((single.sub 0 x).map (cz .f32)).getD _ = _
    rw [hy]; rfl
  rw [this, cz32 _ hn]
theorem siz_not {x : Nat} {c : Option Ordering} (h : Ieee.single.order x 0 = c) (h1 : (c == some .lt) = false) (h2 : (c == some .eq) = false) : sizS x = x ∧ sizI x = x := by
  unfold sizS sizI
  rw [c0_32]
  have e1 := fc_leq h
  rw [h1, h2] at e1
  have e2 := fc_lss h
  rw [h1] at e2
  have e3 := fc_eql h
  rw [h2] at e3
  rw [if_neg (by rw [e1]; decide), if_neg (by rw [e2]; decide), if_neg (by rw [e3]; decide)]
  exact ⟨rfl, rfl⟩
theorem siz_lt {x : Nat} (h : Ieee.single.order x 0 = some .lt) : sizS x = fop .sub .f32 0 x ∧ sizI x = fneg .f32 x := by
  unfold sizS sizI
  rw [c0_32]
  have e1 := fc_leq h
  have e2 := fc_lss h
  exact ⟨if_pos (by rw [e1]; rfl), if_pos (by rw [e2]; rfl)⟩
theorem siz_0 {x : Nat} (h : Ieee.single.order x 0 = some .eq) : sizS x = fop .sub .f32 0 x ∧ sizI x = 0 := by
  unfold sizS sizI
  rw [c0_32]
  have e1 := fc_leq h
  have e2 := fc_lss h
  have e3 := fc_eql h
  refine ⟨if_pos (by rw [e1]; rfl), ?_⟩
  rw [if_neg (by rw [e2]; decide)]
  exact if_pos (by rw [e3]; rfl)
open Ieee in
theorem val_pos {m : Nat} {e : Int} (hm : m ≠ 0) : (0 : Int) < val (.number false m e) := by
  have hp := Nat.two_pow_pos (e + 149).toNat
  have hne : m * 2 ^ (e + 149).toNat ≠ 0 := Nat.mul_ne_zero hm (by omega)
  simp only [val, signed, Bool.false_eq_true, if_false, Nat.shiftLeft_eq]; omega
open Ieee in
theorem val_neg {m : Nat} {e : Int} : val (.number true m e) = - val (.number false m e) := by
  simp only [val, signed, Bool.false_eq_true, if_false, if_true]
open Ieee in
theorem read_0 : single.read 0 = .number false 0 (-149) := by decide +kernel
open Ieee in
/-- Both sizes read alike. -/
theorem siz_read (x : Nat) : single.read (sizS x) = single.read (sizI x) := by
  rcases read_single x with ⟨s, t, h⟩ | ⟨s, h⟩ | ⟨s, m, e, h, hm, he, _⟩
  · have ho : single.order x 0 = none := by unfold Format.order; rw [h]; rfl
    have := siz_not ho rfl rfl
    rw [this.1, this.2]
  · cases s
    · have ho : single.order x 0 = some .gt := by unfold Format.order; rw [h, read_0]; rfl
      have := siz_not ho rfl rfl
      rw [this.1, this.2]
    · have ho : single.order x 0 = some .lt := by unfold Format.order; rw [h, read_0]; rfl
      have := siz_lt ho
      obtain ⟨y, h1, h2⟩ := sub0_inf h
      rw [this.1, this.2, fop_sub0 h1 (by rw [h2]; rfl), h2, fneg_read (by rw [h]; rfl), h]; rfl
  · have ho : single.order x 0 = some (compare (val (.number s m e)) 0) := by
      unfold Format.order; rw [h, read_0, order_val he (by omega), show val (.number false 0 (-149)) = 0 by decide]
    by_cases hz : m = 0
    · subst hz
      have hv : val (.number s 0 e) = 0 := by cases s <;> simp [val, signed]
      rw [hv] at ho
      have := siz_0 ho
      have h1 : single.sub 0 x = some 0 := by
        unfold Format.sub
        rw [read_0, h]
        cases s <;> simp [Datum.opposite, Datum.sum, signed, Format.write, Format.nearest, Format.word]
      rw [this.1, this.2, fop_sub0 h1 (by rw [read_0]; rfl)]
    · have hv := val_pos (e := e) hz
      cases s
      · have hc : compare (val (.number false m e)) 0 = Ordering.gt := by
          have := cmp_gt (a := val (.number false m e)) (b := 0); rw [decide_eq_true hv] at this; exact eq_of_beq this
        rw [hc] at ho
        have := siz_not ho rfl rfl
        rw [this.1, this.2]
      · have hc : compare (val (.number true m e)) 0 = Ordering.lt := by
          have := cmp_lt (a := val (.number true m e)) (b := 0); rw [decide_eq_true (by rw [val_neg]; omega)] at this; exact eq_of_beq this
        rw [hc] at ho
        have := siz_lt ho
        obtain ⟨y, h1, h2⟩ := sub0_num h hz
        rw [this.1, this.2, fop_sub0 h1 (by rw [h2]; rfl), h2, fneg_read (by rw [h]; rfl), h]; rfl
theorem siz_cmp (op : BinOp) (x y : Nat) : fcmp op .f32 (sizS x) y = fcmp op .f32 (sizI x) y := by
  have h : Ieee.single.order (sizS x) y = Ieee.single.order (sizI x) y := by unfold Ieee.Format.order; rw [siz_read]
  unfold fcmp
  rw [show FloatKind.f32.format = Ieee.single from rfl, h]
theorem spec_l03Size_wp {a : Nat} {K : Nat → Prop} (h : K (sizS a)) : spec_l03Size.wp a K := by
  refine ⟨fun c => ?_, fun c => ?_⟩
  · rw [sizS, if_pos c] at h; exact h
  · rw [sizS, if_neg (by rw [c]; decide)] at h; exact h
theorem impl_size_wp {a : Nat} {K : Nat → Prop} (h : K (sizI a)) : impl_size.wp a K := by
  refine ⟨fun c => ?_, fun c => ⟨fun c2 => ?_, fun c2 => ?_⟩⟩
  · rw [sizI, if_pos c] at h; exact h
  · rw [sizI, if_neg (by rw [c]; decide), if_pos c2] at h; exact h
  · rw [sizI, if_neg (by rw [c]; decide), if_neg (by rw [c2]; decide)] at h; exact h

end Go.Proofs.Ytpeijfnfffogeaa.G

namespace Go.Proofs.Ytpeijfnfffogeaa.G
open Go Go.Ab
set_option maxRecDepth 100000
set_option linter.unusedVariables false
set_option linter.unusedSimpArgs false
set_option maxHeartbeats 1000000
open Ieee in
theorem sgn_read {x : Nat} (h : (single.read x).isNaN = false) : (single.read x).neg = (x / 2147483648 % 2 == 1) := by
  rw [read_f32] at h ⊢
  split
  · rfl
  · split
    · rfl
    · split
      · rfl
      · rename_i h1 h2 h3; rw [if_neg h1, if_neg h2, if_neg h3] at h; cases h
open Ieee in
/-- A number made longer: its sign, and a rung. -/
theorem widen_word {x : Nat} (h : (single.read x).isNaN = false) : ∃ r, r ≤ double.infRung ∧ widen x = double.word (single.read x).neg r ∧ (double.read (widen x)).isNaN = false := by
  have hs : double.infRung < double.signWeight := by decide +kernel
  have hd : FloatKind.f32.decode x = single.read x := rfl
  have hcz : ∀ s r, r ≤ double.infRung → cz .f64 (double.word s r) = double.word s r := fun s r hr => by
    have : (FloatKind.f64.decode (double.word s r)).isNaN = false := word_num double s r hr hs
    unfold cz; rw [if_neg (by rw [this]; decide)]
  have hw := widen_eq x
  unfold fconv at hw
  rw [if_neg (by decide), hd] at hw
  cases hr : single.read x with
  | nan s t => rw [hr] at h; cases h
  | infinity s =>
    rw [hr] at hw
    have e : widen x = double.word s double.infRung := by
      have h1 : some (cz .f64 (double.word s double.infRung)) = some (widen x) := hw
      rw [hcz s _ (Nat.le_refl _)] at h1
      exact (Option.some.inj h1).symm
    exact ⟨double.infRung, Nat.le_refl _, e, by rw [e]; exact word_num double s _ (Nat.le_refl _) hs⟩
  | number s m e =>
    rw [hr] at hw
    dsimp only at hw
    split at hw
    · cases hw
    · have h1 : some (cz .f64 (double.nearest s m e)) = some (widen x) := hw
      have hn : ∃ r, r ≤ double.infRung ∧ double.nearest s m e = double.word s r := by
        unfold Format.nearest
        split
        · exact ⟨0, Nat.zero_le _, rfl⟩
        · exact ⟨_, Nat.min_le_right _ _, rfl⟩
      obtain ⟨r, hr1, hr2⟩ := hn
      rw [hr2, hcz s r hr1] at h1
      have e2 := (Option.some.inj h1).symm
      exact ⟨r, hr1, e2, by rw [e2]; exact word_num double s r hr1 hs⟩
def sgn (x : Nat) : Bool := (x / 2147483648 % 2 == 1)
theorem signbit_wp {x : Nat} {K : Bool → Prop} (h : (Ieee.single.read x).isNaN = false) (hk : K (sgn x)) : math_Signbit.wp (widen x) K := by
  obtain ⟨r, h1, h2, h3⟩ := widen_word h
  have hr : r ≤ 9218868437227405312 := by
    have : Ieee.double.infRung = 9218868437227405312 := by decide +kernel
    omega
  refine ⟨?_, ?_⟩
  · have : (FloatKind.f64.decode (widen x)).isNaN = false := h3
    simp [num, this]
  · show K (decide (IntKind.i64.wrap ((widen x : Nat) : Int) < 0))
    rw [sgn_read h] at h2
    have hsw : Ieee.double.signWeight = 9223372036854775808 := by decide +kernel
    have e : decide (IntKind.i64.wrap ((widen x : Nat) : Int) < 0) = sgn x := by
      unfold sgn
      cases hc : (x / 2147483648 % 2 == 1) with
      | false =>
        rw [hc] at h2
        have e2 : widen x = r := h2
        rw [e2, wI (by omega)]
        exact decide_eq_false (by omega)
      | true =>
        rw [hc] at h2
        have e2 : widen x = 9223372036854775808 + r := by rw [h2, ← hsw]; rfl
        rw [e2]
        refine decide_eq_true ?_
        have : IntKind.i64.wrap ((9223372036854775808 + r : Nat) : Int) = (r : Int) - 9223372036854775808 := by
          unfold IntKind.wrap
          have hm : (((9223372036854775808 + r : Nat) : Int)) % 18446744073709551616 = 9223372036854775808 + (r : Int) := by omega
          simp (decide := true) [IntKind.signed, IntKind.bits, hm]
          omega
        rw [this]; omega
    rw [e]; exact hk
open Ieee in
/-- The canonical form: which rung it is. -/
theorem rung_of {x : Nat} {s : Bool} {m : Nat} {e : Int} (h : single.read x = .number s m e) : s = sgn x ∧ -149 ≤ e ∧ (e = -149 ∧ m < 16777216 ∧ x % 2147483648 = m ∨ -149 < e ∧ 8388608 ≤ m ∧ m < 16777216 ∧ x % 2147483648 = (e + 150).toNat * 8388608 + (m - 8388608)) := by
  rw [read_f32] at h
  have hr : x % 2147483648 < 2147483648 := Nat.mod_lt _ (by decide)
  generalize x % 2147483648 = r at h hr
  by_cases h1 : r < 8388608
  · rw [if_pos h1] at h
    simp only [Datum.number.injEq] at h
    obtain ⟨rfl, rfl, rfl⟩ := h
    exact ⟨rfl, by omega, .inl ⟨rfl, by omega, rfl⟩⟩
  · rw [if_neg h1] at h
    by_cases h2 : r < 2139095040
    · rw [if_pos h2] at h
      simp only [Datum.number.injEq] at h
      obtain ⟨rfl, rfl, rfl⟩ := h
      have hmd : r % 8388608 < 8388608 := Nat.mod_lt _ (by decide)
      have hdm := Nat.div_add_mod r 8388608
      refine ⟨rfl, by omega, ?_⟩
      by_cases h3 : r / 8388608 = 1
      · left; refine ⟨by omega, by omega, by omega⟩
      · right
        refine ⟨by omega, by omega, by omega, ?_⟩
        rw [show (-149 + ((r / 8388608 - 1 : Nat) : Int) + 150).toNat = r / 8388608 by omega]
        omega
    · rw [if_neg h2] at h; split at h <;> cases h
open Ieee in
theorem val_inj {s : Bool} {m n : Nat} {e k : Int} (he : -149 ≤ e) (hk : -149 ≤ k) (hm : m < 16777216) (hn : n < 16777216) (hke : e < k → 8388608 ≤ n) (h : val (.number s m e) = val (.number s n k)) : ¬ e < k := by
  intro hlt
  have h8 := hke hlt
  have h1 : m * 2 ^ (e + 149).toNat = n * 2 ^ (k + 149).toNat := by
    cases s
    · simp only [val, signed, Bool.false_eq_true, if_false, Nat.shiftLeft_eq] at h; exact Int.ofNat_inj.1 h
    · simp only [val, signed, if_true, Nat.shiftLeft_eq] at h; exact Int.ofNat_inj.1 (by omega)
  have h2 : (k + 149).toNat = (k - e).toNat + (e + 149).toNat := by omega
  rw [h2, Nat.pow_add, ← Nat.mul_assoc] at h1
  have h3 := Nat.eq_of_mul_eq_mul_right (Nat.two_pow_pos _) h1
  have h4 : 2 ^ 1 ≤ 2 ^ (k - e).toNat := Nat.pow_le_pow_right (by decide) (by omega)
  have h5 : n * 2 ≤ n * 2 ^ (k - e).toNat := Nat.mul_le_mul_left _ h4
  omega
open Ieee in
theorem val_mag {s : Bool} {m n : Nat} {e : Int} (h : val (.number s m e) = val (.number s n e)) : m = n := by
  have h1 : m * 2 ^ (e + 149).toNat = n * 2 ^ (e + 149).toNat := by
    cases s
    · simp only [val, signed, Bool.false_eq_true, if_false, Nat.shiftLeft_eq] at h; exact Int.ofNat_inj.1 h
    · simp only [val, signed, if_true, Nat.shiftLeft_eq] at h; exact Int.ofNat_inj.1 (by omega)
  exact Nat.eq_of_mul_eq_mul_right (Nat.two_pow_pos _) h1
theorem word_ext {a b : Nat} (ha : a < 2 ^ 32) (hb : b < 2 ^ 32) (h1 : sgn a = sgn b) (h2 : a % 2147483648 = b % 2147483648) : a = b := by
  unfold sgn at h1
  have d1 := Nat.div_add_mod a 2147483648
  have d2 := Nat.div_add_mod b 2147483648
  have e1 : a / 2147483648 < 2 := by omega
  have e2 : b / 2147483648 < 2 := by omega
  have : a / 2147483648 = b / 2147483648 := by
    rw [Nat.mod_eq_of_lt e1, Nat.mod_eq_of_lt e2] at h1
    rcases Nat.lt_or_ge (a / 2147483648) 1 with h | h <;> rcases Nat.lt_or_ge (b / 2147483648) 1 with h' | h'
    · omega
    · rw [show a / 2147483648 = 0 by omega, show b / 2147483648 = 1 by omega] at h1; cases h1
    · rw [show a / 2147483648 = 1 by omega, show b / 2147483648 = 0 by omega] at h1; cases h1
    · omega
  omega
theorem inf_rung {x : Nat} {s : Bool} (h : Ieee.single.read x = .infinity s) : s = sgn x ∧ x % 2147483648 = 2139095040 := by
  rw [read_f32] at h
  split at h
  · cases h
  · split at h
    · cases h
    · split at h
      · rename_i h3
        simp only [Ieee.Datum.infinity.injEq] at h
        exact ⟨h.symm, h3⟩
      · cases h
open Ieee in
/-- Equal, and of one sign: the same word. -/
theorem same_word {a b : Nat} (ha : a < 2 ^ 32) (hb : b < 2 ^ 32) (ho : single.order a b = some .eq) (hs : sgn a = sgn b) : a = b := by
  unfold Format.order at ho
  rcases read_single a with ⟨s, t, h⟩ | ⟨s, h⟩ | ⟨s, m, e, h, hm, he, _⟩
  · rw [h] at ho; cases ho
  · rcases read_single b with ⟨s', t', h'⟩ | ⟨s', h'⟩ | ⟨s', m', e', h', hm', he', _⟩
    · rw [h, h'] at ho; cases ho
    · exact word_ext ha hb hs (by rw [(inf_rung h).2, (inf_rung h').2])
    · rw [h, h'] at ho; cases s <;> cases ho
  · rcases read_single b with ⟨s', t', h'⟩ | ⟨s', h'⟩ | ⟨s', m', e', h', hm', he', _⟩
    · rw [h, h'] at ho; cases ho
    · rw [h, h'] at ho; cases s' <;> cases ho
    · rw [h, h', order_val he he'] at ho
      have hv : val (.number s m e) = val (.number s' m' e') := by
        have := cmp_eq (a := val (.number s m e)) (b := val (.number s' m' e'))
        rw [Option.some.inj ho] at this
        exact of_decide_eq_true this.symm
      obtain ⟨rs, _, r1⟩ := rung_of h
      obtain ⟨rs', _, r2⟩ := rung_of h'
      rw [rs, rs', ← hs] at hv
      have l1 := val_inj he he' (by omega) (by omega) (fun c => by omega) hv
      have l2 := val_inj he' he (by omega) (by omega) (fun c => by omega) hv.symm
      obtain rfl : e = e' := by omega
      have hmm := val_mag hv
      subst hmm
      exact word_ext ha hb hs (by omega)
def sameN (a b : Nat) : Bool := decide (bitsN a = bitsN b)
theorem nan_neq {x : Nat} (h : fcmp .neq .f32 x x = false) : (Ieee.single.read x).isNaN = false := by
  have := num_of_eq h
  unfold num at this
  cases hc : (FloatKind.f32.decode x).isNaN with
  | false => exact hc
  | true => rw [hc] at this; cases this
theorem canon_nan : fcmp .neq .f32 2143289344 2143289344 = true := by decide +kernel
theorem impl_SameNumber_wp {a b : Nat} {K : Bool → Prop} (ha : a < 2 ^ 32) (hb : b < 2 ^ 32) (h : K (sameN a b)) : impl_SameNumber.wp a b K := by
  refine ⟨fun c => ?_, fun c => ⟨fun c2 => ?_, fun c2 => ⟨fun c3 => ?_, fun c3 => ?_⟩⟩⟩
  · have e : sameN a b = fcmp .neq .f32 b b := by
      unfold sameN bitsN
      rw [if_pos c]
      cases hb2 : fcmp .neq .f32 b b with
      | true => rw [if_pos rfl]; simp
      | false =>
        rw [if_neg (by decide)]
        refine decide_eq_false fun e => ?_
        rw [← e, canon_nan] at hb2; cases hb2
    rw [e] at h; exact h
  · have e : sameN a b = false := by
      unfold sameN bitsN
      rw [if_neg (by rw [c]; decide), if_pos c2]
      refine decide_eq_false fun e => ?_
      rw [e, canon_nan] at c; cases c
    rw [e] at h; exact h
  · have na := nan_neq c
    have nb' := nan_neq c2
    have e : sameN a b = (sgn a == sgn b) := by
      unfold sameN bitsN
      rw [if_neg (by rw [c]; decide), if_neg (by rw [c2]; decide)]
      have ho : Ieee.single.order a b = some .eq := by
        have := fc_eql (x := a) (y := b) rfl
        rw [c3] at this; exact eq_of_beq this.symm
      rw [Bool.eq_iff_iff, decide_eq_true_eq, beq_iff_eq]
      exact ⟨fun e => by rw [e], fun e => same_word ha hb ho e⟩
    rw [e] at h
    exact signbit_wp na (signbit_wp nb' h)
  · have e : sameN a b = false := by
      unfold sameN bitsN
      rw [if_neg (by rw [c]; decide), if_neg (by rw [c2]; decide)]
      refine decide_eq_false fun e => ?_
      subst e
      have := order_num (k := .f32) (x := a) (nan_neq c)
      rw [fc_eql (c := some .eq) this] at c3
      cases c3
    rw [e] at h; exact h
theorem spec_l01Same_wp {a b : Nat} {K : Bool → Prop} (ha : a < 2 ^ 32) (hb : b < 2 ^ 32) (h : K (sameN a b)) : spec_l01Same.wp a b K := by
  refine spec_l01Bits_wp ha (spec_l01Bits_wp hb ?_)
  have e : decide (((bitsN a : Nat) : Int) = ((bitsN b : Nat) : Int)) = sameN a b := by
    unfold sameN
    rw [Bool.eq_iff_iff, decide_eq_true_eq, decide_eq_true_eq]; omega
  rw [e]; exact h
def sameAt (l m : List Nat) (i : Nat) : Bool := sameN (l.getD i 0) (m.getD i 0)
def sameNs (l m : List Nat) : Bool := decide (l.length = m.length) && (List.range l.length).all (sameAt l m)
theorem range_get3 {n i : Nat} (h : i < (List.range n).length) : (List.range n)[i] = i := List.getElem_range h
theorem getD_lt2 {l : List Nat} {i : Nat} (h : ∀ x ∈ l, x < 2 ^ 32) : l.getD i 0 < 2 ^ 32 := by
  rw [List.getD_eq_getElem?_getD]
  cases he : l[i]? with
  | none => exact Nat.two_pow_pos 32
  | some x => exact h x (List.mem_of_getElem? he)
theorem impl_sameNumbers_wp {l m : List Nat} {K : Bool → Prop} (hl : l.length ≤ 2 ^ 20) (hw : ∀ x ∈ l, x < 2 ^ 32) (hv : ∀ x ∈ m, x < 2 ^ 32) (h : K (sameNs l m)) : impl_sameNumbers.wp l m K := by
  refine ⟨fun c => fun X hX => ?_, fun c => by rw [sameNs, decide_eq_false (by omega)] at h; exact h⟩
  rw [sameNs, decide_eq_true (by omega), Bool.true_and] at h
  refine all_loop (List.range l.length) (sameAt l m) (X := X) (T := K true) (F := K false) (fun i hi hh => ?_) (fun ht => hX _ ⟨fun c => absurd c (by rw [List.length_range]; omega), fun _ => ht⟩) (fun e => by rw [e] at h; exact h) (fun e => by rw [e] at h; exact h)
  rw [range_get3] at hh; rw [List.length_range] at hi
  refine hX _ ⟨fun _ => ⟨⟨by omega, by omega⟩, ⟨by omega, by omega⟩, impl_SameNumber_wp (getD_lt2 hw) (getD_lt2 hv) ?_⟩, fun c => absurd (show (i : Int) < l.length by omega) c⟩
  rw [nn, w1 (by omega)]; exact hh
theorem spec_l01SameAll_wp {l m : List Nat} {K : Bool → Prop} (hl : l.length ≤ 2 ^ 20) (hw : ∀ x ∈ l, x < 2 ^ 32) (hv : ∀ x ∈ m, x < 2 ^ 32) (h : K (sameNs l m)) : spec_l01SameAll.wp l m K := by
  refine ⟨fun c => fun X hX => ?_, fun c => by rw [sameNs, decide_eq_false (by omega)] at h; exact h⟩
  rw [sameNs, decide_eq_true (by omega), Bool.true_and] at h
  refine all_loop (List.range l.length) (sameAt l m) (X := X) (T := K true) (F := K false) (fun i hi hh => ?_) (fun ht => hX _ ⟨fun c => absurd c (by rw [List.length_range]; omega), fun _ => ht⟩) (fun e => by rw [e] at h; exact h) (fun e => by rw [e] at h; exact h)
  rw [range_get3] at hh; rw [List.length_range] at hi
  refine hX _ ⟨fun _ => ⟨⟨by omega, by omega⟩, ⟨by omega, by omega⟩, spec_l01Same_wp (getD_lt2 hw) (getD_lt2 hv) ?_⟩, fun c => absurd (show (i : Int) < l.length by omega) c⟩
  rw [nn, w1 (by omega)]; exact hh

end Go.Proofs.Ytpeijfnfffogeaa.G

namespace Go.Proofs.Ytpeijfnfffogeaa.G
open Go Go.Ab
set_option maxRecDepth 100000
set_option linter.unusedVariables false
set_option linter.unusedSimpArgs false
set_option maxHeartbeats 1000000
def bitAtS (l m : List Bool) (i : Nat) : Bool := l.getD i false == m.getD i false
def bitsS (l m : List Bool) : Bool := decide (l.length = m.length) && (List.range l.length).all (bitAtS l m)
def codS (a b : Int) (l : List Bool) (c d : Int) (m : List Bool) : Bool := decide (a = c) && decide (b = d) && bitsS l m
def picS (a b : Int) (l : List Nat) (c d : Int) (m : List Nat) : Bool := decide (a = c) && decide (b = d) && sameNs l m
theorem bits_loop {l m : List Bool} {K : Bool → Prop} (hl : l.length ≤ 2 ^ 20) (h : K (bitsS l m)) (he : l.length = m.length) {X : Int → Prop} (hX : ∀ (i : Int), ((i < (l.length : Int) → (0 ≤ i ∧ i < (l.length : Int)) ∧ (0 ≤ i ∧ i < (m.length : Int)) ∧ (((l.getD i.toNat false == m.getD i.toNat false) = true → X (IntKind.i64.wrap (i + 1))) ∧ ((l.getD i.toNat false == m.getD i.toNat false) = false → K false))) ∧ (¬ i < (l.length : Int) → K true)) → X i) : X 0 := by
  rw [bitsS, decide_eq_true he, Bool.true_and] at h
  refine all_loop (List.range l.length) (bitAtS l m) (X := X) (T := K true) (F := K false) (fun i hi hh => ?_) (fun ht => hX _ ⟨fun c => absurd c (by rw [List.length_range]; omega), fun _ => ht⟩) (fun e => by rw [e] at h; exact h) (fun e => by rw [e] at h; exact h)
  rw [range_get3] at hh; rw [List.length_range] at hi
  refine hX _ ⟨fun _ => ⟨⟨by omega, by omega⟩, ⟨by omega, by omega⟩, ?_⟩, fun c => absurd (show (i : Int) < l.length by omega) c⟩
  rw [nn, w1 (by omega)]; exact hh
theorem spec_l06Same_wp {a b c d : Int} {l m : List Bool} {K : Bool → Prop} (hl : l.length ≤ 2 ^ 20) (h : K (codS a b l c d m)) : spec_l06Same.wp a b l c d m K := by
  unfold codS at h
  refine ⟨fun c1 => ⟨fun c2 => ?_, fun c2 => by rw [decide_eq_false c2, Bool.and_false] at h; exact h⟩, fun c1 => by rw [decide_eq_false c1] at h; exact h⟩
  rw [decide_eq_true c1, decide_eq_true c2, Bool.true_and, Bool.true_and] at h
  refine ⟨fun e => fun X hX => bits_loop (X := X) hl h (by omega) hX, fun e => ?_⟩
  rw [bitsS, decide_eq_false (by omega)] at h; exact h
theorem impl_SameCoded_wp {a b c d : Int} {l m : List Bool} {K : Bool → Prop} (hl : l.length ≤ 2 ^ 20) (h : K (codS a b l c d m)) : impl_SameCoded.wp a b l c d m K := by
  unfold codS at h
  refine ⟨fun c1 => ⟨fun c2 => ?_, fun c2 => by rw [decide_eq_false c2, Bool.and_false] at h; exact h⟩, fun c1 => by rw [decide_eq_false c1] at h; exact h⟩
  rw [decide_eq_true c1, decide_eq_true c2, Bool.true_and, Bool.true_and] at h
  refine ⟨fun e => fun X hX => bits_loop (X := X) hl h (by omega) hX, fun e => ?_⟩
  rw [bitsS, decide_eq_false (by omega)] at h; exact h
theorem spec_l04Same_wp {a b c d : Int} {l m : List Nat} {K : Bool → Prop} (hl : l.length ≤ 2 ^ 20) (hw : ∀ x ∈ l, x < 2 ^ 32) (hv : ∀ x ∈ m, x < 2 ^ 32) (h : K (picS a b l c d m)) : spec_l04Same.wp a b l c d m K := by
  unfold picS at h
  refine ⟨fun c1 => ⟨fun c2 => spec_l01SameAll_wp hl hw hv ?_, fun c2 => by rw [decide_eq_false c2, Bool.and_false] at h; exact h⟩, fun c1 => by rw [decide_eq_false c1] at h; exact h⟩
  rw [decide_eq_true c1, decide_eq_true c2, Bool.true_and, Bool.true_and] at h; exact h
theorem impl_SamePicture_wp {a b c d : Int} {l m : List Nat} {K : Bool → Prop} (hl : l.length ≤ 2 ^ 20) (hw : ∀ x ∈ l, x < 2 ^ 32) (hv : ∀ x ∈ m, x < 2 ^ 32) (h : K (picS a b l c d m)) : impl_SamePicture.wp a b l c d m K := by
  unfold picS at h
  refine ⟨fun c1 => ⟨fun c2 => impl_sameNumbers_wp hl hw hv ?_, fun c2 => by rw [decide_eq_false c2, Bool.and_false] at h; exact h⟩, fun c1 => by rw [decide_eq_false c1] at h; exact h⟩
  rw [decide_eq_true c1, decide_eq_true c2, Bool.true_and, Bool.true_and] at h; exact h
def dskS (l m : List Nat) (s : Nat) (w v : Int) (p : List Nat) (c t : Int) (b : List Bool) (l' m' : List Nat) (s' : Nat) (w' v' : Int) (p' : List Nat) (c' t' : Int) (b' : List Bool) : Bool :=
  sameNs l l' && (sameNs m m' && sameN s s' && (picS w v p w' v' p' && codS c t b c' t' b'))
section
variable {l m : List Nat} {s : Nat} {w v : Int} {p : List Nat} {c t : Int} {b : List Bool} {l' m' : List Nat} {s' : Nat} {w' v' : Int} {p' : List Nat} {c' t' : Int} {b' : List Bool} {K : Bool → Prop}
theorem spec_SameDesk_wp (hl : l.length ≤ 2 ^ 20) (hm : m.length ≤ 2 ^ 20) (hp : p.length ≤ 2 ^ 20) (hb : b.length ≤ 2 ^ 20) (fl : ∀ x ∈ l, x < 2 ^ 32) (fm : ∀ x ∈ m, x < 2 ^ 32) (fs : s < 2 ^ 32) (fp : ∀ x ∈ p, x < 2 ^ 32) (fl' : ∀ x ∈ l', x < 2 ^ 32) (fm' : ∀ x ∈ m', x < 2 ^ 32) (fs' : s' < 2 ^ 32) (fp' : ∀ x ∈ p', x < 2 ^ 32)
    (h : K (dskS l m s w v p c t b l' m' s' w' v' p' c' t' b')) : spec_SameDesk.wp l m s w v p c t b l' m' s' w' v' p' c' t' b' K := by
  unfold dskS at h
  refine spec_l01SameAll_wp hl fl fl' ⟨fun e => ?_, fun e => by rw [e] at h; exact h⟩
  rw [e, Bool.true_and] at h
  refine spec_l01SameAll_wp hm fm fm' ⟨fun e => ?_, fun e => ⟨fun x => (by cases x), fun _ => by rw [e] at h; exact h⟩⟩
  rw [e, Bool.true_and] at h
  refine spec_l01Same_wp fs fs' ⟨fun e => ?_, fun e => by rw [e] at h; exact h⟩
  rw [e, Bool.true_and] at h
  refine spec_l04Same_wp hp fp fp' ⟨fun e => ?_, fun e => by rw [e] at h; exact h⟩
  rw [e, Bool.true_and] at h
  exact spec_l06Same_wp hb h
theorem impl_SameDesk_wp (hl : l.length ≤ 2 ^ 20) (hm : m.length ≤ 2 ^ 20) (hp : p.length ≤ 2 ^ 20) (hb : b.length ≤ 2 ^ 20) (fl : ∀ x ∈ l, x < 2 ^ 32) (fm : ∀ x ∈ m, x < 2 ^ 32) (fs : s < 2 ^ 32) (fp : ∀ x ∈ p, x < 2 ^ 32) (fl' : ∀ x ∈ l', x < 2 ^ 32) (fm' : ∀ x ∈ m', x < 2 ^ 32) (fs' : s' < 2 ^ 32) (fp' : ∀ x ∈ p', x < 2 ^ 32)
    (h : K (dskS l m s w v p c t b l' m' s' w' v' p' c' t' b')) : impl_SameDesk.wp l m s w v p c t b l' m' s' w' v' p' c' t' b' K := by
  unfold dskS at h
  refine impl_sameNumbers_wp hl fl fl' ⟨fun e => ?_, fun e => by rw [e] at h; exact h⟩
  rw [e, Bool.true_and] at h
  refine impl_sameNumbers_wp hm fm fm' ⟨fun e => ?_, fun e => ⟨fun x => (by cases x), fun _ => by rw [e] at h; exact h⟩⟩
  rw [e, Bool.true_and] at h
  refine impl_SameNumber_wp fs fs' ⟨fun e => ?_, fun e => by rw [e] at h; exact h⟩
  rw [e, Bool.true_and] at h
  refine impl_SamePicture_wp hp fp fp' ⟨fun e => ?_, fun e => by rw [e] at h; exact h⟩
  rw [e, Bool.true_and] at h
  exact impl_SameCoded_wp hb h
end

end Go.Proofs.Ytpeijfnfffogeaa.G

namespace Go.Proofs.Ytpeijfnfffogeaa.G
open Go Go.Ab
set_option maxRecDepth 100000
set_option linter.unusedVariables false
set_option linter.unusedSimpArgs false
set_option maxHeartbeats 1000000
-- HYPS: 0 1 2 5 8 9 10 11 14 17
-- HYPE: 0 1 2 3 4 5
theorem pureExactSameDesk (l m : List Nat) (s : Nat) (w v : Int) (p : List Nat) (c t : Int) (b : List Bool) (l' m' : List Nat) (s' : Nat) (w' v' : Int) (p' : List Nat) (c' t' : Int) (b' : List Bool) (hl : l.length ≤ maxLen) (hm : m.length ≤ maxLen) (fs : s < 2 ^ 32) (hp : p.length ≤ maxLen) (hb : b.length ≤ maxLen) (hl' : l'.length ≤ maxLen) (hm' : m'.length ≤ maxLen) (fs' : s' < 2 ^ 32) (hp' : p'.length ≤ maxLen) (hb' : b'.length ≤ maxLen)
    (fl : ∀ y ∈ l, y < 2 ^ 32) (fm : ∀ y ∈ m, y < 2 ^ 32) (fp : ∀ y ∈ p, y < 2 ^ 32) (fl' : ∀ y ∈ l', y < 2 ^ 32) (fm' : ∀ y ∈ m', y < 2 ^ 32) (fp' : ∀ y ∈ p', y < 2 ^ 32) : laws_FnExactSameDesk.wp l m s w v p c t b l' m' s' w' v' p' c' t' b' (fun b => b = true) := by
  refine szDesk_wp hl hm hp hb (by omega) (tP (by omega) rfl) fun hn => tN (by omega) (szDesk_wp hl' hm' hp' hb' (by omega) (tP (by omega) rfl) fun hn' => tN (by omega) ?_)
  have h1 : l.length ≤ 2 ^ 20 := by omega
  have h2 : m.length ≤ 2 ^ 20 := by omega
  have h3 : p.length ≤ 2 ^ 20 := by omega
  have h4 : b.length ≤ 2 ^ 20 := by omega
  have h1' : l'.length ≤ 2 ^ 20 := by omega
  have h2' : m'.length ≤ 2 ^ 20 := by omega
  have h3' : p'.length ≤ 2 ^ 20 := by omega
  have h4' : b'.length ≤ 2 ^ 20 := by omega
  exact toDesk_wp h1 h2 h3 h4 (toDesk_wp h1' h2' h3' h4' (spec_SameDesk_wp h1 h2 h3 h4 fl fm fs fp fl' fm' fs' fp' (toDesk_wp h1 h2 h3 h4 (toDesk_wp h1' h2' h3' h4' (impl_SameDesk_wp h1 h2 h3 h4 fl fm fs fp fl' fm' fs' fp' (tB (toDesk_wp h1 h2 h3 h4 (eqDesk_wp h1 h2 h3 h4 (tT (toDesk_wp h1' h2' h3' h4' (eqDesk_wp h1' h2' h3' h4' (tT rfl))))))))))))

end Go.Proofs.Ytpeijfnfffogeaa.G

