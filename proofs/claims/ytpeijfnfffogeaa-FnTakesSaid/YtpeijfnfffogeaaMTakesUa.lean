/-
  What the formulas say, over numbers and lists alone. Nothing here is trusted.
-/
import Derived.Test.YtpeijfnfffogeaaMTakesWa
namespace Go.Proofs.Ytpeijfnfffogeaa.G
open Go Go.Ab
set_option maxRecDepth 100000
set_option linter.unusedVariables false
set_option linter.unusedSimpArgs false
set_option maxHeartbeats 1000000
/-! ### truth -/
theorem tT {A B : Prop} (h : A) : (true = true → A) ∧ (true = false → B) := ⟨fun _ => h, fun c => (by cases c)⟩
theorem tF {A B : Prop} (h : B) : (false = true → A) ∧ (false = false → B) := ⟨fun c => (by cases c), fun _ => h⟩
theorem tB {A B : Prop} {b : Bool} (h : A) : ((b == b) = true → A) ∧ ((b == b) = false → B) := ⟨fun _ => h, fun c => (by simp at c)⟩
theorem tE {A B : Prop} {b : Bool} (e : b = true) (h : A) : (b = true → A) ∧ (b = false → B) := ⟨fun _ => h, fun c => (by rw [e] at c; cases c)⟩
theorem tG {A B : Prop} {b : Bool} (e : b = false) (h : B) : (b = true → A) ∧ (b = false → B) := ⟨fun c => (by rw [e] at c; cases c), fun _ => h⟩
theorem tP {p A B : Prop} (e : p) (h : A) : (p → A) ∧ (¬p → B) := ⟨fun _ => h, fun c => absurd e c⟩
theorem tN {p A B : Prop} (e : ¬p) (h : B) : (p → A) ∧ (¬p → B) := ⟨fun c => absurd c e, fun _ => h⟩
theorem tI {b : Bool} {K : Bool → Prop} {A B : Prop} (h1 : b = true → A) (h2 : b = false → B) : (b = true → A) ∧ (b = false → B) := ⟨h1, h2⟩
/-! ### loops -/
theorem up {Y : Nat → Prop} (n : Nat) (last : Y n) (step : ∀ i, i < n → Y (i + 1) → Y i) : Y 0 := by
  have key : ∀ d i, i + d = n → Y i := by
    intro d
    induction d with
    | zero => intro i h; obtain rfl : i = n := by omega
              exact last
    | succ d ih => intro i h; exact step i (by omega) (ih (i + 1) (by omega))
  exact key n 0 (by omega)
theorem upFrom {Y : Nat → Prop} (k n : Nat) (hk : k ≤ n) (last : Y n) (step : ∀ i, k ≤ i → i < n → Y (i + 1) → Y i) : Y k := by
  have key : ∀ d i, k ≤ i → i + d = n → Y i := by
    intro d
    induction d with
    | zero => intro i _ h; obtain rfl : i = n := by omega
              exact last
    | succ d ih => intro i h0 h; exact step i h0 (by omega) (ih (i + 1) (by omega) (by omega))
  exact key (n - k) k (Nat.le_refl _) (by omega)
theorem w1 {i : Nat} (h : i < 4611686018427387904) : IntKind.i64.wrap ((i : Int) + (1 : Int)) = ((i + 1 : Nat) : Int) := wrap_succ (by omega)
theorem wI {n : Int} (h : -9223372036854775808 ≤ n ∧ n < 9223372036854775808) : IntKind.i64.wrap n = n := wrap_i64 h.1 h.2
theorem nn (i : Nat) : ((i : Int)).toNat = i := rfl
theorem gD {α : Type} {l : List α} {i : Nat} (h : i < l.length) (d : α) : l.getD i d = l[i] := by rw [List.getD_eq_getElem?_getD, List.getElem?_eq_getElem h]; rfl
theorem dropC {α : Type} {l : List α} {i : Nat} (h : i < l.length) : l.drop i = l[i] :: l.drop (i + 1) := List.drop_eq_getElem_cons h
theorem len1 {α : Type} (a : α) : ([a] : List α).length = 1 := rfl
theorem cz32 (n : Nat) (h : (FloatKind.f32.decode n).isNaN = false) : cz .f32 n = n := by simp [cz, h]
theorem c0_32 : cz .f32 0 = 0 := cz_zero32
theorem c0_64 : cz .f64 0 = 0 := cz_zero64
/-! ### copies, comparisons, marks -/
theorem toFloat32S_wp {l : List Nat} {K : List Nat → Prop} (hl : l.length ≤ 2 ^ 20) (h : K l) : laws_toFloat32S.wp l K := by
  refine ⟨⟨by omega, by omega, by omega, by omega⟩, fun X hX => ?_⟩
  have key : X (l.take 0 ++ List.replicate (l.length - 0) (0 : Nat)) ((0 : Nat) : Int) := by
    refine up (Y := fun i => X (l.take i ++ List.replicate (l.length - i) (0 : Nat)) (i : Int)) l.length ?_ fun i hi hn => ?_
    · refine hX _ _ ⟨fun c => absurd c (by omega), fun _ => ?_⟩
      rw [List.take_length, Nat.sub_self, List.replicate_zero, List.append_nil]; exact h
    · refine hX _ _ ⟨fun _ => ⟨⟨by omega, by omega⟩, ⟨by omega, ?_⟩, ?_⟩, fun c => absurd (show (i : Int) < l.length by omega) c⟩
      · rw [List.length_append, List.length_take, List.length_replicate]; omega
      · rw [nn, w1 (by omega), gD hi, set_fill (0 : Nat) (by omega) hi]
        exact hn
  rw [List.take_zero, List.nil_append, Nat.sub_zero] at key; exact key
theorem toInt64S_wp {l : List Int} {K : List Int → Prop} (hl : l.length ≤ 2 ^ 20) (h : K l) : laws_toInt64S.wp l K := by
  refine ⟨⟨by omega, by omega, by omega, by omega⟩, fun X hX => ?_⟩
  have key : X (l.take 0 ++ List.replicate (l.length - 0) (0 : Int)) ((0 : Nat) : Int) := by
    refine up (Y := fun i => X (l.take i ++ List.replicate (l.length - i) (0 : Int)) (i : Int)) l.length ?_ fun i hi hn => ?_
    · refine hX _ _ ⟨fun c => absurd c (by omega), fun _ => ?_⟩
      rw [List.take_length, Nat.sub_self, List.replicate_zero, List.append_nil]; exact h
    · refine hX _ _ ⟨fun _ => ⟨⟨by omega, by omega⟩, ⟨by omega, ?_⟩, ?_⟩, fun c => absurd (show (i : Int) < l.length by omega) c⟩
      · rw [List.length_append, List.length_take, List.length_replicate]; omega
      · rw [nn, w1 (by omega), gD hi, set_fill (0 : Int) (by omega) hi]
        exact hn
  rw [List.take_zero, List.nil_append, Nat.sub_zero] at key; exact key
theorem toBoolS_wp {l : List Bool} {K : List Bool → Prop} (hl : l.length ≤ 2 ^ 20) (h : K l) : laws_toBoolS.wp l K := by
  refine ⟨⟨by omega, by omega, by omega, by omega⟩, fun X hX => ?_⟩
  have key : X (l.take 0 ++ List.replicate (l.length - 0) false) ((0 : Nat) : Int) := by
    refine up (Y := fun i => X (l.take i ++ List.replicate (l.length - i) false) (i : Int)) l.length ?_ fun i hi hn => ?_
    · refine hX _ _ ⟨fun c => absurd c (by omega), fun _ => ?_⟩
      rw [List.take_length, Nat.sub_self, List.replicate_zero, List.append_nil]; exact h
    · refine hX _ _ ⟨fun _ => ⟨⟨by omega, by omega⟩, ⟨by omega, ?_⟩, ?_⟩, fun c => absurd (show (i : Int) < l.length by omega) c⟩
      · rw [List.length_append, List.length_take, List.length_replicate]; omega
      · rw [nn, w1 (by omega), gD hi, set_fill false (by omega) hi]
        exact hn
  rw [List.take_zero, List.nil_append, Nat.sub_zero] at key; exact key
theorem sameFloat_wp {a : Nat} {K : Bool → Prop} (h : K true) : laws_sameFloat.wp a a K := by
  rcases order_self Ieee.double a with ho | ho
  · have e : fcmp .neq .f64 a a = true := by simp [fcmp, FloatKind.format, ho]
    exact tE e (by rw [e]; exact h)
  · have e : fcmp .neq .f64 a a = false := by simp [fcmp, FloatKind.format, ho]
    have e2 : fcmp .eql .f64 a a = true := by simp [fcmp, FloatKind.format, ho]
    refine tG e (tG e ⟨fun c => ⟨fun _ => by rw [BEq.rfl]; exact h, fun c2 => (by rw [c] at c2; cases c2)⟩, fun _ => by rw [e2]; exact h⟩)
theorem eqFloat32S_wp {l : List Nat} {K : Bool → Prop} (hl : l.length ≤ 2 ^ 20) (h : K true) : laws_eqFloat32S.wp l l K := by
  refine tP rfl fun X hX => ?_
  refine up (Y := fun i => X (i : Int)) l.length ?_ fun i hi hn => ?_
  · exact hX _ ⟨fun c => absurd c (by omega), fun _ => h⟩
  · refine hX _ ⟨fun _ => ⟨⟨by omega, by omega⟩, ⟨by omega, by omega⟩, sameFloat_wp (tT ?_)⟩, fun c => absurd (show (i : Int) < l.length by omega) c⟩
    rw [w1 (by omega)]; exact hn
theorem eqInt64S_wp {l : List Int} {K : Bool → Prop} (hl : l.length ≤ 2 ^ 20) (h : K true) : laws_eqInt64S.wp l l K := by
  refine tP rfl fun X hX => ?_
  refine up (Y := fun i => X (i : Int)) l.length ?_ fun i hi hn => ?_
  · exact hX _ ⟨fun c => absurd c (by omega), fun _ => h⟩
  · refine hX _ ⟨fun _ => ⟨⟨by omega, by omega⟩, ⟨by omega, by omega⟩, tP rfl ?_⟩, fun c => absurd (show (i : Int) < l.length by omega) c⟩
    rw [w1 (by omega)]; exact hn
theorem eqBoolS_wp {l : List Bool} {K : Bool → Prop} (hl : l.length ≤ 2 ^ 20) (h : K true) : laws_eqBoolS.wp l l K := by
  refine tP rfl fun X hX => ?_
  refine up (Y := fun i => X (i : Int)) l.length ?_ fun i hi hn => ?_
  · exact hX _ ⟨fun c => absurd c (by omega), fun _ => h⟩
  · refine hX _ ⟨fun _ => ⟨⟨by omega, by omega⟩, ⟨by omega, by omega⟩, tB ?_⟩, fun c => absurd (show (i : Int) < l.length by omega) c⟩
    rw [w1 (by omega)]; exact hn
theorem markFloat32S_wp {l : List Nat} {k : Nat} {K : Int → List Nat → Prop} (hl : l.length ≤ 2 ^ 20) (hk : k ≤ 2 ^ 40) (h : K ((k + l.length : Nat) : Int) (marks k l.length)) : laws_markFloat32S.wp l (k : Int) K := by
  intro X hX
  have key : X (marks k 0 ++ l.drop 0) ((k + 0 : Nat) : Int) ((0 : Nat) : Int) := by
    refine up (Y := fun i => X (marks k i ++ l.drop i) ((k + i : Nat) : Int) (i : Int)) l.length ?_ fun i hi hn => ?_
    · refine hX _ _ _ ⟨fun c => absurd c (by rw [List.length_append, marks_length, List.length_drop]; omega), fun _ => ?_⟩
      rw [List.drop_length, List.append_nil]; exact h
    · have hlen : (marks k i ++ l.drop i).length = l.length := by rw [List.length_append, marks_length, List.length_drop]; omega
      refine hX _ _ _ ⟨fun _ => ⟨⟨by omega, by rw [hlen]; omega⟩, ?_⟩, fun c => absurd (show (i : Int) < _ by rw [hlen]; omega) c⟩
      rw [nn, w1 (by omega), w1 (by omega)]
      have e := marks_step (l := l) (i := i) (m := l.length - i) k (by omega) hi
      rw [show (k : Int) + (i : Int) = ((k + i : Nat) : Int) by omega] at e
      rw [show itof .f32 ((k + i : Nat) : Int) = fl ((k + i : Nat) : Int) from rfl]
      rw [e]; exact hn
  exact key
theorem heldFloat32S_wp {k n : Nat} {K : Int → Prop} (hl : n ≤ 2 ^ 20) (hk : k ≤ 2 ^ 40) (h : K ((k + n : Nat) : Int)) : laws_heldFloat32S.wp (marks k n) (k : Int) K := by
  intro X hX
  have hlen : (marks k n).length = n := marks_length _ _
  have key : X ((k + 0 : Nat) : Int) ((0 : Nat) : Int) := by
    refine up (Y := fun i => X ((k + i : Nat) : Int) (i : Int)) n ?_ fun i hi hn => ?_
    · exact hX _ _ ⟨fun c => absurd c (by omega), fun _ => h⟩
    · refine hX _ _ ⟨fun _ => ⟨⟨by omega, by omega⟩, ?_⟩, fun c => absurd (show (i : Int) < _ by omega) c⟩
      rw [nn, gD (by omega), marks_at k n i (by omega), show (k : Int) + (i : Int) = ((k + i : Nat) : Int) by omega]
      refine tG (show fcmp .neq .f32 (fl ((k + i : Nat) : Int)) (itof .f32 ((k + i : Nat) : Int)) = false from fl_neq _) ?_
      rw [w1 (by omega), w1 (by omega)]; exact hn
  exact key
theorem markInt64S_wp {l : List Int} {k : Nat} {K : Int → List Int → Prop} (hl : l.length ≤ 2 ^ 20) (hk : k ≤ 2 ^ 40) (h : K ((k + l.length : Nat) : Int) (marksI k l.length)) : laws_markInt64S.wp l (k : Int) K := by
  intro X hX
  have key : X (marksI k 0 ++ l.drop 0) ((k + 0 : Nat) : Int) ((0 : Nat) : Int) := by
    refine up (Y := fun i => X (marksI k i ++ l.drop i) ((k + i : Nat) : Int) (i : Int)) l.length ?_ fun i hi hn => ?_
    · refine hX _ _ _ ⟨fun c => absurd c (by rw [List.length_append, marksI_length, List.length_drop]; omega), fun _ => ?_⟩
      rw [List.drop_length, List.append_nil]; exact h
    · have hlen : (marksI k i ++ l.drop i).length = l.length := by rw [List.length_append, marksI_length, List.length_drop]; omega
      refine hX _ _ _ ⟨fun _ => ⟨⟨by omega, by rw [hlen]; omega⟩, ?_⟩, fun c => absurd (show (i : Int) < _ by rw [hlen]; omega) c⟩
      rw [nn, w1 (by omega), w1 (by omega)]
      have e := marksI_step (l := l) (i := i) (m := l.length - i) k (by omega) hi
      rw [show (k : Int) + (i : Int) = ((k + i : Nat) : Int) by omega] at e
      
      rw [e]; exact hn
  exact key
theorem heldInt64S_wp {k n : Nat} {K : Int → Prop} (hl : n ≤ 2 ^ 20) (hk : k ≤ 2 ^ 40) (h : K ((k + n : Nat) : Int)) : laws_heldInt64S.wp (marksI k n) (k : Int) K := by
  intro X hX
  have hlen : (marksI k n).length = n := marksI_length _ _
  have key : X ((k + 0 : Nat) : Int) ((0 : Nat) : Int) := by
    refine up (Y := fun i => X ((k + i : Nat) : Int) (i : Int)) n ?_ fun i hi hn => ?_
    · exact hX _ _ ⟨fun c => absurd c (by omega), fun _ => h⟩
    · refine hX _ _ ⟨fun _ => ⟨⟨by omega, by omega⟩, ?_⟩, fun c => absurd (show (i : Int) < _ by omega) c⟩
      rw [nn, gD (by omega), marksI_at k n i (by omega), show (k : Int) + (i : Int) = ((k + i : Nat) : Int) by omega]
      refine tP rfl ?_
      rw [w1 (by omega), w1 (by omega)]; exact hn
  exact key

end Go.Proofs.Ytpeijfnfffogeaa.G

namespace Go.Proofs.Ytpeijfnfffogeaa.G
open Go Go.Ab
set_option maxRecDepth 100000
set_option linter.unusedVariables false
set_option linter.unusedSimpArgs false
set_option maxHeartbeats 1000000
def pFin (x : Nat) : Bool := fcmp .eql .f32 (fop .sub .f32 x x) (cz .f32 0)
def pAll (l : List Nat) : Bool := l.all pFin
theorem pAll_cons (x : Nat) (l : List Nat) : pAll (x :: l) = (pFin x && pAll l) := rfl
/-- A loop that ends early where something does not hold. -/
theorem all_loop {α : Type} (l : List α) (p : α → Bool) {X : Int → Prop} {T F : Prop} (hX : ∀ (i : Nat) (h : i < l.length), ((p l[i] = true → X ((i + 1 : Nat) : Int)) ∧ (p l[i] = false → F)) → X (i : Int))
    (hend : T → X (l.length : Int)) (ht : l.all p = true → T) (hf : l.all p = false → F) : X (0 : Int) := by
  have key := up (Y := fun i => ((l.drop i).all p = true → T) → ((l.drop i).all p = false → F) → X (i : Int)) l.length (fun h _ => hend (h (by rw [List.drop_length]; rfl))) fun i hi hn h1 h2 => ?_
  · exact key (by rw [List.drop_zero]; exact ht) (by rw [List.drop_zero]; exact hf)
  · rw [dropC hi, List.all_cons] at h1 h2
    refine hX i hi ⟨fun e => hn (fun a => h1 (by rw [e, a]; rfl)) (fun a => h2 (by rw [e, a]; rfl)), fun e => h2 (by rw [e]; rfl)⟩
/-- A loop that makes a list, and ends early where something does not hold. -/
theorem map_loop {α β : Type} (l : List α) (p : α → Bool) (f : α → β) {X : List β → Int → Prop} {T F : Prop} (hX : ∀ (i : Nat) (h : i < l.length) (o : List β), o.length = i → ((p l[i] = true → X (o ++ [f l[i]]) ((i + 1 : Nat) : Int)) ∧ (p l[i] = false → F)) → X o (i : Int))
    (hend : T → X (l.map f) (l.length : Int)) (ht : l.all p = true → T) (hf : l.all p = false → F) : X [] (0 : Int) := by
  have key := up (Y := fun i => ((l.drop i).all p = true → T) → ((l.drop i).all p = false → F) → X ((l.take i).map f) (i : Int)) l.length (fun h _ => by rw [List.take_length]; exact hend (h (by rw [List.drop_length]; rfl))) fun i hi hn h1 h2 => ?_
  · have := key (by rw [List.drop_zero]; exact ht) (by rw [List.drop_zero]; exact hf)
    rw [List.take_zero] at this; exact this
  · rw [dropC hi, List.all_cons] at h1 h2
    refine hX i hi _ (by rw [List.length_map, List.length_take]; omega) ⟨fun e => ?_, fun e => h2 (by rw [e]; rfl)⟩
    have := hn (fun a => h1 (by rw [e, a]; rfl)) (fun a => h2 (by rw [e, a]; rfl))
    rw [List.take_succ_eq_append_getElem hi, List.map_append] at this
    exact this
theorem spec_l01Finite_wp {a : Nat} {K : Bool → Prop} (h : K (pFin a)) : spec_l01Finite.wp a K := h
theorem impl_IsFinite_wp {a : Nat} {K : Bool → Prop} (h : K (pFin a)) : impl_IsFinite.wp a K := h
theorem spec_l02Finite_wp {l : List Nat} {K : Bool → Prop} (hl : l.length ≤ 2 ^ 20) (h : K (pAll l)) : spec_l02Finite.wp l K := by
  intro X hX
  refine all_loop l pFin (X := X) (T := K true) (F := K false) (fun i hi hh => ?_) (fun ht => hX _ ⟨fun c => absurd c (by omega), fun _ => ht⟩) (fun e => by rw [pAll, e] at h; exact h) (fun e => by rw [pAll, e] at h; exact h)
  refine hX _ ⟨fun _ => ⟨⟨by omega, by omega⟩, spec_l01Finite_wp ?_⟩, fun c => absurd (show (i : Int) < l.length by omega) c⟩
  rw [nn, gD hi, w1 (by omega)]; exact hh
theorem impl_areFinite_wp {ll : List (List Nat)} {K : Bool → Prop} (hll : ll.length ≤ 2 ^ 20) (hl : ∀ l ∈ ll, l.length ≤ 2 ^ 20) (h : K (ll.all pAll)) : impl_areFinite.wp ll K := by
  intro X hX
  refine all_loop ll pAll (X := X) (T := K true) (F := K false) (fun i hi hh => ?_) (fun ht => hX _ ⟨fun c => absurd c (by omega), fun _ => ht⟩) (fun e => by rw [e] at h; exact h) (fun e => by rw [e] at h; exact h)
  refine hX _ ⟨fun _ => ⟨⟨by omega, by omega⟩, fun Y hY => ?_⟩, fun c => absurd (show (i : Int) < ll.length by omega) c⟩
  have hlen := hl ll[i] (List.getElem_mem hi)
  rw [nn, gD hi, w1 (by omega)] at hY
  refine all_loop ll[i] pFin (X := Y) (T := X ((i + 1 : Nat) : Int)) (F := K false) (fun j hj h2 => ?_) (fun ht => hY _ ⟨fun c => absurd c (by omega), fun _ => ht⟩) (fun e => hh.1 e) (fun e => hh.2 e)
  refine hY _ ⟨fun _ => ⟨⟨by omega, by omega⟩, impl_IsFinite_wp ?_⟩, fun c => absurd (show (j : Int) < ll[i].length by omega) c⟩
  rw [nn, gD hj, w1 (by omega)]; exact h2
theorem impl_areFinite1_wp {l : List Nat} {K : Bool → Prop} (hl : l.length ≤ 2 ^ 20) (h : K (pAll l)) : impl_areFinite.wp [l] K := by
  refine impl_areFinite_wp (by simp) (fun x hx => by rw [List.mem_singleton] at hx; subst hx; exact hl) ?_
  rw [List.all_cons, List.all_nil, Bool.and_true]; exact h
theorem impl_within_wp {a b c : Int} {K : Bool → Prop} (h : K (decide (b ≤ a ∧ a ≤ c))) : impl_within.wp a b c K := by
  refine ⟨fun h1 => ?_, fun h1 => ?_⟩
  · have : decide (b ≤ a ∧ a ≤ c) = decide (a ≤ c) := by simp [h1]
    rw [this] at h; exact h
  · have : decide (b ≤ a ∧ a ≤ c) = false := by simp [h1]
    rw [this] at h; exact h
theorem spec_l00In_wp {a b c : Int} {K : Bool → Prop} (h : K (decide (b ≤ a ∧ a ≤ c))) : spec_l00In.wp a b c K := by
  refine ⟨fun h1 => ?_, fun h1 => ?_⟩
  · have : decide (b ≤ a ∧ a ≤ c) = decide (a ≤ c) := by simp [h1]
    rw [this] at h; exact h
  · have : decide (b ≤ a ∧ a ≤ c) = false := by simp [h1]
    rw [this] at h; exact h
theorem bT {b : Bool} {A B : Prop} (h1 : b = true → A) (h2 : b = false → B) : (b = true → A) ∧ (b = false → B) := ⟨h1, h2⟩
def isL (l : List Nat) : Bool := decide (1 ≤ l.length ∧ l.length ≤ 128) && pAll l
theorem spec_l02Is_wp {l : List Nat} {K : Bool → Prop} (hl : l.length ≤ 2 ^ 20) (h : K (isL l)) : spec_l02Is.wp l K := by
  refine ⟨fun h1 => ⟨fun h2 => spec_l02Finite_wp hl ?_, fun h2 => ?_⟩, fun h1 => ?_⟩
  · rw [isL, decide_eq_true (show 1 ≤ l.length ∧ l.length ≤ 128 by omega), Bool.true_and] at h; exact h
  · rw [isL, decide_eq_false (show ¬(1 ≤ l.length ∧ l.length ≤ 128) by omega), Bool.false_and] at h; exact h
  · rw [isL, decide_eq_false (show ¬(1 ≤ l.length ∧ l.length ≤ 128) by omega), Bool.false_and] at h; exact h
theorem impl_IsList_wp {l : List Nat} {K : Bool → Prop} (hl : l.length ≤ 2 ^ 20) (h : K (isL l)) : impl_IsList.wp l K := by
  refine impl_within_wp ⟨fun h1 => ?_, fun h1 => ?_⟩
  · have h1 := of_decide_eq_true h1
    refine impl_areFinite1_wp hl ?_
    rw [isL, decide_eq_true (show 1 ≤ l.length ∧ l.length ≤ 128 by omega), Bool.true_and] at h; exact h
  · have h1 := of_decide_eq_false h1
    rw [isL, decide_eq_false (show ¬(1 ≤ l.length ∧ l.length ≤ 128) by omega), Bool.false_and] at h; exact h
def isOver (x : Nat) : Bool := pFin x && fcmp .gtr .f32 x (cz .f32 0)
def isLeast (x : Nat) : Bool := pFin x && fcmp .geq .f32 x (cz .f32 0)
theorem spec_l02Above_wp {a : Nat} {K : Bool → Prop} (h : K (isOver a)) : spec_l02Above.wp a K := by
  refine spec_l01Finite_wp ⟨fun h1 => ?_, fun h1 => ?_⟩ <;> (rw [isOver, h1] at h; exact h)
theorem impl_isOver_wp {a : Nat} {K : Bool → Prop} (h : K (isOver a)) : impl_isOver.wp a K := by
  refine impl_IsFinite_wp ⟨fun h1 => ?_, fun h1 => ?_⟩ <;> (rw [isOver, h1] at h; exact h)
theorem spec_l02Least_wp {a : Nat} {K : Bool → Prop} (h : K (isLeast a)) : spec_l02Least.wp a K := by
  refine spec_l01Finite_wp ⟨fun h1 => ?_, fun h1 => ?_⟩ <;> (rw [isLeast, h1] at h; exact h)
theorem impl_isLeast_wp {a : Nat} {K : Bool → Prop} (h : K (isLeast a)) : impl_isLeast.wp a K := by
  refine impl_IsFinite_wp ⟨fun h1 => ?_, fun h1 => ?_⟩ <;> (rw [isLeast, h1] at h; exact h)
def isShare (x : Nat) : Bool := fcmp .geq .f32 x (cz .f32 0) && fcmp .leq .f32 x (cz .f32 1065353216)
theorem spec_l02Share_wp {a : Nat} {K : Bool → Prop} (h : K (isShare a)) : spec_l02Share.wp a K := by
  refine ⟨fun h1 => ?_, fun h1 => ?_⟩ <;> (rw [isShare, h1] at h; exact h)
theorem impl_isShare_wp {a : Nat} {K : Bool → Prop} (h : K (isShare a)) : impl_isShare.wp a K := by
  refine ⟨fun h1 => ?_, fun h1 => ?_⟩ <;> (rw [isShare, h1] at h; exact h)
/-! ### integers -/
def bnd (m : Int) (l : List Int) : Bool := l.all fun n => decide (-m ≤ n ∧ n ≤ m)
def isI (l : List Int) : Bool := decide (1 ≤ l.length ∧ l.length ≤ 128) && bnd 1000000 l
theorem spec_l02Bound_wp {l : List Int} {m : Int} {K : Bool → Prop} (hl : l.length ≤ 2 ^ 20) (hm : 0 ≤ m ∧ m ≤ 2 ^ 40) (h : K (bnd m l)) : spec_l02Bound.wp l m K := by
  intro X hX
  refine all_loop l (fun n => decide (-m ≤ n ∧ n ≤ m)) (X := X) (T := K true) (F := K false) (fun i hi hh => ?_) (fun ht => hX _ ⟨fun c => absurd c (by omega), fun _ => ht⟩) (fun e => by rw [bnd, e] at h; exact h) (fun e => by rw [bnd, e] at h; exact h)
  refine hX _ ⟨fun _ => ⟨⟨by omega, by omega⟩, spec_l00In_wp ?_⟩, fun c => absurd (show (i : Int) < l.length by omega) c⟩
  rw [nn, gD hi, w1 (by omega), wI (show -9223372036854775808 ≤ (0 : Int) - m ∧ (0 : Int) - m < 9223372036854775808 by omega), Int.zero_sub]; exact hh
theorem impl_areWithin_wp {l : List Int} {m : Int} {K : Bool → Prop} (hl : l.length ≤ 2 ^ 20) (hm : 0 ≤ m ∧ m ≤ 2 ^ 40) (h : K (bnd m l)) : impl_areWithin.wp l m K := by
  intro X hX
  refine all_loop l (fun n => decide (-m ≤ n ∧ n ≤ m)) (X := X) (T := K true) (F := K false) (fun i hi hh => ?_) (fun ht => hX _ ⟨fun c => absurd c (by omega), fun _ => ht⟩) (fun e => by rw [bnd, e] at h; exact h) (fun e => by rw [bnd, e] at h; exact h)
  refine hX _ ⟨fun _ => ⟨⟨by omega, by omega⟩, impl_within_wp ?_⟩, fun c => absurd (show (i : Int) < l.length by omega) c⟩
  rw [nn, gD hi, w1 (by omega), wI (show -9223372036854775808 ≤ (0 : Int) - m ∧ (0 : Int) - m < 9223372036854775808 by omega), Int.zero_sub]; exact hh
theorem spec_l02Integers_wp {l : List Int} {K : Bool → Prop} (hl : l.length ≤ 2 ^ 20) (h : K (isI l)) : spec_l02Integers.wp l K := by
  refine ⟨fun h1 => ⟨fun h2 => spec_l02Bound_wp hl (by omega) ?_, fun h2 => ?_⟩, fun h1 => ?_⟩
  · rw [isI, decide_eq_true (show 1 ≤ l.length ∧ l.length ≤ 128 by omega), Bool.true_and] at h; exact h
  · rw [isI, decide_eq_false (show ¬(1 ≤ l.length ∧ l.length ≤ 128) by omega), Bool.false_and] at h; exact h
  · rw [isI, decide_eq_false (show ¬(1 ≤ l.length ∧ l.length ≤ 128) by omega), Bool.false_and] at h; exact h
theorem impl_AreIntegers_wp {l : List Int} {K : Bool → Prop} (hl : l.length ≤ 2 ^ 20) (h : K (isI l)) : impl_AreIntegers.wp l K := by
  refine impl_within_wp ⟨fun h1 => ?_, fun h1 => ?_⟩
  · have h1 := of_decide_eq_true h1
    refine impl_areWithin_wp hl (by omega) ?_
    rw [isI, decide_eq_true (show 1 ≤ l.length ∧ l.length ≤ 128 by omega), Bool.true_and] at h; exact h
  · have h1 := of_decide_eq_false h1
    rw [isI, decide_eq_false (show ¬(1 ≤ l.length ∧ l.length ≤ 128) by omega), Bool.false_and] at h; exact h
theorem impl_finiteList_wp {l : List Nat} {K : Bool → Bool → Prop} (hl : l.length ≤ 2 ^ 20) (h : K (pAll l) (pAll l)) : impl_finiteList.wp l K := by
  refine impl_areFinite1_wp hl ⟨fun h1 => ?_, fun h1 => ?_⟩ <;> (rw [h1] at h; exact h)
theorem spec_l02List_wp {l : List Nat} {K : Bool → Bool → Prop} (hl : l.length ≤ 2 ^ 20) (h : K (pAll l) (pAll l)) : spec_l02List.wp l K := by
  refine spec_l02Finite_wp hl ⟨fun h1 => ?_, fun h1 => ?_⟩ <;> (rw [h1] at h; exact h)

end Go.Proofs.Ytpeijfnfffogeaa.G

namespace Go.Proofs.Ytpeijfnfffogeaa.G
open Go Go.Ab
set_option maxRecDepth 100000
set_option linter.unusedVariables false
set_option linter.unusedSimpArgs false
set_option maxHeartbeats 1000000
def Byt (l : List Int) : Prop := l.length ≤ 2 ^ 30 ∧ ∀ x ∈ l, 0 ≤ x ∧ x < 256
theorem iand255 (x : Int) : 0 ≤ IntKind.i64.wrap (ibits .and .u64 x 255) ∧ IntKind.i64.wrap (ibits .and .u64 x 255) < 256 := by
  have h : (BitVec.ofInt 64 x &&& BitVec.ofInt 64 255).toNat < 256 := by
    rw [BitVec.toNat_and]
    exact Nat.lt_of_le_of_lt Nat.and_le_right (by decide)
  have e : ibits .and .u64 x 255 = ((BitVec.ofInt 64 x &&& BitVec.ofInt 64 255).toNat : Int) := by
    show IntKind.u64.wrap ((BitVec.ofInt 64 x &&& BitVec.ofInt 64 255).toNat : Int) = _
    show _ % 18446744073709551616 = _
    omega
  rw [e, wI (by omega)]; omega
theorem spec_next_wp {l : List Int} {a s : Int} {K : Int → Int → Int → Prop} (hl : Byt l) (ha : 0 ≤ a ∧ a ≤ 2 ^ 40) (h : ∀ v t, 0 ≤ v ∧ v < 256 → K v (a + 1) t) : spec_l00Src_next.wp l a s K := by
  have ea : IntKind.i64.wrap (a + 1) = a + 1 := wI (by omega)
  refine ⟨fun c => ⟨⟨ha.1, c⟩, fun c2 => ?_, fun c2 => ?_⟩, fun c => ⟨fun c2 => ?_, fun c2 => ?_⟩⟩
  · rw [ea]
    have hi : a.toNat < l.length := by omega
    rw [gD hi]
    have hb := hl.2 _ (List.getElem_mem hi)
    rw [wI (by omega)]
    exact h _ _ hb
  · rw [ea]; exact h _ _ (iand255 _)
  · rw [ea]; exact h _ _ ⟨by decide, by decide⟩
  · rw [ea]; exact h _ _ (iand255 _)
theorem spec_pick_wp {l : List Int} {a s n : Int} {K : Int → Int → Int → Prop} (hl : Byt l) (ha : 0 ≤ a ∧ a ≤ 2 ^ 39) (hn : 1 ≤ n ∧ n ≤ 2 ^ 40) (h : ∀ v b t, 0 ≤ v ∧ v < n → a ≤ b ∧ b ≤ a + 2 → K v b t) : spec_l00Src_pick.wp l a s n K := by
  refine ⟨fun c => h _ _ _ (by omega) (by omega), fun c => ?_⟩
  refine spec_next_wp hl (by omega) fun v t hv => ⟨fun c2 => ?_, fun c2 => ⟨by omega, ?_⟩⟩
  · refine spec_next_wp hl (by omega) fun w u hw => ⟨by omega, ?_⟩
    rw [wI (n := v * 256) (by omega), wI (n := v * 256 + w) (by omega)]
    have e := Int.tmod_eq_emod_of_nonneg (a := v * 256 + w) (b := n) (by omega)
    have h1 := Int.emod_nonneg (v * 256 + w) (show n ≠ 0 by omega)
    have h2 := Int.emod_lt_of_pos (v * 256 + w) (show 0 < n by omega)
    exact h _ _ _ (by omega) (by omega)
  · have e := Int.tmod_eq_emod_of_nonneg (a := v) (b := n) (by omega)
    have h1 := Int.emod_nonneg v (show n ≠ 0 by omega)
    have h2 := Int.emod_lt_of_pos v (show 0 < n by omega)
    exact h _ _ _ (by omega) (by omega)

end Go.Proofs.Ytpeijfnfffogeaa.G

namespace Go.Proofs.Ytpeijfnfffogeaa.G
open Go Go.Ab
set_option maxRecDepth 100000
set_option linter.unusedVariables false
set_option linter.unusedSimpArgs false
set_option maxHeartbeats 1000000
/-- What is like itself is a number. -/
theorem num_of_eq {x : Nat} (h : fcmp .neq .f32 x x = false) : num .f32 x = true := by
  unfold num
  cases hd : (FloatKind.f32.decode x).isNaN with
  | false => rfl
  | true =>
    exfalso
    have h2 : Ieee.single.order x x = none := by
      unfold Ieee.Format.order
      have hd' : (Ieee.single.read x).isNaN = true := hd
      cases hr : Ieee.single.read x with
      | nan s t => rfl
      | _ => rw [hr] at hd'; cases hd'
    unfold fcmp at h
    rw [show FloatKind.f32.format = Ieee.single from rfl, h2] at h
    cases h
theorem ixor {a b : Nat} (ha : a < 2 ^ 32) (hb : b < 2 ^ 32) : ibits .xor .i64 (a : Int) (b : Int) = ((a ^^^ b : Nat) : Int) := by
  have hx : a ^^^ b < 2 ^ 32 := Nat.xor_lt_two_pow ha hb
  have ea : (BitVec.ofInt 64 (a : Int)).toNat = a := by rw [BitVec.ofInt_natCast, BitVec.toNat_ofNat]; omega
  have eb : (BitVec.ofInt 64 (b : Int)).toNat = b := by rw [BitVec.ofInt_natCast, BitVec.toNat_ofNat]; omega
  show IntKind.i64.wrap ((BitVec.ofInt 64 (a : Int) ^^^ BitVec.ofInt 64 (b : Int)).toNat : Int) = _
  rw [BitVec.toNat_xor, ea, eb]
  exact wI (by omega)
theorem ior {a b : Nat} (ha : a < 2 ^ 32) (hb : b < 2 ^ 32) : ibits .or .i64 (a : Int) (b : Int) = ((a ||| b : Nat) : Int) := by
  have hx : a ||| b < 2 ^ 32 := Nat.or_lt_two_pow ha hb
  have ea : (BitVec.ofInt 64 (a : Int)).toNat = a := by rw [BitVec.ofInt_natCast, BitVec.toNat_ofNat]; omega
  have eb : (BitVec.ofInt 64 (b : Int)).toNat = b := by rw [BitVec.ofInt_natCast, BitVec.toNat_ofNat]; omega
  show IntKind.i64.wrap ((BitVec.ofInt 64 (a : Int) ||| BitVec.ofInt 64 (b : Int)).toNat : Int) = _
  rw [BitVec.toNat_or, ea, eb]
  exact wI (by omega)
theorem p8 : (2 ^ (min (8 : Int).toNat IntKind.i64.bits) : Int) = 256 := by decide
theorem fdiv8 (m : Nat) : Int.fdiv (m : Int) (2 ^ (min (8 : Int).toNat IntKind.i64.bits)) = ((m / 256 : Nat) : Int) := by
  rw [p8, Int.fdiv_eq_ediv_of_nonneg _ (by decide)]; omega
theorem tdivN (m k : Nat) (h : m < 2 ^ 40) : IntKind.i64.wrap (Int.tdiv (m : Int) (k : Int)) = ((m / k : Nat) : Int) := by
  rw [show (m : Int).tdiv (k : Int) = ((m / k : Nat) : Int) by rw [Int.tdiv_eq_ediv_of_nonneg (by omega)]; rfl]
  have := Nat.div_le_self m k
  generalize m / k = d at this
  exact wI (by omega)
theorem u8wrap (m : Nat) : IntKind.u8.wrap (m : Int) = ((m % 256 : Nat) : Int) := by
  show (m : Int) % 256 = _
  omega
theorem tmod8 (m : Nat) : Int.tmod (m : Int) 256 = ((m % 256 : Nat) : Int) := by
  rw [Int.tmod_eq_emod_of_nonneg (by omega)]; rfl
/-- How many bytes a number fills. -/
def nb (x : Nat) : Nat := if x = 0 then 0 else if x < 256 then 1 else if x < 65536 then 2 else if x < 16777216 then 3 else 4
theorem nb_le (x : Nat) : nb x ≤ 4 := by unfold nb; repeat' split
                                         all_goals omega
theorem nb_div {m : Nat} (h : 0 < m) (h32 : m < 2 ^ 32) : nb (m / 256) + 1 = nb m := by
  unfold nb; repeat' split
  all_goals omega
def lowB : Nat → Nat → List Int
  | 0, _ => []
  | n + 1, x => ((x % 256 : Nat) : Int) :: lowB n (x / 256)
theorem lowB_len : ∀ n x, (lowB n x).length = n
  | 0, _ => rfl
  | n + 1, x => by rw [lowB, List.length_cons, lowB_len]
def bitsN (x : Nat) : Nat := if fcmp .neq .f32 x x = true then 2143289344 else x
theorem bitsN_lt {x : Nat} (h : x < 2 ^ 32) : bitsN x < 2 ^ 32 := by unfold bitsN; split <;> omega
def oneB (y : Nat) : List Int := ((4 - nb y : Nat) : Int) :: lowB (nb y) y
theorem oneB_len (y : Nat) : (oneB y).length ≤ 5 := by rw [oneB, List.length_cons, lowB_len]; have := nb_le y; omega
def packTo : List Nat → Nat → List Int
  | [], _ => []
  | x :: l, b => oneB (bitsN x ^^^ b) ++ packTo l (bitsN x)
def packL (l : List Nat) : List UInt8 := byts (packTo l 0)
/-- The loop over the values. -/
theorem pack_loop (l : List Nat) (hl : l.length ≤ 2 ^ 20) (hw : ∀ x ∈ l, x < 2 ^ 32) {X : List Int → Int → Int → Prop} (hX : ∀ (o : List Int) (b i : Nat) (hi : i < l.length), b < 2 ^ 32 → o.length ≤ 5 * i → X (o ++ oneB (bitsN l[i] ^^^ b)) (bitsN l[i] : Nat) ((i + 1 : Nat) : Int) → X o (b : Int) (i : Int)) (hend : ∀ b : Int, X (packTo l 0) b (l.length : Int)) : X [] ((0 : Nat) : Int) ((0 : Nat) : Int) := by
  have key : ∀ (m i : Nat) (o : List Int) (b : Nat), m + i = l.length → b < 2 ^ 32 → o.length ≤ 5 * i → o ++ packTo (l.drop i) b = packTo l 0 → X o (b : Int) (i : Int) := by
    intro m
    induction m with
    | zero => intro i o b h1 h2 h3 h4
              obtain rfl : i = l.length := by omega
              rw [List.drop_length, packTo, List.append_nil] at h4
              rw [h4]; exact hend _
    | succ m ih =>
      intro i o b h1 h2 h3 h4
      have hi : i < l.length := by omega
      refine hX o b i hi h2 h3 (ih (i + 1) _ _ (by omega) (bitsN_lt (hw _ (List.getElem_mem hi))) (by rw [List.length_append]; have := oneB_len (bitsN l[i] ^^^ b); omega) ?_)
      rw [dropC hi, packTo] at h4
      rw [List.append_assoc]; exact h4
  exact key l.length 0 [] 0 (by omega) (by decide) (by simp) rfl
/-- The loop over a number's bytes. -/
theorem bytes_loop (M : Nat) {X : List Int → Int → Int → Prop} {N : Nat} (hX : ∀ (o : List Int) (x k : Nat), k < N → x < 2 ^ 32 → o.length < M → X (o ++ [((x % 256 : Nat) : Int)]) ((x / 256 : Nat) : Int) ((k + 1 : Nat) : Int) → X o (x : Int) (k : Int)) : ∀ (n k x : Nat) (o : List Int), k + n = N → x < 2 ^ 32 → o.length + n ≤ M → (∀ x, X (o ++ lowB n x) x (N : Int) → True) → (∀ y : Int, X (o ++ lowB n x) y (N : Int)) → X o (x : Int) (k : Int) := by
  intro n
  induction n with
  | zero => intro k x o h1 h2 h3 _ h4
            obtain rfl : k = N := by omega
            have := h4 x
            rw [lowB, List.append_nil] at this; exact this
  | succ n ih =>
    intro k x o h1 h2 h3 _ h4
    refine hX o x k (by omega) h2 (by omega) (ih (k + 1) (x / 256) _ (by omega) (by omega) (by rw [List.length_append, List.length_singleton]; omega) (fun _ _ => trivial) fun y => ?_)
    have := h4 y
    rw [lowB] at this
    rw [List.append_assoc]; exact this
theorem spec_l01Bits_wp {x : Nat} {K : Int → Prop} (hx : x < 2 ^ 32) (h : K (bitsN x : Nat)) : spec_l01Bits.wp x K := by
  refine ⟨fun c => ?_, fun c => ⟨?_, ?_⟩⟩
  · rw [bitsN, if_pos c] at h; exact h
  · exact num_of_eq c
  · rw [bitsN, if_neg (by rw [c]; decide)] at h
    rw [wI (by omega)]; exact h
theorem impl_BitsOf_wp {x : Nat} {K : Int → Prop} (hx : x < 2 ^ 32) (h : K (bitsN x : Nat)) : impl_BitsOf.wp x K := by
  refine ⟨fun c => ?_, fun c => ⟨?_, ?_⟩⟩
  · rw [bitsN, if_pos c] at h; exact h
  · exact num_of_eq c
  · rw [bitsN, if_neg (by rw [c]; decide)] at h
    rw [wI (by omega)]; exact h
theorem impl_packed_wp {l : List Nat} {K : List UInt8 → Prop} (hl : l.length ≤ 2 ^ 20) (hw : ∀ x ∈ l, x < 2 ^ 32) (h : K (packL l)) : impl_packed.wp l K := by
  intro X hX
  refine pack_loop l hl hw (X := X) (fun o b i hi hb ho hn => hX _ _ _ ⟨fun _ => ⟨⟨by omega, by omega⟩, ?_⟩, fun c => absurd (show (i : Int) < l.length by omega) c⟩) (fun b => hX _ _ _ ⟨fun c => absurd c (by omega), fun _ => h⟩)
  have hxi := hw _ (List.getElem_mem hi)
  rw [nn, gD hi]
  refine impl_BitsOf_wp hxi ?_
  have hbi := bitsN_lt hxi
  rw [ixor hbi hb, w1 (by omega)]
  generalize hy : bitsN l[i] ^^^ b = y at hn
  have hy32 : y < 2 ^ 32 := by rw [← hy]; exact Nat.xor_lt_two_pow hbi hb
  have hnb := nb_le y
  intro Z hZ
  have key : ∀ (n z m : Nat), nb m = n → z + nb y = 4 + n → m < 2 ^ 32 → Z (z : Int) (m : Int) := by
    intro n
    induction n with
    | zero =>
      intro z m h1 h2 h3
      obtain rfl : m = 0 := by
        unfold nb at h1; repeat' split at h1
        all_goals first | assumption | omega
      refine hZ _ _ ⟨fun c => absurd c (by omega), fun _ => ⟨by rw [len1]; omega, fun Y hY => ?_⟩⟩
      have e1 : IntKind.u8.wrap (z : Int) = ((4 - nb y : Nat) : Int) := by rw [u8wrap]; omega
      have e2 : IntKind.i64.wrap ((4 : Int) - (z : Int)) = ((nb y : Nat) : Int) := by rw [wI (by omega)]; omega
      rw [e1]
      refine bytes_loop (5 * i + 5) (X := Y) (N := nb y) (fun q x k hk hx hq hn2 => hY _ _ _ ⟨fun _ => ⟨by rw [len1]; omega, ?_⟩, fun c => absurd (by rw [e2]; omega) c⟩) (nb y) 0 y _ (by omega) hy32 (by rw [List.length_append, List.length_singleton]; omega) (fun _ _ => trivial) (fun w => hY _ _ _ ⟨fun c => absurd c (by rw [e2]; omega), fun _ => ?_⟩)
      · rw [u8wrap, fdiv8, w1 (by omega)]; exact hn2
      · rw [List.append_assoc]; exact hn
    | succ n ih =>
      intro z m h1 h2 h3
      have hm : 0 < m := by
        unfold nb at h1; repeat' split at h1
        all_goals omega
      have := nb_div hm h3
      have := nb_le m
      refine hZ _ _ ⟨fun _ => ?_, fun c => absurd (show (0 : Int) < m by omega) c⟩
      rw [fdiv8, show IntKind.i64.wrap ((z : Int) - 1) = ((z - 1 : Nat) : Int) by rw [wI (by omega)]; omega]
      exact ih (z - 1) (m / 256) (by omega) (by omega) (by omega)
  exact key (nb y) 4 y rfl (by omega) hy32
theorem spec_l07Pack_wp {l : List Nat} {K : List UInt8 → Prop} (hl : l.length ≤ 2 ^ 20) (hw : ∀ x ∈ l, x < 2 ^ 32) (h : K (packL l)) : spec_l07Pack.wp l K := by
  intro X hX
  refine pack_loop l hl hw (X := X) (fun o b i hi hb ho hn => hX _ _ _ ⟨fun _ => ⟨⟨by omega, by omega⟩, ?_⟩, fun c => absurd (show (i : Int) < l.length by omega) c⟩) (fun b => hX _ _ _ ⟨fun c => absurd c (by omega), fun _ => h⟩)
  have hxi := hw _ (List.getElem_mem hi)
  rw [nn, gD hi]
  refine spec_l01Bits_wp hxi ?_
  have hbi := bitsN_lt hxi
  rw [ixor hbi hb, w1 (by omega)]
  generalize hy : bitsN l[i] ^^^ b = y at hn
  have hy32 : y < 2 ^ 32 := by rw [← hy]; exact Nat.xor_lt_two_pow hbi hb
  have hnb := nb_le y
  intro Z hZ
  have fin : ∀ (z : Nat), z + nb y = 4 → ∀ Y : List Int → Int → Int → Prop, (∀ (q : List Int) (x k : Int), ((k < 4 → ((q.length + ([(IntKind.u8.wrap (Int.tmod x 256))] : List (Int)).length) * 1 ≤ 2 ^ 40) ∧ Y (q ++ ([(IntKind.u8.wrap (Int.tmod x 256))] : List (Int))) (IntKind.i64.wrap (Int.tdiv x 256)) (IntKind.i64.wrap (k + 1))) ∧ (¬(k < 4) → X q (bitsN l[i] : Nat) ((i + 1 : Nat) : Int))) → Y q x k) → Y (o ++ ([(z : Int)] : List Int)) (y : Int) (z : Int) := by
    intro z hz Y hY
    refine bytes_loop (5 * i + 5) (X := Y) (N := 4) (fun q x k hk hx hq hn2 => hY _ _ _ ⟨fun _ => ⟨by rw [len1]; omega, ?_⟩, fun c => absurd (show (k : Int) < 4 by omega) c⟩) (nb y) z y _ hz hy32 (by rw [List.length_append, List.length_singleton]; omega) (fun _ _ => trivial) (fun w => hY _ _ _ ⟨fun c => absurd c (by omega), fun _ => ?_⟩)
    · rw [tmod8, u8wrap, Nat.mod_mod, show (256 : Int) = ((256 : Nat) : Int) from rfl, tdivN _ _ (by omega), w1 (by omega)]; exact hn2
    · rw [List.append_assoc]
      rw [oneB, show 4 - nb y = z by omega] at hn; exact hn
  have wz : ∀ z : Nat, z ≤ 4 → IntKind.u8.wrap (z : Int) = (z : Int) := fun z hz => by rw [u8wrap]; omega
  have q3 : y < 256 → Z ((3 : Nat) : Int) ((1 : Nat) : Int) := fun hy3 => by
    refine hZ _ _ ⟨fun _ => ⟨by decide, ?_⟩, fun c => absurd (by decide) c⟩
    rw [tdivN _ _ (by omega), Nat.div_one]
    refine ⟨fun c => ⟨fun _ => ⟨by rw [len1]; omega, ?_⟩, fun c2 => absurd rfl c2⟩, fun c => ⟨by rw [len1]; omega, ?_⟩⟩
    · rw [w1 (by decide), wz 4 (by decide)]
      exact fin 4 (by unfold nb; rw [if_pos (by omega)])
    · rw [wz 3 (by decide)]
      exact fin 3 (by unfold nb; rw [if_neg (by omega), if_pos (by omega)])
  have q2 : y < 65536 → Z ((2 : Nat) : Int) ((256 : Nat) : Int) := fun hy3 => by
    refine hZ _ _ ⟨fun _ => ⟨by decide, ?_⟩, fun c => absurd (by decide) c⟩
    rw [tdivN _ _ (by omega), w1 (by decide), show IntKind.i64.wrap (Int.tdiv ((256 : Nat) : Int) 256) = ((1 : Nat) : Int) by decide]
    refine ⟨fun c => ⟨fun c2 => absurd c2 (by decide), fun _ => q3 (by omega)⟩, fun c => ⟨by rw [len1]; omega, ?_⟩⟩
    rw [wz 2 (by decide)]
    exact fin 2 (by unfold nb; rw [if_neg (by omega), if_neg (by omega), if_pos (by omega)])
  have q1 : y < 16777216 → Z ((1 : Nat) : Int) ((65536 : Nat) : Int) := fun hy3 => by
    refine hZ _ _ ⟨fun _ => ⟨by decide, ?_⟩, fun c => absurd (by decide) c⟩
    rw [tdivN _ _ (by omega), w1 (by decide), show IntKind.i64.wrap (Int.tdiv ((65536 : Nat) : Int) 256) = ((256 : Nat) : Int) by decide]
    refine ⟨fun c => ⟨fun c2 => absurd c2 (by decide), fun _ => q2 (by omega)⟩, fun c => ⟨by rw [len1]; omega, ?_⟩⟩
    rw [wz 1 (by decide)]
    exact fin 1 (by unfold nb; rw [if_neg (by omega), if_neg (by omega), if_neg (by omega), if_pos (by omega)])
  show Z ((0 : Nat) : Int) ((16777216 : Nat) : Int)
  refine hZ _ _ ⟨fun _ => ⟨by decide, ?_⟩, fun c => absurd (by decide) c⟩
  rw [tdivN _ _ (by omega), w1 (by decide), show IntKind.i64.wrap (Int.tdiv ((16777216 : Nat) : Int) 256) = ((65536 : Nat) : Int) by decide]
  refine ⟨fun c => ⟨fun c2 => absurd c2 (by decide), fun _ => q1 (by omega)⟩, fun c => ⟨by rw [len1]; omega, ?_⟩⟩
  rw [wz 0 (by decide)]
  exact fin 0 (by unfold nb; rw [if_neg (by omega), if_neg (by omega), if_neg (by omega), if_neg (by omega)])

end Go.Proofs.Ytpeijfnfffogeaa.G

namespace Go.Proofs.Ytpeijfnfffogeaa.G
open Go Go.Ab
set_option maxRecDepth 100000
set_option linter.unusedVariables false
set_option linter.unusedSimpArgs false
set_option maxHeartbeats 1000000
theorem szFloat32S_wp {l : List Nat} {n : Int} {K : Int → Prop} (hl : l.length ≤ maxLen) (hn : 0 ≤ n ∧ n ≤ 2 ^ 40) (h0 : K (-1)) (h : (l.length : Int) ≤ n → K (n - (l.length : Int))) : laws_szFloat32S.wp l n K := by
  have hm : l.length < 2 ^ 63 := Nat.lt_of_le_of_lt hl (by decide)
  have e : IntKind.i64.wrap (n - (l.length : Int)) = n - (l.length : Int) := wI (by omega)
  refine ⟨fun c => h0, fun c => ?_⟩
  rw [e] at c ⊢; exact h (by omega)
theorem eqTake_wp {a : List UInt8} {k : Int} {l : List Nat} {K : Bool → Prop} (hl : l.length ≤ 2 ^ 20) (h : K true) : laws_eqTake.wp a k l a k l K :=
  tP rfl (tP rfl (eqFloat32S_wp hl (tT h)))
def btOk (a : List UInt8) (i : Nat) : Bool := !decide (bt a i < 97) && !decide (122 < bt a i)
def isNm (a : List UInt8) : Bool := (List.range a.length).all (btOk a) && decide (1 ≤ (a.length : Int) ∧ (a.length : Int) ≤ 8)
theorem range_get2 {n i : Nat} (h : i < (List.range n).length) : (List.range n)[i] = i := List.getElem_range h
theorem nm_yes {a : List UInt8} (h : (List.range a.length).all (btOk a) = true) : isNm a = decide (1 ≤ (a.length : Int) ∧ (a.length : Int) ≤ 8) := by rw [isNm, h]; rfl
theorem nm_no {a : List UInt8} (h : (List.range a.length).all (btOk a) = false) : isNm a = false := by rw [isNm, h]; rfl
theorem spec_l07Name_wp {a : List UInt8} {K : Bool → Prop} (ha : a.length ≤ 2 ^ 40) (h : K (isNm a)) : spec_l07Name.wp a K := by
  intro X hX
  refine all_loop (List.range a.length) (btOk a) (X := X) (T := K (decide (1 ≤ (a.length : Int) ∧ (a.length : Int) ≤ 8))) (F := K false) (fun i hi hh => ?_) (fun ht => hX _ ⟨fun c => absurd c (by rw [List.length_range]; omega), fun _ => ⟨fun h1 => ?_, fun h1 => ?_⟩⟩) (fun e => by rw [nm_yes e] at h; exact h) (fun e => by rw [nm_no e] at h; exact h)
  · rw [range_get2] at hh; rw [List.length_range] at hi
    refine hX _ ⟨fun _ => ⟨⟨by omega, by omega⟩, ?_⟩, fun c => absurd (show (i : Int) < a.length by omega) c⟩
    rw [w1 (by omega)]
    refine ⟨fun c1 => hh.2 (by rw [btOk, decide_eq_true c1]; rfl), fun c1 => ⟨fun c2 => hh.2 (by rw [btOk, decide_eq_true c2, Bool.not_true, Bool.and_false]), fun c2 => hh.1 (by rw [btOk, decide_eq_false c1, decide_eq_false c2]; rfl)⟩⟩
  · rw [show decide (1 ≤ (a.length : Int) ∧ (a.length : Int) ≤ 8) = decide ((a.length : Int) ≤ 8) by simp [h1]] at ht; exact ht
  · rw [show decide (1 ≤ (a.length : Int) ∧ (a.length : Int) ≤ 8) = false by simp [h1]] at ht; exact ht
theorem impl_IsName_wp {a : List UInt8} {K : Bool → Prop} (ha : a.length ≤ 2 ^ 40) (h : K (isNm a)) : impl_IsName.wp a K := by
  intro X hX
  refine all_loop (List.range a.length) (btOk a) (X := X) (T := K (decide (1 ≤ (a.length : Int) ∧ (a.length : Int) ≤ 8))) (F := K false) (fun i hi hh => ?_) (fun ht => hX _ ⟨fun c => absurd c (by rw [List.length_range]; omega), fun _ => ⟨fun h1 => ?_, fun h1 => ?_⟩⟩) (fun e => by rw [nm_yes e] at h; exact h) (fun e => by rw [nm_no e] at h; exact h)
  · rw [range_get2] at hh; rw [List.length_range] at hi
    refine hX _ ⟨fun _ => ⟨⟨by omega, by omega⟩, ?_⟩, fun c => absurd (show (i : Int) < a.length by omega) c⟩
    rw [w1 (by omega)]
    refine ⟨fun c1 => hh.2 (by rw [btOk, decide_eq_true c1]; rfl), fun c1 => ⟨fun c2 => hh.2 (by rw [btOk, decide_eq_true c2, Bool.not_true, Bool.and_false]), fun c2 => hh.1 (by rw [btOk, decide_eq_false c1, decide_eq_false c2]; rfl)⟩⟩
  · rw [show decide (1 ≤ (a.length : Int) ∧ (a.length : Int) ≤ 8) = decide ((a.length : Int) ≤ 8) by simp [h1]] at ht; exact ht
  · rw [show decide (1 ≤ (a.length : Int) ∧ (a.length : Int) ≤ 8) = false by simp [h1]] at ht; exact ht
def isVals (l : List Nat) : Bool := decide (1 ≤ (l.length : Int) ∧ (l.length : Int) ≤ 128)
theorem spec_l07Values_wp {l : List Nat} {K : Bool → Prop} (h : K (isVals l)) : spec_l07Values.wp l K := by
  unfold isVals at h
  refine ⟨fun h1 => ?_, fun h1 => ?_⟩
  · rw [show decide (1 ≤ (l.length : Int) ∧ (l.length : Int) ≤ 128) = decide ((l.length : Int) ≤ 128) by simp [h1]] at h; exact h
  · rw [show decide (1 ≤ (l.length : Int) ∧ (l.length : Int) ≤ 128) = false by simp [h1]] at h; exact h
def isTk (a : List UInt8) (k : Int) (l : List Nat) : Bool := isNm a && decide (1 ≤ k ∧ k ≤ 65535) && isVals l
theorem spec_l07Take_wp {a : List UInt8} {k : Int} {l : List Nat} {K : Bool → Prop} (ha : a.length ≤ 2 ^ 40) (h : K (isTk a k l)) : spec_l07Take.wp a k l K := by
  refine spec_l07Name_wp ha ⟨fun h1 => spec_l00In_wp ⟨fun h2 => spec_l07Values_wp ?_, fun h2 => ?_⟩, fun h1 => ?_⟩
  · rw [isTk, h1, h2] at h; exact h
  · rw [isTk, h1, h2] at h; exact h
  · rw [isTk, h1] at h; exact h
theorem impl_ValidTake_wp {a : List UInt8} {k : Int} {l : List Nat} {K : Bool → Prop} (ha : a.length ≤ 2 ^ 40) (h : K (isTk a k l)) : impl_ValidTake.wp a k l K := by
  refine impl_IsName_wp ha ⟨fun h1 => impl_within_wp ⟨fun h2 => impl_within_wp ?_, fun h2 => ?_⟩, fun h1 => ?_⟩
  · rw [isTk, h1, h2] at h; exact h
  · rw [isTk, h1, h2] at h; exact h
  · rw [isTk, h1] at h; exact h

end Go.Proofs.Ytpeijfnfffogeaa.G

namespace Go.Proofs.Ytpeijfnfffogeaa.G
open Go Go.Ab
set_option maxRecDepth 100000
set_option linter.unusedVariables false
set_option linter.unusedSimpArgs false
set_option maxHeartbeats 1000000
theorem nums_len (l : List UInt8) : (nums l).length = l.length := by simp [nums]
theorem byts_len (l : List Int) : (byts l).length = l.length := by simp [byts]
def chkTo : List UInt8 → Nat → Nat
  | [], n => n
  | c :: l, n => chkTo l ((853 * n + c.toNat + 139) % 65003)
theorem chkTo_lt : ∀ (l : List UInt8) (n : Nat), n < 65003 → chkTo l n < 65003
  | [], n, h => h
  | c :: l, n, h => chkTo_lt l _ (Nat.mod_lt _ (by decide))
theorem chk_loop (a : List UInt8) {X : Int → Int → Prop} (hX : ∀ n i : Nat, n < 65003 → ∀ hi : i < a.length, X (((853 * n + (a[i]).toNat + 139) % 65003 : Nat) : Int) ((i + 1 : Nat) : Int) → X n i) (n : Nat) (hn : n < 65003) (hend : X (chkTo a n : Nat) (a.length : Int)) : X (n : Int) ((0 : Nat) : Int) := by
  have key : ∀ (m i n : Nat), m + i = a.length → n < 65003 → chkTo (a.drop i) n = chkTo a (chkTo [] 0 + 0) ∨ True → X (chkTo (a.drop i) n : Nat) (a.length : Int) → X (n : Int) (i : Int) := by
    intro m
    induction m with
    | zero => intro i n h1 h2 _ h3
              obtain rfl : i = a.length := by omega
              rw [List.drop_length] at h3; exact h3
    | succ m ih =>
      intro i n h1 h2 _ h3
      have hi : i < a.length := by omega
      rw [dropC hi] at h3
      exact hX n i h2 hi (ih (i + 1) _ (by omega) (Nat.mod_lt _ (by decide)) (.inr trivial) h3)
  exact key a.length 0 n (by omega) hn (.inr trivial) hend
theorem chk_step (n b : Nat) (hn : n < 65003) (hb : b < 256) : Int.tmod (IntKind.i64.wrap ((IntKind.i64.wrap ((IntKind.i64.wrap (853 * (n : Int))) + (IntKind.i64.wrap ((b : Nat) : Int)))) + 139)) 65003 = ((((853 * n + b + 139) % 65003 : Nat)) : Int) := by
  rw [wI (n := 853 * (n : Int)) (by omega), wI (n := (b : Int)) (by omega), wI (n := 853 * (n : Int) + (b : Int)) (by omega), wI (n := 853 * (n : Int) + (b : Int) + 139) (by omega), Int.tmod_eq_emod_of_nonneg (by omega)]
  omega
theorem bt_at {a : List UInt8} {i : Nat} (hi : i < a.length) : bt a (i : Int) = ((a[i]).toNat : Int) := by
  unfold bt; rw [nn, gD hi]
theorem spec_l01Check_wp {n : Nat} {a : List UInt8} {K : Int → Prop} (ha : a.length ≤ 2 ^ 40) (hn : n < 65003) (h : K (chkTo a n : Nat)) : spec_l01Check.wp (n : Int) a K := by
  intro X hX
  refine chk_loop a (X := X) (fun n i hn hi h2 => hX _ _ ⟨fun _ => ⟨⟨by omega, by omega⟩, ?_⟩, fun c => absurd (show (i : Int) < a.length by omega) c⟩) n hn (hX _ _ ⟨fun c => absurd c (by omega), fun _ => h⟩)
  rw [bt_at hi, chk_step n _ hn (UInt8.toNat_lt _), w1 (by omega)]; exact h2
theorem impl_CheckOf_wp {n : Nat} {a : List UInt8} {K : Int → Bool → Prop} (ha : a.length ≤ 2 ^ 40) (hn : n < 65003) (h : K (chkTo a n : Nat) true) : impl_CheckOf.wp (n : Int) a K := by
  refine impl_within_wp (tE (decide_eq_true (by omega)) fun X hX => ?_)
  refine chk_loop a (X := X) (fun n i hn hi h2 => hX _ _ ⟨fun _ => ⟨⟨by omega, by omega⟩, ?_⟩, fun c => absurd (show (i : Int) < a.length by omega) c⟩) n hn (hX _ _ ⟨fun c => absurd c (by omega), fun _ => h⟩)
  rw [bt_at hi, chk_step n _ hn (UInt8.toNat_lt _), w1 (by omega)]; exact h2
def loB (k : Nat) : List Int := [((k % 256 : Nat) : Int), ((k / 256 % 256 : Nat) : Int)]
theorem loB_s (k : Nat) (hk : k < 2 ^ 40) : [(IntKind.u8.wrap (Int.tmod (k : Int) 256)), (IntKind.u8.wrap (IntKind.i64.wrap (Int.tdiv (k : Int) 256)))] = loB k := by
  rw [tmod8, u8wrap, Nat.mod_mod, show (256 : Int) = ((256 : Nat) : Int) from rfl, tdivN _ _ hk, u8wrap]; rfl
theorem loB_i (k : Nat) : [(IntKind.u8.wrap (k : Int)), (IntKind.u8.wrap (Int.fdiv (k : Int) (2 ^ (min (8 : Int).toNat IntKind.i64.bits))))] = loB k := by
  rw [fdiv8, u8wrap, u8wrap]; rfl
theorem loB_len (k : Nat) : (loB k).length = 2 := rfl
def stBody (a : List UInt8) (k : Nat) (l : List Nat) : List Int := ((([84, 65, 75, 49] ++ [((a.length % 256 : Nat) : Int)]) ++ nums a) ++ (loB k ++ loB (packL l).length)) ++ nums (packL l)
def storeL (a : List UInt8) (k : Nat) (l : List Nat) : List UInt8 := byts (stBody a k l ++ loB (chkTo (byts (stBody a k l)) 0))
theorem packTo_len : ∀ (l : List Nat) (b : Nat), (packTo l b).length ≤ 5 * l.length
  | [], _ => Nat.le_refl _
  | x :: l, b => by
    have h1 := packTo_len l (bitsN x)
    have h2 := oneB_len (bitsN x ^^^ b)
    rw [packTo, List.length_append, List.length_cons]; omega
theorem packL_len (l : List Nat) : (packL l).length ≤ 5 * l.length := by rw [packL, byts_len]; exact packTo_len l 0
theorem stBody_len (a : List UInt8) (k : Nat) (l : List Nat) : (stBody a k l).length ≤ 9 + a.length + 5 * l.length := by
  have := packL_len l
  simp only [stBody, List.length_append, nums_len, loB_len, List.length_cons, List.length_nil]; omega
theorem storeL_len (a : List UInt8) (k : Nat) (l : List Nat) : (storeL a k l).length ≤ 11 + a.length + 5 * l.length := by
  have := stBody_len a k l
  rw [storeL, byts_len, List.length_append, loB_len]; omega
theorem lB_app (k m : Nat) : loB k ++ loB m = [((k % 256 : Nat) : Int), ((k / 256 % 256 : Nat) : Int), ((m % 256 : Nat) : Int), ((m / 256 % 256 : Nat) : Int)] := rfl
theorem four_s (k m : Nat) (hk : k < 2 ^ 40) (hm : m < 2 ^ 40) : [(IntKind.u8.wrap (Int.tmod (k : Int) 256)), (IntKind.u8.wrap (IntKind.i64.wrap (Int.tdiv (k : Int) 256))), (IntKind.u8.wrap (Int.tmod (m : Int) 256)), (IntKind.u8.wrap (IntKind.i64.wrap (Int.tdiv (m : Int) 256)))] = loB k ++ loB m := by
  rw [← loB_s k hk, ← loB_s m hm]; rfl
theorem spec_l07Store_wp {a : List UInt8} {k : Nat} {l : List Nat} {K : List UInt8 → Prop} (ha : a.length ≤ 8) (hk : k < 2 ^ 16) (hl : l.length ≤ 128) (hw : ∀ x ∈ l, x < 2 ^ 32) (h : K (storeL a k l)) : spec_l07Store.wp a (k : Int) l K := by
  have hp := packL_len l
  have hb := stBody_len a k l
  have hc := chkTo_lt (byts (stBody a k l)) 0 (by decide)
  refine ⟨by decide, by simp only [List.length_cons, List.length_nil]; decide, ?_, spec_l07Pack_wp (by omega) hw ⟨?_, ?_, ?_⟩⟩
  · simp only [List.length_append, nums_len, List.length_cons, List.length_nil]; omega
  · simp only [List.length_append, nums_len, List.length_cons, List.length_nil]; omega
  · simp only [List.length_append, nums_len, List.length_cons, List.length_nil]; omega
  · rw [four_s k _ (by omega) (by omega), u8wrap]
    rw [show ((((([84, 65, 75, 49] : List Int) ++ ([((a.length % 256 : Nat) : Int)] : List Int)) ++ nums a) ++ (loB k ++ loB (packL l).length)) ++ nums (packL l)) = stBody a k l from rfl]
    refine spec_l01Check_wp (n := 0) (by rw [byts_len]; omega) (by decide) ⟨?_, ?_⟩
    · simp only [List.length_append, List.length_cons, List.length_nil]; omega
    · rw [loB_s _ (by omega)]; exact h
theorem impl_lowBytes_wp {k : Nat} {K : List Int → Prop} (h : K (loB k)) : impl_lowBytes.wp (k : Int) K := by
  unfold impl_lowBytes.wp
  rw [loB_i]; exact h

end Go.Proofs.Ytpeijfnfffogeaa.G

namespace Go.Proofs.Ytpeijfnfffogeaa.G
open Go Go.Ab
set_option maxRecDepth 100000
set_option linter.unusedVariables false
set_option linter.unusedSimpArgs false
set_option maxHeartbeats 1000000
theorem impl_StoreTake_wp {a : List UInt8} {k : Int} {l : List Nat} {K : List UInt8 → Bool → Prop} (ha : a.length ≤ 2 ^ 20) (hl : l.length ≤ 2 ^ 20) (hw : ∀ x ∈ l, x < 2 ^ 32) (h : K (if isTk a k l = true then storeL a k.toNat l else []) (isTk a k l)) : impl_StoreTake.wp a k l K := by
  refine impl_ValidTake_wp (by omega) ⟨fun h1 => ?_, fun h1 => by rw [h1, if_neg (by decide)] at h; exact h⟩
  rw [h1, if_pos rfl] at h
  simp only [isTk, isNm, isVals, Bool.and_eq_true, decide_eq_true_eq] at h1
  obtain ⟨kn, rfl⟩ : ∃ kn : Nat, k = kn := ⟨k.toNat, by omega⟩
  have hp := packL_len l
  have hb := stBody_len a kn l
  have hc := chkTo_lt (byts (stBody a kn l)) 0 (by decide)
  refine impl_packed_wp hl hw ⟨by decide, by simp only [List.length_cons, List.length_nil]; decide, ?_, impl_lowBytes_wp ⟨?_, impl_lowBytes_wp ⟨?_, ?_, ?_⟩⟩⟩
  · simp only [List.length_append, List.length_cons, List.length_nil]; omega
  · simp only [List.length_append, nums_len, loB_len, List.length_cons, List.length_nil]; omega
  · simp only [List.length_append, nums_len, loB_len, List.length_cons, List.length_nil]; omega
  · simp only [List.length_append, nums_len, loB_len, List.length_cons, List.length_nil]; omega
  · rw [u8wrap]
    rw [show (((((([84, 65, 75, 49] : List Int) ++ ([((a.length % 256 : Nat) : Int)] : List Int)) ++ nums a) ++ loB kn) ++ loB (packL l).length) ++ nums (packL l)) = stBody a kn l by rw [stBody, List.append_assoc _ (loB kn)]]
    refine impl_CheckOf_wp (n := 0) (by rw [byts_len]; omega) (by decide) (impl_lowBytes_wp ⟨?_, ?_⟩)
    · simp only [List.length_append, loB_len]; omega
    · exact h

end Go.Proofs.Ytpeijfnfffogeaa.G

namespace Go.Proofs.Ytpeijfnfffogeaa.G
open Go Go.Ab
set_option maxRecDepth 100000
set_option linter.unusedVariables false
set_option linter.unusedSimpArgs false
set_option maxHeartbeats 1000000
abbrev Tk := List UInt8 × Int × List Nat
def tk0 : Tk := (([] : List UInt8), (0 : Int), ([] : List Nat))
/-- What a law is handed. -/
def TkIn (l : List Tk) : Prop := ∀ z ∈ l, z.1.length ≤ maxLen ∧ z.2.2.length ≤ maxLen ∧ (∀ y ∈ z.2.2, y < 2 ^ 32) ∧ True
/-- What is small. -/
def TkOk (l : List Tk) : Prop := l.length ≤ 2 ^ 20 ∧ ∀ z ∈ l, z.1.length ≤ 2 ^ 20 ∧ z.2.2.length ≤ 2 ^ 20 ∧ ∀ y ∈ z.2.2, y < 2 ^ 32
theorem eqTakeS_wp {l : List Tk} {K : Bool → Prop} (hl : TkOk l) (h : K true) : laws_eqTakeS.wp l l K := by
  obtain ⟨hl, hz⟩ := hl
  refine tP rfl fun X hX => ?_
  refine up (Y := fun i => X (i : Int)) l.length ?_ fun i hi hn => ?_
  · exact hX _ ⟨fun c => absurd c (by omega), fun _ => h⟩
  · refine hX _ ⟨fun _ => ⟨⟨by omega, by omega⟩, ⟨by omega, by omega⟩, ?_⟩, fun c => absurd (show (i : Int) < l.length by omega) c⟩
    rw [nn, gD hi, w1 (by omega)]
    exact eqTake_wp (hz _ (List.getElem_mem hi)).2.1 (tT hn)

end Go.Proofs.Ytpeijfnfffogeaa.G

namespace Go.Proofs.Ytpeijfnfffogeaa.G
open Go Go.Ab
set_option maxRecDepth 100000
set_option linter.unusedVariables false
set_option linter.unusedSimpArgs false
set_option maxHeartbeats 1000000
def bN (a : List UInt8) (i : Nat) : Nat := (a.getD i 0).toNat
theorem bt_nat (a : List UInt8) (i : Nat) : bt a (i : Int) = (bN a i : Int) := rfl
theorem bN_lt (a : List UInt8) (i : Nat) : bN a i < 256 := UInt8.toNat_lt _
/-- A number from its bytes, the lowest first. -/
def lowN (a : List UInt8) : Nat → Nat → Nat
  | _, 0 => 0
  | s, n + 1 => bN a s + 256 * lowN a (s + 1) n
theorem lowN_lt (a : List UInt8) : ∀ n s, lowN a s n < 256 ^ n
  | 0, _ => by simp [lowN]
  | n + 1, s => by
    have h1 := lowN_lt a n (s + 1)
    have h2 := bN_lt a s
    rw [lowN, Nat.pow_succ]; omega
theorem lowN_lt4 (a : List UInt8) (n s : Nat) (h : n ≤ 4) : lowN a s n < 2 ^ 32 := by
  have h1 := lowN_lt a n s
  have h2 : 256 ^ n ≤ 256 ^ 4 := Nat.pow_le_pow_right (by decide) h
  have h3 : (256 : Nat) ^ 4 = 2 ^ 32 := by decide
  omega
theorem lowN_sub {a : List UInt8} {s m : Nat} (h : s + m ≤ a.length) : ∀ n i, i + n = m → lowN ((a.drop s).take m) i n = lowN a (s + i) n
  | 0, _, _ => rfl
  | n + 1, i, hi => by
    rw [lowN, lowN, lowN_sub h n (i + 1) (by omega)]
    have : bN ((a.drop s).take m) i = bN a (s + i) := by
      unfold bN
      rw [List.getD_eq_getElem?_getD, List.getD_eq_getElem?_getD, List.getElem?_take, if_pos (by omega), List.getElem?_drop]
    rw [this, Nat.add_assoc]
theorem impl_lowNumber_wp {c : List UInt8} {K : Int → Prop} (hc : c.length ≤ 4) (h : K (lowN c 0 c.length : Nat)) : impl_lowNumber.wp c K := by
  intro X hX
  have key := up (Y := fun m => m ≤ c.length → X (lowN c (c.length - m) m : Nat) ((c.length : Int) - m - 1)) c.length (fun _ => ?_) (fun m hm hn _ => ?_)
  · have := key (by omega)
    rw [wI (by omega)]
    rw [lowN, show ((c.length : Int) - ((0 : Nat) : Int) - 1) = (c.length : Int) - 1 by omega] at this
    exact this
  · refine hX _ _ ⟨fun c2 => absurd c2 (by omega), fun _ => ?_⟩
    rw [Nat.sub_self]; exact h
  · have hn := hn (by omega)
    have e : (c.length : Int) - (m : Int) - 1 = ((c.length - (m + 1) : Nat) : Int) := by omega
    rw [e]
    refine hX _ _ ⟨fun _ => ⟨⟨by omega, by omega⟩, ?_⟩, fun c2 => absurd (show (0 : Int) ≤ ((c.length - (m + 1) : Nat) : Int) by omega) c2⟩
    have hb := bN_lt c (c.length - (m + 1))
    have hl := lowN_lt c m (c.length - m)
    have h2 : 256 ^ m ≤ 256 ^ 3 := Nat.pow_le_pow_right (by decide) (by omega)
    have h3 : (256 : Nat) ^ 3 = 2 ^ 24 := by decide
    rw [bt_nat, p8]
    have e1 : IntKind.i64.wrap (((lowN c (c.length - m) m : Nat) : Int) * 256) = ((lowN c (c.length - m) m * 256 : Nat) : Int) := by rw [wI (by omega)]; omega
    have e2 : IntKind.i64.wrap ((bN c (c.length - (m + 1)) : Nat) : Int) = ((bN c (c.length - (m + 1)) : Nat) : Int) := wI (by omega)
    have e3 : IntKind.i64.wrap (((c.length - (m + 1) : Nat) : Int) - 1) = (c.length : Int) - ((m + 1 : Nat) : Int) - 1 := by rw [wI (by omega)]; omega
    rw [e1, e2, e3, ior (by omega) (by omega)]
    have e4 : lowN c (c.length - m) m * 256 ||| bN c (c.length - (m + 1)) = lowN c (c.length - (m + 1)) (m + 1) := by
      have := Nat.two_pow_add_eq_or_of_lt (i := 8) hb (lowN c (c.length - m) m)
      rw [show (2 : Nat) ^ 8 = 256 from rfl, Nat.mul_comm 256] at this
      rw [← this, lowN, show c.length - (m + 1) + 1 = c.length - m by omega, Nat.mul_comm 256]; omega
    rw [e4]; exact hn
theorem impl_FromBits_wp {n : Nat} {K : Nat → Bool → Prop} (hn : n < 2 ^ 32) (h : K (cz .f32 n) true) : impl_FromBits.wp (n : Int) K := by
  refine impl_within_wp (tE (decide_eq_true (by omega)) ?_)
  show K (cz .f32 (IntKind.u32.wrap (n : Int)).toNat) true
  have : IntKind.u32.wrap (n : Int) = (n : Int) := by show (n : Int) % 4294967296 = _; omega
  rw [this]; exact h
theorem spec_l01From_wp {n : Nat} {K : Nat → Prop} (hn : n < 2 ^ 32) (h : K (cz .f32 n)) : spec_l01From.wp (n : Int) K := by
  show K (cz .f32 (IntKind.u32.wrap (n : Int)).toNat)
  have : IntKind.u32.wrap (n : Int) = (n : Int) := by show (n : Int) % 4294967296 = _; omega
  rw [this]; exact h
theorem cz_lt {n : Nat} (h : n < 2 ^ 32) : cz .f32 n < 2 ^ 32 := by
  unfold cz; split
  · decide
  · exact h
def unp (a : List UInt8) : Nat → Nat → Nat → List Nat → Option (List Nat)
  | 0, _, _, _ => none
  | f + 1, i, b, o => if i < a.length then (if 4 < bN a i then none else if a.length < i + 5 - bN a i then none else if o.length = 128 then none else unp a f (i + 5 - bN a i) (b ^^^ lowN a (i + 1) (4 - bN a i)) (o ++ [cz .f32 (b ^^^ lowN a (i + 1) (4 - bN a i))])) else if o.length = 0 then none else if packL o = a then some o else none
theorem unp_len (a : List UInt8) : ∀ f i b o, o.length ≤ 128 → ∀ r, unp a f i b o = some r → r.length ≤ 128
  | 0, _, _, _, _, r, h => by cases h
  | f + 1, i, b, o, ho, r, h => by
    rw [unp] at h
    split at h
    · split at h
      · cases h
      · split at h
        · cases h
        · split at h
          · cases h
          · exact unp_len a f _ _ _ (by rw [List.length_append, List.length_singleton]; omega) r h
    · split at h
      · cases h
      · split at h
        · cases h; exact ho
        · cases h
def unpR (a : List UInt8) : Option (List Nat) := unp a (a.length + 1) 0 0 []
def endR (K : List Nat → Bool → Prop) : Option (List Nat) → Prop
  | some o => K o true
  | none => K [] false
/-- What both loops do. -/
theorem unp_loop (a : List UInt8) (ha : a.length ≤ 2 ^ 20) {K : List Nat → Bool → Prop} {X : List Nat → Int → Int → Prop}
    (hX : ∀ (o : List Nat) (b i : Nat), b < 2 ^ 32 → (∀ x ∈ o, x < 2 ^ 32) → o.length ≤ 128 → i ≤ a.length →
      (i < a.length → 4 < bN a i → K [] false) → (i < a.length → ¬ 4 < bN a i → a.length < i + 5 - bN a i → K [] false) →
      (i < a.length → ¬ 4 < bN a i → ¬ a.length < i + 5 - bN a i → o.length = 128 → K [] false) →
      (i < a.length → ¬ 4 < bN a i → ¬ a.length < i + 5 - bN a i → ¬ o.length = 128 → X (o ++ [cz .f32 (b ^^^ lowN a (i + 1) (4 - bN a i))]) ((b ^^^ lowN a (i + 1) (4 - bN a i) : Nat) : Int) ((i + 5 - bN a i : Nat) : Int)) →
      (¬ i < a.length → endR K (if o.length = 0 then none else if packL o = a then some o else none)) → X o (b : Int) (i : Int)) (h : endR K (unpR a)) : X [] ((0 : Nat) : Int) ((0 : Nat) : Int) := by
  have key : ∀ (f i b : Nat) (o : List Nat), a.length < f + i → b < 2 ^ 32 → (∀ x ∈ o, x < 2 ^ 32) → o.length ≤ 128 → i ≤ a.length → endR K (unp a f i b o) → X o (b : Int) (i : Int) := by
    intro f
    induction f with
    | zero => intro i b o h1 h2 h3 h4 h5; omega
    | succ f ih =>
      intro i b o h1 h2 h3 h4 h5 h6
      rw [unp] at h6
      have hx : b ^^^ lowN a (i + 1) (4 - bN a i) < 2 ^ 32 := Nat.xor_lt_two_pow h2 (lowN_lt4 a _ _ (by omega))
      refine hX o b i h2 h3 h4 h5 (fun c1 c2 => ?_) (fun c1 c2 c3 => ?_) (fun c1 c2 c3 c4 => ?_) (fun c1 c2 c3 c4 => ?_) (fun c1 => ?_)
      · rw [if_pos c1, if_pos c2] at h6; exact h6
      · rw [if_pos c1, if_neg c2, if_pos c3] at h6; exact h6
      · rw [if_pos c1, if_neg c2, if_neg c3, if_pos c4] at h6; exact h6
      · rw [if_pos c1, if_neg c2, if_neg c3, if_neg c4] at h6
        refine ih _ _ _ (by omega) hx (fun x hxx => ?_) (by rw [List.length_append, List.length_singleton]; omega) (by omega) h6
        rw [List.mem_append, List.mem_singleton] at hxx
        rcases hxx with hxx | rfl
        · exact h3 x hxx
        · exact cz_lt hx
      · rw [if_neg c1] at h6; exact h6
  exact key (a.length + 1) 0 0 [] (by omega) (by decide) (fun x hx => by cases hx) (by simp) (by omega) h
theorem impl_UnpackTake_wp {a : List UInt8} {K : List Nat → Bool → Prop} (ha : a.length ≤ 2 ^ 20) (h : endR K (unpR a)) : impl_UnpackTake.wp a K := by
  intro X hX
  refine unp_loop a ha (X := X) (fun o b i hb hw ho hi h1 h2 h3 h4 h5 => hX _ _ _ ⟨fun c => ?_, fun c => ?_⟩) h
  · have c : i < a.length := by omega
    have hbN := bN_lt a i
    refine ⟨⟨by omega, by omega⟩, ?_⟩
    rw [bt_nat, wI (show -9223372036854775808 ≤ ((bN a i : Nat) : Int) ∧ ((bN a i : Nat) : Int) < 9223372036854775808 by omega), wI (show -9223372036854775808 ≤ (i : Int) + 5 ∧ (i : Int) + 5 < 9223372036854775808 by omega), w1 (by omega)]
    refine ⟨fun c1 => h1 c (by omega), fun c1 => ?_⟩
    rw [show IntKind.i64.wrap ((i : Int) + 5 - ((bN a i : Nat) : Int)) = ((i + 5 - bN a i : Nat) : Int) by rw [wI (by omega)]; omega]
    refine ⟨fun c2 => h2 c (by omega) (by omega), fun c2 => ⟨fun c3 => h3 c (by omega) (by omega) (by omega), fun c3 => ⟨⟨by omega, by omega, by omega⟩, ?_⟩⟩⟩
    have h4 := h4 c (by omega) (by omega) (by omega)
    rw [nn, nn, show i + 5 - bN a i - (i + 1) = 4 - bN a i by omega]
    have hlen : ((a.drop (i + 1)).take (4 - bN a i)).length = 4 - bN a i := by rw [List.length_take, List.length_drop]; omega
    refine impl_lowNumber_wp (by rw [hlen]; omega) ?_
    rw [hlen, lowN_sub (by omega) _ 0 (by omega), Nat.add_zero, ixor hb (lowN_lt4 a _ _ (by omega))]
    refine impl_FromBits_wp (Nat.xor_lt_two_pow hb (lowN_lt4 a _ _ (by omega))) ⟨by rw [len1]; omega, h4⟩
  · have h5 := h5 (by omega)
    refine ⟨fun c1 => ?_, fun c1 => ?_⟩
    · rw [if_pos (by omega)] at h5; exact h5
    · rw [if_neg (by omega)] at h5
      refine impl_packed_wp (by omega) hw ⟨fun c2 => ?_, fun c2 => ?_⟩
      · rw [if_pos c2] at h5; exact h5
      · rw [if_neg c2] at h5; exact h5
/-- The bytes of one value, read upwards. -/
theorem up_bytes (a : List UInt8) {X : Int → Int → Int → Int → Prop} (hX : ∀ (s x sc k : Nat), k < 4 → s < a.length → x + bN a s * sc < 2 ^ 32 → sc * 256 ≤ 2 ^ 32 → X ((s + 1 : Nat) : Int) ((x + bN a s * sc : Nat) : Int) ((sc * 256 : Nat) : Int) ((k + 1 : Nat) : Int) → X s x sc k) : ∀ (n s x sc k : Nat), k + n = 4 → s + n ≤ a.length → x + sc * lowN a s n < 2 ^ 32 → sc * 256 ^ n ≤ 2 ^ 32 → (∀ t : Int, X ((s + n : Nat) : Int) ((x + sc * lowN a s n : Nat) : Int) t 4) → X s x sc k
  | 0, s, x, sc, k, h1, h2, h3, h4, h5 => by
    obtain rfl : k = 4 := by omega
    have := h5 sc
    rw [lowN, Nat.mul_zero, Nat.add_zero, Nat.add_zero] at this; exact this
  | n + 1, s, x, sc, k, h1, h2, h3, h4, h5 => by
    have e : sc * lowN a s (n + 1) = bN a s * sc + sc * 256 * lowN a (s + 1) n := by
      rw [lowN, Nat.mul_add, Nat.mul_comm sc, ← Nat.mul_assoc]
    have hp : sc * 256 ^ (n + 1) = sc * 256 * 256 ^ n := by rw [Nat.pow_succ, Nat.mul_comm (256 ^ n), ← Nat.mul_assoc]
    have hp1 : sc * 256 ≤ sc * 256 * 256 ^ n := Nat.le_mul_of_pos_right _ (Nat.pow_pos (by decide))
    rw [e] at h3
    refine hX s x sc k (by omega) (by omega) (by omega) (by omega) (up_bytes a hX n (s + 1) _ _ (k + 1) (by omega) (by omega) (by omega) (by omega) fun t => ?_)
    have := h5 t
    rw [e] at this
    rw [show s + 1 + n = s + (n + 1) by omega, Nat.add_assoc x]; exact this
theorem spec_l07Unpack_wp {a : List UInt8} {K : List Nat → Bool → Prop} (ha : a.length ≤ 2 ^ 20) (h : endR K (unpR a)) : spec_l07Unpack.wp a K := by
  intro X hX
  have last : ∀ o : List Nat, o.length ≤ 128 → (∀ x ∈ o, x < 2 ^ 32) → endR K (if o.length = 0 then none else if packL o = a then some o else none) → spec_l07Values.wp o fun y176 => ((y176 = true → spec_l07Pack.wp o fun y179 => ((y179 = a → K (o) (true)) ∧ (¬(y179 = a) → K ([] : List (Nat)) (false)))) ∧ (y176 = false → K ([] : List (Nat)) (false))) := by
    intro o ho hw h5
    refine spec_l07Values_wp ⟨fun c => ?_, fun c => ?_⟩
    · have c := of_decide_eq_true c
      rw [if_neg (by omega)] at h5
      refine spec_l07Pack_wp (by omega) hw ⟨fun c2 => ?_, fun c2 => ?_⟩
      · rw [if_pos c2] at h5; exact h5
      · rw [if_neg c2] at h5; exact h5
    · have c := of_decide_eq_false c
      rw [if_pos (by omega)] at h5; exact h5
  refine unp_loop a ha (X := X) (fun o b i hb hw ho hi h1 h2 h3 h4 h5 => hX _ _ _ ⟨fun c => ⟨fun c0 => ?_, fun c0 => absurd (show (o.length : Int) ≤ 128 by omega) c0⟩, fun c => last o ho hw (h5 (by omega))⟩) h
  have c : i < a.length := by omega
  have hbN := bN_lt a i
  refine ⟨⟨by omega, by omega⟩, ?_⟩
  rw [bt_nat, wI (show -9223372036854775808 ≤ ((bN a i : Nat) : Int) ∧ ((bN a i : Nat) : Int) < 9223372036854775808 by omega), w1 (by omega), wI (show -9223372036854775808 ≤ ((i + 1 : Nat) : Int) + 4 ∧ ((i + 1 : Nat) : Int) + 4 < 9223372036854775808 by omega)]
  refine ⟨fun c1 => h1 c (by omega), fun c1 => ?_⟩
  rw [show IntKind.i64.wrap (((i + 1 : Nat) : Int) + 4 - ((bN a i : Nat) : Int)) = ((i + 5 - bN a i : Nat) : Int) by rw [wI (by omega)]; omega]
  refine ⟨fun c2 => h2 c (by omega) (by omega), fun c2 => ?_⟩
  intro Y hY
  have hx : b ^^^ lowN a (i + 1) (4 - bN a i) < 2 ^ 32 := Nat.xor_lt_two_pow hb (lowN_lt4 a _ _ (by omega))
  refine up_bytes a (X := Y) (fun s x sc k hk hs hx2 hsc hn => hY _ _ _ _ ⟨fun _ => ⟨⟨by omega, by omega⟩, ?_⟩, fun c3 => absurd (show (k : Int) < 4 by omega) c3⟩) (4 - bN a i) (i + 1) 0 1 (bN a i) (by omega) (by omega) (by have := lowN_lt4 a (4 - bN a i) (i + 1) (by omega); omega) ?_ (fun t => hY _ _ _ _ ⟨fun c3 => absurd c3 (by decide), fun _ => ?_⟩)
  · have hs2 := bN_lt a s
    generalize hg : bN a s * sc = g at hx2 hn
    rw [bt_nat, wI (show -9223372036854775808 ≤ ((bN a s : Nat) : Int) ∧ ((bN a s : Nat) : Int) < 9223372036854775808 by omega), w1 (by omega), w1 (by omega), show ((bN a s : Nat) : Int) * (sc : Int) = (g : Int) by rw [← hg]; rfl, wI (show -9223372036854775808 ≤ (g : Int) ∧ (g : Int) < 9223372036854775808 by omega), show IntKind.i64.wrap ((x : Int) + (g : Int)) = ((x + g : Nat) : Int) by rw [wI (by omega)]; omega, show IntKind.i64.wrap ((sc : Int) * 256) = ((sc * 256 : Nat) : Int) by rw [wI (by omega)]; omega]
    exact hn
  · rw [Nat.one_mul]
    have h2 : 256 ^ (4 - bN a i) ≤ 256 ^ 4 := Nat.pow_le_pow_right (by decide) (by omega)
    have h3 : (256 : Nat) ^ 4 = 2 ^ 32 := by decide
    omega
  · rw [Nat.one_mul, Nat.zero_add, ixor hb (lowN_lt4 a _ _ (by omega)), show i + 1 + (4 - bN a i) = i + 5 - bN a i by omega]
    refine spec_l01From_wp hx ⟨by rw [len1]; omega, ?_⟩
    by_cases c4 : o.length = 128
    · have h3 := h3 c (by omega) (by omega) c4
      have hlen : (o ++ [cz .f32 (b ^^^ lowN a (i + 1) (4 - bN a i))]).length = 129 := by rw [List.length_append, List.length_singleton]; omega
      have hno : spec_l07Values.wp (o ++ [cz .f32 (b ^^^ lowN a (i + 1) (4 - bN a i))]) fun y176 => ((y176 = true → spec_l07Pack.wp (o ++ [cz .f32 (b ^^^ lowN a (i + 1) (4 - bN a i))]) fun y179 => ((y179 = a → K ((o ++ [cz .f32 (b ^^^ lowN a (i + 1) (4 - bN a i))])) (true)) ∧ (¬(y179 = a) → K ([] : List (Nat)) (false)))) ∧ (y176 = false → K ([] : List (Nat)) (false))) :=
        spec_l07Values_wp (tG (decide_eq_false (by rw [hlen]; omega)) h3)
      exact hX _ _ _ ⟨fun _ => ⟨fun c5 => absurd c5 (by rw [hlen]; decide), fun _ => hno⟩, fun _ => hno⟩
    · exact h4 c (by omega) (by omega) c4

end Go.Proofs.Ytpeijfnfffogeaa.G

namespace Go.Proofs.Ytpeijfnfffogeaa.G
open Go Go.Ab
set_option maxRecDepth 100000
set_option linter.unusedVariables false
set_option linter.unusedSimpArgs false
set_option maxHeartbeats 1000000
theorem unp_lt (a : List UInt8) : ∀ f i b o, b < 2 ^ 32 → (∀ x ∈ o, x < 2 ^ 32) → ∀ r, unp a f i b o = some r → ∀ x ∈ r, x < 2 ^ 32
  | 0, _, _, _, _, _, r, h => by cases h
  | f + 1, i, b, o, hb, ho, r, h => by
    rw [unp] at h
    split at h
    · split at h
      · cases h
      · split at h
        · cases h
        · split at h
          · cases h
          · have hx : b ^^^ lowN a (i + 1) (4 - bN a i) < 2 ^ 32 := Nat.xor_lt_two_pow hb (lowN_lt4 a _ _ (by omega))
            exact unp_lt a f _ _ _ hx (fun x hx' => by
              rcases List.mem_append.1 hx' with h' | h'
              · exact ho x h'
              · rw [List.mem_singleton.1 h']; exact cz_lt hx) r h
    · split at h
      · cases h
      · split at h
        · cases h; exact ho
        · cases h
theorem unpR_lt {a : List UInt8} {r : List Nat} (h : unpR a = some r) : ∀ x ∈ r, x < 2 ^ 32 := unp_lt a _ _ _ _ (by decide) (fun x hx => by cases hx) r h
theorem unpR_len {a : List UInt8} {r : List Nat} (h : unpR a = some r) : r.length ≤ 128 := unp_len a _ _ _ _ (by simp) r h
/-- Where the rate lies, where the values end. -/
def atA (s : List UInt8) : Nat := 5 + bN s 4
def enA (s : List UInt8) : Nat := atA s + 4 + (bN s (atA s + 2) + 256 * bN s (atA s + 3))
def longA (s : List UInt8) : Nat := if s.length < 5 then 0 else if s.length < atA s + 4 then 0 else if s.length < enA s + 2 then 0 else enA s + 2
def nmA (s : List UInt8) : List UInt8 := (s.drop 5).take (bN s 4)
def rtA (s : List UInt8) : Nat := bN s (atA s) + 256 * bN s (atA s + 1)
def vlA (s : List UInt8) : List UInt8 := (s.drop (atA s + 4)).take (enA s - (atA s + 4))
def takeA (s : List UInt8) (v : List Nat) : Option Tk := if isTk (nmA s) (rtA s : Int) v = true ∧ storeL (nmA s) (rtA s) v = s.take (enA s + 2) then some (nmA s, (rtA s : Int), v) else none
/-- The take that bytes begin with. -/
def ahead (s : List UInt8) : Option Tk := if longA s = 0 then none else (unpR (vlA s)).bind (takeA s)
theorem ahead0 {s : List UInt8} (h : longA s = 0) : ahead s = none := by rw [ahead, if_pos h]
theorem bt_b (s : List UInt8) (i : Nat) : IntKind.i64.wrap (bt s (i : Int)) = (bN s i : Int) := by
  have := bN_lt s i
  rw [bt_nat]; exact wI (by omega)
theorem at_w (s : List UInt8) : IntKind.i64.wrap (5 + IntKind.i64.wrap (bt s 4)) = (atA s : Int) := by
  have := bN_lt s 4
  rw [show (4 : Int) = ((4 : Nat) : Int) from rfl, bt_b, wI (by omega), atA]; omega
theorem at_lt (s : List UInt8) : 5 ≤ atA s ∧ atA s < 261 := by have := bN_lt s 4; unfold atA; omega
theorem en_lt (s : List UInt8) : atA s + 4 ≤ enA s ∧ enA s < 66000 := by
  have := at_lt s; have := bN_lt s (atA s + 2); have := bN_lt s (atA s + 3); unfold enA; omega
theorem at_p (s : List UInt8) (k : Nat) (hk : k < 100) : IntKind.i64.wrap ((atA s : Int) + (k : Int)) = ((atA s + k : Nat) : Int) := by
  have := at_lt s
  rw [wI (by omega)]; omega
theorem at_2 (s : List UInt8) : IntKind.i64.wrap ((atA s : Int) + 2) = ((atA s + 2 : Nat) : Int) := at_p s 2 (by decide)
theorem at_3 (s : List UInt8) : IntKind.i64.wrap ((atA s : Int) + 3) = ((atA s + 3 : Nat) : Int) := at_p s 3 (by decide)
theorem at_4 (s : List UInt8) : IntKind.i64.wrap ((atA s : Int) + 4) = ((atA s + 4 : Nat) : Int) := at_p s 4 (by decide)
theorem at_1 (s : List UInt8) : IntKind.i64.wrap ((atA s : Int) + 1) = ((atA s + 1 : Nat) : Int) := at_p s 1 (by decide)
theorem at_6 (s : List UInt8) : IntKind.i64.wrap ((atA s : Int) + 6) = ((atA s + 6 : Nat) : Int) := at_p s 6 (by decide)
theorem m256 (b : Nat) (h : b < 256) : IntKind.i64.wrap (256 * (b : Int)) = ((256 * b : Nat) : Int) := by rw [wI (by omega)]; omega
theorem spec_l07Long_wp {s : List UInt8} {K : Int → Prop} (h : K (longA s : Nat)) : spec_l07Long.wp s K := by
  have h2 := bN_lt s (atA s + 2)
  have h3 := bN_lt s (atA s + 3)
  have ha := at_lt s
  have he := en_lt s
  have e : IntKind.i64.wrap ((IntKind.i64.wrap (((atA s + 6 : Nat) : Int) + ((bN s (atA s + 2) : Nat) : Int))) + ((256 * bN s (atA s + 3) : Nat) : Int)) = ((enA s + 2 : Nat) : Int) := by
    rw [wI (n := ((atA s + 6 : Nat) : Int) + ((bN s (atA s + 2) : Nat) : Int)) (by omega), wI (by omega), enA]; omega
  refine ⟨fun c => ?_, fun c => ⟨⟨by omega, by omega⟩, ?_⟩⟩
  · rw [longA, if_pos (by omega)] at h; exact h
  rw [at_w, at_4]
  refine ⟨fun c1 => ?_, fun c1 => ?_⟩
  · rw [longA, if_neg (by omega), if_pos (by omega)] at h; exact h
  rw [at_2, at_3]
  refine ⟨⟨by omega, by omega⟩, ⟨by omega, by omega⟩, ?_⟩
  rw [at_6, bt_b, bt_b, m256 _ h3, e]
  refine ⟨fun c2 => ?_, fun c2 => ?_⟩
  · rw [longA, if_neg (by omega), if_neg (by omega), if_pos (by omega)] at h; exact h
  · rw [longA, if_neg (by omega), if_neg (by omega), if_neg (by omega)] at h; exact h
def endA (K : List UInt8 → Int → List Nat → Bool → Prop) : Option Tk → Prop
  | some t => K t.1 t.2.1 t.2.2 true
  | none => K [] 0 [] false
theorem nm_e (s : List UInt8) : ((s.drop (5 : Int).toNat).take (((atA s : Nat) : Int).toNat - (5 : Int).toNat)) = nmA s := by
  show (s.drop 5).take (atA s - 5) = _
  rw [show atA s - 5 = bN s 4 by unfold atA; omega]; rfl
theorem nmA_len (s : List UInt8) : (nmA s).length ≤ 255 := by
  have := bN_lt s 4
  unfold nmA; rw [List.length_take]; omega
theorem spec_l07Load_wp {s : List UInt8} {K : List UInt8 → Int → List Nat → Bool → Prop} (hs : s.length ≤ 2 ^ 20) (h : endA K (if longA s = s.length then ahead s else none)) : spec_l07Load.wp s K := by
  refine spec_l07Long_wp ⟨fun c => ?_, fun c => ⟨fun c1 => ?_, fun c1 => ?_⟩⟩
  · have c' : longA s = 0 := by omega
    rw [ahead, if_pos c', ite_self] at h; exact h
  rotate_left
  · rw [if_neg (by omega)] at h; exact h
  have c' : longA s ≠ 0 := by omega
  have c1' : longA s = s.length := by omega
  rw [if_pos c1', ahead, if_neg c'] at h
  have ha := at_lt s
  have he := en_lt s
  have hr1 := bN_lt s (atA s)
  have hr2 := bN_lt s (atA s + 1)
  obtain ⟨l5, l9, l11, hlen⟩ : ¬ s.length < 5 ∧ ¬ s.length < atA s + 4 ∧ ¬ s.length < enA s + 2 ∧ longA s = enA s + 2 := by
    unfold longA at c' ⊢
    split at c'
    · exact absurd rfl c'
    · split at c'
      · exact absurd rfl c'
      · split at c'
        · exact absurd rfl c'
        · rename_i a b c; exact ⟨a, b, c, by rw [if_neg a, if_neg b, if_neg c]⟩
  refine ⟨⟨by omega, by omega⟩, ?_⟩
  rw [at_w, at_4, hlen, show IntKind.i64.wrap (((enA s + 2 : Nat) : Int) - 2) = ((enA s : Nat) : Int) by rw [wI (by omega)]; omega]
  refine ⟨⟨by omega, by omega, by omega⟩, ?_⟩
  show spec_l07Unpack.wp (vlA s) _
  refine spec_l07Unpack_wp (by unfold vlA; rw [List.length_take, List.length_drop]; omega) ?_
  have rest : ∀ v ok, (∀ x ∈ v, x < 2 ^ 32) → v.length ≤ 128 → endA K (if ok = true then takeA s v else none) → ((0 : Int) ≤ 5 ∧ (5 : Int) ≤ (atA s : Nat) ∧ ((atA s : Nat) : Int) ≤ (s.length : Int)) ∧ ((0 : Int) ≤ (atA s : Nat) ∧ ((atA s : Nat) : Int) < (s.length : Int)) ∧ ((0 : Int) ≤ IntKind.i64.wrap (((atA s : Nat) : Int) + 1) ∧ IntKind.i64.wrap (((atA s : Nat) : Int) + 1) < (s.length : Int)) ∧
      ((ok = true → spec_l07Take.wp ((s.drop (5 : Int).toNat).take (((atA s : Nat) : Int).toNat - (5 : Int).toNat)) (IntKind.i64.wrap ((IntKind.i64.wrap (bt s (atA s : Nat))) + (IntKind.i64.wrap (256 * (IntKind.i64.wrap (bt s (IntKind.i64.wrap (((atA s : Nat) : Int) + 1)))))))) v fun y124 => ((y124 = true → spec_l07Store.wp ((s.drop (5 : Int).toNat).take (((atA s : Nat) : Int).toNat - (5 : Int).toNat)) (IntKind.i64.wrap ((IntKind.i64.wrap (bt s (atA s : Nat))) + (IntKind.i64.wrap (256 * (IntKind.i64.wrap (bt s (IntKind.i64.wrap (((atA s : Nat) : Int) + 1)))))))) v fun y127 => ((y127 = s → K ((s.drop (5 : Int).toNat).take (((atA s : Nat) : Int).toNat - (5 : Int).toNat)) (IntKind.i64.wrap ((IntKind.i64.wrap (bt s (atA s : Nat))) + (IntKind.i64.wrap (256 * (IntKind.i64.wrap (bt s (IntKind.i64.wrap (((atA s : Nat) : Int) + 1)))))))) (v) (true)) ∧ (¬(y127 = s) → K ([] : List UInt8) 0 ([] : List (Nat)) (false)))) ∧ (y124 = false → K ([] : List UInt8) 0 ([] : List (Nat)) (false)))) ∧ (ok = false → K ([] : List UInt8) 0 ([] : List (Nat)) (false))) := by
    intro v ok hv hvl hk
    rw [at_1]
    refine ⟨⟨by omega, by omega, by omega⟩, ⟨by omega, by omega⟩, ⟨by omega, by omega⟩, fun c => ?_, fun c => by rw [c, if_neg (by decide)] at hk; exact hk⟩
    rw [if_pos c] at hk
    rw [nm_e, bt_b, bt_b, m256 _ hr2, show IntKind.i64.wrap (((bN s (atA s) : Nat) : Int) + ((256 * bN s (atA s + 1) : Nat) : Int)) = ((rtA s : Nat) : Int) by rw [wI (by omega), rtA]; omega]
    have hnl := nmA_len s
    have htk : s.take (enA s + 2) = s := List.take_of_length_le (by omega)
    refine spec_l07Take_wp (by omega) ⟨fun c2 => ?_, fun c2 => ?_⟩
    · have h3 := c2
      simp only [isTk, isNm, isVals, Bool.and_eq_true, decide_eq_true_eq] at h3
      refine spec_l07Store_wp (by omega) (by omega) hvl hv ⟨fun c3 => ?_, fun c3 => ?_⟩
      · rw [takeA, if_pos ⟨c2, by rw [htk]; exact c3⟩] at hk; exact hk
      · rw [takeA, if_neg (fun c4 => c3 (c4.2.trans htk))] at hk; exact hk
    · rw [takeA, if_neg (fun c4 => by rw [c2] at c4; exact Bool.false_ne_true c4.1)] at hk; exact hk
  cases hu : unpR (vlA s) with
  | none => exact rest [] false (fun x hx => by cases hx) (by simp) (by rw [hu] at h; exact h)
  | some v => exact rest v true (unpR_lt hu) (unpR_len hu) (by rw [hu] at h; exact h)
theorem storeL_pre (a : List UInt8) (k : Nat) (l : List Nat) : (storeL a k l).take 4 = [84, 65, 75, 49] := by
  unfold storeL stBody byts
  simp only [List.map_append, List.append_assoc]
  rfl
def endB (K : List UInt8 → Int → List Nat → Int → Bool → Prop) (n : Nat) : Option Tk → Prop
  | some t => K t.1 t.2.1 t.2.2 (n : Int) true
  | none => K [] 0 [] 0 false
theorem low2 {s : List UInt8} {i : Nat} (h : i + 2 ≤ s.length) {K : Int → Prop} (hk : K ((bN s i + 256 * bN s (i + 1) : Nat) : Int)) : impl_lowNumber.wp ((s.drop i).take (i + 2 - i)) K := by
  have e : i + 2 - i = 2 := by omega
  rw [e]
  have hl : ((s.drop i).take 2).length = 2 := by rw [List.length_take, List.length_drop]; omega
  refine impl_lowNumber_wp (by omega) ?_
  rw [hl, lowN_sub (m := 2) (by omega) 2 0 rfl]
  rw [lowN, lowN, lowN, Nat.mul_zero, Nat.add_zero, Nat.add_zero]; exact hk
theorem impl_takeAhead_wp {s : List UInt8} {K : List UInt8 → Int → List Nat → Int → Bool → Prop} (hs : s.length ≤ 2 ^ 20) (h : endB K (longA s) (ahead s)) : impl_takeAhead.wp s K := by
  have ha := at_lt s
  have he := en_lt s
  have hr1 := bN_lt s (atA s)
  have hr2 := bN_lt s (atA s + 1)
  have hr3 := bN_lt s (atA s + 2)
  have hr4 := bN_lt s (atA s + 3)
  have hnl := nmA_len s
  have no : ∀ {o : Option Tk}, ahead s = o → o = none → K [] 0 [] 0 false := fun e1 e2 => by rw [e1, e2] at h; exact h
  refine ⟨fun c => no rfl (ahead0 (by rw [longA, if_pos (by omega)])), fun c => ?_⟩
  show internal_stringslite_HasPrefix.wp s ([84, 65, 75, 49] : List UInt8) _
  refine ⟨fun _ => ⟨⟨by decide, by decide, by simp only [List.length_cons, List.length_nil]; omega⟩, ?_⟩, fun c2 => absurd (show ((([84, 65, 75, 49] : List UInt8).length : Nat) : Int) ≤ s.length by simp only [List.length_cons, List.length_nil]; omega) c2⟩
  refine ⟨fun hp => ?_, fun hp => no rfl ?_⟩
  rotate_left
  · have hp := of_decide_eq_false hp
    rw [ahead]
    split
    · rfl
    · rename_i hl
      cases hu : unpR (vlA s) with
      | none => rfl
      | some v =>
        show takeA s v = none
        refine if_neg fun c3 => hp ?_
        have := storeL_pre (nmA s) (rtA s) v
        rw [c3.2, List.take_take, Nat.min_eq_left (by omega)] at this
        exact this
  refine ⟨⟨by omega, by omega⟩, ?_⟩
  rw [at_w, at_4]
  refine ⟨fun c1 => no rfl (ahead0 (by rw [longA, if_neg (by omega), if_pos (by omega)])), fun c1 => ?_⟩
  rw [at_2]
  refine ⟨⟨by omega, by omega, by omega⟩, ⟨by omega, by omega, by omega⟩, (rtA s : Int), low2 (i := atA s) (by omega) rfl, ⟨by omega, by omega, by omega⟩, low2 (i := atA s + 2) (by omega) ?_⟩
  rw [show atA s + 2 + 1 = atA s + 3 from rfl]
  rw [show IntKind.i64.wrap (((atA s + 4 : Nat) : Int) + ((bN s (atA s + 2) + 256 * bN s (atA s + 3) : Nat) : Int)) = ((enA s : Nat) : Int) by rw [wI (by omega), enA]; omega]
  rw [show IntKind.i64.wrap (((enA s : Nat) : Int) + 2) = ((enA s + 2 : Nat) : Int) by rw [wI (by omega)]; omega]
  refine ⟨fun c2 => no rfl (ahead0 (by rw [longA, if_neg (by omega), if_neg (by omega), if_pos (by omega)])), fun c2 => ⟨⟨by omega, by omega, by omega⟩, ?_⟩⟩
  have hlen : longA s = enA s + 2 := by rw [longA, if_neg (by omega), if_neg (by omega), if_neg (by omega)]
  show impl_UnpackTake.wp (vlA s) _
  rw [hlen, ahead, if_neg (by omega)] at h
  refine impl_UnpackTake_wp (by unfold vlA; rw [List.length_take, List.length_drop]; omega) ?_
  cases hu : unpR (vlA s) with
  | none => exact ⟨fun c3 => (by cases c3), fun _ => by rw [hu] at h; exact h⟩
  | some v =>
    rw [hu] at h
    have h : endB K (enA s + 2) (takeA s v) := h
    have hvl := unpR_len hu
    refine ⟨fun _ => ?_, fun c3 => (by cases c3)⟩
    rw [nm_e]
    refine impl_StoreTake_wp (by omega) (by omega) (unpR_lt hu) ⟨fun c3 => ⟨⟨by omega, by omega, by omega⟩, ?_⟩, fun c3 => ?_⟩
    · rw [if_pos c3]
      show ((storeL (nmA s) (rtA s) v = s.take (enA s + 2)) → _) ∧ _
      refine ⟨fun c4 => ?_, fun c4 => ?_⟩
      · rw [takeA, if_pos ⟨c3, c4⟩] at h; exact h
      · rw [takeA, if_neg fun c5 => c4 c5.2] at h; exact h
    · rw [takeA, if_neg fun c5 => by rw [c3] at c5; exact Bool.false_ne_true c5.1] at h; exact h
theorem lt_both (s : List UInt8) (hs : s.length ≤ 2 ^ 20) : ∃ a k l ok, (∀ K, K a k l ok → spec_LoadTake.wp s K) ∧ (∀ K, K a k l ok → impl_LoadTake.wp s K) ∧ l.length ≤ 2 ^ 20 := by
  have key : ∀ o : Option Tk, (if longA s = s.length then ahead s else none) = o → (∀ K, endA K o → spec_LoadTake.wp s K) ∧ (∀ K, endA K o → impl_LoadTake.wp s K) := by
    intro o ho
    refine ⟨fun K hk => spec_l07Load_wp hs (by rw [ho]; cases o <;> exact hk), fun K hk => impl_takeAhead_wp hs ?_⟩
    cases ha : ahead s with
    | none =>
      have : o = none := by rw [← ho, ha, ite_self]
      subst this
      exact ⟨fun c => (by cases c), fun _ => hk⟩
    | some t =>
      refine ⟨fun _ => ⟨fun c => ?_, fun c => ?_⟩, fun c => (by cases c)⟩
      · rw [if_pos (by omega), ha] at ho; subst ho; exact hk
      · rw [if_neg (by omega)] at ho; subst ho; exact hk
  cases ho : (if longA s = s.length then ahead s else none) with
  | none => exact ⟨[], 0, [], false, (key _ ho).1, (key _ ho).2, by simp⟩
  | some t =>
    refine ⟨t.1, t.2.1, t.2.2, true, (key _ ho).1, (key _ ho).2, ?_⟩
    have : ahead s = some t := by
      split at ho
      · exact ho
      · cases ho
    rw [ahead] at this
    split at this
    · cases this
    · cases hu : unpR (vlA s) with
      | none => rw [hu] at this; cases this
      | some v =>
        rw [hu] at this
        have this : takeA s v = some t := this
        have hvl := unpR_len hu
        unfold takeA at this
        split at this
        · cases this; show v.length ≤ _; omega
        · cases this

end Go.Proofs.Ytpeijfnfffogeaa.G

namespace Go.Proofs.Ytpeijfnfffogeaa.G
open Go Go.Ab
set_option maxRecDepth 100000
set_option linter.unusedVariables false
set_option linter.unusedSimpArgs false
set_option maxHeartbeats 1000000
theorem byts_app (l m : List Int) : byts (l ++ m) = byts l ++ byts m := List.map_append
theorem byts_nums (a : List UInt8) : byts (nums a) = a := by
  unfold byts nums
  rw [List.map_map]
  conv => rhs; rw [← List.map_id a]
  refine List.map_congr_left fun x _ => ?_
  show UInt8.ofNat ((x.toNat : Int).toNat) = x
  rw [Int.toNat_natCast]; exact UInt8.ofNat_toNat
theorem bN_mid (pre : List UInt8) (c : UInt8) (post : List UInt8) : bN (pre ++ c :: post) pre.length = c.toNat := by
  unfold bN
  rw [List.getD_eq_getElem?_getD, List.getElem?_append_right (Nat.le_refl _), Nat.sub_self]; rfl
theorem ofN (n : Nat) (h : n < 256) : (UInt8.ofNat n).toNat = n := by
  rw [UInt8.toNat_ofNat']; omega
def lo : Nat → Nat → List UInt8
  | 0, _ => []
  | n + 1, x => UInt8.ofNat (x % 256) :: lo n (x / 256)
theorem lo_len : ∀ n x, (lo n x).length = n
  | 0, _ => rfl
  | n + 1, x => by rw [lo, List.length_cons, lo_len]
theorem byts_lowB : ∀ n x, byts (lowB n x) = lo n x
  | 0, _ => rfl
  | n + 1, x => by
    rw [lowB, lo, ← byts_lowB n (x / 256)]
    show UInt8.ofNat (((x % 256 : Nat) : Int).toNat) :: _ = _
    rw [Int.toNat_natCast]; rfl
theorem lowN_lo : ∀ (n y : Nat) (pre post : List UInt8), y < 256 ^ n → lowN (pre ++ (lo n y ++ post)) pre.length n = y
  | 0, y, _, _, h => by
    rw [lowN]; simp at h; omega
  | n + 1, y, pre, post, h => by
    rw [lowN]
    have e : pre ++ (lo (n + 1) y ++ post) = (pre ++ [UInt8.ofNat (y % 256)]) ++ (lo n (y / 256) ++ post) := by rw [lo, List.append_assoc]; rfl
    have h2 := lowN_lo n (y / 256) (pre ++ [UInt8.ofNat (y % 256)]) post (by rw [Nat.pow_succ] at h; omega)
    rw [List.length_append, List.length_singleton] at h2
    rw [e, h2]
    have e2 : (pre ++ [UInt8.ofNat (y % 256)]) ++ (lo n (y / 256) ++ post) = pre ++ UInt8.ofNat (y % 256) :: (lo n (y / 256) ++ post) := by rw [List.append_assoc]; rfl
    rw [e2, bN_mid, ofN _ (Nat.mod_lt _ (by decide))]; omega
theorem nb_pow {y : Nat} (h : y < 2 ^ 32) : y < 256 ^ nb y := by
  unfold nb
  split
  · rename_i h0; subst h0; decide
  · split
    · show y < 256 ^ 1; omega
    · split
      · show y < 256 ^ 2; omega
      · split
        · show y < 256 ^ 3; omega
        · show y < 256 ^ 4; omega
def canon (x : Nat) : Nat := cz .f32 (bitsN x)
theorem canon_lt {x : Nat} (h : x < 2 ^ 32) : canon x < 2 ^ 32 := cz_lt (bitsN_lt h)
theorem cz_qn : cz .f32 2143289344 = 2143289344 := by decide +kernel
theorem canon_nanq : fcmp .neq .f32 2143289344 2143289344 = true := by decide +kernel
theorem dec_nan {x : Nat} (h : (FloatKind.f32.decode x).isNaN = true) : fcmp .neq .f32 x x = true := by
  cases hc : fcmp .neq .f32 x x with
  | true => rfl
  | false =>
    have h1 := num_of_eq hc
    simp [num, h] at h1
theorem bits_canon (x : Nat) : bitsN (canon x) = bitsN x := by
  unfold canon
  by_cases h : fcmp .neq .f32 x x = true
  · have e : bitsN x = 2143289344 := by unfold bitsN; rw [if_pos h]
    rw [e, cz_qn]
    unfold bitsN; rw [if_pos canon_nanq]
  · have e : bitsN x = x := by unfold bitsN; rw [if_neg h]
    rw [e]
    have : cz .f32 x = x := by
      unfold cz
      split
      · rename_i hn; exact absurd (dec_nan hn) h
      · rfl
    rw [this, e]
theorem pack_canon : ∀ (l : List Nat) (b : Nat), packTo (l.map canon) b = packTo l b
  | [], _ => rfl
  | x :: l, b => by rw [List.map_cons, packTo, packTo, bits_canon, pack_canon l]
theorem packL_canon (l : List Nat) : packL (l.map canon) = packL l := by unfold packL; rw [pack_canon]
def finU (a : List UInt8) (o : List Nat) : Option (List Nat) := if o.length = 0 then none else if packL o = a then some o else none
theorem unp_pack (a : List UInt8) : ∀ (l : List Nat) (pre : List UInt8) (b : Nat) (o : List Nat) (f : Nat), a = pre ++ byts (packTo l b) → b < 2 ^ 32 → (∀ x ∈ l, x < 2 ^ 32) → (byts (packTo l b)).length < f → o.length + l.length ≤ 128 → unp a f pre.length b o = finU a (o ++ l.map canon)
  | [], pre, b, o, f, ha, hb, hl, hf, ho => by
    cases f with
    | zero => simp at hf
    | succ f =>
      have : a = pre := by rw [ha]; show pre ++ [] = pre; rw [List.append_nil]
      rw [unp, if_neg (by rw [this]; omega)]
      show _ = finU a (o ++ [])
      rw [List.append_nil]; rfl
  | x :: l, pre, b, o, f, ha, hb, hl, hf, ho => by
    cases f with
    | zero => omega
    | succ f =>
      have hx := bitsN_lt (hl x (List.mem_cons_self ..))
      have hy : bitsN x ^^^ b < 2 ^ 32 := Nat.xor_lt_two_pow hx hb
      have hnb := nb_le (bitsN x ^^^ b)
      have e : byts (packTo (x :: l) b) = UInt8.ofNat (4 - nb (bitsN x ^^^ b)) :: (lo (nb (bitsN x ^^^ b)) (bitsN x ^^^ b) ++ byts (packTo l (bitsN x))) := by
        rw [packTo, byts_app, oneB, ← byts_lowB]
        show UInt8.ofNat (((4 - nb (bitsN x ^^^ b) : Nat) : Int).toNat) :: _ = _
        rw [Int.toNat_natCast]; rfl
      rw [e] at ha hf
      rw [List.length_cons, List.length_append, lo_len] at hf
      have hbn : bN a pre.length = 4 - nb (bitsN x ^^^ b) := by rw [ha, bN_mid, ofN _ (by omega)]
      have hlen : a.length = pre.length + (1 + nb (bitsN x ^^^ b) + (byts (packTo l (bitsN x))).length) := by
        rw [ha, List.length_append, List.length_cons, List.length_append, lo_len]; omega
      rw [List.length_cons] at ho
      have hlow : lowN a (pre.length + 1) (nb (bitsN x ^^^ b)) = bitsN x ^^^ b := by
        have := lowN_lo (nb (bitsN x ^^^ b)) (bitsN x ^^^ b) (pre ++ [UInt8.ofNat (4 - nb (bitsN x ^^^ b))]) (byts (packTo l (bitsN x))) (nb_pow hy)
        rw [List.length_append, List.length_singleton, List.append_assoc] at this
        rw [ha]; exact this
      have hxor : b ^^^ (bitsN x ^^^ b) = bitsN x := by rw [Nat.xor_comm b, Nat.xor_assoc, Nat.xor_self, Nat.xor_zero]
      rw [unp, if_pos (by omega), hbn, if_neg (by omega), if_neg (by omega), if_neg (by omega), show 4 - (4 - nb (bitsN x ^^^ b)) = nb (bitsN x ^^^ b) by omega, hlow, hxor]
      have ih := unp_pack a l (pre ++ UInt8.ofNat (4 - nb (bitsN x ^^^ b)) :: lo (nb (bitsN x ^^^ b)) (bitsN x ^^^ b)) (bitsN x) (o ++ [cz .f32 (bitsN x)]) f (by rw [ha, List.append_assoc]; rfl) hx (fun z hz => hl z (List.mem_cons_of_mem _ hz)) (by omega) (by rw [List.length_append, List.length_singleton]; omega)
      rw [List.length_append, List.length_cons, lo_len] at ih
      rw [show pre.length + 5 - (4 - nb (bitsN x ^^^ b)) = pre.length + (nb (bitsN x ^^^ b) + 1) by omega, ih, List.map_cons, List.append_assoc]; rfl
theorem unpR_pack {l : List Nat} (hl : 1 ≤ l.length ∧ l.length ≤ 128) (hw : ∀ x ∈ l, x < 2 ^ 32) : unpR (packL l) = some (l.map canon) := by
  have := unp_pack (packL l) l [] 0 [] ((packL l).length + 1) rfl (by decide) hw (Nat.lt_succ_self _) (by simpa using hl.2)
  unfold unpR
  rw [show ([] : List UInt8).length = 0 from rfl] at this
  rw [this, List.nil_append, finU, if_neg (by rw [List.length_map]; omega), if_pos (packL_canon l)]
theorem byts_loB (k : Nat) : byts (loB k) = lo 2 k := rfl
theorem store_shape (a : List UInt8) (k : Nat) (l : List Nat) : ∃ c, storeL a k l = [84, 65, 75, 49] ++ (UInt8.ofNat (a.length % 256) :: (a ++ (lo 2 k ++ (lo 2 (packL l).length ++ (packL l ++ lo 2 c))))) := by
  refine ⟨chkTo (byts (stBody a k l)) 0, ?_⟩
  unfold storeL
  rw [byts_app, byts_loB]
  generalize lo 2 (chkTo (byts (stBody a k l)) 0) = e
  unfold stBody
  rw [byts_app, byts_app, byts_app, byts_app, byts_app, byts_nums, byts_nums, byts_loB, byts_loB]
  have e4 : byts [84, 65, 75, 49] = [84, 65, 75, 49] := rfl
  have e1 : byts [((a.length % 256 : Nat) : Int)] = [UInt8.ofNat (a.length % 256)] := rfl
  rw [e4, e1]
  simp only [List.append_assoc, List.cons_append, List.nil_append]
theorem low2_lo (y : Nat) (pre post : List UInt8) (h : y < 65536) : bN (pre ++ (lo 2 y ++ post)) pre.length + 256 * bN (pre ++ (lo 2 y ++ post)) (pre.length + 1) = y := by
  have := lowN_lo 2 y pre post h
  rw [lowN, lowN, lowN, Nat.mul_zero, Nat.add_zero] at this
  exact this
theorem storeL_canon (a : List UInt8) (k : Nat) (l : List Nat) : storeL a k (l.map canon) = storeL a k l := by unfold storeL stBody; rw [packL_canon]
theorem isTk_canon {a : List UInt8} {k : Int} {l : List Nat} : isTk a k (l.map canon) = isTk a k l := by unfold isTk isVals; rw [List.length_map]
theorem ahead_store {a : List UInt8} {k : Int} {l : List Nat} (rest : List UInt8) (h : isTk a k l = true) (hw : ∀ x ∈ l, x < 2 ^ 32) : ahead (storeL a k.toNat l ++ rest) = some (a, k, l.map canon) ∧ longA (storeL a k.toNat l ++ rest) = (storeL a k.toNat l).length := by
  have h3 := h
  simp only [isTk, isNm, isVals, Bool.and_eq_true, decide_eq_true_eq] at h3
  obtain ⟨kn, rfl⟩ : ∃ kn : Nat, k = kn := ⟨k.toNat, by omega⟩
  rw [nn]
  obtain ⟨c, hs⟩ := store_shape a kn l
  have hp := packL_len l
  have hm : (packL l).length < 65536 := by omega
  have hSl : (storeL a kn l).length = 11 + a.length + (packL l).length := by
    rw [hs]; simp only [List.length_append, List.length_cons, List.length_nil, lo_len]; omega
  generalize hS : storeL a kn l = S at hs hSl
  have e1 : S ++ rest = [84, 65, 75, 49] ++ UInt8.ofNat (a.length % 256) :: (a ++ (lo 2 kn ++ (lo 2 (packL l).length ++ (packL l ++ (lo 2 c ++ rest))))) := by
    rw [hs]; simp only [List.append_assoc, List.cons_append, List.nil_append]
  have e2 : S ++ rest = ([84, 65, 75, 49, UInt8.ofNat (a.length % 256)]) ++ (a ++ (lo 2 kn ++ (lo 2 (packL l).length ++ (packL l ++ (lo 2 c ++ rest))))) := by rw [e1]; rfl
  have e3 : S ++ rest = ([84, 65, 75, 49, UInt8.ofNat (a.length % 256)] ++ a) ++ (lo 2 kn ++ (lo 2 (packL l).length ++ (packL l ++ (lo 2 c ++ rest)))) := by rw [e2, List.append_assoc]
  have e4 : S ++ rest = ([84, 65, 75, 49, UInt8.ofNat (a.length % 256)] ++ a ++ lo 2 kn) ++ (lo 2 (packL l).length ++ (packL l ++ (lo 2 c ++ rest))) := by rw [e3, List.append_assoc _ (lo 2 kn)]
  have e5 : S ++ rest = ([84, 65, 75, 49, UInt8.ofNat (a.length % 256)] ++ a ++ lo 2 kn ++ lo 2 (packL l).length) ++ (packL l ++ (lo 2 c ++ rest)) := by rw [e4, List.append_assoc _ (lo 2 (packL l).length)]
  generalize hs' : S ++ rest = s at e1 e2 e3 e4 e5
  have hsl : s.length = 11 + a.length + (packL l).length + rest.length := by rw [← hs', List.length_append, hSl]
  have b4 : bN s 4 = a.length := by
    have := bN_mid [84, 65, 75, 49] (UInt8.ofNat (a.length % 256)) (a ++ (lo 2 kn ++ (lo 2 (packL l).length ++ (packL l ++ (lo 2 c ++ rest)))))
    rw [← e1] at this
    rw [show (4 : Nat) = ([84, 65, 75, 49] : List UInt8).length from rfl, this, ofN _ (by omega)]; omega
  have hat : atA s = 5 + a.length := by rw [atA, b4]
  have hrt : rtA s = kn := by
    have := low2_lo kn ([84, 65, 75, 49, UInt8.ofNat (a.length % 256)] ++ a) (lo 2 (packL l).length ++ (packL l ++ (lo 2 c ++ rest))) (by omega)
    rw [← e3] at this
    rw [rtA, hat]
    rw [List.length_append, show ([84, 65, 75, 49, UInt8.ofNat (a.length % 256)] : List UInt8).length = 5 from rfl] at this
    exact this
  have hen : enA s = 9 + a.length + (packL l).length := by
    have := low2_lo (packL l).length ([84, 65, 75, 49, UInt8.ofNat (a.length % 256)] ++ a ++ lo 2 kn) (packL l ++ (lo 2 c ++ rest)) hm
    rw [← e4] at this
    rw [List.length_append, List.length_append, lo_len, show ([84, 65, 75, 49, UInt8.ofNat (a.length % 256)] : List UInt8).length = 5 from rfl] at this
    rw [enA, hat, show 5 + a.length + 3 = 5 + a.length + 2 + 1 from rfl, this]; omega
  have hnm : nmA s = a := by
    unfold nmA
    rw [b4, e2, List.drop_left' (by rfl), List.take_left' rfl]
  have hvl : vlA s = packL l := by
    unfold vlA
    rw [hat, hen]
    conv => lhs; rw [e5]
    rw [List.drop_left' (by simp only [List.length_append, lo_len, List.length_cons, List.length_nil] <;> omega), List.take_left' (by omega)]
  have hlong : longA s = enA s + 2 := by rw [longA, if_neg (by omega), if_neg (by omega), if_neg (by omega)]
  refine ⟨?_, by omega⟩
  rw [ahead, if_neg (by omega), hvl, unpR_pack (by omega) hw]
  show takeA s (l.map canon) = _
  rw [takeA, hnm, hrt, if_pos]
  refine ⟨by rw [isTk_canon]; exact h, ?_⟩
  rw [storeL_canon, hS, ← hs', List.take_left' (by rw [hs', hen, hSl]; omega)]

end Go.Proofs.Ytpeijfnfffogeaa.G

namespace Go.Proofs.Ytpeijfnfffogeaa.G
open Go Go.Ab
set_option maxRecDepth 100000
set_option linter.unusedVariables false
set_option linter.unusedSimpArgs false
set_option maxHeartbeats 1000000
theorem cat_loop {α : Type} (l : List α) (p : α → Bool) (f : α → List UInt8) (B : Nat) (hB : ∀ x ∈ l, p x = true → (f x).length ≤ B) {X : List UInt8 → Int → Prop} {T F : Prop} (hX : ∀ (i : Nat) (h : i < l.length) (o : List UInt8), o.length ≤ B * i → ((p l[i] = true → X (o ++ f l[i]) ((i + 1 : Nat) : Int)) ∧ (p l[i] = false → F)) → X o (i : Int))
    (hend : T → X (l.flatMap f) (l.length : Int)) (ht : l.all p = true → T) (hf : l.all p = false → F) : X [] ((0 : Nat) : Int) := by
  have key : ∀ (m i : Nat) (o : List UInt8), m + i = l.length → o.length ≤ B * i → o ++ (l.drop i).flatMap f = l.flatMap f → ((l.drop i).all p = true → T) → ((l.drop i).all p = false → F) → X o (i : Int) := by
    intro m
    induction m with
    | zero => intro i o h1 h2 h3 h4 h5
              obtain rfl : i = l.length := by omega
              rw [List.drop_length, List.flatMap_nil, List.append_nil] at h3
              rw [h3]; exact hend (h4 (by rw [List.drop_length]; rfl))
    | succ m ih =>
      intro i o h1 h2 h3 h4 h5
      have hi : i < l.length := by omega
      rw [dropC hi, List.all_cons] at h4 h5
      refine hX i hi o h2 ⟨fun e => ih (i + 1) _ (by omega) ?_ ?_ (fun a => h4 (by rw [e, a]; rfl)) (fun a => h5 (by rw [e, a]; rfl)), fun e => h5 (by rw [e]; rfl)⟩
      · have := hB _ (List.getElem_mem hi) e
        rw [List.length_append, Nat.mul_succ]; omega
      · rw [dropC hi, List.flatMap_cons] at h3
        rw [List.append_assoc]; exact h3
  exact key l.length 0 [] (by omega) (by simp) rfl (by rw [List.drop_zero]; exact ht) (by rw [List.drop_zero]; exact hf)
def tkP (z : Tk) : Bool := isTk z.1 z.2.1 z.2.2
def tkS (z : Tk) : List UInt8 := storeL z.1 z.2.1.toNat z.2.2
theorem tkP_len {z : Tk} (h : tkP z = true) : 1 ≤ z.1.length ∧ z.1.length ≤ 8 ∧ 1 ≤ z.2.1 ∧ z.2.1 ≤ 65535 ∧ z.2.2.length ≤ 128 := by
  simp only [tkP, isTk, isNm, isVals, Bool.and_eq_true, decide_eq_true_eq] at h; omega
theorem tkS_len {z : Tk} (h : tkP z = true) : (tkS z).length ≤ 1000 := by
  have := tkP_len h
  have := storeL_len z.1 z.2.1.toNat z.2.2
  rw [tkS]; omega
def stsOk (l : List Tk) : Bool := decide (l.length ≤ 8) && l.all tkP
theorem impl_StoreTakes_wp {l : List Tk} {K : List UInt8 → Bool → Prop} (hl : TkOk l) (hk : K (if stsOk l = true then l.flatMap tkS else []) (stsOk l)) : impl_StoreTakes.wp l K := by
  refine ⟨fun c => by rw [show stsOk l = false by rw [stsOk, decide_eq_false (by omega)]; rfl, if_neg (by decide)] at hk; exact hk, fun c => ?_⟩
  have c8 : l.length ≤ 8 := by omega
  have e : stsOk l = l.all tkP := by rw [stsOk, decide_eq_true c8]; rfl
  intro X hX
  refine cat_loop l tkP tkS 1000 (fun z _ h => tkS_len h) (X := X) (T := K (l.flatMap tkS) true) (F := K [] false) (fun i hi o ho hh => hX _ _ ⟨fun _ => ⟨⟨by omega, by omega⟩, ?_⟩, fun c => absurd (show (i : Int) < l.length by omega) c⟩) (fun ht => hX _ _ ⟨fun c => absurd c (by omega), fun _ => ht⟩) (fun ht => by rw [e, ht, if_pos rfl] at hk; exact hk) (fun hf => by rw [e, hf, if_neg (by decide)] at hk; exact hk)
  have hz := hl.2 _ (List.getElem_mem hi)
  rw [nn, gD hi, w1 (by omega)]
  refine impl_StoreTake_wp hz.1 hz.2.1 hz.2.2 ⟨fun h1 => ?_, fun h1 => hh.2 h1⟩
  have hs := tkS_len (z := l[i]) h1
  have hx := hh.1 h1
  rw [if_pos h1]
  rw [tkS] at hs hx
  exact ⟨by omega, hx⟩

end Go.Proofs.Ytpeijfnfffogeaa.G

namespace Go.Proofs.Ytpeijfnfffogeaa.G
open Go Go.Ab
set_option maxRecDepth 100000
set_option linter.unusedVariables false
set_option linter.unusedSimpArgs false
set_option maxHeartbeats 1000000
def recF : Nat → List UInt8 → List Tk × Nat
  | 0, _ => ([], 0)
  | f + 1, s => match ahead s with
    | none => ([], 0)
    | some t => (t :: (recF f (s.drop (longA s))).1, longA s + (recF f (s.drop (longA s))).2)
theorem ahead_long {s : List UInt8} {t : Tk} (h : ahead s = some t) : longA s = enA s + 2 ∧ enA s + 2 ≤ s.length := by
  unfold ahead at h
  split at h
  · cases h
  · rename_i h0
    unfold longA at h0 ⊢
    split at h0
    · exact absurd rfl h0
    · split at h0
      · exact absurd rfl h0
      · split at h0
        · exact absurd rfl h0
        · rename_i a b c; exact ⟨by rw [if_neg a, if_neg b, if_neg c], by omega⟩
theorem ahead_take {s : List UInt8} {t : Tk} (h : ahead s = some t) : isTk t.1 t.2.1 t.2.2 = true ∧ storeL t.1 t.2.1.toNat t.2.2 = s.take (longA s) ∧ (∀ x ∈ t.2.2, x < 2 ^ 32) ∧ t.2.2.length ≤ 128 ∧ t.1.length ≤ 255 := by
  have hl := ahead_long h
  unfold ahead at h
  split at h
  · cases h
  · cases hu : unpR (vlA s) with
    | none => rw [hu] at h; cases h
    | some v =>
      rw [hu] at h
      have h : takeA s v = some t := h
      have h1 := unpR_lt hu
      have h2 := unpR_len hu
      have h3 := nmA_len s
      unfold takeA at h
      split at h
      · rename_i hc
        cases h
        exact ⟨hc.1, by rw [hl.1]; exact hc.2, h1, h2, h3⟩
      · cases h
theorem recF_len : ∀ f s, (recF f s).1.length ≤ f ∧ (recF f s).2 ≤ s.length
  | 0, s => ⟨Nat.le_refl _, Nat.zero_le _⟩
  | f + 1, s => by
    rw [recF]
    cases h : ahead s with
    | none => exact ⟨Nat.zero_le _, Nat.zero_le _⟩
    | some t =>
      have hl := ahead_long h
      obtain ⟨h1, h2⟩ := recF_len f (s.drop (longA s))
      rw [List.length_drop] at h2
      refine ⟨by show _ + 1 ≤ _; omega, ?_⟩
      show longA s + _ ≤ _
      omega
/-- What is recovered is stored as it lay. -/
theorem recF_store : ∀ f s, (recF f s).1.flatMap tkS = s.take (recF f s).2 ∧ ∀ t ∈ (recF f s).1, tkP t = true ∧ t.1.length ≤ 2 ^ 20 ∧ t.2.2.length ≤ 2 ^ 20 ∧ ∀ x ∈ t.2.2, x < 2 ^ 32
  | 0, s => ⟨rfl, fun t ht => by cases ht⟩
  | f + 1, s => by
    rw [recF]
    cases h : ahead s with
    | none => exact ⟨rfl, fun t ht => by cases ht⟩
    | some t =>
      have hl := ahead_long h
      obtain ⟨g1, g2, g3, g4, g5⟩ := ahead_take h
      obtain ⟨h1, h2⟩ := recF_store f (s.drop (longA s))
      refine ⟨?_, fun u hu => ?_⟩
      · show tkS t ++ (recF f (s.drop (longA s))).1.flatMap tkS = s.take (longA s + _)
        rw [h1, tkS, g2, List.take_add]
      · rcases List.mem_cons.1 hu with rfl | hu
        · exact ⟨g1, by omega, by omega, g3⟩
        · exact h2 u hu
theorem impl_RecoverTakes_wp {s : List UInt8} {K : List Tk → Int → Bool → Prop} (hs : s.length ≤ 2 ^ 20) (h : K (recF 8 s).1 ((recF 8 s).2 : Int) true) : impl_RecoverTakes.wp s K := by
  intro X hX
  have key : ∀ (f : Nat) (o : List Tk) (p : Nat), o.length + f = 8 → p ≤ s.length → o ++ (recF f (s.drop p)).1 = (recF 8 s).1 → p + (recF f (s.drop p)).2 = (recF 8 s).2 → X o (p : Int) := by
    intro f
    induction f with
    | zero =>
      intro o p h1 h2 h3 h4
      rw [recF] at h3 h4
      rw [List.append_nil] at h3
      rw [Nat.add_zero] at h4
      refine hX _ _ ⟨fun c => absurd c (by omega), fun _ => ?_⟩
      rw [h3, h4]; exact h
    | succ f ih =>
      intro o p h1 h2 h3 h4
      refine hX _ _ ⟨fun _ => ⟨⟨by omega, by omega, by omega⟩, ?_⟩, fun c => absurd (show (o.length : Int) < 8 by omega) c⟩
      rw [nn, nn, List.take_of_length_le (by rw [List.length_drop]; omega)]
      refine impl_takeAhead_wp (by rw [List.length_drop]; omega) ?_
      cases ha : ahead (s.drop p) with
      | none =>
        refine ⟨fun c => (by cases c), fun _ => ?_⟩
        rw [recF, ha] at h3 h4
        have h3 : o ++ [] = _ := h3
        have h4 : p + 0 = _ := h4
        rw [List.append_nil] at h3
        rw [Nat.add_zero] at h4
        rw [h3, h4]; exact h
      | some t =>
        have hl := ahead_long ha
        have hll := en_lt (s.drop p)
        rw [List.length_drop] at hl
        rw [recF, ha] at h3 h4
        refine ⟨fun _ => ⟨by rw [len1]; omega, ?_⟩, fun c => (by cases c)⟩
        rw [show IntKind.i64.wrap ((p : Int) + ((longA (s.drop p) : Nat) : Int)) = ((p + longA (s.drop p) : Nat) : Int) by rw [wI (by omega)]; omega]
        refine ih _ _ (by rw [List.length_append, len1]; omega) (by omega) ?_ ?_
        · rw [List.append_assoc, ← List.drop_drop]; exact h3
        · rw [← List.drop_drop, Nat.add_assoc]; exact h4
  exact key 8 [] 0 rfl (Nat.zero_le _) rfl (by rw [Nat.zero_add]; rfl)
/-! ### takes one after another -/
def canT (t : Tk) : Tk := (t.1, t.2.1, t.2.2.map canon)
def Good (t : Tk) : Prop := tkP t = true ∧ ∀ x ∈ t.2.2, x < 2 ^ 32
theorem recF_many : ∀ (T : List Tk) (f : Nat) (rest : List UInt8), (∀ t ∈ T, Good t) → T.length ≤ f → recF f (T.flatMap tkS ++ rest) = (T.map canT ++ (recF (f - T.length) rest).1, (T.flatMap tkS).length + (recF (f - T.length) rest).2)
  | [], f, rest, _, _ => by simp
  | t :: T, f, rest, hg, hf => by
    cases f with
    | zero => simp at hf
    | succ f =>
      obtain ⟨h1, h2⟩ := hg t (List.mem_cons_self ..)
      have ha := ahead_store (a := t.1) (k := t.2.1) (l := t.2.2) (T.flatMap tkS ++ rest) h1 h2
      have e : (t :: T).flatMap tkS ++ rest = storeL t.1 t.2.1.toNat t.2.2 ++ (T.flatMap tkS ++ rest) := by rw [List.flatMap_cons, List.append_assoc]; rfl
      rw [recF, e, ha.1, ha.2]
      show ((t.1, t.2.1, t.2.2.map canon) :: (recF f ((storeL t.1 t.2.1.toNat t.2.2 ++ (T.flatMap tkS ++ rest)).drop (storeL t.1 t.2.1.toNat t.2.2).length)).1, _ + (recF f ((storeL t.1 t.2.1.toNat t.2.2 ++ (T.flatMap tkS ++ rest)).drop (storeL t.1 t.2.1.toNat t.2.2).length)).2) = _
      rw [List.drop_left, recF_many T f rest (fun u hu => hg u (List.mem_cons_of_mem _ hu)) (by simpa using hf), List.length_cons, Nat.add_sub_add_right]
      rw [List.flatMap_cons, List.length_append]
      refine Prod.ext rfl ?_
      show (storeL t.1 t.2.1.toNat t.2.2).length + ((T.flatMap tkS).length + _) = (tkS t).length + (T.flatMap tkS).length + _
      rw [tkS]; omega
theorem bN_take {s : List UInt8} {q i : Nat} (h : i < q) : bN (s.take q) i = bN s i := by
  unfold bN
  rw [List.getD_eq_getElem?_getD, List.getD_eq_getElem?_getD, List.getElem?_take, if_pos h]
/-- A part of a take is none. -/
theorem ahead_part {s : List UInt8} {t : Tk} {q : Nat} (h : ahead s = some t) (hq : q < longA s) : ahead (s.take q) = none := by
  have hl := ahead_long h
  have ha := at_lt s
  have he := en_lt s
  refine ahead0 ?_
  have hlen : (s.take q).length = q := by rw [List.length_take]; omega
  unfold longA
  by_cases h5 : q < 5
  · rw [if_pos (by omega)]
  · rw [if_neg (by omega)]
    have e1 : atA (s.take q) = atA s := by unfold atA; rw [bN_take (by omega)]
    by_cases h9 : q < atA s + 4
    · rw [if_pos (by rw [e1]; omega)]
    · rw [if_neg (by rw [e1]; omega)]
      have e2 : enA (s.take q) = enA s := by unfold enA; rw [e1, bN_take (by omega), bN_take (by omega)]
      rw [if_pos (by rw [e2]; omega)]
theorem recF_none {s : List UInt8} (h : ahead s = none) (f : Nat) : recF f s = ([], 0) := by
  cases f with
  | zero => rfl
  | succ f => rw [recF, h]

end Go.Proofs.Ytpeijfnfffogeaa.G

namespace Go.Proofs.Ytpeijfnfffogeaa.G
open Go Go.Ab
set_option maxRecDepth 100000
set_option linter.unusedVariables false
set_option linter.unusedSimpArgs false
set_option maxHeartbeats 1000000
theorem fop_lt (op : BinOp) (x y : Nat) : fop op .f32 x y < 2 ^ 32 := by
  unfold fop
  cases h : floatBits op .f32 x y with
  | none => decide
  | some r =>
    refine cz_lt ?_
    unfold floatBits at h
    cases op
    case add => exact Ieee.Format.add_lt _ h
    case sub => exact Ieee.Format.sub_lt _ h
    case mul => exact Ieee.Format.mul_lt _ h
    case quo => exact Ieee.Format.div_lt _ h
    all_goals cases h
section
variable {l : List Int} {a s : Int}
theorem spec_one_wp {n : Int} {K : Bool → Int → Int → Prop} (hl : Byt l) (ha : 0 ≤ a ∧ a ≤ 2 ^ 39) (hn : 1 ≤ n ∧ n ≤ 2 ^ 40) (h : ∀ v b t, a ≤ b ∧ b ≤ a + 2 → K v b t) : spec_l00Src_one.wp l a s n K :=
  spec_pick_wp hl ha hn fun v b t _ hb => h _ b t hb
theorem spec_text_wp {m : List (List UInt8)} {K : List UInt8 → Int → Int → Prop} (hl : Byt l) (ha : 0 ≤ a ∧ a ≤ 2 ^ 39) (hm : 1 ≤ m.length ∧ m.length ≤ 1000) (h : ∀ x ∈ m, ∀ b t, a ≤ b ∧ b ≤ a + 2 → K x b t) : spec_l00Src_text.wp l a s m K := by
  refine spec_pick_wp hl ha (by omega) fun v b t hv hb => ⟨hv, ?_⟩
  have hi : v.toNat < m.length := by omega
  rw [gD hi]
  exact h _ (List.getElem_mem hi) b t hb
theorem spec_among_wp {m : List Int} {K : Int → Int → Int → Prop} (hl : Byt l) (ha : 0 ≤ a ∧ a ≤ 2 ^ 39) (hm : 1 ≤ m.length ∧ m.length ≤ 1000) (h : ∀ x ∈ m, ∀ b t, a ≤ b ∧ b ≤ a + 2 → K x b t) : spec_l00Src_among.wp l a s m K := by
  refine spec_pick_wp hl ha (by omega) fun v b t hv hb => ⟨hv, ?_⟩
  have hi : v.toNat < m.length := by omega
  rw [gD hi]
  exact h _ (List.getElem_mem hi) b t hb
theorem spec_FromI_wp {z : Int} {K : Nat → Prop} (hz : 0 ≤ z ∧ z < 4294967296) (h : ∀ x, x < 2 ^ 32 → K x) : spec_l01From.wp z K := by
  rw [show z = ((z.toNat : Nat) : Int) by omega]
  exact spec_l01From_wp (by omega) (h _ (cz_lt (by omega)))
theorem spec_Plain_wp {K : Nat → Int → Int → Prop} (hl : Byt l) (ha : 0 ≤ a ∧ a ≤ 2 ^ 38) (h : ∀ x b t, x < 2 ^ 32 → a ≤ b ∧ b ≤ a + 4 → K x b t) : spec_l01DrawPlain.wp l a s K := by
  refine spec_pick_wp hl (by omega) (by decide) fun v b t hv hb => spec_one_wp hl (by omega) (by decide) fun w b' t' hb' => ⟨fun _ => h _ _ _ (fop_lt _ _ _) (by omega), fun _ => h _ _ _ (fop_lt _ _ _) (by omega)⟩
theorem spec_Float_wp {K : Nat → Int → Int → Prop} (hl : Byt l) (ha : 0 ≤ a ∧ a ≤ 2 ^ 37) (h : ∀ x b t, x < 2 ^ 32 → a ≤ b ∧ b ≤ a + 12 → K x b t) : spec_l01DrawFloat.wp l a s K := by
  refine spec_one_wp hl (by omega) (by decide) fun w b t hb => ⟨fun _ => ?_, fun _ => ?_⟩
  · refine spec_pick_wp hl (by omega) (by decide) fun v b2 t2 hv hb2 => ⟨fun _ => ?_, fun _ => ⟨fun _ => ?_, fun _ => ⟨fun _ => ?_, fun _ => ?_⟩⟩⟩
    · refine spec_among_wp hl (by omega) (by decide) fun z hz b3 t3 hb3 => spec_FromI_wp ?_ fun x hx => h x _ _ hx (by omega)
      simp only [List.mem_cons, List.not_mem_nil, or_false] at hz
      omega
    · refine spec_pick_wp hl (by omega) (by decide) fun v3 b3 t3 hv3 hb3 => spec_pick_wp hl (by omega) (by decide) fun v4 b4 t4 hv4 hb4 => ?_
      rw [wI (n := v3 * 65536) (by omega), wI (n := v3 * 65536 + v4) (by omega)]
      exact spec_FromI_wp (by omega) fun x hx => h x _ _ hx (by omega)
    · refine spec_pick_wp hl (by omega) (by decide) fun v3 b3 t3 hv3 hb3 => ?_
      rw [wI (n := v3 * 65536) (by omega)]
      exact spec_FromI_wp (by omega) fun x hx => h x _ _ hx (by omega)
    · refine spec_Plain_wp hl (by omega) fun x b3 t3 _ hb3 => spec_among_wp hl (by omega) (by decide) fun z hz b4 t4 hb4 => spec_FromI_wp ?_ fun y _ => h _ _ _ (fop_lt _ _ _) (by omega)
      simp only [List.mem_cons, List.not_mem_nil, or_false] at hz
      omega
  · exact spec_Plain_wp hl (by omega) fun x b3 t3 hx hb3 => h x _ _ hx (by omega)
end
theorem nm_ok {x : List UInt8} (hx : x ∈ ([([97] : List UInt8), ([104, 117, 109] : List UInt8), ([115, 101, 97] : List UInt8), ([122, 122] : List UInt8)] : List (List UInt8))) : isNm x = true := by
  simp only [List.mem_cons, List.not_mem_nil, or_false] at hx
  rcases hx with rfl | rfl | rfl | rfl <;> decide +kernel
theorem spec_B10Takes_wp {l : List Int} {K : List Tk → Prop} (hl : Byt l) (h : ∀ T : List Tk, T.length ≤ 4 → (∀ t ∈ T, Good t) → K T) : spec_B10Takes.wp l K := by
  refine ⟨fun _ => ?_, fun c => (by cases c)⟩
  refine spec_pick_wp hl (by decide) (by decide) fun n b t hn hb => ?_
  intro X hX
  have key : ∀ (m : Nat) (o : List Tk) (b t : Int), o.length + m ≤ 4 → 0 ≤ b ∧ b ≤ 1000 + 1000 * o.length → (∀ t ∈ o, Good t) → X o b t (m : Int) := by
    intro m
    induction m with
    | zero => intro o b t h1 h2 h3; exact hX _ _ _ _ ⟨fun c => absurd c (by decide), fun _ => h o (by omega) h3⟩
    | succ m ih =>
      intro o b t h1 h2 h3
      refine hX _ _ _ _ ⟨fun _ => ?_, fun c => absurd (show (0 : Int) < ((m + 1 : Nat) : Int) by omega) c⟩
      refine spec_text_wp hl (by omega) (by decide) fun nm hnm b2 t2 hb2 => spec_pick_wp hl (by omega) (by decide) fun r b3 t3 hr hb3 => spec_pick_wp hl (by omega) (by decide) fun k b4 t4 hk hb4 => ?_
      intro Y hY
      rw [wI (n := 1 + r) (by omega)]
      have inner : ∀ (q : Nat) (v : List Nat) (b t : Int), (v.length : Int) + q = 1 + k → 0 ≤ b ∧ b ≤ 1006 + 1000 * o.length + 20 * v.length → (∀ x ∈ v, x < 2 ^ 32) → Y b t nm (1 + r) v (q : Int) := by
        intro q
        induction q with
        | zero =>
          intro v b t g1 g2 g3
          refine hY _ _ _ _ _ _ ⟨fun c => absurd c (by decide), fun _ => ⟨by rw [len1]; omega, ?_⟩⟩
          rw [show IntKind.i64.wrap (((m + 1 : Nat) : Int) - 1) = (m : Int) by rw [wI (by omega)]; omega]
          refine ih _ _ _ (by rw [List.length_append, len1]; omega) (by rw [List.length_append, len1]; omega) fun u hu => ?_
          rcases List.mem_append.1 hu with hu | hu
          · exact h3 u hu
          · rw [List.mem_singleton.1 hu]
            refine ⟨?_, g3⟩
            unfold tkP isTk isVals
            rw [nm_ok hnm, decide_eq_true (show (1 : Int) ≤ (nm, 1 + r, v).2.1 ∧ (nm, 1 + r, v).2.1 ≤ 65535 by show (1 : Int) ≤ 1 + r ∧ 1 + r ≤ 65535; omega), decide_eq_true (show (1 : Int) ≤ ((nm, 1 + r, v).2.2.length : Int) ∧ ((nm, 1 + r, v).2.2.length : Int) ≤ 128 by show (1 : Int) ≤ (v.length : Int) ∧ (v.length : Int) ≤ 128; omega)]; rfl
        | succ q ihq =>
          intro v b t g1 g2 g3
          have app : ∀ x : Nat, x < 2 ^ 32 → ∀ z ∈ v ++ ([x] : List Nat), z < 2 ^ 32 := fun x hx z hz => by
            rcases List.mem_append.1 hz with hz | hz
            · exact g3 z hz
            · rw [List.mem_singleton.1 hz]; exact hx
          refine hY _ _ _ _ _ _ ⟨fun _ => ?_, fun c => absurd (show (0 : Int) < ((q + 1 : Nat) : Int) by omega) c⟩
          rw [show IntKind.i64.wrap (((q + 1 : Nat) : Int) - 1) = (q : Int) by rw [wI (by omega)]; omega]
          refine spec_pick_wp hl (by omega) (by decide) fun x b5 t5 hx hb5 => spec_one_wp hl (by omega) (by decide) fun w b6 t6 hb6 => ⟨fun _ => ?_, fun _ => ?_⟩
          · refine spec_Float_wp hl (by omega) fun x b7 t7 hx hb7 => ⟨by rw [len1]; omega, ?_⟩
            exact ihq _ _ _ (by rw [List.length_append, len1]; omega) (by rw [List.length_append, len1]; omega) (app x hx)
          · refine ⟨by rw [len1]; omega, ?_⟩
            exact ihq _ _ _ (by rw [List.length_append, len1]; omega) (by rw [List.length_append, len1]; omega) (app _ (fop_lt _ _ _))
      rw [show IntKind.i64.wrap (1 + k) = ((1 + k.toNat : Nat) : Int) by rw [wI (by omega)]; omega]
      exact inner _ [] _ _ (by simp; omega) (by simp; omega) (fun x hx => by cases hx)
  have := key n.toNat [] b t (by simp; omega) (by simp; omega) (fun x hx => by cases hx)
  rw [show ((n.toNat : Nat) : Int) = n by omega] at this
  exact this

end Go.Proofs.Ytpeijfnfffogeaa.G

namespace Go.Proofs.Ytpeijfnfffogeaa.G
open Go Go.Ab
set_option maxRecDepth 100000
set_option linter.unusedVariables false
set_option linter.unusedSimpArgs false
set_option maxHeartbeats 1000000
open Ieee in
theorem neg_read (b : Nat) : single.read (Op.negFloat .f32 b) = (single.read b).opposite := by
  have hs : single.signWeight = 2 ^ 31 := rfl
  have h2 : Op.negFloat .f32 b % 2 ^ 31 = b % 2 ^ 31 := by
    show (b ^^^ 2 ^ 31) % 2 ^ 31 = _
    rw [Nat.xor_mod_two_pow]; simp
  have h3 : Op.negFloat .f32 b / 2 ^ 31 % 2 = (b / 2 ^ 31 + 1) % 2 := by
    show (b ^^^ 2 ^ 31) / 2 ^ 31 % 2 = _
    rw [Nat.xor_div_two_pow, Nat.div_self (by decide)]
    have := Nat.xor_mod_two_pow (a := b / 2 ^ 31) (b := 1) (n := 1)
    rw [Nat.pow_one] at this; rw [this]
    rcases Nat.mod_two_eq_zero_or_one (b / 2 ^ 31) with h | h
    · rw [h, show (b / 2 ^ 31 + 1) % 2 = 1 by omega]; decide
    · rw [h, show (b / 2 ^ 31 + 1) % 2 = 0 by omega]; decide
  have h4 : (Op.negFloat .f32 b / 2 ^ 31 % 2 == 1) = !(b / 2 ^ 31 % 2 == 1) := by
    rw [h3]
    rcases Nat.mod_two_eq_zero_or_one (b / 2 ^ 31) with h | h
    · rw [h, show (b / 2 ^ 31 + 1) % 2 = 1 by omega]; rfl
    · rw [h, show (b / 2 ^ 31 + 1) % 2 = 0 by omega]; rfl
  unfold Format.read
  rw [hs, h2, h4]
  dsimp only
  split
  · rfl
  · split
    · rfl
    · split <;> rfl
open Ieee in
theorem fneg_read {b : Nat} (h : (single.read b).isNaN = false) : single.read (fneg .f32 b) = (single.read b).opposite := by
  have e : (FloatKind.f32.decode (Op.negFloat .f32 b)).isNaN = false := by
    show (single.read _).isNaN = false
    rw [neg_read]; cases hr : single.read b with
    | nan s t => rw [hr] at h; cases h
    | _ => rfl
  rw [fneg, cz32 _ e, neg_read]
/-! ### values, in units of the last place -/
open Ieee in
def val : Datum → Int
  | .number s m e => signed s m (e + 149).toNat
  | _ => 0
open Ieee in
theorem signed_up (s : Bool) (m a b : Nat) : signed s m (a + b) = signed s m a * (2 ^ b : Nat) := by
  unfold signed
  cases s <;> simp [Nat.shiftLeft_eq, Nat.pow_add, Int.mul_assoc, Int.neg_mul]
open Ieee in
theorem order_val {s t : Bool} {m n : Nat} {i j : Int} (hi : -149 ≤ i) (hj : -149 ≤ j) : (Datum.number s m i).order (.number t n j) = some (compare (val (.number s m i)) (val (.number t n j))) := by
  have e1 : val (.number s m i) = signed s m (i - min i j).toNat * (2 ^ (min i j + 149).toNat : Nat) := by
    show signed s m _ = _
    rw [← signed_up]; congr 1; omega
  have e2 : val (.number t n j) = signed t n (j - min i j).toNat * (2 ^ (min i j + 149).toNat : Nat) := by
    show signed t n _ = _
    rw [← signed_up]; congr 1; omega
  rw [e1, e2]
  show some (compare (signed s m (i - min i j).toNat) (signed t n (j - min i j).toNat)) = _
  congr 1
  have hp : (0 : Int) < ((2 ^ (min i j + 149).toNat : Nat) : Int) := by have := Nat.two_pow_pos (min i j + 149).toNat; omega
  generalize signed s m (i - min i j).toNat = a
  generalize signed t n (j - min i j).toNat = b
  generalize ((2 ^ (min i j + 149).toNat : Nat) : Int) = p at hp
  rw [show compare a b = compareOfLessAndEq a b from rfl, show compare (a * p) (b * p) = compareOfLessAndEq (a * p) (b * p) from rfl]
  unfold compareOfLessAndEq
  have h1 : (a * p < b * p) = (a < b) := propext ⟨fun h => Int.lt_of_mul_lt_mul_right h (Int.le_of_lt hp), fun h => Int.mul_lt_mul_of_pos_right h hp⟩
  have h2 : (a * p = b * p) = (a = b) := propext ⟨fun h => Int.eq_of_mul_eq_mul_right (Int.ne_of_gt hp) h, fun h => by rw [h]⟩
  simp only [h1, h2]
/-- A word of single precision: no number, or how it stands to others. -/
theorem cmp_lt {a b : Int} : (compare a b == Ordering.lt) = decide (a < b) := by
  rw [show compare a b = compareOfLessAndEq a b from rfl]; unfold compareOfLessAndEq
  split
  · simp [*]
  · split <;> simp [*]
theorem cmp_eq {a b : Int} : (compare a b == Ordering.eq) = decide (a = b) := by
  rw [show compare a b = compareOfLessAndEq a b from rfl]; unfold compareOfLessAndEq
  split
  · simp; omega
  · split <;> simp [*]
theorem cmp_gt {a b : Int} : (compare a b == Ordering.gt) = decide (b < a) := by
  rw [show compare a b = compareOfLessAndEq a b from rfl]; unfold compareOfLessAndEq
  split
  · simp; omega
  · split
    · simp; omega
    · simp; omega
/-! ### from nought -/
open Ieee in
theorem read_f32 (x : Nat) : single.read x = if x % 2147483648 < 8388608 then .number (x / 2147483648 % 2 == 1) (x % 2147483648) (-149) else if x % 2147483648 < 2139095040 then .number (x / 2147483648 % 2 == 1) (8388608 + x % 2147483648 % 8388608) (-149 + ((x % 2147483648 / 8388608 - 1 : Nat) : Int)) else if x % 2147483648 = 2139095040 then .infinity (x / 2147483648 % 2 == 1) else .nan (x / 2147483648 % 2 == 1) (x % 2147483648 - 2139095040) := by
  unfold Format.read
  rw [show single.binade = 8388608 from rfl, show single.infRung = 2139095040 by decide, show single.signWeight = 2147483648 from rfl, show single.leastPlace = -149 by decide]
open Ieee in
theorem read_rung {r : Nat} (h : r < 2147483648) : single.read r = if r < 8388608 then .number false r (-149) else if r < 2139095040 then .number false (8388608 + r % 8388608) (-149 + ((r / 8388608 - 1 : Nat) : Int)) else if r = 2139095040 then .infinity false else .nan false (r - 2139095040) := by
  rw [read_f32, Nat.mod_eq_of_lt h, Nat.div_eq_of_lt h]; rfl
open Ieee in
theorem word_rung (r : Nat) : single.word false r = r := rfl
open Ieee in
theorem log2_full {a : Nat} (h : a < 8388608) : (8388608 + a).log2 = 23 := by
  apply Nat.le_antisymm
  · have : (8388608 + a).log2 < 24 := (Nat.log2_lt (by omega)).2 (by omega)
    omega
  · have : ¬ (8388608 + a).log2 < 23 := fun hh => by
      have := (Nat.log2_lt (by omega)).1 hh; omega
    omega
open Ieee in
theorem near_low {r : Nat} (h0 : r ≠ 0) (h : r < 8388608) : single.nearest false r (-149) = r := by
  unfold Format.nearest
  rw [if_neg h0, show single.infRung = 2139095040 by decide, show single.binade = 8388608 from rfl, show single.leastPlace = -149 by decide, show single.fractionBits = 23 from rfl]
  have hlog : r.log2 < 23 := (Nat.log2_lt h0).2 h
  have hmax : max (-149 + (r.log2 : Int) - ((23 : Nat) : Int)) (-149) = -149 := by omega
  simp only [hmax, Int.sub_self, Int.toNat_zero, Nat.shiftLeft_zero, cut_zero, Nat.zero_mul, Nat.zero_add, word_rung]
  omega
open Ieee in
theorem near_gen (f : Format) {m : Nat} {e : Int} (h0 : m ≠ 0) (hl : m.log2 = f.fractionBits) (he : f.leastPlace ≤ e) : f.nearest false m e = min ((e - f.leastPlace).toNat * f.binade + m) f.infRung := by
  have hmax : max (e + ((f.fractionBits : Nat) : Int) - ((f.fractionBits : Nat) : Int)) f.leastPlace = e := by omega
  have hw : ∀ a : Nat, f.word false a = a := fun a => if_neg (by decide)
  unfold Format.nearest
  rw [if_neg h0, hl]
  dsimp only
  rw [hmax, Int.sub_self, Int.toNat_zero, Nat.shiftLeft_zero, cut_zero, hw]
open Ieee in
theorem near_full {r : Nat} (h0 : ¬ r < 8388608) (h : r < 2139095040) : single.nearest false (8388608 + r % 8388608) (-149 + ((r / 8388608 - 1 : Nat) : Int)) = r := by
  have hmd : r % 8388608 < 8388608 := Nat.mod_lt _ (by decide)
  have hl : single.leastPlace = -149 := by decide
  have hb : single.binade = 8388608 := rfl
  have hi : single.infRung = 2139095040 := by decide
  rw [near_gen single (by omega) (log2_full hmd) (by rw [hl]; omega), hl, hb, hi]
  have ht : (-149 + ((r / 8388608 - 1 : Nat) : Int) - -149).toNat = r / 8388608 - 1 := by omega
  rw [ht]
  have := Nat.div_add_mod r 8388608
  have h1 : 1 ≤ r / 8388608 := by omega
  have h2 : (r / 8388608 - 1) * 8388608 + (8388608 + r % 8388608) = r := by omega
  rw [h2]
  exact Nat.min_eq_left (Nat.le_of_lt h)
open Ieee in
theorem sub0_near {x m : Nat} {e : Int} (h : single.read x = .number true m e) (hm : m ≠ 0) (he : -149 ≤ e) : single.sub 0 x = some (single.nearest false m e) := by
  have h0 : single.read 0 = .number false 0 (-149) := by decide +kernel
  unfold Format.sub
  rw [h0, h]
  simp only [Datum.opposite, Datum.sum, Bool.not_true]
  have hmin : min (-149 : Int) e = -149 := by omega
  rw [hmin]
  have ht : signed false 0 (-149 - -149 : Int).toNat + signed false m (e - -149).toNat = ((m * 2 ^ (e + 149).toNat : Nat) : Int) := by
    simp [signed, Nat.shiftLeft_eq]
  rw [ht]
  have hp := Nat.two_pow_pos (e + 149).toNat
  have hne : m * 2 ^ (e + 149).toNat ≠ 0 := Nat.mul_ne_zero hm (by omega)
  rw [if_neg (by omega), Option.map_some]
  have hd : decide (((m * 2 ^ (e + 149).toNat : Nat) : Int) < 0) = false := decide_eq_false (by omega)
  rw [hd, Int.natAbs_natCast]
  show some (single.nearest false (m * 2 ^ (e + 149).toNat) (-149)) = _
  rw [nearest_shift]
  congr 2; omega
open Ieee in
theorem sub0_num {x m : Nat} {e : Int} (h : single.read x = .number true m e) (hm : m ≠ 0) : ∃ y, single.sub 0 x = some y ∧ single.read y = .number false m e := by
  refine ⟨x % 2147483648, ?_⟩
  have hr : x % 2147483648 < 2147483648 := Nat.mod_lt _ (by decide)
  have h' := h
  rw [read_f32] at h'
  rw [read_rung hr]
  by_cases h1 : x % 2147483648 < 8388608
  · rw [if_pos h1] at h' ⊢
    simp only [Datum.number.injEq] at h'
    obtain ⟨_, rfl, rfl⟩ := h'
    exact ⟨by rw [sub0_near h hm (by omega), near_low hm h1], rfl⟩
  · rw [if_neg h1] at h' ⊢
    by_cases h2 : x % 2147483648 < 2139095040
    · rw [if_pos h2] at h' ⊢
      simp only [Datum.number.injEq] at h'
      obtain ⟨_, rfl, rfl⟩ := h'
      exact ⟨by rw [sub0_near h hm (by omega), near_full h1 h2], rfl⟩
    · rw [if_neg h2] at h'
      split at h' <;> cases h'
open Ieee in
theorem sub0_inf {x : Nat} (h : single.read x = .infinity true) : ∃ y, single.sub 0 x = some y ∧ single.read y = .infinity false := by
  have h0 : single.read 0 = .number false 0 (-149) := by decide +kernel
  refine ⟨single.word false single.infRung, ?_, by decide +kernel⟩
  unfold Format.sub
  rw [h0, h]; rfl
/-! ### sizes -/
def sizI (x : Nat) : Nat := if fcmp .lss .f32 x (cz .f32 0) = true then fneg .f32 x else if fcmp .eql .f32 x (cz .f32 0) = true then cz .f32 0 else x
def sizS (x : Nat) : Nat := if fcmp .leq .f32 x (cz .f32 0) = true then fop .sub .f32 (cz .f32 0) x else x
theorem fc_lss {x y : Nat} {c : Option Ordering} (h : Ieee.single.order x y = c) : fcmp .lss .f32 x y = (c == some .lt) := by subst h; rfl
theorem fc_leq {x y : Nat} {c : Option Ordering} (h : Ieee.single.order x y = c) : fcmp .leq .f32 x y = (c == some .lt || c == some .eq) := by subst h; rfl
theorem fc_eql {x y : Nat} {c : Option Ordering} (h : Ieee.single.order x y = c) : fcmp .eql .f32 x y = (c == some .eq) := by subst h; rfl
theorem fc_gtr {x y : Nat} {c : Option Ordering} (h : Ieee.single.order x y = c) : fcmp .gtr .f32 x y = (c == some .gt) := by subst h; rfl
open Ieee in
theorem fop_sub0 {x y : Nat} (hy : single.sub 0 x = some y) (hn : (single.read y).isNaN = false) : single.read (fop .sub .f32 0 x) = single.read y := by
  have : fop .sub .f32 0 x = cz .f32 y := by
    show ((single.sub 0 x).map (cz .f32)).getD _ = _
    rw [hy]; rfl
  rw [this, cz32 _ hn]
theorem siz_not {x : Nat} {c : Option Ordering} (h : Ieee.single.order x 0 = c) (h1 : (c == some .lt) = false) (h2 : (c == some .eq) = false) : sizS x = x ∧ sizI x = x := by
  unfold sizS sizI
  rw [c0_32]
  have e1 := fc_leq h
  rw [h1, h2] at e1
  have e2 := fc_lss h
  rw [h1] at e2
  have e3 := fc_eql h
  rw [h2] at e3
  rw [if_neg (by rw [e1]; decide), if_neg (by rw [e2]; decide), if_neg (by rw [e3]; decide)]
  exact ⟨rfl, rfl⟩
theorem siz_lt {x : Nat} (h : Ieee.single.order x 0 = some .lt) : sizS x = fop .sub .f32 0 x ∧ sizI x = fneg .f32 x := by
  unfold sizS sizI
  rw [c0_32]
  have e1 := fc_leq h
  have e2 := fc_lss h
  exact ⟨if_pos (by rw [e1]; rfl), if_pos (by rw [e2]; rfl)⟩
theorem siz_0 {x : Nat} (h : Ieee.single.order x 0 = some .eq) : sizS x = fop .sub .f32 0 x ∧ sizI x = 0 := by
  unfold sizS sizI
  rw [c0_32]
  have e1 := fc_leq h
  have e2 := fc_lss h
  have e3 := fc_eql h
  refine ⟨if_pos (by rw [e1]; rfl), ?_⟩
  rw [if_neg (by rw [e2]; decide)]
  exact if_pos (by rw [e3]; rfl)
open Ieee in
theorem val_pos {m : Nat} {e : Int} (hm : m ≠ 0) : (0 : Int) < val (.number false m e) := by
  have hp := Nat.two_pow_pos (e + 149).toNat
  have hne : m * 2 ^ (e + 149).toNat ≠ 0 := Nat.mul_ne_zero hm (by omega)
  simp only [val, signed, Bool.false_eq_true, if_false, Nat.shiftLeft_eq]; omega
open Ieee in
theorem val_neg {m : Nat} {e : Int} : val (.number true m e) = - val (.number false m e) := by
  simp only [val, signed, Bool.false_eq_true, if_false, if_true]
open Ieee in
theorem read_0 : single.read 0 = .number false 0 (-149) := by decide +kernel
open Ieee in
/-- Both sizes read alike. -/
theorem siz_read (x : Nat) : single.read (sizS x) = single.read (sizI x) := by
  rcases read_single x with ⟨s, t, h⟩ | ⟨s, h⟩ | ⟨s, m, e, h, hm, he, _⟩
  · have ho : single.order x 0 = none := by unfold Format.order; rw [h]; rfl
    have := siz_not ho rfl rfl
    rw [this.1, this.2]
  · cases s
    · have ho : single.order x 0 = some .gt := by unfold Format.order; rw [h, read_0]; rfl
      have := siz_not ho rfl rfl
      rw [this.1, this.2]
    · have ho : single.order x 0 = some .lt := by unfold Format.order; rw [h, read_0]; rfl
      have := siz_lt ho
      obtain ⟨y, h1, h2⟩ := sub0_inf h
      rw [this.1, this.2, fop_sub0 h1 (by rw [h2]; rfl), h2, fneg_read (by rw [h]; rfl), h]; rfl
  · have ho : single.order x 0 = some (compare (val (.number s m e)) 0) := by
      unfold Format.order; rw [h, read_0, order_val he (by omega), show val (.number false 0 (-149)) = 0 by decide]
    by_cases hz : m = 0
    · subst hz
      have hv : val (.number s 0 e) = 0 := by cases s <;> simp [val, signed]
      rw [hv] at ho
      have := siz_0 ho
      have h1 : single.sub 0 x = some 0 := by
        unfold Format.sub
        rw [read_0, h]
        cases s <;> simp [Datum.opposite, Datum.sum, signed, Format.write, Format.nearest, Format.word]
      rw [this.1, this.2, fop_sub0 h1 (by rw [read_0]; rfl)]
    · have hv := val_pos (e := e) hz
      cases s
      · have hc : compare (val (.number false m e)) 0 = Ordering.gt := by
          have := cmp_gt (a := val (.number false m e)) (b := 0); rw [decide_eq_true hv] at this; exact eq_of_beq this
        rw [hc] at ho
        have := siz_not ho rfl rfl
        rw [this.1, this.2]
      · have hc : compare (val (.number true m e)) 0 = Ordering.lt := by
          have := cmp_lt (a := val (.number true m e)) (b := 0); rw [decide_eq_true (by rw [val_neg]; omega)] at this; exact eq_of_beq this
        rw [hc] at ho
        have := siz_lt ho
        obtain ⟨y, h1, h2⟩ := sub0_num h hz
        rw [this.1, this.2, fop_sub0 h1 (by rw [h2]; rfl), h2, fneg_read (by rw [h]; rfl), h]; rfl
theorem siz_cmp (op : BinOp) (x y : Nat) : fcmp op .f32 (sizS x) y = fcmp op .f32 (sizI x) y := by
  have h : Ieee.single.order (sizS x) y = Ieee.single.order (sizI x) y := by unfold Ieee.Format.order; rw [siz_read]
  unfold fcmp
  rw [show FloatKind.f32.format = Ieee.single from rfl, h]
theorem spec_l03Size_wp {a : Nat} {K : Nat → Prop} (h : K (sizS a)) : spec_l03Size.wp a K := by
  refine ⟨fun c => ?_, fun c => ?_⟩
  · rw [sizS, if_pos c] at h; exact h
  · rw [sizS, if_neg (by rw [c]; decide)] at h; exact h
theorem impl_size_wp {a : Nat} {K : Nat → Prop} (h : K (sizI a)) : impl_size.wp a K := by
  refine ⟨fun c => ?_, fun c => ⟨fun c2 => ?_, fun c2 => ?_⟩⟩
  · rw [sizI, if_pos c] at h; exact h
  · rw [sizI, if_neg (by rw [c]; decide), if_pos c2] at h; exact h
  · rw [sizI, if_neg (by rw [c]; decide), if_neg (by rw [c2]; decide)] at h; exact h

end Go.Proofs.Ytpeijfnfffogeaa.G

namespace Go.Proofs.Ytpeijfnfffogeaa.G
open Go Go.Ab
set_option maxRecDepth 100000
set_option linter.unusedVariables false
set_option linter.unusedSimpArgs false
set_option maxHeartbeats 1000000
open Ieee in
theorem sgn_read {x : Nat} (h : (single.read x).isNaN = false) : (single.read x).neg = (x / 2147483648 % 2 == 1) := by
  rw [read_f32] at h ⊢
  split
  · rfl
  · split
    · rfl
    · split
      · rfl
      · rename_i h1 h2 h3; rw [if_neg h1, if_neg h2, if_neg h3] at h; cases h
open Ieee in
/-- A number made longer: its sign, and a rung. -/
theorem widen_word {x : Nat} (h : (single.read x).isNaN = false) : ∃ r, r ≤ double.infRung ∧ widen x = double.word (single.read x).neg r ∧ (double.read (widen x)).isNaN = false := by
  have hs : double.infRung < double.signWeight := by decide +kernel
  have hd : FloatKind.f32.decode x = single.read x := rfl
  have hcz : ∀ s r, r ≤ double.infRung → cz .f64 (double.word s r) = double.word s r := fun s r hr => by
    have : (FloatKind.f64.decode (double.word s r)).isNaN = false := word_num double s r hr hs
    unfold cz; rw [if_neg (by rw [this]; decide)]
  have hw := widen_eq x
  unfold fconv at hw
  rw [if_neg (by decide), hd] at hw
  cases hr : single.read x with
  | nan s t => rw [hr] at h; cases h
  | infinity s =>
    rw [hr] at hw
    have e : widen x = double.word s double.infRung := by
      have h1 : some (cz .f64 (double.word s double.infRung)) = some (widen x) := hw
      rw [hcz s _ (Nat.le_refl _)] at h1
      exact (Option.some.inj h1).symm
    exact ⟨double.infRung, Nat.le_refl _, e, by rw [e]; exact word_num double s _ (Nat.le_refl _) hs⟩
  | number s m e =>
    rw [hr] at hw
    dsimp only at hw
    split at hw
    · cases hw
    · have h1 : some (cz .f64 (double.nearest s m e)) = some (widen x) := hw
      have hn : ∃ r, r ≤ double.infRung ∧ double.nearest s m e = double.word s r := by
        unfold Format.nearest
        split
        · exact ⟨0, Nat.zero_le _, rfl⟩
        · exact ⟨_, Nat.min_le_right _ _, rfl⟩
      obtain ⟨r, hr1, hr2⟩ := hn
      rw [hr2, hcz s r hr1] at h1
      have e2 := (Option.some.inj h1).symm
      exact ⟨r, hr1, e2, by rw [e2]; exact word_num double s r hr1 hs⟩
def sgn (x : Nat) : Bool := (x / 2147483648 % 2 == 1)
theorem signbit_wp {x : Nat} {K : Bool → Prop} (h : (Ieee.single.read x).isNaN = false) (hk : K (sgn x)) : math_Signbit.wp (widen x) K := by
  obtain ⟨r, h1, h2, h3⟩ := widen_word h
  have hr : r ≤ 9218868437227405312 := by
    have : Ieee.double.infRung = 9218868437227405312 := by decide +kernel
    omega
  refine ⟨?_, ?_⟩
  · have : (FloatKind.f64.decode (widen x)).isNaN = false := h3
    simp [num, this]
  · show K (decide (IntKind.i64.wrap ((widen x : Nat) : Int) < 0))
    rw [sgn_read h] at h2
    have hsw : Ieee.double.signWeight = 9223372036854775808 := by decide +kernel
    have e : decide (IntKind.i64.wrap ((widen x : Nat) : Int) < 0) = sgn x := by
      unfold sgn
      cases hc : (x / 2147483648 % 2 == 1) with
      | false =>
        rw [hc] at h2
        have e2 : widen x = r := h2
        rw [e2, wI (by omega)]
        exact decide_eq_false (by omega)
      | true =>
        rw [hc] at h2
        have e2 : widen x = 9223372036854775808 + r := by rw [h2, ← hsw]; rfl
        rw [e2]
        refine decide_eq_true ?_
        have : IntKind.i64.wrap ((9223372036854775808 + r : Nat) : Int) = (r : Int) - 9223372036854775808 := by
          unfold IntKind.wrap
          have hm : (((9223372036854775808 + r : Nat) : Int)) % 18446744073709551616 = 9223372036854775808 + (r : Int) := by omega
          simp (decide := true) [IntKind.signed, IntKind.bits, hm]
          omega
        rw [this]; omega
    rw [e]; exact hk
open Ieee in
/-- The canonical form: which rung it is. -/
theorem rung_of {x : Nat} {s : Bool} {m : Nat} {e : Int} (h : single.read x = .number s m e) : s = sgn x ∧ -149 ≤ e ∧ (e = -149 ∧ m < 16777216 ∧ x % 2147483648 = m ∨ -149 < e ∧ 8388608 ≤ m ∧ m < 16777216 ∧ x % 2147483648 = (e + 150).toNat * 8388608 + (m - 8388608)) := by
  rw [read_f32] at h
  have hr : x % 2147483648 < 2147483648 := Nat.mod_lt _ (by decide)
  generalize x % 2147483648 = r at h hr
  by_cases h1 : r < 8388608
  · rw [if_pos h1] at h
    simp only [Datum.number.injEq] at h
    obtain ⟨rfl, rfl, rfl⟩ := h
    exact ⟨rfl, by omega, .inl ⟨rfl, by omega, rfl⟩⟩
  · rw [if_neg h1] at h
    by_cases h2 : r < 2139095040
    · rw [if_pos h2] at h
      simp only [Datum.number.injEq] at h
      obtain ⟨rfl, rfl, rfl⟩ := h
      have hmd : r % 8388608 < 8388608 := Nat.mod_lt _ (by decide)
      have hdm := Nat.div_add_mod r 8388608
      refine ⟨rfl, by omega, ?_⟩
      by_cases h3 : r / 8388608 = 1
      · left; refine ⟨by omega, by omega, by omega⟩
      · right
        refine ⟨by omega, by omega, by omega, ?_⟩
        rw [show (-149 + ((r / 8388608 - 1 : Nat) : Int) + 150).toNat = r / 8388608 by omega]
        omega
    · rw [if_neg h2] at h; split at h <;> cases h
open Ieee in
theorem val_inj {s : Bool} {m n : Nat} {e k : Int} (he : -149 ≤ e) (hk : -149 ≤ k) (hm : m < 16777216) (hn : n < 16777216) (hke : e < k → 8388608 ≤ n) (h : val (.number s m e) = val (.number s n k)) : ¬ e < k := by
  intro hlt
  have h8 := hke hlt
  have h1 : m * 2 ^ (e + 149).toNat = n * 2 ^ (k + 149).toNat := by
    cases s
    · simp only [val, signed, Bool.false_eq_true, if_false, Nat.shiftLeft_eq] at h; exact Int.ofNat_inj.1 h
    · simp only [val, signed, if_true, Nat.shiftLeft_eq] at h; exact Int.ofNat_inj.1 (by omega)
  have h2 : (k + 149).toNat = (k - e).toNat + (e + 149).toNat := by omega
  rw [h2, Nat.pow_add, ← Nat.mul_assoc] at h1
  have h3 := Nat.eq_of_mul_eq_mul_right (Nat.two_pow_pos _) h1
  have h4 : 2 ^ 1 ≤ 2 ^ (k - e).toNat := Nat.pow_le_pow_right (by decide) (by omega)
  have h5 : n * 2 ≤ n * 2 ^ (k - e).toNat := Nat.mul_le_mul_left _ h4
  omega
open Ieee in
theorem val_mag {s : Bool} {m n : Nat} {e : Int} (h : val (.number s m e) = val (.number s n e)) : m = n := by
  have h1 : m * 2 ^ (e + 149).toNat = n * 2 ^ (e + 149).toNat := by
    cases s
    · simp only [val, signed, Bool.false_eq_true, if_false, Nat.shiftLeft_eq] at h; exact Int.ofNat_inj.1 h
    · simp only [val, signed, if_true, Nat.shiftLeft_eq] at h; exact Int.ofNat_inj.1 (by omega)
  exact Nat.eq_of_mul_eq_mul_right (Nat.two_pow_pos _) h1
theorem word_ext {a b : Nat} (ha : a < 2 ^ 32) (hb : b < 2 ^ 32) (h1 : sgn a = sgn b) (h2 : a % 2147483648 = b % 2147483648) : a = b := by
  unfold sgn at h1
  have d1 := Nat.div_add_mod a 2147483648
  have d2 := Nat.div_add_mod b 2147483648
  have e1 : a / 2147483648 < 2 := by omega
  have e2 : b / 2147483648 < 2 := by omega
  have : a / 2147483648 = b / 2147483648 := by
    rw [Nat.mod_eq_of_lt e1, Nat.mod_eq_of_lt e2] at h1
    rcases Nat.lt_or_ge (a / 2147483648) 1 with h | h <;> rcases Nat.lt_or_ge (b / 2147483648) 1 with h' | h'
    · omega
    · rw [show a / 2147483648 = 0 by omega, show b / 2147483648 = 1 by omega] at h1; cases h1
    · rw [show a / 2147483648 = 1 by omega, show b / 2147483648 = 0 by omega] at h1; cases h1
    · omega
  omega
theorem inf_rung {x : Nat} {s : Bool} (h : Ieee.single.read x = .infinity s) : s = sgn x ∧ x % 2147483648 = 2139095040 := by
  rw [read_f32] at h
  split at h
  · cases h
  · split at h
    · cases h
    · split at h
      · rename_i h3
        simp only [Ieee.Datum.infinity.injEq] at h
        exact ⟨h.symm, h3⟩
      · cases h
open Ieee in
/-- Equal, and of one sign: the same word. -/
theorem same_word {a b : Nat} (ha : a < 2 ^ 32) (hb : b < 2 ^ 32) (ho : single.order a b = some .eq) (hs : sgn a = sgn b) : a = b := by
  unfold Format.order at ho
  rcases read_single a with ⟨s, t, h⟩ | ⟨s, h⟩ | ⟨s, m, e, h, hm, he, _⟩
  · rw [h] at ho; cases ho
  · rcases read_single b with ⟨s', t', h'⟩ | ⟨s', h'⟩ | ⟨s', m', e', h', hm', he', _⟩
    · rw [h, h'] at ho; cases ho
    · exact word_ext ha hb hs (by rw [(inf_rung h).2, (inf_rung h').2])
    · rw [h, h'] at ho; cases s <;> cases ho
  · rcases read_single b with ⟨s', t', h'⟩ | ⟨s', h'⟩ | ⟨s', m', e', h', hm', he', _⟩
    · rw [h, h'] at ho; cases ho
    · rw [h, h'] at ho; cases s' <;> cases ho
    · rw [h, h', order_val he he'] at ho
      have hv : val (.number s m e) = val (.number s' m' e') := by
        have := cmp_eq (a := val (.number s m e)) (b := val (.number s' m' e'))
        rw [Option.some.inj ho] at this
        exact of_decide_eq_true this.symm
      obtain ⟨rs, _, r1⟩ := rung_of h
      obtain ⟨rs', _, r2⟩ := rung_of h'
      rw [rs, rs', ← hs] at hv
      have l1 := val_inj he he' (by omega) (by omega) (fun c => by omega) hv
      have l2 := val_inj he' he (by omega) (by omega) (fun c => by omega) hv.symm
      obtain rfl : e = e' := by omega
      have hmm := val_mag hv
      subst hmm
      exact word_ext ha hb hs (by omega)
def sameN (a b : Nat) : Bool := decide (bitsN a = bitsN b)
theorem nan_neq {x : Nat} (h : fcmp .neq .f32 x x = false) : (Ieee.single.read x).isNaN = false := by
  have := num_of_eq h
  unfold num at this
  cases hc : (FloatKind.f32.decode x).isNaN with
  | false => exact hc
  | true => rw [hc] at this; cases this
theorem canon_nan : fcmp .neq .f32 2143289344 2143289344 = true := by decide +kernel
theorem impl_SameNumber_wp {a b : Nat} {K : Bool → Prop} (ha : a < 2 ^ 32) (hb : b < 2 ^ 32) (h : K (sameN a b)) : impl_SameNumber.wp a b K := by
  refine ⟨fun c => ?_, fun c => ⟨fun c2 => ?_, fun c2 => ⟨fun c3 => ?_, fun c3 => ?_⟩⟩⟩
  · have e : sameN a b = fcmp .neq .f32 b b := by
      unfold sameN bitsN
      rw [if_pos c]
      cases hb2 : fcmp .neq .f32 b b with
      | true => rw [if_pos rfl]; simp
      | false =>
        rw [if_neg (by decide)]
        refine decide_eq_false fun e => ?_
        rw [← e, canon_nan] at hb2; cases hb2
    rw [e] at h; exact h
  · have e : sameN a b = false := by
      unfold sameN bitsN
      rw [if_neg (by rw [c]; decide), if_pos c2]
      refine decide_eq_false fun e => ?_
      rw [e, canon_nan] at c; cases c
    rw [e] at h; exact h
  · have na := nan_neq c
    have nb' := nan_neq c2
    have e : sameN a b = (sgn a == sgn b) := by
      unfold sameN bitsN
      rw [if_neg (by rw [c]; decide), if_neg (by rw [c2]; decide)]
      have ho : Ieee.single.order a b = some .eq := by
        have := fc_eql (x := a) (y := b) rfl
        rw [c3] at this; exact eq_of_beq this.symm
      rw [Bool.eq_iff_iff, decide_eq_true_eq, beq_iff_eq]
      exact ⟨fun e => by rw [e], fun e => same_word ha hb ho e⟩
    rw [e] at h
    exact signbit_wp na (signbit_wp nb' h)
  · have e : sameN a b = false := by
      unfold sameN bitsN
      rw [if_neg (by rw [c]; decide), if_neg (by rw [c2]; decide)]
      refine decide_eq_false fun e => ?_
      subst e
      have := order_num (k := .f32) (x := a) (nan_neq c)
      rw [fc_eql (c := some .eq) this] at c3
      cases c3
    rw [e] at h; exact h
theorem spec_l01Same_wp {a b : Nat} {K : Bool → Prop} (ha : a < 2 ^ 32) (hb : b < 2 ^ 32) (h : K (sameN a b)) : spec_l01Same.wp a b K := by
  refine spec_l01Bits_wp ha (spec_l01Bits_wp hb ?_)
  have e : decide (((bitsN a : Nat) : Int) = ((bitsN b : Nat) : Int)) = sameN a b := by
    unfold sameN
    rw [Bool.eq_iff_iff, decide_eq_true_eq, decide_eq_true_eq]; omega
  rw [e]; exact h
def sameAt (l m : List Nat) (i : Nat) : Bool := sameN (l.getD i 0) (m.getD i 0)
def sameNs (l m : List Nat) : Bool := decide (l.length = m.length) && (List.range l.length).all (sameAt l m)
theorem range_get3 {n i : Nat} (h : i < (List.range n).length) : (List.range n)[i] = i := List.getElem_range h
theorem getD_lt2 {l : List Nat} {i : Nat} (h : ∀ x ∈ l, x < 2 ^ 32) : l.getD i 0 < 2 ^ 32 := by
  rw [List.getD_eq_getElem?_getD]
  cases he : l[i]? with
  | none => exact Nat.two_pow_pos 32
  | some x => exact h x (List.mem_of_getElem? he)
theorem impl_sameNumbers_wp {l m : List Nat} {K : Bool → Prop} (hl : l.length ≤ 2 ^ 20) (hw : ∀ x ∈ l, x < 2 ^ 32) (hv : ∀ x ∈ m, x < 2 ^ 32) (h : K (sameNs l m)) : impl_sameNumbers.wp l m K := by
  refine ⟨fun c => fun X hX => ?_, fun c => by rw [sameNs, decide_eq_false (by omega)] at h; exact h⟩
  rw [sameNs, decide_eq_true (by omega), Bool.true_and] at h
  refine all_loop (List.range l.length) (sameAt l m) (X := X) (T := K true) (F := K false) (fun i hi hh => ?_) (fun ht => hX _ ⟨fun c => absurd c (by rw [List.length_range]; omega), fun _ => ht⟩) (fun e => by rw [e] at h; exact h) (fun e => by rw [e] at h; exact h)
  rw [range_get3] at hh; rw [List.length_range] at hi
  refine hX _ ⟨fun _ => ⟨⟨by omega, by omega⟩, ⟨by omega, by omega⟩, impl_SameNumber_wp (getD_lt2 hw) (getD_lt2 hv) ?_⟩, fun c => absurd (show (i : Int) < l.length by omega) c⟩
  rw [nn, w1 (by omega)]; exact hh
theorem spec_l01SameAll_wp {l m : List Nat} {K : Bool → Prop} (hl : l.length ≤ 2 ^ 20) (hw : ∀ x ∈ l, x < 2 ^ 32) (hv : ∀ x ∈ m, x < 2 ^ 32) (h : K (sameNs l m)) : spec_l01SameAll.wp l m K := by
  refine ⟨fun c => fun X hX => ?_, fun c => by rw [sameNs, decide_eq_false (by omega)] at h; exact h⟩
  rw [sameNs, decide_eq_true (by omega), Bool.true_and] at h
  refine all_loop (List.range l.length) (sameAt l m) (X := X) (T := K true) (F := K false) (fun i hi hh => ?_) (fun ht => hX _ ⟨fun c => absurd c (by rw [List.length_range]; omega), fun _ => ht⟩) (fun e => by rw [e] at h; exact h) (fun e => by rw [e] at h; exact h)
  rw [range_get3] at hh; rw [List.length_range] at hi
  refine hX _ ⟨fun _ => ⟨⟨by omega, by omega⟩, ⟨by omega, by omega⟩, spec_l01Same_wp (getD_lt2 hw) (getD_lt2 hv) ?_⟩, fun c => absurd (show (i : Int) < l.length by omega) c⟩
  rw [nn, w1 (by omega)]; exact hh

end Go.Proofs.Ytpeijfnfffogeaa.G

namespace Go.Proofs.Ytpeijfnfffogeaa.G
open Go Go.Ab
set_option maxRecDepth 100000
set_option linter.unusedVariables false
set_option linter.unusedSimpArgs false
set_option maxHeartbeats 1000000
def tkSame (x y : Tk) : Bool := decide (x.1 = y.1) && decide (x.2.1 = y.2.1) && sameNs x.2.2 y.2.2
def tkAt (l m : List Tk) (i : Nat) : Bool := tkSame (l.getD i tk0) (m.getD i tk0)
def tksSame (l m : List Tk) : Bool := decide (l.length = m.length) && (List.range l.length).all (tkAt l m)
theorem tk_get {l : List Tk} (hl : TkOk l) (i : Nat) : (l.getD i tk0).2.2.length ≤ 2 ^ 20 ∧ ∀ y ∈ (l.getD i tk0).2.2, y < 2 ^ 32 := by
  rw [List.getD_eq_getElem?_getD]
  cases he : l[i]? with
  | none => exact ⟨Nat.zero_le _, fun y hy => by cases hy⟩
  | some x => exact ⟨(hl.2 x (List.mem_of_getElem? he)).2.1, (hl.2 x (List.mem_of_getElem? he)).2.2⟩
theorem impl_sameTake_wp {a b : List UInt8} {k q : Int} {l m : List Nat} {K : Bool → Prop} (hl : l.length ≤ 2 ^ 20) (hw : ∀ x ∈ l, x < 2 ^ 32) (hv : ∀ x ∈ m, x < 2 ^ 32) (h : K (tkSame (a, k, l) (b, q, m))) : impl_sameTake.wp a k l b q m K := by
  unfold tkSame at h
  refine ⟨fun c1 => ⟨fun c2 => impl_sameNumbers_wp hl hw hv ?_, fun c2 => ?_⟩, fun c1 => ?_⟩
  · rw [decide_eq_true c1, decide_eq_true c2] at h; exact h
  · rw [decide_eq_false (show ¬ k = q from c2), Bool.and_false] at h; exact h
  · rw [decide_eq_false (show ¬ a = b from c1)] at h; exact h
theorem impl_same_wp {l m : List Tk} {K : Bool → Prop} (hl : TkOk l) (hm : TkOk m) (h : K (tksSame l m)) : impl_SameTakes.wp l m K := by
  refine ⟨fun c => fun X hX => ?_, fun c => by rw [tksSame, decide_eq_false (by omega)] at h; exact h⟩
  rw [tksSame, decide_eq_true (by omega), Bool.true_and] at h
  have h20 := hl.1
  refine all_loop (List.range l.length) (tkAt l m) (X := X) (T := K true) (F := K false) (fun i hi hh => ?_) (fun ht => hX _ ⟨fun c => absurd c (by rw [List.length_range]; omega), fun _ => ht⟩) (fun e => by rw [e] at h; exact h) (fun e => by rw [e] at h; exact h)
  rw [range_get3] at hh; rw [List.length_range] at hi
  refine hX _ ⟨fun _ => ⟨⟨by omega, by omega⟩, ⟨by omega, by omega⟩, ?_⟩, fun c => absurd (show (i : Int) < l.length by omega) c⟩
  rw [nn, w1 (by omega)]
  have g1 := tk_get hl i
  have g2 := tk_get hm i
  unfold tkAt at hh
  unfold tk0 at hh g1 g2
  exact impl_sameTake_wp g1.1 g1.2 g2.2 hh

end Go.Proofs.Ytpeijfnfffogeaa.G

namespace Go.Proofs.Ytpeijfnfffogeaa.G
open Go Go.Ab
set_option maxRecDepth 100000
set_option linter.unusedVariables false
set_option linter.unusedSimpArgs false
set_option maxHeartbeats 1000000
-- HYPE: 0 1
theorem impl_LoadTakeY_wp {s : List UInt8} {t : Tk} {K : List UInt8 → Int → List Nat → Bool → Prop} (hs : s.length ≤ 2 ^ 20) (h : ahead s = some t) (hl : longA s = s.length) (hk : K t.1 t.2.1 t.2.2 true) : impl_LoadTake.wp s K := by
  refine impl_takeAhead_wp hs ?_
  rw [h]
  exact tT (tP (by omega) hk)
theorem impl_PackTakeY_wp {l : List Nat} {K : List UInt8 → Bool → Prop} (hl : 1 ≤ l.length ∧ l.length ≤ 128) (hw : ∀ x ∈ l, x < 2 ^ 32) (hk : K (packL l) true) : impl_PackTake.wp l K :=
  impl_within_wp (tE (decide_eq_true (by omega)) (impl_packed_wp (by omega) hw hk))
theorem impl_UnpackTakeY_wp {l : List Nat} {K : List Nat → Bool → Prop} (hl : 1 ≤ l.length ∧ l.length ≤ 128) (hw : ∀ x ∈ l, x < 2 ^ 32) (hk : K (l.map canon) true) : impl_UnpackTake.wp (packL l) K := by
  have := packL_len l
  refine impl_UnpackTake_wp (by omega) ?_
  rw [unpR_pack hl hw]; exact hk
theorem sameN_canon (x : Nat) : sameN (canon x) x = true := by unfold sameN; rw [bits_canon]; exact decide_eq_true rfl
theorem sameNs_canon (l : List Nat) : sameNs (l.map canon) l = true := by
  unfold sameNs
  rw [List.length_map, decide_eq_true rfl, Bool.true_and, List.all_eq_true]
  intro i hi
  have hi := List.mem_range.1 hi
  unfold sameAt
  rw [gD (by rw [List.length_map]; exact hi), gD hi, List.getElem_map]
  exact sameN_canon _
theorem tkSame_can (t : Tk) : tkSame (canT t) t = true := by
  unfold tkSame canT
  rw [decide_eq_true rfl, decide_eq_true rfl, sameNs_canon]; rfl
theorem tksSame_can (L : List Tk) : tksSame (L.map canT) L = true := by
  unfold tksSame
  rw [List.length_map, decide_eq_true rfl, Bool.true_and, List.all_eq_true]
  intro i hi
  have hi := List.mem_range.1 hi
  unfold tkAt
  rw [gD (by rw [List.length_map]; exact hi), gD hi, List.getElem_map]
  exact tkSame_can _
theorem b10List_wp {l m : List Nat} {K : Bool → Prop} (hl : l.length ≤ 2 ^ 20) (hw : ∀ x ∈ l, x < 2 ^ 32) (hv : ∀ x ∈ m, x < 2 ^ 32) (h : K (sameNs l m)) : laws_b10List.wp l m K := by
  refine ⟨fun c => fun X hX => ?_, fun c => by rw [sameNs, decide_eq_false (by omega)] at h; exact h⟩
  rw [sameNs, decide_eq_true (by omega), Bool.true_and] at h
  refine all_loop (List.range l.length) (sameAt l m) (X := X) (T := K true) (F := K false) (fun i hi hh => ?_) (fun ht => hX _ ⟨fun c => absurd c (by rw [List.length_range]; omega), fun _ => ht⟩) (fun e => by rw [e] at h; exact h) (fun e => by rw [e] at h; exact h)
  rw [range_get3] at hh; rw [List.length_range] at hi
  refine hX _ ⟨fun _ => ⟨⟨by omega, by omega⟩, ⟨by omega, by omega⟩, spec_l01Same_wp (getD_lt2 hw) (getD_lt2 hv) ?_⟩, fun c => absurd (show (i : Int) < l.length by omega) c⟩
  rw [nn, w1 (by omega)]; exact hh
theorem b10At_wp {l : List Int} {k n : Int} {K : Int → Prop} (hl : Byt l) (hk : 0 ≤ k ∧ k ≤ 1000) (hn : 2 ≤ n ∧ n ≤ 2 ^ 40) (h : ∀ v : Int, 0 ≤ v ∧ v < n → K v) : laws_b10At.wp l k n K := by
  refine ⟨fun c => h 0 (by omega), fun c => ⟨fun c2 => ⟨⟨hk.1, c2⟩, by omega, ?_⟩, fun c2 => ⟨by omega, ?_⟩⟩⟩
  · have hi : k.toNat < l.length := by omega
    rw [gD hi]
    have hb := hl.2 _ (List.getElem_mem hi)
    rw [wI (by omega), Int.tmod_eq_emod_of_nonneg (by omega)]
    exact h _ ⟨Int.emod_nonneg _ (by omega), Int.emod_lt_of_pos _ (by omega)⟩
  · rw [wI (n := k * 37) (by omega), wI (n := k * 37 + 11) (by omega), Int.tmod_eq_emod_of_nonneg (by omega)]
    exact h _ ⟨Int.emod_nonneg _ (by omega), Int.emod_lt_of_pos _ (by omega)⟩
def endT (T : List Tk) (k : Nat) : Nat := ((T.take k).flatMap tkS).length
theorem endT_succ {T : List Tk} {k : Nat} (hk : k < T.length) : endT T (k + 1) = endT T k + (tkS T[k]).length := by
  unfold endT
  rw [List.take_succ_eq_append_getElem hk, List.flatMap_append, List.length_append, List.flatMap_cons, List.flatMap_nil, List.append_nil]
theorem endT_all (T : List Tk) : endT T T.length = (T.flatMap tkS).length := by unfold endT; rw [List.take_length]
theorem flat_split {T : List Tk} {k : Nat} (hk : k < T.length) : T.flatMap tkS = (T.take k).flatMap tkS ++ (tkS T[k] ++ (T.drop (k + 1)).flatMap tkS) := by
  conv => lhs; rw [← List.take_append_drop k T]
  rw [List.flatMap_append, dropC hk, List.flatMap_cons]
def endsT (T : List Tk) (i : Nat) : List Int := (List.range (i + 1)).map fun j => ((endT T j : Nat) : Int)
theorem endsT_len (T : List Tk) (i : Nat) : (endsT T i).length = i + 1 := by simp [endsT]
theorem endsT_at {T : List Tk} {i j : Nat} (h : j < i + 1) : (endsT T i).getD j 0 = (endT T j : Int) := by
  rw [gD (by rw [endsT_len]; exact h)]; simp [endsT]
theorem endsT_succ (T : List Tk) (i : Nat) : endsT T (i + 1) = endsT T i ++ [((endT T (i + 1) : Nat) : Int)] := by
  unfold endsT
  rw [List.range_succ, List.map_append]; rfl
theorem flat_len4 {T : List Tk} (h : T.length ≤ 8) (hg : ∀ t ∈ T, Good t) : (T.flatMap tkS).length ≤ 1000 * T.length := by
  clear h
  induction T with
  | nil => simp
  | cons t T ih =>
    have h1 := tkS_len (hg t (List.mem_cons_self ..)).1
    have h2 := ih fun u hu => hg u (List.mem_cons_of_mem _ hu)
    rw [List.flatMap_cons, List.length_append, List.length_cons]; omega
theorem ok_of {L : List Tk} (h8 : L.length ≤ 8) (h : ∀ t ∈ L, tkP t = true ∧ t.1.length ≤ 2 ^ 20 ∧ t.2.2.length ≤ 2 ^ 20 ∧ ∀ x ∈ t.2.2, x < 2 ^ 32) : TkOk L ∧ stsOk L = true := by
  refine ⟨⟨by omega, fun z hz => (h z hz).2⟩, ?_⟩
  unfold stsOk
  rw [decide_eq_true h8, Bool.true_and, List.all_eq_true]
  exact fun z hz => (h z hz).1
theorem good_ok {t : Tk} (h : Good t) : tkP t = true ∧ t.1.length ≤ 2 ^ 20 ∧ t.2.2.length ≤ 2 ^ 20 ∧ ∀ x ∈ t.2.2, x < 2 ^ 32 := by
  have := tkP_len h.1
  exact ⟨h.1, by omega, by omega, h.2⟩
theorem good_can {t : Tk} (h : Good t) : tkP (canT t) = true ∧ (canT t).1.length ≤ 2 ^ 20 ∧ (canT t).2.2.length ≤ 2 ^ 20 ∧ ∀ x ∈ (canT t).2.2, x < 2 ^ 32 := by
  have := tkP_len h.1
  refine ⟨?_, by show t.1.length ≤ _; omega, by show (t.2.2.map canon).length ≤ _; rw [List.length_map]; omega, fun x hx => ?_⟩
  · have := h.1
    unfold tkP at this ⊢
    unfold canT
    rw [isTk_canon]; exact this
  · obtain ⟨y, hy, rfl⟩ := List.mem_map.1 hx
    exact canon_lt (h.2 y hy)
theorem ahead_nil : ahead [] = none := ahead0 rfl
theorem pureTakes (l0 l1 : List Int) (hb0 : ∀ x ∈ l0, 0 ≤ x ∧ x < 256) (hb1 : ∀ x ∈ l1, 0 ≤ x ∧ x < 256) : laws_FnTakes.wp l0 l1 (fun b => b = true) := by
  refine ⟨fun c => ⟨fun _ => rfl, fun c2 => absurd c2 (by decide)⟩, fun c => ⟨fun _ => rfl, fun c2 => ?_⟩⟩
  have c2 := of_decide_eq_false c2
  refine spec_B10Takes_wp ⟨by omega, hb0⟩ fun T hT hg => ?_
  have hB1 : Byt l1 := ⟨by omega, hb1⟩
  have hL := flat_len4 (T := T) (by omega) hg
  intro X hX
  have key : ∀ (d i : Nat), d + i = T.length → X (endsT T i) (i : Int) := by
    intro d
    induction d with
    | succ d ih =>
      intro i h1
      have hi : i < T.length := by omega
      have ih := ih (i + 1) (by omega)
      have hgi := hg _ (List.getElem_mem hi)
      have hp := tkP_len hgi.1
      have hP : isTk T[i].1 T[i].2.1 T[i].2.2 = true := hgi.1
      have hv : 1 ≤ T[i].2.2.length ∧ T[i].2.2.length ≤ 128 := by
        have := hP
        simp only [isTk, isVals, Bool.and_eq_true, decide_eq_true_eq] at this
        omega
      have hS := tkS_len hgi.1
      have ha := ahead_store (a := T[i].1) (k := T[i].2.1) (l := T[i].2.2) [] hP hgi.2
      rw [List.append_nil] at ha
      refine hX _ _ ⟨fun _ => ⟨⟨by omega, by omega⟩, ?_⟩, fun c => absurd (show (i : Int) < T.length by omega) c⟩
      rw [nn, gD hi, w1 (by omega)]
      have hpk := packL_len T[i].2.2
      refine impl_StoreTake_wp (by omega) (by omega) hgi.2 ?_
      rw [if_pos hP, hP]
      refine impl_LoadTakeY_wp (by rw [tkS] at hS; omega) ha.1 ha.2 (impl_PackTakeY_wp hv hgi.2 (impl_UnpackTakeY_wp hv hgi.2 (tT (tT (tT (tT (impl_ValidTake_wp (by omega) (tE hP ⟨⟨by omega, by omega, by omega⟩, ?_⟩))))))))
      have e1 : (T.drop i).take (((i + 1 : Nat) : Int).toNat - i) = [T[i]] := by
        rw [nn, show i + 1 - i = 1 by omega, dropC hi]; rfl
      rw [e1]
      have okc := ok_of (L := [canT T[i]]) (by simp) (fun z hz => by rw [List.mem_singleton.1 hz]; exact good_can hgi)
      have oko := ok_of (L := [T[i]]) (by simp) (fun z hz => by rw [List.mem_singleton.1 hz]; exact good_ok hgi)
      refine impl_same_wp okc.1 oko.1 (tE (tksSame_can [T[i]]) ⟨true, b10List_wp (by rw [List.length_map]; omega) (fun x hx => by obtain ⟨y, hy, rfl⟩ := List.mem_map.1 hx; exact canon_lt (hgi.2 y hy)) hgi.2 (sameNs_canon _).symm, tT (tN ?_ ?_)⟩)
      · rw [wI (by omega)]; omega
      · rw [endsT_len, show IntKind.i64.wrap (((i + 1 : Nat) : Int) - 1) = (i : Int) by rw [wI (by omega)]; omega]
        refine ⟨⟨by omega, by omega⟩, by rw [len1]; omega, ?_⟩
        have he : endT T (i + 1) ≤ (T.flatMap tkS).length := by
          rw [endT]
          conv => rhs; rw [← List.take_append_drop (i + 1) T, List.flatMap_append, List.length_append]
          exact Nat.le_add_right _ _
        have hes := endT_succ hi
        rw [nn, endsT_at (by omega)]
        rw [show IntKind.i64.wrap (((endT T i : Nat) : Int) + ((storeL T[i].1 T[i].2.1.toNat T[i].2.2).length : Int)) = ((endT T (i + 1) : Nat) : Int) by rw [tkS] at hes; rw [wI (by omega)]; omega]
        rw [← endsT_succ]; exact ih
    | zero =>
      intro i h1
      obtain rfl : i = T.length := by omega
      refine hX _ _ ⟨fun c => absurd c (by omega), fun _ => ?_⟩
      have okT := ok_of (L := T) (by omega) (fun z hz => good_ok (hg z hz))
      refine impl_StoreTakes_wp okT.1 ?_
      rw [okT.2, if_pos rfl]
      refine impl_RecoverTakes_wp (by omega) ?_
      have hr := recF_many T 8 [] hg (by omega)
      rw [List.append_nil, recF_none ahead_nil] at hr
      rw [hr]
      show (true = true → _) ∧ _
      refine tT (tT ⟨⟨by omega, by rw [endsT_len]; omega⟩, ?_⟩)
      rw [nn, endsT_at (by omega), endT_all]
      refine tP rfl (tP (by rw [Nat.add_zero]) ?_)
      rw [List.append_nil]
      have okC := ok_of (L := T.map canT) (by rw [List.length_map]; omega) (fun z hz => by obtain ⟨y, hy, rfl⟩ := List.mem_map.1 hz; exact good_can (hg y hy))
      refine impl_same_wp okC.1 okT.1 (tE (tksSame_can T) ⟨fun _ => rfl, fun hne => ?_⟩)
      refine b10At_wp hB1 (by decide) (by decide) fun x hx => b10At_wp hB1 (by decide) (by decide) fun y hy => ⟨hne, fun Y hY => ?_⟩
      rw [wI (n := 256 * x) (by omega), wI (n := 256 * x + y) (by omega)] at hY
      have hLp : 0 < (T.flatMap tkS).length := by omega
      obtain ⟨c, hc, hce⟩ : ∃ c : Nat, c < (T.flatMap tkS).length ∧ Int.tmod (256 * x + y) ((T.flatMap tkS).length : Int) = (c : Int) := by
        have e := Int.tmod_eq_emod_of_nonneg (a := 256 * x + y) (b := ((T.flatMap tkS).length : Int)) (by omega)
        have h2 := Int.emod_nonneg (256 * x + y) (show ((T.flatMap tkS).length : Int) ≠ 0 by omega)
        have h3 := Int.emod_lt_of_pos (256 * x + y) (show (0 : Int) < ((T.flatMap tkS).length : Int) by omega)
        exact ⟨(Int.tmod (256 * x + y) ((T.flatMap tkS).length : Int)).toNat, by omega, by omega⟩
      rw [hce] at hY
      have keyK : ∀ (d k : Nat), d + k = T.length → endT T k ≤ c → Y (k : Int) := by
        intro d
        induction d with
        | zero =>
          intro k g1 g2
          obtain rfl : k = T.length := by omega
          rw [endT_all] at g2
          omega
        | succ d ihk =>
          intro k g1 g2
          have hk : k < T.length := by omega
          refine hY _ ⟨fun _ => ?_, fun c => absurd (show (k : Int) < T.length by omega) c⟩
          rw [w1 (by omega), nn, nn, endsT_at (by omega), endsT_at (by omega), endsT_len]
          refine ⟨⟨by omega, by omega⟩, fun c3 => ihk (k + 1) (by omega) (by omega), fun c3 => ⟨⟨by omega, by omega, by omega⟩, ?_⟩⟩
          have hsp := flat_split hk
          have hek : endT T k = ((T.take k).flatMap tkS).length := rfl
          have hesk := endT_succ hk
          have hgk : ∀ t ∈ T.take k, Good t := fun t ht => hg t (List.mem_of_mem_take ht)
          have hgi := hg _ (List.getElem_mem hk)
          have htl : (T.take k).length = k := by rw [List.length_take]; omega
          show impl_RecoverTakes.wp ((T.flatMap tkS).take c) _
          have hcut : (T.flatMap tkS).take c = (T.take k).flatMap tkS ++ (tkS T[k]).take (c - endT T k) := by
            rw [hsp, List.take_append, ← hek, List.take_of_length_le (by omega)]
            congr 1
            rw [List.take_append, show c - endT T k - (tkS T[k]).length = 0 by omega, List.take_zero, List.append_nil]
          have hap := ahead_store (a := T[k].1) (k := T[k].2.1) (l := T[k].2.2) [] hgi.1 hgi.2
          rw [List.append_nil] at hap
          have hnone : ahead ((tkS T[k]).take (c - endT T k)) = none := by
            refine ahead_part hap.1 ?_
            show _ < longA (storeL T[k].1 T[k].2.1.toNat T[k].2.2)
            rw [hap.2]
            show _ < (tkS T[k]).length
            omega
          have hr1 := recF_many (T.take k) 8 ((tkS T[k]).take (c - endT T k)) hgk (by omega)
          rw [← hcut, recF_none hnone] at hr1
          refine impl_RecoverTakes_wp (by rw [List.length_take]; omega) ?_
          rw [hr1]
          refine tT ⟨⟨by omega, by omega⟩, tP rfl (tP ?_ ?_)⟩
          · show ((((T.take k).map canT ++ ([] : List Tk)).length : Nat) : Int) = (k : Int)
            rw [List.append_nil, List.length_map, htl]
          refine ⟨⟨by omega, by rw [nums_len]; omega⟩, b10At_wp hB1 (by decide) (by decide) fun v hv => ?_⟩
          generalize IntKind.u8.wrap ((nums (T.flatMap tkS)).getD c 0 + IntKind.u8.wrap (IntKind.i64.wrap (1 + v))) = zb
          have hbl : (byts ((nums (T.flatMap tkS)).set c zb)).length = (T.flatMap tkS).length := by rw [byts_len, List.length_set, nums_len]
          have hbt : (byts ((nums (T.flatMap tkS)).set c zb)).take (endT T k) = (T.take k).flatMap tkS := by
            have e1 : (byts ((nums (T.flatMap tkS)).set c zb)).take (endT T k) = byts (((nums (T.flatMap tkS)).set c zb).take (endT T k)) := by unfold byts; rw [List.map_take]
            rw [e1, List.take_set_of_le g2]
            have e2 : byts ((nums (T.flatMap tkS)).take (endT T k)) = (byts (nums (T.flatMap tkS))).take (endT T k) := by unfold byts; rw [List.map_take]
            rw [e2, byts_nums, hsp, List.take_left' hek.symm]
          refine impl_RecoverTakes_wp (by rw [hbl]; omega) ?_
          have hr2 := recF_many (T.take k) 8 ((byts ((nums (T.flatMap tkS)).set c zb)).drop (endT T k)) hgk (by omega)
          rw [← hbt, List.take_append_drop] at hr2
          have hfs := recF_store 8 (byts ((nums (T.flatMap tkS)).set c zb))
          have hfl := recF_len 8 (byts ((nums (T.flatMap tkS)).set c zb))
          have hkl : k ≤ (recF 8 (byts ((nums (T.flatMap tkS)).set c zb))).1.length := by
            rw [hr2]
            show k ≤ ((T.take k).map canT ++ _).length
            rw [List.length_append, List.length_map, htl]; omega
          have okl := ok_of (L := (recF 8 (byts ((nums (T.flatMap tkS)).set c zb))).1) hfl.1 hfs.2
          have hby : byts (((nums (T.flatMap tkS)).set c zb).take (recF 8 (byts ((nums (T.flatMap tkS)).set c zb))).2) = (byts ((nums (T.flatMap tkS)).set c zb)).take (recF 8 (byts ((nums (T.flatMap tkS)).set c zb))).2 := by
            generalize (recF 8 (byts ((nums (T.flatMap tkS)).set c zb))).2 = w
            unfold byts; rw [List.map_take]
          generalize recF 8 (byts ((nums (T.flatMap tkS)).set c zb)) = r at hfs hfl hkl okl hby
          refine impl_StoreTakes_wp okl.1 ?_
          rw [okl.2, if_pos rfl]
          refine tT (tT (tP (by omega) (tP (by omega) (tP ?_ ⟨⟨by omega, by omega, ?_⟩, decide_eq_true ?_⟩))))
          · rw [List.length_set, nums_len]; omega
          · rw [List.length_set, nums_len]; omega
          · show r.1.flatMap tkS = byts (((nums (T.flatMap tkS)).set c zb).take r.2)
            rw [hfs.1, hby]
      exact keyK T.length 0 rfl (Nat.zero_le _)
  have := key T.length 0 rfl
  exact this

end Go.Proofs.Ytpeijfnfffogeaa.G

