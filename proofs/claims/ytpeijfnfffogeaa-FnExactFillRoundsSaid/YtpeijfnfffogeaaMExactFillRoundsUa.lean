/-
  What the formulas say, over numbers and lists alone. Nothing here is trusted.
-/
import Derived.Test.YtpeijfnfffogeaaMExactFillRoundsWa
namespace Go.Proofs.Ytpeijfnfffogeaa.G
open Go Go.Ab
set_option maxRecDepth 100000
set_option linter.unusedVariables false
set_option linter.unusedSimpArgs false
set_option maxHeartbeats 1000000
/-! ### truth -/
theorem tT {A B : Prop} (h : A) : (true = true → A) ∧ (true = false → B) := ⟨fun _ => h, fun c => (by cases c)⟩
theorem tF {A B : Prop} (h : B) : (false = true → A) ∧ (false = false → B) := ⟨fun c => (by cases c), fun _ => h⟩
theorem tB {A B : Prop} {b : Bool} (h : A) : ((b == b) = true → A) ∧ ((b == b) = false → B) := ⟨fun _ => h, fun c => (by simp at c)⟩
theorem tE {A B : Prop} {b : Bool} (e : b = true) (h : A) : (b = true → A) ∧ (b = false → B) := ⟨fun _ => h, fun c => (by rw [e] at c; cases c)⟩
theorem tG {A B : Prop} {b : Bool} (e : b = false) (h : B) : (b = true → A) ∧ (b = false → B) := ⟨fun c => (by rw [e] at c; cases c), fun _ => h⟩
theorem tP {p A B : Prop} (e : p) (h : A) : (p → A) ∧ (¬p → B) := ⟨fun _ => h, fun c => absurd e c⟩
theorem tN {p A B : Prop} (e : ¬p) (h : B) : (p → A) ∧ (¬p → B) := ⟨fun c => absurd c e, fun _ => h⟩
theorem tI {b : Bool} {K : Bool → Prop} {A B : Prop} (h1 : b = true → A) (h2 : b = false → B) : (b = true → A) ∧ (b = false → B) := ⟨h1, h2⟩
/-! ### loops -/
theorem up {Y : Nat → Prop} (n : Nat) (last : Y n) (step : ∀ i, i < n → Y (i + 1) → Y i) : Y 0 := by
  have key : ∀ d i, i + d = n → Y i := by
    intro d
    induction d with
    | zero => intro i h; obtain rfl : i = n := by omega
              exact last
    | succ d ih => intro i h; exact step i (by omega) (ih (i + 1) (by omega))
  exact key n 0 (by omega)
theorem upFrom {Y : Nat → Prop} (k n : Nat) (hk : k ≤ n) (last : Y n) (step : ∀ i, k ≤ i → i < n → Y (i + 1) → Y i) : Y k := by
  have key : ∀ d i, k ≤ i → i + d = n → Y i := by
    intro d
    induction d with
    | zero => intro i _ h; obtain rfl : i = n := by omega
              exact last
    | succ d ih => intro i h0 h; exact step i h0 (by omega) (ih (i + 1) (by omega) (by omega))
  exact key (n - k) k (Nat.le_refl _) (by omega)
theorem w1 {i : Nat} (h : i < 4611686018427387904) : IntKind.i64.wrap ((i : Int) + (1 : Int)) = ((i + 1 : Nat) : Int) := wrap_succ (by omega)
theorem wI {n : Int} (h : -9223372036854775808 ≤ n ∧ n < 9223372036854775808) : IntKind.i64.wrap n = n := wrap_i64 h.1 h.2
theorem nn (i : Nat) : ((i : Int)).toNat = i := rfl
theorem gD {α : Type} {l : List α} {i : Nat} (h : i < l.length) (d : α) : l.getD i d = l[i] := by rw [List.getD_eq_getElem?_getD, List.getElem?_eq_getElem h]; rfl
theorem dropC {α : Type} {l : List α} {i : Nat} (h : i < l.length) : l.drop i = l[i] :: l.drop (i + 1) := List.drop_eq_getElem_cons h
theorem len1 {α : Type} (a : α) : ([a] : List α).length = 1 := rfl
theorem cz32 (n : Nat) (h : (FloatKind.f32.decode n).isNaN = false) : cz .f32 n = n := by simp [cz, h]
theorem c0_32 : cz .f32 0 = 0 := cz_zero32
theorem c0_64 : cz .f64 0 = 0 := cz_zero64
/-! ### copies, comparisons, marks -/
theorem toFloat32S_wp {l : List Nat} {K : List Nat → Prop} (hl : l.length ≤ 2 ^ 20) (h : K l) : laws_toFloat32S.wp l K := by
  refine ⟨⟨by omega, by omega, by omega, by omega⟩, fun X hX => ?_⟩
  have key : X (l.take 0 ++ List.replicate (l.length - 0) (0 : Nat)) ((0 : Nat) : Int) := by
    refine up (Y := fun i => X (l.take i ++ List.replicate (l.length - i) (0 : Nat)) (i : Int)) l.length ?_ fun i hi hn => ?_
    · refine hX _ _ ⟨fun c => absurd c (by omega), fun _ => ?_⟩
      rw [List.take_length, Nat.sub_self, List.replicate_zero, List.append_nil]; exact h
    · refine hX _ _ ⟨fun _ => ⟨⟨by omega, by omega⟩, ⟨by omega, ?_⟩, ?_⟩, fun c => absurd (show (i : Int) < l.length by omega) c⟩
      · rw [List.length_append, List.length_take, List.length_replicate]; omega
      · rw [nn, w1 (by omega), gD hi, set_fill (0 : Nat) (by omega) hi]
        exact hn
  rw [List.take_zero, List.nil_append, Nat.sub_zero] at key; exact key
theorem toInt64S_wp {l : List Int} {K : List Int → Prop} (hl : l.length ≤ 2 ^ 20) (h : K l) : laws_toInt64S.wp l K := by
  refine ⟨⟨by omega, by omega, by omega, by omega⟩, fun X hX => ?_⟩
  have key : X (l.take 0 ++ List.replicate (l.length - 0) (0 : Int)) ((0 : Nat) : Int) := by
    refine up (Y := fun i => X (l.take i ++ List.replicate (l.length - i) (0 : Int)) (i : Int)) l.length ?_ fun i hi hn => ?_
    · refine hX _ _ ⟨fun c => absurd c (by omega), fun _ => ?_⟩
      rw [List.take_length, Nat.sub_self, List.replicate_zero, List.append_nil]; exact h
    · refine hX _ _ ⟨fun _ => ⟨⟨by omega, by omega⟩, ⟨by omega, ?_⟩, ?_⟩, fun c => absurd (show (i : Int) < l.length by omega) c⟩
      · rw [List.length_append, List.length_take, List.length_replicate]; omega
      · rw [nn, w1 (by omega), gD hi, set_fill (0 : Int) (by omega) hi]
        exact hn
  rw [List.take_zero, List.nil_append, Nat.sub_zero] at key; exact key
theorem toBoolS_wp {l : List Bool} {K : List Bool → Prop} (hl : l.length ≤ 2 ^ 20) (h : K l) : laws_toBoolS.wp l K := by
  refine ⟨⟨by omega, by omega, by omega, by omega⟩, fun X hX => ?_⟩
  have key : X (l.take 0 ++ List.replicate (l.length - 0) false) ((0 : Nat) : Int) := by
    refine up (Y := fun i => X (l.take i ++ List.replicate (l.length - i) false) (i : Int)) l.length ?_ fun i hi hn => ?_
    · refine hX _ _ ⟨fun c => absurd c (by omega), fun _ => ?_⟩
      rw [List.take_length, Nat.sub_self, List.replicate_zero, List.append_nil]; exact h
    · refine hX _ _ ⟨fun _ => ⟨⟨by omega, by omega⟩, ⟨by omega, ?_⟩, ?_⟩, fun c => absurd (show (i : Int) < l.length by omega) c⟩
      · rw [List.length_append, List.length_take, List.length_replicate]; omega
      · rw [nn, w1 (by omega), gD hi, set_fill false (by omega) hi]
        exact hn
  rw [List.take_zero, List.nil_append, Nat.sub_zero] at key; exact key
theorem sameFloat_wp {a : Nat} {K : Bool → Prop} (h : K true) : laws_sameFloat.wp a a K := by
  rcases order_self Ieee.double a with ho | ho
  · have e : fcmp .neq .f64 a a = true := by simp [fcmp, FloatKind.format, ho]
    exact tE e (by rw [e]; exact h)
  · have e : fcmp .neq .f64 a a = false := by simp [fcmp, FloatKind.format, ho]
    have e2 : fcmp .eql .f64 a a = true := by simp [fcmp, FloatKind.format, ho]
    refine tG e (tG e ⟨fun c => ⟨fun _ => by rw [BEq.rfl]; exact h, fun c2 => (by rw [c] at c2; cases c2)⟩, fun _ => by rw [e2]; exact h⟩)
theorem eqFloat32S_wp {l : List Nat} {K : Bool → Prop} (hl : l.length ≤ 2 ^ 20) (h : K true) : laws_eqFloat32S.wp l l K := by
  refine tP rfl fun X hX => ?_
  refine up (Y := fun i => X (i : Int)) l.length ?_ fun i hi hn => ?_
  · exact hX _ ⟨fun c => absurd c (by omega), fun _ => h⟩
  · refine hX _ ⟨fun _ => ⟨⟨by omega, by omega⟩, ⟨by omega, by omega⟩, sameFloat_wp (tT ?_)⟩, fun c => absurd (show (i : Int) < l.length by omega) c⟩
    rw [w1 (by omega)]; exact hn
theorem eqInt64S_wp {l : List Int} {K : Bool → Prop} (hl : l.length ≤ 2 ^ 20) (h : K true) : laws_eqInt64S.wp l l K := by
  refine tP rfl fun X hX => ?_
  refine up (Y := fun i => X (i : Int)) l.length ?_ fun i hi hn => ?_
  · exact hX _ ⟨fun c => absurd c (by omega), fun _ => h⟩
  · refine hX _ ⟨fun _ => ⟨⟨by omega, by omega⟩, ⟨by omega, by omega⟩, tP rfl ?_⟩, fun c => absurd (show (i : Int) < l.length by omega) c⟩
    rw [w1 (by omega)]; exact hn
theorem eqBoolS_wp {l : List Bool} {K : Bool → Prop} (hl : l.length ≤ 2 ^ 20) (h : K true) : laws_eqBoolS.wp l l K := by
  refine tP rfl fun X hX => ?_
  refine up (Y := fun i => X (i : Int)) l.length ?_ fun i hi hn => ?_
  · exact hX _ ⟨fun c => absurd c (by omega), fun _ => h⟩
  · refine hX _ ⟨fun _ => ⟨⟨by omega, by omega⟩, ⟨by omega, by omega⟩, tB ?_⟩, fun c => absurd (show (i : Int) < l.length by omega) c⟩
    rw [w1 (by omega)]; exact hn
theorem markFloat32S_wp {l : List Nat} {k : Nat} {K : Int → List Nat → Prop} (hl : l.length ≤ 2 ^ 20) (hk : k ≤ 2 ^ 40) (h : K ((k + l.length : Nat) : Int) (marks k l.length)) : laws_markFloat32S.wp l (k : Int) K := by
  intro X hX
  have key : X (marks k 0 ++ l.drop 0) ((k + 0 : Nat) : Int) ((0 : Nat) : Int) := by
    refine up (Y := fun i => X (marks k i ++ l.drop i) ((k + i : Nat) : Int) (i : Int)) l.length ?_ fun i hi hn => ?_
    · refine hX _ _ _ ⟨fun c => absurd c (by rw [List.length_append, marks_length, List.length_drop]; omega), fun _ => ?_⟩
      rw [List.drop_length, List.append_nil]; exact h
    · have hlen : (marks k i ++ l.drop i).length = l.length := by rw [List.length_append, marks_length, List.length_drop]; omega
      refine hX _ _ _ ⟨fun _ => ⟨⟨by omega, by rw [hlen]; omega⟩, ?_⟩, fun c => absurd (show (i : Int) < _ by rw [hlen]; omega) c⟩
      rw [nn, w1 (by omega), w1 (by omega)]
      have e := marks_step (l := l) (i := i) (m := l.length - i) k (by omega) hi
      rw [show (k : Int) + (i : Int) = ((k + i : Nat) : Int) by omega] at e
      rw [show itof .f32 ((k + i : Nat) : Int) = fl ((k + i : Nat) : Int) from rfl]
      rw [e]; exact hn
  exact key
theorem heldFloat32S_wp {k n : Nat} {K : Int → Prop} (hl : n ≤ 2 ^ 20) (hk : k ≤ 2 ^ 40) (h : K ((k + n : Nat) : Int)) : laws_heldFloat32S.wp (marks k n) (k : Int) K := by
  intro X hX
  have hlen : (marks k n).length = n := marks_length _ _
  have key : X ((k + 0 : Nat) : Int) ((0 : Nat) : Int) := by
    refine up (Y := fun i => X ((k + i : Nat) : Int) (i : Int)) n ?_ fun i hi hn => ?_
    · exact hX _ _ ⟨fun c => absurd c (by omega), fun _ => h⟩
    · refine hX _ _ ⟨fun _ => ⟨⟨by omega, by omega⟩, ?_⟩, fun c => absurd (show (i : Int) < _ by omega) c⟩
      rw [nn, gD (by omega), marks_at k n i (by omega), show (k : Int) + (i : Int) = ((k + i : Nat) : Int) by omega]
      refine tG (show fcmp .neq .f32 (fl ((k + i : Nat) : Int)) (itof .f32 ((k + i : Nat) : Int)) = false from fl_neq _) ?_
      rw [w1 (by omega), w1 (by omega)]; exact hn
  exact key
theorem markInt64S_wp {l : List Int} {k : Nat} {K : Int → List Int → Prop} (hl : l.length ≤ 2 ^ 20) (hk : k ≤ 2 ^ 40) (h : K ((k + l.length : Nat) : Int) (marksI k l.length)) : laws_markInt64S.wp l (k : Int) K := by
  intro X hX
  have key : X (marksI k 0 ++ l.drop 0) ((k + 0 : Nat) : Int) ((0 : Nat) : Int) := by
    refine up (Y := fun i => X (marksI k i ++ l.drop i) ((k + i : Nat) : Int) (i : Int)) l.length ?_ fun i hi hn => ?_
    · refine hX _ _ _ ⟨fun c => absurd c (by rw [List.length_append, marksI_length, List.length_drop]; omega), fun _ => ?_⟩
      rw [List.drop_length, List.append_nil]; exact h
    · have hlen : (marksI k i ++ l.drop i).length = l.length := by rw [List.length_append, marksI_length, List.length_drop]; omega
      refine hX _ _ _ ⟨fun _ => ⟨⟨by omega, by rw [hlen]; omega⟩, ?_⟩, fun c => absurd (show (i : Int) < _ by rw [hlen]; omega) c⟩
      rw [nn, w1 (by omega), w1 (by omega)]
      have e := marksI_step (l := l) (i := i) (m := l.length - i) k (by omega) hi
      rw [show (k : Int) + (i : Int) = ((k + i : Nat) : Int) by omega] at e
      
      rw [e]; exact hn
  exact key
theorem heldInt64S_wp {k n : Nat} {K : Int → Prop} (hl : n ≤ 2 ^ 20) (hk : k ≤ 2 ^ 40) (h : K ((k + n : Nat) : Int)) : laws_heldInt64S.wp (marksI k n) (k : Int) K := by
  intro X hX
  have hlen : (marksI k n).length = n := marksI_length _ _
  have key : X ((k + 0 : Nat) : Int) ((0 : Nat) : Int) := by
    refine up (Y := fun i => X ((k + i : Nat) : Int) (i : Int)) n ?_ fun i hi hn => ?_
    · exact hX _ _ ⟨fun c => absurd c (by omega), fun _ => h⟩
    · refine hX _ _ ⟨fun _ => ⟨⟨by omega, by omega⟩, ?_⟩, fun c => absurd (show (i : Int) < _ by omega) c⟩
      rw [nn, gD (by omega), marksI_at k n i (by omega), show (k : Int) + (i : Int) = ((k + i : Nat) : Int) by omega]
      refine tP rfl ?_
      rw [w1 (by omega), w1 (by omega)]; exact hn
  exact key

end Go.Proofs.Ytpeijfnfffogeaa.G

namespace Go.Proofs.Ytpeijfnfffogeaa.G
open Go Go.Ab
set_option maxRecDepth 100000
set_option linter.unusedVariables false
set_option linter.unusedSimpArgs false
set_option maxHeartbeats 1000000
def pFin (x : Nat) : Bool := fcmp .eql .f32 (fop .sub .f32 x x) (cz .f32 0)
def pAll (l : List Nat) : Bool := l.all pFin
theorem pAll_cons (x : Nat) (l : List Nat) : pAll (x :: l) = (pFin x && pAll l) := rfl
/-- A loop that ends early where something does not hold. -/
theorem all_loop {α : Type} (l : List α) (p : α → Bool) {X : Int → Prop} {T F : Prop} (hX : ∀ (i : Nat) (h : i < l.length), ((p l[i] = true → X ((i + 1 : Nat) : Int)) ∧ (p l[i] = false → F)) → X (i : Int))
    (hend : T → X (l.length : Int)) (ht : l.all p = true → T) (hf : l.all p = false → F) : X (0 : Int) := by
  have key := up (Y := fun i => ((l.drop i).all p = true → T) → ((l.drop i).all p = false → F) → X (i : Int)) l.length (fun h _ => hend (h (by rw [List.drop_length]; rfl))) fun i hi hn h1 h2 => ?_
  · exact key (by rw [List.drop_zero]; exact ht) (by rw [List.drop_zero]; exact hf)
  · rw [dropC hi, List.all_cons] at h1 h2
    refine hX i hi ⟨fun e => hn (fun a => h1 (by rw [e, a]; rfl)) (fun a => h2 (by rw [e, a]; rfl)), fun e => h2 (by rw [e]; rfl)⟩
/-- A loop that makes a list, and ends early where something does not hold. -/
theorem map_loop {α β : Type} (l : List α) (p : α → Bool) (f : α → β) {X : List β → Int → Prop} {T F : Prop} (hX : ∀ (i : Nat) (h : i < l.length) (o : List β), o.length = i → ((p l[i] = true → X (o ++ [f l[i]]) ((i + 1 : Nat) : Int)) ∧ (p l[i] = false → F)) → X o (i : Int))
    (hend : T → X (l.map f) (l.length : Int)) (ht : l.all p = true → T) (hf : l.all p = false → F) : X [] (0 : Int) := by
  have key := up (Y := fun i => ((l.drop i).all p = true → T) → ((l.drop i).all p = false → F) → X ((l.take i).map f) (i : Int)) l.length (fun h _ => by rw [List.take_length]; exact hend (h (by rw [List.drop_length]; rfl))) fun i hi hn h1 h2 => ?_
  · have := key (by rw [List.drop_zero]; exact ht) (by rw [List.drop_zero]; exact hf)
    rw [List.take_zero] at this; exact this
  · rw [dropC hi, List.all_cons] at h1 h2
    refine hX i hi _ (by rw [List.length_map, List.length_take]; omega) ⟨fun e => ?_, fun e => h2 (by rw [e]; rfl)⟩
    have := hn (fun a => h1 (by rw [e, a]; rfl)) (fun a => h2 (by rw [e, a]; rfl))
    rw [List.take_succ_eq_append_getElem hi, List.map_append] at this
    exact this
theorem spec_l01Finite_wp {a : Nat} {K : Bool → Prop} (h : K (pFin a)) : spec_l01Finite.wp a K := h
theorem impl_IsFinite_wp {a : Nat} {K : Bool → Prop} (h : K (pFin a)) : impl_IsFinite.wp a K := h
theorem spec_l02Finite_wp {l : List Nat} {K : Bool → Prop} (hl : l.length ≤ 2 ^ 20) (h : K (pAll l)) : spec_l02Finite.wp l K := by
  intro X hX
  refine all_loop l pFin (X := X) (T := K true) (F := K false) (fun i hi hh => ?_) (fun ht => hX _ ⟨fun c => absurd c (by omega), fun _ => ht⟩) (fun e => by rw [pAll, e] at h; exact h) (fun e => by rw [pAll, e] at h; exact h)
  refine hX _ ⟨fun _ => ⟨⟨by omega, by omega⟩, spec_l01Finite_wp ?_⟩, fun c => absurd (show (i : Int) < l.length by omega) c⟩
  rw [nn, gD hi, w1 (by omega)]; exact hh
theorem impl_areFinite_wp {ll : List (List Nat)} {K : Bool → Prop} (hll : ll.length ≤ 2 ^ 20) (hl : ∀ l ∈ ll, l.length ≤ 2 ^ 20) (h : K (ll.all pAll)) : impl_areFinite.wp ll K := by
  intro X hX
  refine all_loop ll pAll (X := X) (T := K true) (F := K false) (fun i hi hh => ?_) (fun ht => hX _ ⟨fun c => absurd c (by omega), fun _ => ht⟩) (fun e => by rw [e] at h; exact h) (fun e => by rw [e] at h; exact h)
  refine hX _ ⟨fun _ => ⟨⟨by omega, by omega⟩, fun Y hY => ?_⟩, fun c => absurd (show (i : Int) < ll.length by omega) c⟩
  have hlen := hl ll[i] (List.getElem_mem hi)
  rw [nn, gD hi, w1 (by omega)] at hY
  refine all_loop ll[i] pFin (X := Y) (T := X ((i + 1 : Nat) : Int)) (F := K false) (fun j hj h2 => ?_) (fun ht => hY _ ⟨fun c => absurd c (by omega), fun _ => ht⟩) (fun e => hh.1 e) (fun e => hh.2 e)
  refine hY _ ⟨fun _ => ⟨⟨by omega, by omega⟩, impl_IsFinite_wp ?_⟩, fun c => absurd (show (j : Int) < ll[i].length by omega) c⟩
  rw [nn, gD hj, w1 (by omega)]; exact h2
theorem impl_areFinite1_wp {l : List Nat} {K : Bool → Prop} (hl : l.length ≤ 2 ^ 20) (h : K (pAll l)) : impl_areFinite.wp [l] K := by
  refine impl_areFinite_wp (by simp) (fun x hx => by rw [List.mem_singleton] at hx; subst hx; exact hl) ?_
  rw [List.all_cons, List.all_nil, Bool.and_true]; exact h
theorem impl_within_wp {a b c : Int} {K : Bool → Prop} (h : K (decide (b ≤ a ∧ a ≤ c))) : impl_within.wp a b c K := by
  refine ⟨fun h1 => ?_, fun h1 => ?_⟩
  · have : decide (b ≤ a ∧ a ≤ c) = decide (a ≤ c) := by simp [h1]
    rw [this] at h; exact h
  · have : decide (b ≤ a ∧ a ≤ c) = false := by simp [h1]
    rw [this] at h; exact h
theorem spec_l00In_wp {a b c : Int} {K : Bool → Prop} (h : K (decide (b ≤ a ∧ a ≤ c))) : spec_l00In.wp a b c K := by
  refine ⟨fun h1 => ?_, fun h1 => ?_⟩
  · have : decide (b ≤ a ∧ a ≤ c) = decide (a ≤ c) := by simp [h1]
    rw [this] at h; exact h
  · have : decide (b ≤ a ∧ a ≤ c) = false := by simp [h1]
    rw [this] at h; exact h
theorem bT {b : Bool} {A B : Prop} (h1 : b = true → A) (h2 : b = false → B) : (b = true → A) ∧ (b = false → B) := ⟨h1, h2⟩
def isL (l : List Nat) : Bool := decide (1 ≤ l.length ∧ l.length ≤ 128) && pAll l
theorem spec_l02Is_wp {l : List Nat} {K : Bool → Prop} (hl : l.length ≤ 2 ^ 20) (h : K (isL l)) : spec_l02Is.wp l K := by
  refine ⟨fun h1 => ⟨fun h2 => spec_l02Finite_wp hl ?_, fun h2 => ?_⟩, fun h1 => ?_⟩
  · rw [isL, decide_eq_true (show 1 ≤ l.length ∧ l.length ≤ 128 by omega), Bool.true_and] at h; exact h
  · rw [isL, decide_eq_false (show ¬(1 ≤ l.length ∧ l.length ≤ 128) by omega), Bool.false_and] at h; exact h
  · rw [isL, decide_eq_false (show ¬(1 ≤ l.length ∧ l.length ≤ 128) by omega), Bool.false_and] at h; exact h
theorem impl_IsList_wp {l : List Nat} {K : Bool → Prop} (hl : l.length ≤ 2 ^ 20) (h : K (isL l)) : impl_IsList.wp l K := by
  refine impl_within_wp ⟨fun h1 => ?_, fun h1 => ?_⟩
  · have h1 := of_decide_eq_true h1
    refine impl_areFinite1_wp hl ?_
    rw [isL, decide_eq_true (show 1 ≤ l.length ∧ l.length ≤ 128 by omega), Bool.true_and] at h; exact h
  · have h1 := of_decide_eq_false h1
    rw [isL, decide_eq_false (show ¬(1 ≤ l.length ∧ l.length ≤ 128) by omega), Bool.false_and] at h; exact h
def isOver (x : Nat) : Bool := pFin x && fcmp .gtr .f32 x (cz .f32 0)
def isLeast (x : Nat) : Bool := pFin x && fcmp .geq .f32 x (cz .f32 0)
theorem spec_l02Above_wp {a : Nat} {K : Bool → Prop} (h : K (isOver a)) : spec_l02Above.wp a K := by
  refine spec_l01Finite_wp ⟨fun h1 => ?_, fun h1 => ?_⟩ <;> (rw [isOver, h1] at h; exact h)
theorem impl_isOver_wp {a : Nat} {K : Bool → Prop} (h : K (isOver a)) : impl_isOver.wp a K := by
  refine impl_IsFinite_wp ⟨fun h1 => ?_, fun h1 => ?_⟩ <;> (rw [isOver, h1] at h; exact h)
theorem spec_l02Least_wp {a : Nat} {K : Bool → Prop} (h : K (isLeast a)) : spec_l02Least.wp a K := by
  refine spec_l01Finite_wp ⟨fun h1 => ?_, fun h1 => ?_⟩ <;> (rw [isLeast, h1] at h; exact h)
theorem impl_isLeast_wp {a : Nat} {K : Bool → Prop} (h : K (isLeast a)) : impl_isLeast.wp a K := by
  refine impl_IsFinite_wp ⟨fun h1 => ?_, fun h1 => ?_⟩ <;> (rw [isLeast, h1] at h; exact h)
def isShare (x : Nat) : Bool := fcmp .geq .f32 x (cz .f32 0) && fcmp .leq .f32 x (cz .f32 1065353216)
theorem spec_l02Share_wp {a : Nat} {K : Bool → Prop} (h : K (isShare a)) : spec_l02Share.wp a K := by
  refine ⟨fun h1 => ?_, fun h1 => ?_⟩ <;> (rw [isShare, h1] at h; exact h)
theorem impl_isShare_wp {a : Nat} {K : Bool → Prop} (h : K (isShare a)) : impl_isShare.wp a K := by
  refine ⟨fun h1 => ?_, fun h1 => ?_⟩ <;> (rw [isShare, h1] at h; exact h)
/-! ### integers -/
def bnd (m : Int) (l : List Int) : Bool := l.all fun n => decide (-m ≤ n ∧ n ≤ m)
def isI (l : List Int) : Bool := decide (1 ≤ l.length ∧ l.length ≤ 128) && bnd 1000000 l
theorem spec_l02Bound_wp {l : List Int} {m : Int} {K : Bool → Prop} (hl : l.length ≤ 2 ^ 20) (hm : 0 ≤ m ∧ m ≤ 2 ^ 40) (h : K (bnd m l)) : spec_l02Bound.wp l m K := by
  intro X hX
  refine all_loop l (fun n => decide (-m ≤ n ∧ n ≤ m)) (X := X) (T := K true) (F := K false) (fun i hi hh => ?_) (fun ht => hX _ ⟨fun c => absurd c (by omega), fun _ => ht⟩) (fun e => by rw [bnd, e] at h; exact h) (fun e => by rw [bnd, e] at h; exact h)
  refine hX _ ⟨fun _ => ⟨⟨by omega, by omega⟩, spec_l00In_wp ?_⟩, fun c => absurd (show (i : Int) < l.length by omega) c⟩
  rw [nn, gD hi, w1 (by omega), wI (show -9223372036854775808 ≤ (0 : Int) - m ∧ (0 : Int) - m < 9223372036854775808 by omega), Int.zero_sub]; exact hh
theorem impl_areWithin_wp {l : List Int} {m : Int} {K : Bool → Prop} (hl : l.length ≤ 2 ^ 20) (hm : 0 ≤ m ∧ m ≤ 2 ^ 40) (h : K (bnd m l)) : impl_areWithin.wp l m K := by
  intro X hX
  refine all_loop l (fun n => decide (-m ≤ n ∧ n ≤ m)) (X := X) (T := K true) (F := K false) (fun i hi hh => ?_) (fun ht => hX _ ⟨fun c => absurd c (by omega), fun _ => ht⟩) (fun e => by rw [bnd, e] at h; exact h) (fun e => by rw [bnd, e] at h; exact h)
  refine hX _ ⟨fun _ => ⟨⟨by omega, by omega⟩, impl_within_wp ?_⟩, fun c => absurd (show (i : Int) < l.length by omega) c⟩
  rw [nn, gD hi, w1 (by omega), wI (show -9223372036854775808 ≤ (0 : Int) - m ∧ (0 : Int) - m < 9223372036854775808 by omega), Int.zero_sub]; exact hh
theorem spec_l02Integers_wp {l : List Int} {K : Bool → Prop} (hl : l.length ≤ 2 ^ 20) (h : K (isI l)) : spec_l02Integers.wp l K := by
  refine ⟨fun h1 => ⟨fun h2 => spec_l02Bound_wp hl (by omega) ?_, fun h2 => ?_⟩, fun h1 => ?_⟩
  · rw [isI, decide_eq_true (show 1 ≤ l.length ∧ l.length ≤ 128 by omega), Bool.true_and] at h; exact h
  · rw [isI, decide_eq_false (show ¬(1 ≤ l.length ∧ l.length ≤ 128) by omega), Bool.false_and] at h; exact h
  · rw [isI, decide_eq_false (show ¬(1 ≤ l.length ∧ l.length ≤ 128) by omega), Bool.false_and] at h; exact h
theorem impl_AreIntegers_wp {l : List Int} {K : Bool → Prop} (hl : l.length ≤ 2 ^ 20) (h : K (isI l)) : impl_AreIntegers.wp l K := by
  refine impl_within_wp ⟨fun h1 => ?_, fun h1 => ?_⟩
  · have h1 := of_decide_eq_true h1
    refine impl_areWithin_wp hl (by omega) ?_
    rw [isI, decide_eq_true (show 1 ≤ l.length ∧ l.length ≤ 128 by omega), Bool.true_and] at h; exact h
  · have h1 := of_decide_eq_false h1
    rw [isI, decide_eq_false (show ¬(1 ≤ l.length ∧ l.length ≤ 128) by omega), Bool.false_and] at h; exact h
theorem impl_finiteList_wp {l : List Nat} {K : Bool → Bool → Prop} (hl : l.length ≤ 2 ^ 20) (h : K (pAll l) (pAll l)) : impl_finiteList.wp l K := by
  refine impl_areFinite1_wp hl ⟨fun h1 => ?_, fun h1 => ?_⟩ <;> (rw [h1] at h; exact h)
theorem spec_l02List_wp {l : List Nat} {K : Bool → Bool → Prop} (hl : l.length ≤ 2 ^ 20) (h : K (pAll l) (pAll l)) : spec_l02List.wp l K := by
  refine spec_l02Finite_wp hl ⟨fun h1 => ?_, fun h1 => ?_⟩ <;> (rw [h1] at h; exact h)

end Go.Proofs.Ytpeijfnfffogeaa.G

namespace Go.Proofs.Ytpeijfnfffogeaa.G
open Go Go.Ab
set_option maxRecDepth 100000
set_option linter.unusedVariables false
set_option linter.unusedSimpArgs false
set_option maxHeartbeats 1000000
/-- What is like itself is a number. -/
theorem num_of_eq {x : Nat} (h : fcmp .neq .f32 x x = false) : num .f32 x = true := by
  unfold num
  cases hd : (FloatKind.f32.decode x).isNaN with
  | false => rfl
  | true =>
    exfalso
    have h2 : Ieee.single.order x x = none := by
      unfold Ieee.Format.order
      have hd' : (Ieee.single.read x).isNaN = true := hd
      cases hr : Ieee.single.read x with
      | nan s t => rfl
      | _ => rw [hr] at hd'; cases hd'
    unfold fcmp at h
    rw [show FloatKind.f32.format = Ieee.single from rfl, h2] at h
    cases h
theorem ixor {a b : Nat} (ha : a < 2 ^ 32) (hb : b < 2 ^ 32) : ibits .xor .i64 (a : Int) (b : Int) = ((a ^^^ b : Nat) : Int) := by
  have hx : a ^^^ b < 2 ^ 32 := Nat.xor_lt_two_pow ha hb
  have ea : (BitVec.ofInt 64 (a : Int)).toNat = a := by rw [BitVec.ofInt_natCast, BitVec.toNat_ofNat]; omega
  have eb : (BitVec.ofInt 64 (b : Int)).toNat = b := by rw [BitVec.ofInt_natCast, BitVec.toNat_ofNat]; omega
  show IntKind.i64.wrap ((BitVec.ofInt 64 (a : Int) ^^^ BitVec.ofInt 64 (b : Int)).toNat : Int) = _
  rw [BitVec.toNat_xor, ea, eb]
  exact wI (by omega)
theorem ior {a b : Nat} (ha : a < 2 ^ 32) (hb : b < 2 ^ 32) : ibits .or .i64 (a : Int) (b : Int) = ((a ||| b : Nat) : Int) := by
  have hx : a ||| b < 2 ^ 32 := Nat.or_lt_two_pow ha hb
  have ea : (BitVec.ofInt 64 (a : Int)).toNat = a := by rw [BitVec.ofInt_natCast, BitVec.toNat_ofNat]; omega
  have eb : (BitVec.ofInt 64 (b : Int)).toNat = b := by rw [BitVec.ofInt_natCast, BitVec.toNat_ofNat]; omega
  show IntKind.i64.wrap ((BitVec.ofInt 64 (a : Int) ||| BitVec.ofInt 64 (b : Int)).toNat : Int) = _
  rw [BitVec.toNat_or, ea, eb]
  exact wI (by omega)
theorem p8 : (2 ^ (min (8 : Int).toNat IntKind.i64.bits) : Int) = 256 := by decide
theorem fdiv8 (m : Nat) : Int.fdiv (m : Int) (2 ^ (min (8 : Int).toNat IntKind.i64.bits)) = ((m / 256 : Nat) : Int) := by
  rw [p8, Int.fdiv_eq_ediv_of_nonneg _ (by decide)]; omega
theorem tdivN (m k : Nat) (h : m < 2 ^ 40) : IntKind.i64.wrap (Int.tdiv (m : Int) (k : Int)) = ((m / k : Nat) : Int) := by
  rw [show (m : Int).tdiv (k : Int) = ((m / k : Nat) : Int) by rw [Int.tdiv_eq_ediv_of_nonneg (by omega)]; rfl]
  have := Nat.div_le_self m k
  generalize m / k = d at this
  exact wI (by omega)
theorem u8wrap (m : Nat) : IntKind.u8.wrap (m : Int) = ((m % 256 : Nat) : Int) := by
  show (m : Int) % 256 = _
  omega
theorem tmod8 (m : Nat) : Int.tmod (m : Int) 256 = ((m % 256 : Nat) : Int) := by
  rw [Int.tmod_eq_emod_of_nonneg (by omega)]; rfl
/-- How many bytes a number fills. -/
def nb (x : Nat) : Nat := if x = 0 then 0 else if x < 256 then 1 else if x < 65536 then 2 else if x < 16777216 then 3 else 4
theorem nb_le (x : Nat) : nb x ≤ 4 := by unfold nb; repeat' split
                                         all_goals omega
theorem nb_div {m : Nat} (h : 0 < m) (h32 : m < 2 ^ 32) : nb (m / 256) + 1 = nb m := by
  unfold nb; repeat' split
  all_goals omega
def lowB : Nat → Nat → List Int
  | 0, _ => []
  | n + 1, x => ((x % 256 : Nat) : Int) :: lowB n (x / 256)
theorem lowB_len : ∀ n x, (lowB n x).length = n
  | 0, _ => rfl
  | n + 1, x => by rw [lowB, List.length_cons, lowB_len]
def bitsN (x : Nat) : Nat := if fcmp .neq .f32 x x = true then 2143289344 else x
theorem bitsN_lt {x : Nat} (h : x < 2 ^ 32) : bitsN x < 2 ^ 32 := by unfold bitsN; split <;> omega
def oneB (y : Nat) : List Int := ((4 - nb y : Nat) : Int) :: lowB (nb y) y
theorem oneB_len (y : Nat) : (oneB y).length ≤ 5 := by rw [oneB, List.length_cons, lowB_len]; have := nb_le y; omega
def packTo : List Nat → Nat → List Int
  | [], _ => []
  | x :: l, b => oneB (bitsN x ^^^ b) ++ packTo l (bitsN x)
def packL (l : List Nat) : List UInt8 := byts (packTo l 0)
/-- The loop over the values. -/
theorem pack_loop (l : List Nat) (hl : l.length ≤ 2 ^ 20) (hw : ∀ x ∈ l, x < 2 ^ 32) {X : List Int → Int → Int → Prop} (hX : ∀ (o : List Int) (b i : Nat) (hi : i < l.length), b < 2 ^ 32 → o.length ≤ 5 * i → X (o ++ oneB (bitsN l[i] ^^^ b)) (bitsN l[i] : Nat) ((i + 1 : Nat) : Int) → X o (b : Int) (i : Int)) (hend : ∀ b : Int, X (packTo l 0) b (l.length : Int)) : X [] ((0 : Nat) : Int) ((0 : Nat) : Int) := by
  have key : ∀ (m i : Nat) (o : List Int) (b : Nat), m + i = l.length → b < 2 ^ 32 → o.length ≤ 5 * i → o ++ packTo (l.drop i) b = packTo l 0 → X o (b : Int) (i : Int) := by
    intro m
    induction m with
    | zero => intro i o b h1 h2 h3 h4
              obtain rfl : i = l.length := by omega
              rw [List.drop_length, packTo, List.append_nil] at h4
              rw [h4]; exact hend _
    | succ m ih =>
      intro i o b h1 h2 h3 h4
      have hi : i < l.length := by omega
      refine hX o b i hi h2 h3 (ih (i + 1) _ _ (by omega) (bitsN_lt (hw _ (List.getElem_mem hi))) (by rw [List.length_append]; have := oneB_len (bitsN l[i] ^^^ b); omega) ?_)
      rw [dropC hi, packTo] at h4
      rw [List.append_assoc]; exact h4
  exact key l.length 0 [] 0 (by omega) (by decide) (by simp) rfl
/-- The loop over a number's bytes. -/
theorem bytes_loop (M : Nat) {X : List Int → Int → Int → Prop} {N : Nat} (hX : ∀ (o : List Int) (x k : Nat), k < N → x < 2 ^ 32 → o.length < M → X (o ++ [((x % 256 : Nat) : Int)]) ((x / 256 : Nat) : Int) ((k + 1 : Nat) : Int) → X o (x : Int) (k : Int)) : ∀ (n k x : Nat) (o : List Int), k + n = N → x < 2 ^ 32 → o.length + n ≤ M → (∀ x, X (o ++ lowB n x) x (N : Int) → True) → (∀ y : Int, X (o ++ lowB n x) y (N : Int)) → X o (x : Int) (k : Int) := by
  intro n
  induction n with
  | zero => intro k x o h1 h2 h3 _ h4
            obtain rfl : k = N := by omega
            have := h4 x
            rw [lowB, List.append_nil] at this; exact this
  | succ n ih =>
    intro k x o h1 h2 h3 _ h4
    refine hX o x k (by omega) h2 (by omega) (ih (k + 1) (x / 256) _ (by omega) (by omega) (by rw [List.length_append, List.length_singleton]; omega) (fun _ _ => trivial) fun y => ?_)
    have := h4 y
    rw [lowB] at this
    rw [List.append_assoc]; exact this
theorem spec_l01Bits_wp {x : Nat} {K : Int → Prop} (hx : x < 2 ^ 32) (h : K (bitsN x : Nat)) : spec_l01Bits.wp x K := by
  refine ⟨fun c => ?_, fun c => ⟨?_, ?_⟩⟩
  · rw [bitsN, if_pos c] at h; exact h
  · exact num_of_eq c
  · rw [bitsN, if_neg (by rw [c]; decide)] at h
    rw [wI (by omega)]; exact h
theorem impl_BitsOf_wp {x : Nat} {K : Int → Prop} (hx : x < 2 ^ 32) (h : K (bitsN x : Nat)) : impl_BitsOf.wp x K := by
  refine ⟨fun c => ?_, fun c => ⟨?_, ?_⟩⟩
  · rw [bitsN, if_pos c] at h; exact h
  · exact num_of_eq c
  · rw [bitsN, if_neg (by rw [c]; decide)] at h
    rw [wI (by omega)]; exact h
theorem impl_packed_wp {l : List Nat} {K : List UInt8 → Prop} (hl : l.length ≤ 2 ^ 20) (hw : ∀ x ∈ l, x < 2 ^ 32) (h : K (packL l)) : impl_packed.wp l K := by
  intro X hX
  refine pack_loop l hl hw (X := X) (fun o b i hi hb ho hn => hX _ _ _ ⟨fun _ => ⟨⟨by omega, by omega⟩, ?_⟩, fun c => absurd (show (i : Int) < l.length by omega) c⟩) (fun b => hX _ _ _ ⟨fun c => absurd c (by omega), fun _ => h⟩)
  have hxi := hw _ (List.getElem_mem hi)
  rw [nn, gD hi]
  refine impl_BitsOf_wp hxi ?_
  have hbi := bitsN_lt hxi
  rw [ixor hbi hb, w1 (by omega)]
  generalize hy : bitsN l[i] ^^^ b = y at hn
  have hy32 : y < 2 ^ 32 := by rw [← hy]; exact Nat.xor_lt_two_pow hbi hb
  have hnb := nb_le y
  intro Z hZ
  have key : ∀ (n z m : Nat), nb m = n → z + nb y = 4 + n → m < 2 ^ 32 → Z (z : Int) (m : Int) := by
    intro n
    induction n with
    | zero =>
      intro z m h1 h2 h3
      obtain rfl : m = 0 := by
        unfold nb at h1; repeat' split at h1
        all_goals first | assumption | omega
      refine hZ _ _ ⟨fun c => absurd c (by omega), fun _ => ⟨by rw [len1]; omega, fun Y hY => ?_⟩⟩
      have e1 : IntKind.u8.wrap (z : Int) = ((4 - nb y : Nat) : Int) := by rw [u8wrap]; omega
      have e2 : IntKind.i64.wrap ((4 : Int) - (z : Int)) = ((nb y : Nat) : Int) := by rw [wI (by omega)]; omega
      rw [e1]
      refine bytes_loop (5 * i + 5) (X := Y) (N := nb y) (fun q x k hk hx hq hn2 => hY _ _ _ ⟨fun _ => ⟨by rw [len1]; omega, ?_⟩, fun c => absurd (by rw [e2]; omega) c⟩) (nb y) 0 y _ (by omega) hy32 (by rw [List.length_append, List.length_singleton]; omega) (fun _ _ => trivial) (fun w => hY _ _ _ ⟨fun c => absurd c (by rw [e2]; omega), fun _ => ?_⟩)
      · rw [u8wrap, fdiv8, w1 (by omega)]; exact hn2
      · rw [List.append_assoc]; exact hn
    | succ n ih =>
      intro z m h1 h2 h3
      have hm : 0 < m := by
        unfold nb at h1; repeat' split at h1
        all_goals omega
      have := nb_div hm h3
      have := nb_le m
      refine hZ _ _ ⟨fun _ => ?_, fun c => absurd (show (0 : Int) < m by omega) c⟩
      rw [fdiv8, show IntKind.i64.wrap ((z : Int) - 1) = ((z - 1 : Nat) : Int) by rw [wI (by omega)]; omega]
      exact ih (z - 1) (m / 256) (by omega) (by omega) (by omega)
  exact key (nb y) 4 y rfl (by omega) hy32
theorem spec_l07Pack_wp {l : List Nat} {K : List UInt8 → Prop} (hl : l.length ≤ 2 ^ 20) (hw : ∀ x ∈ l, x < 2 ^ 32) (h : K (packL l)) : spec_l07Pack.wp l K := by
  intro X hX
  refine pack_loop l hl hw (X := X) (fun o b i hi hb ho hn => hX _ _ _ ⟨fun _ => ⟨⟨by omega, by omega⟩, ?_⟩, fun c => absurd (show (i : Int) < l.length by omega) c⟩) (fun b => hX _ _ _ ⟨fun c => absurd c (by omega), fun _ => h⟩)
  have hxi := hw _ (List.getElem_mem hi)
  rw [nn, gD hi]
  refine spec_l01Bits_wp hxi ?_
  have hbi := bitsN_lt hxi
  rw [ixor hbi hb, w1 (by omega)]
  generalize hy : bitsN l[i] ^^^ b = y at hn
  have hy32 : y < 2 ^ 32 := by rw [← hy]; exact Nat.xor_lt_two_pow hbi hb
  have hnb := nb_le y
  intro Z hZ
  have fin : ∀ (z : Nat), z + nb y = 4 → ∀ Y : List Int → Int → Int → Prop, (∀ (q : List Int) (x k : Int), ((k < 4 → ((q.length + ([(IntKind.u8.wrap (Int.tmod x 256))] : List (Int)).length) * 1 ≤ 2 ^ 40) ∧ Y (q ++ ([(IntKind.u8.wrap (Int.tmod x 256))] : List (Int))) (IntKind.i64.wrap (Int.tdiv x 256)) (IntKind.i64.wrap (k + 1))) ∧ (¬(k < 4) → X q (bitsN l[i] : Nat) ((i + 1 : Nat) : Int))) → Y q x k) → Y (o ++ ([(z : Int)] : List Int)) (y : Int) (z : Int) := by
    intro z hz Y hY
    refine bytes_loop (5 * i + 5) (X := Y) (N := 4) (fun q x k hk hx hq hn2 => hY _ _ _ ⟨fun _ => ⟨by rw [len1]; omega, ?_⟩, fun c => absurd (show (k : Int) < 4 by omega) c⟩) (nb y) z y _ hz hy32 (by rw [List.length_append, List.length_singleton]; omega) (fun _ _ => trivial) (fun w => hY _ _ _ ⟨fun c => absurd c (by omega), fun _ => ?_⟩)
    · rw [tmod8, u8wrap, Nat.mod_mod, show (256 : Int) = ((256 : Nat) : Int) from rfl, tdivN _ _ (by omega), w1 (by omega)]; exact hn2
    · rw [List.append_assoc]
      rw [oneB, show 4 - nb y = z by omega] at hn; exact hn
  have wz : ∀ z : Nat, z ≤ 4 → IntKind.u8.wrap (z : Int) = (z : Int) := fun z hz => by rw [u8wrap]; omega
  have q3 : y < 256 → Z ((3 : Nat) : Int) ((1 : Nat) : Int) := fun hy3 => by
    refine hZ _ _ ⟨fun _ => ⟨by decide, ?_⟩, fun c => absurd (by decide) c⟩
    rw [tdivN _ _ (by omega), Nat.div_one]
    refine ⟨fun c => ⟨fun _ => ⟨by rw [len1]; omega, ?_⟩, fun c2 => absurd rfl c2⟩, fun c => ⟨by rw [len1]; omega, ?_⟩⟩
    · rw [w1 (by decide), wz 4 (by decide)]
      exact fin 4 (by unfold nb; rw [if_pos (by omega)])
    · rw [wz 3 (by decide)]
      exact fin 3 (by unfold nb; rw [if_neg (by omega), if_pos (by omega)])
  have q2 : y < 65536 → Z ((2 : Nat) : Int) ((256 : Nat) : Int) := fun hy3 => by
    refine hZ _ _ ⟨fun _ => ⟨by decide, ?_⟩, fun c => absurd (by decide) c⟩
    rw [tdivN _ _ (by omega), w1 (by decide), show IntKind.i64.wrap (Int.tdiv ((256 : Nat) : Int) 256) = ((1 : Nat) : Int) by decide]
    refine ⟨fun c => ⟨fun c2 => absurd c2 (by decide), fun _ => q3 (by omega)⟩, fun c => ⟨by rw [len1]; omega, ?_⟩⟩
    rw [wz 2 (by decide)]
    exact fin 2 (by unfold nb; rw [if_neg (by omega), if_neg (by omega), if_pos (by omega)])
  have q1 : y < 16777216 → Z ((1 : Nat) : Int) ((65536 : Nat) : Int) := fun hy3 => by
    refine hZ _ _ ⟨fun _ => ⟨by decide, ?_⟩, fun c => absurd (by decide) c⟩
    rw [tdivN _ _ (by omega), w1 (by decide), show IntKind.i64.wrap (Int.tdiv ((65536 : Nat) : Int) 256) = ((256 : Nat) : Int) by decide]
    refine ⟨fun c => ⟨fun c2 => absurd c2 (by decide), fun _ => q2 (by omega)⟩, fun c => ⟨by rw [len1]; omega, ?_⟩⟩
    rw [wz 1 (by decide)]
    exact fin 1 (by unfold nb; rw [if_neg (by omega), if_neg (by omega), if_neg (by omega), if_pos (by omega)])
  show Z ((0 : Nat) : Int) ((16777216 : Nat) : Int)
  refine hZ _ _ ⟨fun _ => ⟨by decide, ?_⟩, fun c => absurd (by decide) c⟩
  rw [tdivN _ _ (by omega), w1 (by decide), show IntKind.i64.wrap (Int.tdiv ((16777216 : Nat) : Int) 256) = ((65536 : Nat) : Int) by decide]
  refine ⟨fun c => ⟨fun c2 => absurd c2 (by decide), fun _ => q1 (by omega)⟩, fun c => ⟨by rw [len1]; omega, ?_⟩⟩
  rw [wz 0 (by decide)]
  exact fin 0 (by unfold nb; rw [if_neg (by omega), if_neg (by omega), if_neg (by omega), if_neg (by omega)])

end Go.Proofs.Ytpeijfnfffogeaa.G

namespace Go.Proofs.Ytpeijfnfffogeaa.G
open Go Go.Ab
set_option maxRecDepth 100000
set_option linter.unusedVariables false
set_option linter.unusedSimpArgs false
set_option maxHeartbeats 1000000
open Ieee in
theorem neg_read (b : Nat) : single.read (Op.negFloat .f32 b) = (single.read b).opposite := by
  have hs : single.signWeight = 2 ^ 31 := rfl
  have h2 : Op.negFloat .f32 b % 2 ^ 31 = b % 2 ^ 31 := by
    show (b ^^^ 2 ^ 31) % 2 ^ 31 = _
    rw [Nat.xor_mod_two_pow]; simp
  have h3 : Op.negFloat .f32 b / 2 ^ 31 % 2 = (b / 2 ^ 31 + 1) % 2 := by
    show (b ^^^ 2 ^ 31) / 2 ^ 31 % 2 = _
    rw [Nat.xor_div_two_pow, Nat.div_self (by decide)]
    have := Nat.xor_mod_two_pow (a := b / 2 ^ 31) (b := 1) (n := 1)
    rw [Nat.pow_one] at this; rw [this]
    rcases Nat.mod_two_eq_zero_or_one (b / 2 ^ 31) with h | h
    · rw [h, show (b / 2 ^ 31 + 1) % 2 = 1 by omega]; decide
    · rw [h, show (b / 2 ^ 31 + 1) % 2 = 0 by omega]; decide
  have h4 : (Op.negFloat .f32 b / 2 ^ 31 % 2 == 1) = !(b / 2 ^ 31 % 2 == 1) := by
    rw [h3]
    rcases Nat.mod_two_eq_zero_or_one (b / 2 ^ 31) with h | h
    · rw [h, show (b / 2 ^ 31 + 1) % 2 = 1 by omega]; rfl
    · rw [h, show (b / 2 ^ 31 + 1) % 2 = 0 by omega]; rfl
  unfold Format.read
  rw [hs, h2, h4]
  dsimp only
  split
  · rfl
  · split
    · rfl
    · split <;> rfl
open Ieee in
theorem fneg_read {b : Nat} (h : (single.read b).isNaN = false) : single.read (fneg .f32 b) = (single.read b).opposite := by
  have e : (FloatKind.f32.decode (Op.negFloat .f32 b)).isNaN = false := by
    show (single.read _).isNaN = false
    rw [neg_read]; cases hr : single.read b with
    | nan s t => rw [hr] at h; cases h
    | _ => rfl
  rw [fneg, cz32 _ e, neg_read]
/-! ### values, in units of the last place -/
open Ieee in
def val : Datum → Int
  | .number s m e => signed s m (e + 149).toNat
  | _ => 0
open Ieee in
theorem signed_up (s : Bool) (m a b : Nat) : signed s m (a + b) = signed s m a * (2 ^ b : Nat) := by
  unfold signed
  cases s <;> simp [Nat.shiftLeft_eq, Nat.pow_add, Int.mul_assoc, Int.neg_mul]
open Ieee in
theorem order_val {s t : Bool} {m n : Nat} {i j : Int} (hi : -149 ≤ i) (hj : -149 ≤ j) : (Datum.number s m i).order (.number t n j) = some (compare (val (.number s m i)) (val (.number t n j))) := by
  have e1 : val (.number s m i) = signed s m (i - min i j).toNat * (2 ^ (min i j + 149).toNat : Nat) := by
    show signed s m _ = _
    rw [← signed_up]; congr 1; omega
  have e2 : val (.number t n j) = signed t n (j - min i j).toNat * (2 ^ (min i j + 149).toNat : Nat) := by
    show signed t n _ = _
    rw [← signed_up]; congr 1; omega
  rw [e1, e2]
  show some (compare (signed s m (i - min i j).toNat) (signed t n (j - min i j).toNat)) = _
  congr 1
  have hp : (0 : Int) < ((2 ^ (min i j + 149).toNat : Nat) : Int) := by have := Nat.two_pow_pos (min i j + 149).toNat; omega
  generalize signed s m (i - min i j).toNat = a
  generalize signed t n (j - min i j).toNat = b
  generalize ((2 ^ (min i j + 149).toNat : Nat) : Int) = p at hp
  rw [show compare a b = compareOfLessAndEq a b from rfl, show compare (a * p) (b * p) = compareOfLessAndEq (a * p) (b * p) from rfl]
  unfold compareOfLessAndEq
  have h1 : (a * p < b * p) = (a < b) := propext ⟨fun h => Int.lt_of_mul_lt_mul_right h (Int.le_of_lt hp), fun h => Int.mul_lt_mul_of_pos_right h hp⟩
  have h2 : (a * p = b * p) = (a = b) := propext ⟨fun h => Int.eq_of_mul_eq_mul_right (Int.ne_of_gt hp) h, fun h => by rw [h]⟩
  simp only [h1, h2]
/-- A word of single precision: no number, or how it stands to others. -/
theorem cmp_lt {a b : Int} : (compare a b == Ordering.lt) = decide (a < b) := by
  rw [show compare a b = compareOfLessAndEq a b from rfl]; unfold compareOfLessAndEq
  split
  · simp [*]
  · split <;> simp [*]
theorem cmp_eq {a b : Int} : (compare a b == Ordering.eq) = decide (a = b) := by
  rw [show compare a b = compareOfLessAndEq a b from rfl]; unfold compareOfLessAndEq
  split
  · simp; omega
  · split <;> simp [*]
theorem cmp_gt {a b : Int} : (compare a b == Ordering.gt) = decide (b < a) := by
  rw [show compare a b = compareOfLessAndEq a b from rfl]; unfold compareOfLessAndEq
  split
  · simp; omega
  · split
    · simp; omega
    · simp; omega
/-! ### from nought -/
open Ieee in
theorem read_f32 (x : Nat) : single.read x = if x % 2147483648 < 8388608 then .number (x / 2147483648 % 2 == 1) (x % 2147483648) (-149) else if x % 2147483648 < 2139095040 then .number (x / 2147483648 % 2 == 1) (8388608 + x % 2147483648 % 8388608) (-149 + ((x % 2147483648 / 8388608 - 1 : Nat) : Int)) else if x % 2147483648 = 2139095040 then .infinity (x / 2147483648 % 2 == 1) else .nan (x / 2147483648 % 2 == 1) (x % 2147483648 - 2139095040) := by
  unfold Format.read
  rw [show single.binade = 8388608 from rfl, show single.infRung = 2139095040 by decide, show single.signWeight = 2147483648 from rfl, show single.leastPlace = -149 by decide]
open Ieee in
theorem read_rung {r : Nat} (h : r < 2147483648) : single.read r = if r < 8388608 then .number false r (-149) else if r < 2139095040 then .number false (8388608 + r % 8388608) (-149 + ((r / 8388608 - 1 : Nat) : Int)) else if r = 2139095040 then .infinity false else .nan false (r - 2139095040) := by
  rw [read_f32, Nat.mod_eq_of_lt h, Nat.div_eq_of_lt h]; rfl
open Ieee in
theorem word_rung (r : Nat) : single.word false r = r := rfl
open Ieee in
theorem log2_full {a : Nat} (h : a < 8388608) : (8388608 + a).log2 = 23 := by
  apply Nat.le_antisymm
  · have : (8388608 + a).log2 < 24 := (Nat.log2_lt (by omega)).2 (by omega)
    omega
  · have : ¬ (8388608 + a).log2 < 23 := fun hh => by
      have := (Nat.log2_lt (by omega)).1 hh; omega
    omega
open Ieee in
theorem near_low {r : Nat} (h0 : r ≠ 0) (h : r < 8388608) : single.nearest false r (-149) = r := by
  unfold Format.nearest
  rw [if_neg h0, show single.infRung = 2139095040 by decide, show single.binade = 8388608 from rfl, show single.leastPlace = -149 by decide, show single.fractionBits = 23 from rfl]
  have hlog : r.log2 < 23 := (Nat.log2_lt h0).2 h
  have hmax : max (-149 + (r.log2 : Int) - ((23 : Nat) : Int)) (-149) = -149 := by omega
  simp only [hmax, Int.sub_self, Int.toNat_zero, Nat.shiftLeft_zero, cut_zero, Nat.zero_mul, Nat.zero_add, word_rung]
  omega
open Ieee in
theorem near_gen (f : Format) {m : Nat} {e : Int} (h0 : m ≠ 0) (hl : m.log2 = f.fractionBits) (he : f.leastPlace ≤ e) : f.nearest false m e = min ((e - f.leastPlace).toNat * f.binade + m) f.infRung := by
  have hmax : max (e + ((f.fractionBits : Nat) : Int) - ((f.fractionBits : Nat) : Int)) f.leastPlace = e := by omega
  have hw : ∀ a : Nat, f.word false a = a := fun a => if_neg (by decide)
  unfold Format.nearest
  rw [if_neg h0, hl]
  dsimp only
  rw [hmax, Int.sub_self, Int.toNat_zero, Nat.shiftLeft_zero, cut_zero, hw]
open Ieee in
theorem near_full {r : Nat} (h0 : ¬ r < 8388608) (h : r < 2139095040) : single.nearest false (8388608 + r % 8388608) (-149 + ((r / 8388608 - 1 : Nat) : Int)) = r := by
  have hmd : r % 8388608 < 8388608 := Nat.mod_lt _ (by decide)
  have hl : single.leastPlace = -149 := by decide
  have hb : single.binade = 8388608 := rfl
  have hi : single.infRung = 2139095040 := by decide
  rw [near_gen single (by omega) (log2_full hmd) (by rw [hl]; omega), hl, hb, hi]
  have ht : (-149 + ((r / 8388608 - 1 : Nat) : Int) - -149).toNat = r / 8388608 - 1 := by omega
  rw [ht]
  have := Nat.div_add_mod r 8388608
  have h1 : 1 ≤ r / 8388608 := by omega
  have h2 : (r / 8388608 - 1) * 8388608 + (8388608 + r % 8388608) = r := by omega
  rw [h2]
  exact Nat.min_eq_left (Nat.le_of_lt h)
open Ieee in
theorem sub0_near {x m : Nat} {e : Int} (h : single.read x = .number true m e) (hm : m ≠ 0) (he : -149 ≤ e) : single.sub 0 x = some (single.nearest false m e) := by
  have h0 : single.read 0 = .number false 0 (-149) := by decide +kernel
  unfold Format.sub
  rw [h0, h]
  simp only [Datum.opposite, Datum.sum, Bool.not_true]
  have hmin : min (-149 : Int) e = -149 := by omega
  rw [hmin]
  have ht : signed false 0 (-149 - -149 : Int).toNat + signed false m (e - -149).toNat = ((m * 2 ^ (e + 149).toNat : Nat) : Int) := by
    simp [signed, Nat.shiftLeft_eq]
  rw [ht]
  have hp := Nat.two_pow_pos (e + 149).toNat
  have hne : m * 2 ^ (e + 149).toNat ≠ 0 := Nat.mul_ne_zero hm (by omega)
  rw [if_neg (by omega), Option.map_some]
  have hd : decide (((m * 2 ^ (e + 149).toNat : Nat) : Int) < 0) = false := decide_eq_false (by omega)
  rw [hd, Int.natAbs_natCast]
  show some (single.nearest false (m * 2 ^ (e + 149).toNat) (-149)) = _
  rw [nearest_shift]
  congr 2; omega
open Ieee in
theorem sub0_num {x m : Nat} {e : Int} (h : single.read x = .number true m e) (hm : m ≠ 0) : ∃ y, single.sub 0 x = some y ∧ single.read y = .number false m e := by
  refine ⟨x % 2147483648, ?_⟩
  have hr : x % 2147483648 < 2147483648 := Nat.mod_lt _ (by decide)
  have h' := h
  rw [read_f32] at h'
  rw [read_rung hr]
  by_cases h1 : x % 2147483648 < 8388608
  · rw [if_pos h1] at h' ⊢
    simp only [Datum.number.injEq] at h'
    obtain ⟨_, rfl, rfl⟩ := h'
    exact ⟨by rw [sub0_near h hm (by omega), near_low hm h1], rfl⟩
  · rw [if_neg h1] at h' ⊢
    by_cases h2 : x % 2147483648 < 2139095040
    · rw [if_pos h2] at h' ⊢
      simp only [Datum.number.injEq] at h'
      obtain ⟨_, rfl, rfl⟩ := h'
      exact ⟨by rw [sub0_near h hm (by omega), near_full h1 h2], rfl⟩
    · rw [if_neg h2] at h'
      split at h' <;> cases h'
open Ieee in
theorem sub0_inf {x : Nat} (h : single.read x = .infinity true) : ∃ y, single.sub 0 x = some y ∧ single.read y = .infinity false := by
  have h0 : single.read 0 = .number false 0 (-149) := by decide +kernel
  refine ⟨single.word false single.infRung, ?_, by decide +kernel⟩
  unfold Format.sub
  rw [h0, h]; rfl
/-! ### sizes -/
def sizI (x : Nat) : Nat := if fcmp .lss .f32 x (cz .f32 0) = true then fneg .f32 x else if fcmp .eql .f32 x (cz .f32 0) = true then cz .f32 0 else x
def sizS (x : Nat) : Nat := if fcmp .leq .f32 x (cz .f32 0) = true then fop .sub .f32 (cz .f32 0) x else x
theorem fc_lss {x y : Nat} {c : Option Ordering} (h : Ieee.single.order x y = c) : fcmp .lss .f32 x y = (c == some .lt) := by subst h; rfl
theorem fc_leq {x y : Nat} {c : Option Ordering} (h : Ieee.single.order x y = c) : fcmp .leq .f32 x y = (c == some .lt || c == some .eq) := by subst h; rfl
theorem fc_eql {x y : Nat} {c : Option Ordering} (h : Ieee.single.order x y = c) : fcmp .eql .f32 x y = (c == some .eq) := by subst h; rfl
theorem fc_gtr {x y : Nat} {c : Option Ordering} (h : Ieee.single.order x y = c) : fcmp .gtr .f32 x y = (c == some .gt) := by subst h; rfl
open Ieee in
theorem fop_sub0 {x y : Nat} (hy : single.sub 0 x = some y) (hn : (single.read y).isNaN = false) : single.read (fop .sub .f32 0 x) = single.read y := by
  have : fop .sub .f32 0 x = cz .f32 y := by
    show ((single.sub 0 x).map (cz .f32)).getD _ = _
    rw [hy]; rfl
  rw [this, cz32 _ hn]
theorem siz_not {x : Nat} {c : Option Ordering} (h : Ieee.single.order x 0 = c) (h1 : (c == some .lt) = false) (h2 : (c == some .eq) = false) : sizS x = x ∧ sizI x = x := by
  unfold sizS sizI
  rw [c0_32]
  have e1 := fc_leq h
  rw [h1, h2] at e1
  have e2 := fc_lss h
  rw [h1] at e2
  have e3 := fc_eql h
  rw [h2] at e3
  rw [if_neg (by rw [e1]; decide), if_neg (by rw [e2]; decide), if_neg (by rw [e3]; decide)]
  exact ⟨rfl, rfl⟩
theorem siz_lt {x : Nat} (h : Ieee.single.order x 0 = some .lt) : sizS x = fop .sub .f32 0 x ∧ sizI x = fneg .f32 x := by
  unfold sizS sizI
  rw [c0_32]
  have e1 := fc_leq h
  have e2 := fc_lss h
  exact ⟨if_pos (by rw [e1]; rfl), if_pos (by rw [e2]; rfl)⟩
theorem siz_0 {x : Nat} (h : Ieee.single.order x 0 = some .eq) : sizS x = fop .sub .f32 0 x ∧ sizI x = 0 := by
  unfold sizS sizI
  rw [c0_32]
  have e1 := fc_leq h
  have e2 := fc_lss h
  have e3 := fc_eql h
  refine ⟨if_pos (by rw [e1]; rfl), ?_⟩
  rw [if_neg (by rw [e2]; decide)]
  exact if_pos (by rw [e3]; rfl)
open Ieee in
theorem val_pos {m : Nat} {e : Int} (hm : m ≠ 0) : (0 : Int) < val (.number false m e) := by
  have hp := Nat.two_pow_pos (e + 149).toNat
  have hne : m * 2 ^ (e + 149).toNat ≠ 0 := Nat.mul_ne_zero hm (by omega)
  simp only [val, signed, Bool.false_eq_true, if_false, Nat.shiftLeft_eq]; omega
open Ieee in
theorem val_neg {m : Nat} {e : Int} : val (.number true m e) = - val (.number false m e) := by
  simp only [val, signed, Bool.false_eq_true, if_false, if_true]
open Ieee in
theorem read_0 : single.read 0 = .number false 0 (-149) := by decide +kernel
open Ieee in
/-- Both sizes read alike. -/
theorem siz_read (x : Nat) : single.read (sizS x) = single.read (sizI x) := by
  rcases read_single x with ⟨s, t, h⟩ | ⟨s, h⟩ | ⟨s, m, e, h, hm, he, _⟩
  · have ho : single.order x 0 = none := by unfold Format.order; rw [h]; rfl
    have := siz_not ho rfl rfl
    rw [this.1, this.2]
  · cases s
    · have ho : single.order x 0 = some .gt := by unfold Format.order; rw [h, read_0]; rfl
      have := siz_not ho rfl rfl
      rw [this.1, this.2]
    · have ho : single.order x 0 = some .lt := by unfold Format.order; rw [h, read_0]; rfl
      have := siz_lt ho
      obtain ⟨y, h1, h2⟩ := sub0_inf h
      rw [this.1, this.2, fop_sub0 h1 (by rw [h2]; rfl), h2, fneg_read (by rw [h]; rfl), h]; rfl
  · have ho : single.order x 0 = some (compare (val (.number s m e)) 0) := by
      unfold Format.order; rw [h, read_0, order_val he (by omega), show val (.number false 0 (-149)) = 0 by decide]
    by_cases hz : m = 0
    · subst hz
      have hv : val (.number s 0 e) = 0 := by cases s <;> simp [val, signed]
      rw [hv] at ho
      have := siz_0 ho
      have h1 : single.sub 0 x = some 0 := by
        unfold Format.sub
        rw [read_0, h]
        cases s <;> simp [Datum.opposite, Datum.sum, signed, Format.write, Format.nearest, Format.word]
      rw [this.1, this.2, fop_sub0 h1 (by rw [read_0]; rfl)]
    · have hv := val_pos (e := e) hz
      cases s
      · have hc : compare (val (.number false m e)) 0 = Ordering.gt := by
          have := cmp_gt (a := val (.number false m e)) (b := 0); rw [decide_eq_true hv] at this; exact eq_of_beq this
        rw [hc] at ho
        have := siz_not ho rfl rfl
        rw [this.1, this.2]
      · have hc : compare (val (.number true m e)) 0 = Ordering.lt := by
          have := cmp_lt (a := val (.number true m e)) (b := 0); rw [decide_eq_true (by rw [val_neg]; omega)] at this; exact eq_of_beq this
        rw [hc] at ho
        have := siz_lt ho
        obtain ⟨y, h1, h2⟩ := sub0_num h hz
        rw [this.1, this.2, fop_sub0 h1 (by rw [h2]; rfl), h2, fneg_read (by rw [h]; rfl), h]; rfl
theorem siz_cmp (op : BinOp) (x y : Nat) : fcmp op .f32 (sizS x) y = fcmp op .f32 (sizI x) y := by
  have h : Ieee.single.order (sizS x) y = Ieee.single.order (sizI x) y := by unfold Ieee.Format.order; rw [siz_read]
  unfold fcmp
  rw [show FloatKind.f32.format = Ieee.single from rfl, h]
theorem spec_l03Size_wp {a : Nat} {K : Nat → Prop} (h : K (sizS a)) : spec_l03Size.wp a K := by
  refine ⟨fun c => ?_, fun c => ?_⟩
  · rw [sizS, if_pos c] at h; exact h
  · rw [sizS, if_neg (by rw [c]; decide)] at h; exact h
theorem impl_size_wp {a : Nat} {K : Nat → Prop} (h : K (sizI a)) : impl_size.wp a K := by
  refine ⟨fun c => ?_, fun c => ⟨fun c2 => ?_, fun c2 => ?_⟩⟩
  · rw [sizI, if_pos c] at h; exact h
  · rw [sizI, if_neg (by rw [c]; decide), if_pos c2] at h; exact h
  · rw [sizI, if_neg (by rw [c]; decide), if_neg (by rw [c2]; decide)] at h; exact h

end Go.Proofs.Ytpeijfnfffogeaa.G

namespace Go.Proofs.Ytpeijfnfffogeaa.G
open Go Go.Ab
set_option maxRecDepth 100000
set_option linter.unusedVariables false
set_option linter.unusedSimpArgs false
set_option maxHeartbeats 1000000
open Ieee in
theorem sgn_read {x : Nat} (h : (single.read x).isNaN = false) : (single.read x).neg = (x / 2147483648 % 2 == 1) := by
  rw [read_f32] at h ⊢
  split
  · rfl
  · split
    · rfl
    · split
      · rfl
      · rename_i h1 h2 h3; rw [if_neg h1, if_neg h2, if_neg h3] at h; cases h
open Ieee in
/-- A number made longer: its sign, and a rung. -/
theorem widen_word {x : Nat} (h : (single.read x).isNaN = false) : ∃ r, r ≤ double.infRung ∧ widen x = double.word (single.read x).neg r ∧ (double.read (widen x)).isNaN = false := by
  have hs : double.infRung < double.signWeight := by decide +kernel
  have hd : FloatKind.f32.decode x = single.read x := rfl
  have hcz : ∀ s r, r ≤ double.infRung → cz .f64 (double.word s r) = double.word s r := fun s r hr => by
    have : (FloatKind.f64.decode (double.word s r)).isNaN = false := word_num double s r hr hs
    unfold cz; rw [if_neg (by rw [this]; decide)]
  have hw := widen_eq x
  unfold fconv at hw
  rw [if_neg (by decide), hd] at hw
  cases hr : single.read x with
  | nan s t => rw [hr] at h; cases h
  | infinity s =>
    rw [hr] at hw
    have e : widen x = double.word s double.infRung := by
      have h1 : some (cz .f64 (double.word s double.infRung)) = some (widen x) := hw
      rw [hcz s _ (Nat.le_refl _)] at h1
      exact (Option.some.inj h1).symm
    exact ⟨double.infRung, Nat.le_refl _, e, by rw [e]; exact word_num double s _ (Nat.le_refl _) hs⟩
  | number s m e =>
    rw [hr] at hw
    dsimp only at hw
    split at hw
    · cases hw
    · have h1 : some (cz .f64 (double.nearest s m e)) = some (widen x) := hw
      have hn : ∃ r, r ≤ double.infRung ∧ double.nearest s m e = double.word s r := by
        unfold Format.nearest
        split
        · exact ⟨0, Nat.zero_le _, rfl⟩
        · exact ⟨_, Nat.min_le_right _ _, rfl⟩
      obtain ⟨r, hr1, hr2⟩ := hn
      rw [hr2, hcz s r hr1] at h1
      have e2 := (Option.some.inj h1).symm
      exact ⟨r, hr1, e2, by rw [e2]; exact word_num double s r hr1 hs⟩
def sgn (x : Nat) : Bool := (x / 2147483648 % 2 == 1)
theorem signbit_wp {x : Nat} {K : Bool → Prop} (h : (Ieee.single.read x).isNaN = false) (hk : K (sgn x)) : math_Signbit.wp (widen x) K := by
  obtain ⟨r, h1, h2, h3⟩ := widen_word h
  have hr : r ≤ 9218868437227405312 := by
    have : Ieee.double.infRung = 9218868437227405312 := by decide +kernel
    omega
  refine ⟨?_, ?_⟩
  · have : (FloatKind.f64.decode (widen x)).isNaN = false := h3
    simp [num, this]
  · show K (decide (IntKind.i64.wrap ((widen x : Nat) : Int) < 0))
    rw [sgn_read h] at h2
    have hsw : Ieee.double.signWeight = 9223372036854775808 := by decide +kernel
    have e : decide (IntKind.i64.wrap ((widen x : Nat) : Int) < 0) = sgn x := by
      unfold sgn
      cases hc : (x / 2147483648 % 2 == 1) with
      | false =>
        rw [hc] at h2
        have e2 : widen x = r := h2
        rw [e2, wI (by omega)]
        exact decide_eq_false (by omega)
      | true =>
        rw [hc] at h2
        have e2 : widen x = 9223372036854775808 + r := by rw [h2, ← hsw]; rfl
        rw [e2]
        refine decide_eq_true ?_
        have : IntKind.i64.wrap ((9223372036854775808 + r : Nat) : Int) = (r : Int) - 9223372036854775808 := by
          unfold IntKind.wrap
          have hm : (((9223372036854775808 + r : Nat) : Int)) % 18446744073709551616 = 9223372036854775808 + (r : Int) := by omega
          simp (decide := true) [IntKind.signed, IntKind.bits, hm]
          omega
        rw [this]; omega
    rw [e]; exact hk
open Ieee in
/-- The canonical form: which rung it is. -/
theorem rung_of {x : Nat} {s : Bool} {m : Nat} {e : Int} (h : single.read x = .number s m e) : s = sgn x ∧ -149 ≤ e ∧ (e = -149 ∧ m < 16777216 ∧ x % 2147483648 = m ∨ -149 < e ∧ 8388608 ≤ m ∧ m < 16777216 ∧ x % 2147483648 = (e + 150).toNat * 8388608 + (m - 8388608)) := by
  rw [read_f32] at h
  have hr : x % 2147483648 < 2147483648 := Nat.mod_lt _ (by decide)
  generalize x % 2147483648 = r at h hr
  by_cases h1 : r < 8388608
  · rw [if_pos h1] at h
    simp only [Datum.number.injEq] at h
    obtain ⟨rfl, rfl, rfl⟩ := h
    exact ⟨rfl, by omega, .inl ⟨rfl, by omega, rfl⟩⟩
  · rw [if_neg h1] at h
    by_cases h2 : r < 2139095040
    · rw [if_pos h2] at h
      simp only [Datum.number.injEq] at h
      obtain ⟨rfl, rfl, rfl⟩ := h
      have hmd : r % 8388608 < 8388608 := Nat.mod_lt _ (by decide)
      have hdm := Nat.div_add_mod r 8388608
      refine ⟨rfl, by omega, ?_⟩
      by_cases h3 : r / 8388608 = 1
      · left; refine ⟨by omega, by omega, by omega⟩
      · right
        refine ⟨by omega, by omega, by omega, ?_⟩
        rw [show (-149 + ((r / 8388608 - 1 : Nat) : Int) + 150).toNat = r / 8388608 by omega]
        omega
    · rw [if_neg h2] at h; split at h <;> cases h
open Ieee in
theorem val_inj {s : Bool} {m n : Nat} {e k : Int} (he : -149 ≤ e) (hk : -149 ≤ k) (hm : m < 16777216) (hn : n < 16777216) (hke : e < k → 8388608 ≤ n) (h : val (.number s m e) = val (.number s n k)) : ¬ e < k := by
  intro hlt
  have h8 := hke hlt
  have h1 : m * 2 ^ (e + 149).toNat = n * 2 ^ (k + 149).toNat := by
    cases s
    · simp only [val, signed, Bool.false_eq_true, if_false, Nat.shiftLeft_eq] at h; exact Int.ofNat_inj.1 h
    · simp only [val, signed, if_true, Nat.shiftLeft_eq] at h; exact Int.ofNat_inj.1 (by omega)
  have h2 : (k + 149).toNat = (k - e).toNat + (e + 149).toNat := by omega
  rw [h2, Nat.pow_add, ← Nat.mul_assoc] at h1
  have h3 := Nat.eq_of_mul_eq_mul_right (Nat.two_pow_pos _) h1
  have h4 : 2 ^ 1 ≤ 2 ^ (k - e).toNat := Nat.pow_le_pow_right (by decide) (by omega)
  have h5 : n * 2 ≤ n * 2 ^ (k - e).toNat := Nat.mul_le_mul_left _ h4
  omega
open Ieee in
theorem val_mag {s : Bool} {m n : Nat} {e : Int} (h : val (.number s m e) = val (.number s n e)) : m = n := by
  have h1 : m * 2 ^ (e + 149).toNat = n * 2 ^ (e + 149).toNat := by
    cases s
    · simp only [val, signed, Bool.false_eq_true, if_false, Nat.shiftLeft_eq] at h; exact Int.ofNat_inj.1 h
    · simp only [val, signed, if_true, Nat.shiftLeft_eq] at h; exact Int.ofNat_inj.1 (by omega)
  exact Nat.eq_of_mul_eq_mul_right (Nat.two_pow_pos _) h1
theorem word_ext {a b : Nat} (ha : a < 2 ^ 32) (hb : b < 2 ^ 32) (h1 : sgn a = sgn b) (h2 : a % 2147483648 = b % 2147483648) : a = b := by
  unfold sgn at h1
  have d1 := Nat.div_add_mod a 2147483648
  have d2 := Nat.div_add_mod b 2147483648
  have e1 : a / 2147483648 < 2 := by omega
  have e2 : b / 2147483648 < 2 := by omega
  have : a / 2147483648 = b / 2147483648 := by
    rw [Nat.mod_eq_of_lt e1, Nat.mod_eq_of_lt e2] at h1
    rcases Nat.lt_or_ge (a / 2147483648) 1 with h | h <;> rcases Nat.lt_or_ge (b / 2147483648) 1 with h' | h'
    · omega
    · rw [show a / 2147483648 = 0 by omega, show b / 2147483648 = 1 by omega] at h1; cases h1
    · rw [show a / 2147483648 = 1 by omega, show b / 2147483648 = 0 by omega] at h1; cases h1
    · omega
  omega
theorem inf_rung {x : Nat} {s : Bool} (h : Ieee.single.read x = .infinity s) : s = sgn x ∧ x % 2147483648 = 2139095040 := by
  rw [read_f32] at h
  split at h
  · cases h
  · split at h
    · cases h
    · split at h
      · rename_i h3
        simp only [Ieee.Datum.infinity.injEq] at h
        exact ⟨h.symm, h3⟩
      · cases h
open Ieee in
/-- Equal, and of one sign: the same word. -/
theorem same_word {a b : Nat} (ha : a < 2 ^ 32) (hb : b < 2 ^ 32) (ho : single.order a b = some .eq) (hs : sgn a = sgn b) : a = b := by
  unfold Format.order at ho
  rcases read_single a with ⟨s, t, h⟩ | ⟨s, h⟩ | ⟨s, m, e, h, hm, he, _⟩
  · rw [h] at ho; cases ho
  · rcases read_single b with ⟨s', t', h'⟩ | ⟨s', h'⟩ | ⟨s', m', e', h', hm', he', _⟩
    · rw [h, h'] at ho; cases ho
    · exact word_ext ha hb hs (by rw [(inf_rung h).2, (inf_rung h').2])
    · rw [h, h'] at ho; cases s <;> cases ho
  · rcases read_single b with ⟨s', t', h'⟩ | ⟨s', h'⟩ | ⟨s', m', e', h', hm', he', _⟩
    · rw [h, h'] at ho; cases ho
    · rw [h, h'] at ho; cases s' <;> cases ho
    · rw [h, h', order_val he he'] at ho
      have hv : val (.number s m e) = val (.number s' m' e') := by
        have := cmp_eq (a := val (.number s m e)) (b := val (.number s' m' e'))
        rw [Option.some.inj ho] at this
        exact of_decide_eq_true this.symm
      obtain ⟨rs, _, r1⟩ := rung_of h
      obtain ⟨rs', _, r2⟩ := rung_of h'
      rw [rs, rs', ← hs] at hv
      have l1 := val_inj he he' (by omega) (by omega) (fun c => by omega) hv
      have l2 := val_inj he' he (by omega) (by omega) (fun c => by omega) hv.symm
      obtain rfl : e = e' := by omega
      have hmm := val_mag hv
      subst hmm
      exact word_ext ha hb hs (by omega)
def sameN (a b : Nat) : Bool := decide (bitsN a = bitsN b)
theorem nan_neq {x : Nat} (h : fcmp .neq .f32 x x = false) : (Ieee.single.read x).isNaN = false := by
  have := num_of_eq h
  unfold num at this
  cases hc : (FloatKind.f32.decode x).isNaN with
  | false => exact hc
  | true => rw [hc] at this; cases this
theorem canon_nan : fcmp .neq .f32 2143289344 2143289344 = true := by decide +kernel
theorem impl_SameNumber_wp {a b : Nat} {K : Bool → Prop} (ha : a < 2 ^ 32) (hb : b < 2 ^ 32) (h : K (sameN a b)) : impl_SameNumber.wp a b K := by
  refine ⟨fun c => ?_, fun c => ⟨fun c2 => ?_, fun c2 => ⟨fun c3 => ?_, fun c3 => ?_⟩⟩⟩
  · have e : sameN a b = fcmp .neq .f32 b b := by
      unfold sameN bitsN
      rw [if_pos c]
      cases hb2 : fcmp .neq .f32 b b with
      | true => rw [if_pos rfl]; simp
      | false =>
        rw [if_neg (by decide)]
        refine decide_eq_false fun e => ?_
        rw [← e, canon_nan] at hb2; cases hb2
    rw [e] at h; exact h
  · have e : sameN a b = false := by
      unfold sameN bitsN
      rw [if_neg (by rw [c]; decide), if_pos c2]
      refine decide_eq_false fun e => ?_
      rw [e, canon_nan] at c; cases c
    rw [e] at h; exact h
  · have na := nan_neq c
    have nb' := nan_neq c2
    have e : sameN a b = (sgn a == sgn b) := by
      unfold sameN bitsN
      rw [if_neg (by rw [c]; decide), if_neg (by rw [c2]; decide)]
      have ho : Ieee.single.order a b = some .eq := by
        have := fc_eql (x := a) (y := b) rfl
        rw [c3] at this; exact eq_of_beq this.symm
      rw [Bool.eq_iff_iff, decide_eq_true_eq, beq_iff_eq]
      exact ⟨fun e => by rw [e], fun e => same_word ha hb ho e⟩
    rw [e] at h
    exact signbit_wp na (signbit_wp nb' h)
  · have e : sameN a b = false := by
      unfold sameN bitsN
      rw [if_neg (by rw [c]; decide), if_neg (by rw [c2]; decide)]
      refine decide_eq_false fun e => ?_
      subst e
      have := order_num (k := .f32) (x := a) (nan_neq c)
      rw [fc_eql (c := some .eq) this] at c3
      cases c3
    rw [e] at h; exact h
theorem spec_l01Same_wp {a b : Nat} {K : Bool → Prop} (ha : a < 2 ^ 32) (hb : b < 2 ^ 32) (h : K (sameN a b)) : spec_l01Same.wp a b K := by
  refine spec_l01Bits_wp ha (spec_l01Bits_wp hb ?_)
  have e : decide (((bitsN a : Nat) : Int) = ((bitsN b : Nat) : Int)) = sameN a b := by
    unfold sameN
    rw [Bool.eq_iff_iff, decide_eq_true_eq, decide_eq_true_eq]; omega
  rw [e]; exact h
def sameAt (l m : List Nat) (i : Nat) : Bool := sameN (l.getD i 0) (m.getD i 0)
def sameNs (l m : List Nat) : Bool := decide (l.length = m.length) && (List.range l.length).all (sameAt l m)
theorem range_get3 {n i : Nat} (h : i < (List.range n).length) : (List.range n)[i] = i := List.getElem_range h
theorem getD_lt2 {l : List Nat} {i : Nat} (h : ∀ x ∈ l, x < 2 ^ 32) : l.getD i 0 < 2 ^ 32 := by
  rw [List.getD_eq_getElem?_getD]
  cases he : l[i]? with
  | none => exact Nat.two_pow_pos 32
  | some x => exact h x (List.mem_of_getElem? he)
theorem impl_sameNumbers_wp {l m : List Nat} {K : Bool → Prop} (hl : l.length ≤ 2 ^ 20) (hw : ∀ x ∈ l, x < 2 ^ 32) (hv : ∀ x ∈ m, x < 2 ^ 32) (h : K (sameNs l m)) : impl_sameNumbers.wp l m K := by
  refine ⟨fun c => fun X hX => ?_, fun c => by rw [sameNs, decide_eq_false (by omega)] at h; exact h⟩
  rw [sameNs, decide_eq_true (by omega), Bool.true_and] at h
  refine all_loop (List.range l.length) (sameAt l m) (X := X) (T := K true) (F := K false) (fun i hi hh => ?_) (fun ht => hX _ ⟨fun c => absurd c (by rw [List.length_range]; omega), fun _ => ht⟩) (fun e => by rw [e] at h; exact h) (fun e => by rw [e] at h; exact h)
  rw [range_get3] at hh; rw [List.length_range] at hi
  refine hX _ ⟨fun _ => ⟨⟨by omega, by omega⟩, ⟨by omega, by omega⟩, impl_SameNumber_wp (getD_lt2 hw) (getD_lt2 hv) ?_⟩, fun c => absurd (show (i : Int) < l.length by omega) c⟩
  rw [nn, w1 (by omega)]; exact hh
theorem spec_l01SameAll_wp {l m : List Nat} {K : Bool → Prop} (hl : l.length ≤ 2 ^ 20) (hw : ∀ x ∈ l, x < 2 ^ 32) (hv : ∀ x ∈ m, x < 2 ^ 32) (h : K (sameNs l m)) : spec_l01SameAll.wp l m K := by
  refine ⟨fun c => fun X hX => ?_, fun c => by rw [sameNs, decide_eq_false (by omega)] at h; exact h⟩
  rw [sameNs, decide_eq_true (by omega), Bool.true_and] at h
  refine all_loop (List.range l.length) (sameAt l m) (X := X) (T := K true) (F := K false) (fun i hi hh => ?_) (fun ht => hX _ ⟨fun c => absurd c (by rw [List.length_range]; omega), fun _ => ht⟩) (fun e => by rw [e] at h; exact h) (fun e => by rw [e] at h; exact h)
  rw [range_get3] at hh; rw [List.length_range] at hi
  refine hX _ ⟨fun _ => ⟨⟨by omega, by omega⟩, ⟨by omega, by omega⟩, spec_l01Same_wp (getD_lt2 hw) (getD_lt2 hv) ?_⟩, fun c => absurd (show (i : Int) < l.length by omega) c⟩
  rw [nn, w1 (by omega)]; exact hh

end Go.Proofs.Ytpeijfnfffogeaa.G

namespace Go.Proofs.Ytpeijfnfffogeaa.G
open Go Go.Ab
set_option maxRecDepth 100000
set_option linter.unusedVariables false
set_option linter.unusedSimpArgs false
set_option maxHeartbeats 1000000
/-! ### how a size stands to a bound -/
def small (x : Nat) : Bool := fcmp .leq .f32 x (cz .f32 981668463) && fcmp .geq .f32 x (cz .f32 3129152111)
def isLg (l : List Nat) : Bool := decide (1 ≤ l.length ∧ l.length ≤ 128) && pAll l
theorem impl_isLong_wp {l : List Nat} {K : Bool → Prop} (hl : l.length ≤ 2 ^ 20) (h : K (isLg l)) : impl_isLong.wp l K := by
  refine impl_within_wp ⟨fun c => impl_areFinite1_wp hl ?_, fun c => ?_⟩
  · have c := of_decide_eq_true c
    rw [isLg, decide_eq_true (by omega), Bool.true_and] at h; exact h
  · have c := of_decide_eq_false c
    rw [isLg, decide_eq_false (by omega), Bool.false_and] at h; exact h
theorem spec_l03Long_wp {l : List Nat} {K : Bool → Prop} (hl : l.length ≤ 2 ^ 20) (h : K (isLg l)) : spec_l03Long.wp l K := by
  refine ⟨fun c => ⟨fun c2 => spec_l02Finite_wp hl ?_, fun c2 => ?_⟩, fun c => ?_⟩
  · rw [isLg, decide_eq_true (by omega), Bool.true_and] at h; exact h
  · rw [isLg, decide_eq_false (by omega), Bool.false_and] at h; exact h
  · rw [isLg, decide_eq_false (by omega), Bool.false_and] at h; exact h
def hiAt (l : List Nat) (k : Nat) : Nat := if k % 2 = 1 then fneg .f32 (l.getD (l.length - 1 - k) 0) else l.getD (l.length - 1 - k) 0
def hiF (l : List Nat) : List Nat := (List.range l.length).map (hiAt l)
theorem hiF_len (l : List Nat) : (hiF l).length = l.length := by simp [hiF]
theorem hiF_at {l : List Nat} {k : Nat} (h : k < l.length) : (hiF l).getD k 0 = hiAt l k := by
  rw [gD (by rw [hiF_len]; exact h)]; simp [hiF]
theorem impl_highOf_wp {l : List Nat} {K : List Nat → Prop} (hl : l.length ≤ 2 ^ 20) (h : K (hiF l)) : impl_highOf.wp l K := by
  intro X hX
  refine up (Y := fun i => X ((List.range i).map (hiAt l)) (i : Int)) l.length (hX _ _ ⟨fun c => absurd c (by omega), fun _ => h⟩) fun i hi hx => hX _ _ ⟨fun _ => ?_, fun c => absurd (show (i : Int) < l.length by omega) c⟩
  rw [List.range_succ, List.map_append] at hx
  have e : IntKind.i64.wrap (IntKind.i64.wrap ((l.length : Int) - 1) - (i : Int)) = ((l.length - 1 - i : Nat) : Int) := by
    rw [wI (n := (l.length : Int) - 1) (by omega), wI (by omega)]; omega
  rw [e, nn, w1 (by omega), Int.tmod_eq_emod_of_nonneg (by omega)]
  have hlen : ((List.range i).map (hiAt l)).length = i := by simp
  refine ⟨⟨by omega, by omega⟩, fun c => ⟨by rw [len1, hlen]; omega, ?_⟩, fun c => ⟨by rw [len1, hlen]; omega, ?_⟩⟩
  · have : hiAt l i = fneg .f32 (l.getD (l.length - 1 - i) 0) := if_pos (by omega)
    rw [← this]; exact hx
  · have : hiAt l i = l.getD (l.length - 1 - i) 0 := if_neg (by omega)
    rw [← this]; exact hx
theorem spec_l03High_wp {l : List Nat} {K : List Nat → Prop} (hl : l.length ≤ 2 ^ 20) (h : K (hiF l)) : spec_l03High.wp l K := impl_highOf_wp hl h
/-! ### valid pairs -/
def psum (l : List Nat) (s : Nat) : Nat → Nat
  | 0 => cz .f32 0
  | k + 1 => fop .add .f32 (psum l s k) (fop .mul .f32 (l.getD k 0) (l.getD (k + s) 0))
def shOk (l : List Nat) : Nat → Nat → Bool
  | 0, _ => true
  | f + 1, s => if s < l.length then small (psum l s (l.length - s)) && shOk l f (s + 2) else true
def pairOk (l : List Nat) : Bool := decide (2 ≤ l.length ∧ l.length ≤ 8) && (decide (l.length % 2 = 0) && (pAll l && (small (fop .sub .f32 (psum l 0 l.length) (cz .f32 1065353216)) && shOk l 5 2)))
open Ieee in
theorem ord_num {x y : Nat} {s t : Bool} {m n : Nat} {i j : Int} (hx : single.read x = .number s m i) (hy : single.read y = .number t n j) : single.order x y = some (compare (val (.number s m i)) (val (.number t n j))) := by
  unfold Format.order
  rw [hx, hy]
  exact order_val (rung_of hx).2.1 (rung_of hy).2.1
theorem fc_geq {x y : Nat} {c : Option Ordering} (h : Ieee.single.order x y = c) : fcmp .geq .f32 x y = (c == some .gt || c == some .eq) := by subst h; rfl
theorem cmp_leq {a b : Int} : ((some (compare a b) : Option Ordering) == some .lt || (some (compare a b) : Option Ordering) == some .eq) = decide (a ≤ b) := by
  have h1 := cmp_lt (a := a) (b := b)
  have h2 := cmp_eq (a := a) (b := b)
  show (compare a b == Ordering.lt || compare a b == Ordering.eq) = _
  rw [h1, h2, Bool.eq_iff_iff, Bool.or_eq_true, decide_eq_true_eq, decide_eq_true_eq, decide_eq_true_eq]; omega
theorem cmp_geq {a b : Int} : ((some (compare a b) : Option Ordering) == some .gt || (some (compare a b) : Option Ordering) == some .eq) = decide (b ≤ a) := by
  have h1 := cmp_gt (a := a) (b := b)
  have h2 := cmp_eq (a := a) (b := b)
  show (compare a b == Ordering.gt || compare a b == Ordering.eq) = _
  rw [h1, h2, Bool.eq_iff_iff, Bool.or_eq_true, decide_eq_true_eq, decide_eq_true_eq, decide_eq_true_eq]; omega
theorem cz_c0 : cz .f32 981668463 = 981668463 := by decide +kernel
theorem cz_c1 : cz .f32 3129152111 = 3129152111 := by decide +kernel
open Ieee in
theorem read_c0 : single.read 981668463 = .number false 8589935 (-33) := by decide +kernel
open Ieee in
theorem read_c1 : single.read 3129152111 = .number true 8589935 (-33) := by decide +kernel
open Ieee in
theorem size_small (y : Nat) : fcmp .leq .f32 (sizI y) (cz .f32 981668463) = small y := by
  unfold small
  rw [cz_c0, cz_c1]
  have h0 := read_0
  have hc0 : val (.number false 8589935 (-33)) = 8589935 * 2 ^ 116 := by decide +kernel
  have hc1 : val (.number true 8589935 (-33)) = -(8589935 * 2 ^ 116) := by decide +kernel
  have hz : val (.number false 0 (-149)) = 0 := by decide +kernel
  cases hy : single.read y with
  | nan s f =>
    have ho : ∀ b, single.order y b = none := fun b => by unfold Format.order; rw [hy]; cases single.read b <;> rfl
    have e : sizI y = y := by
      unfold sizI
      rw [c0_32, fc_lss (ho 0), fc_eql (ho 0)]; rfl
    rw [e, fc_leq (ho _), fc_geq (ho _)]; rfl
  | infinity s =>
    have hn : (single.read y).isNaN = false := by rw [hy]; rfl
    have ho : ∀ b t n j, single.read b = .number t n j → single.order y b = some (if s then .lt else .gt) := fun b t n j hb => by unfold Format.order; rw [hy, hb]; cases s <;> rfl
    cases s with
    | true =>
      have e : sizI y = fneg .f32 y := by unfold sizI; rw [c0_32, fc_lss (ho 0 _ _ _ h0)]; rfl
      have hf : single.order (fneg .f32 y) 981668463 = some .gt := by
        unfold Format.order; rw [fneg_read hn, hy, read_c0]; rfl
      rw [e, fc_leq hf, fc_geq (ho _ _ _ _ read_c1)]
      cases fcmp .leq .f32 y 981668463 <;> rfl
    | false =>
      have e : sizI y = y := by unfold sizI; rw [c0_32, fc_lss (ho 0 _ _ _ h0), fc_eql (ho 0 _ _ _ h0)]; rfl
      rw [e, fc_leq (ho _ _ _ _ read_c0)]; rfl
  | number s m e =>
    have hn : (single.read y).isNaN = false := by rw [hy]; rfl
    have hr := (rung_of hy).2.1
    have e1 : fcmp .lss .f32 y (cz .f32 0) = decide (val (.number s m e) < 0) := by
      rw [c0_32, fc_lss (ord_num hy h0), hz]; exact cmp_lt
    have e2 : fcmp .eql .f32 y (cz .f32 0) = decide (val (.number s m e) = 0) := by
      rw [c0_32, fc_eql (ord_num hy h0), hz]; exact cmp_eq
    have e3 : fcmp .leq .f32 y 981668463 = decide (val (.number s m e) ≤ 8589935 * 2 ^ 116) := by
      rw [fc_leq (ord_num hy read_c0), hc0]; exact cmp_leq
    have e4 : fcmp .geq .f32 y 3129152111 = decide (-(8589935 * 2 ^ 116) ≤ val (.number s m e)) := by
      rw [fc_geq (ord_num hy read_c1), hc1]; exact cmp_geq
    have hneg : single.read (fneg .f32 y) = .number (!s) m e := by rw [fneg_read hn, hy]; rfl
    have hval : val (.number (!s) m e) = - val (.number s m e) := by
      cases s with
      | false => exact val_neg
      | true => rw [val_neg]; simp
    have e5 : fcmp .leq .f32 (fneg .f32 y) 981668463 = decide (- val (.number s m e) ≤ 8589935 * 2 ^ 116) := by
      rw [fc_leq (ord_num hneg read_c0), hc0, hval]; exact cmp_leq
    have e6 : fcmp .leq .f32 (cz .f32 0) 981668463 = true := by decide +kernel
    generalize val (.number s m e) = v at e1 e2 e3 e4 e5
    rw [e3, e4]
    unfold sizI
    rw [e1, e2]
    by_cases c1 : v < 0
    · rw [if_pos (decide_eq_true c1), e5, Bool.eq_iff_iff, Bool.and_eq_true, decide_eq_true_eq, decide_eq_true_eq, decide_eq_true_eq]; omega
    · rw [if_neg (by rw [decide_eq_false c1]; decide)]
      by_cases c2 : v = 0
      · rw [if_pos (decide_eq_true c2), e6, c2]; decide
      · rw [if_neg (by rw [decide_eq_false c2]; decide), e3, Bool.eq_iff_iff, Bool.and_eq_true, decide_eq_true_eq, decide_eq_true_eq]; omega
theorem impl_size_small {y : Nat} {A B : Prop} (h1 : small y = true → A) (h2 : small y = false → B) : impl_size.wp y fun y116 => ((fcmp .leq .f32 y116 (cz .f32 981668463)) = true → A) ∧ ((fcmp .leq .f32 y116 (cz .f32 981668463)) = false → B) :=
  impl_size_wp ⟨fun c => h1 (by rw [← size_small]; exact c), fun c => h2 (by rw [← size_small]; exact c)⟩
theorem impl_ValidPair_wp {l : List Nat} {K : Bool → Prop} (hl : l.length ≤ 2 ^ 20) (h : K (pairOk l)) : impl_ValidPair.wp l K := by
  unfold pairOk at h
  refine impl_within_wp ⟨fun c => ?_, fun c => by have c := of_decide_eq_false c; rw [decide_eq_false (by omega)] at h; exact h⟩
  have c := of_decide_eq_true c
  rw [decide_eq_true (by omega), Bool.true_and] at h
  rw [Int.tmod_eq_emod_of_nonneg (by omega)]
  refine ⟨fun c2 => by rw [decide_eq_false (by omega)] at h; exact h, fun c2 => impl_areFinite1_wp hl ⟨fun c3 => ?_, fun c3 => by rw [c3, Bool.false_and, Bool.and_false] at h; exact h⟩⟩
  rw [decide_eq_true (by omega), Bool.true_and, c3, Bool.true_and] at h
  intro X hX
  refine up (Y := fun k => X (psum l 0 k) (k : Int)) l.length (hX _ _ ⟨fun c => absurd c (by omega), fun _ => ?_⟩) fun k hk hx => hX _ _ ⟨fun _ => ⟨⟨by omega, by omega⟩, by rw [w1 (by omega)]; exact hx⟩, fun c => absurd (show (k : Int) < l.length by omega) c⟩
  refine impl_size_small (fun c4 => ?_) (fun c4 => by rw [c4] at h; exact h)
  rw [c4, Bool.true_and] at h
  intro Y hY
  have key : ∀ f s : Nat, l.length ≤ s + 2 * f → s ≤ 20 → K (shOk l f s) → Y (s : Int) := by
    intro f
    induction f with
    | zero => intro s h1 h2 h3; exact hY _ ⟨fun c => absurd c (by omega), fun _ => h3⟩
    | succ f ih =>
      intro s h1 h2 h3
      rw [shOk] at h3
      refine hY _ ⟨fun c5 => fun Z hZ => ?_, fun c5 => by rw [if_neg (by omega)] at h3; exact h3⟩
      rw [if_pos (by omega)] at h3
      refine up (Y := fun k => Z (psum l s k) (k : Int)) (l.length - s) (hZ _ _ ⟨fun c => absurd c (by rw [wI (by omega)]; omega), fun _ => ?_⟩) fun k hk hx => hZ _ _ ⟨fun _ => ⟨⟨by omega, by omega⟩, ⟨by rw [wI (by omega)]; omega, by rw [wI (by omega)]; omega⟩, ?_⟩, fun c => absurd (show IntKind.i64.wrap ((k : Int) + (s : Int)) < l.length by rw [wI (by omega)]; omega) c⟩
      · refine impl_size_small (fun c6 => ?_) (fun c6 => by rw [c6, Bool.false_and] at h3; exact h3)
        rw [c6, Bool.true_and] at h3
        rw [show IntKind.i64.wrap ((s : Int) + 2) = ((s + 2 : Nat) : Int) by rw [wI (by omega)]; omega]
        exact ih (s + 2) (by omega) (by omega) h3
      · rw [w1 (by omega), show IntKind.i64.wrap ((k : Int) + (s : Int)) = ((k + s : Nat) : Int) by rw [wI (by omega)]; omega]
        exact hx
  exact key 5 2 (by omega) (by omega) h
theorem spec_l03Pair_wp {l : List Nat} {K : Bool → Prop} (hl : l.length ≤ 2 ^ 20) (h : K (pairOk l)) : spec_l03Pair.wp l K := by
  unfold pairOk at h
  refine ⟨fun c => by rw [decide_eq_false (by omega)] at h; exact h, fun c => ⟨fun c1 => by rw [decide_eq_false (by omega)] at h; exact h, fun c1 => ?_⟩⟩
  rw [decide_eq_true (by omega), Bool.true_and] at h
  rw [Int.tmod_eq_emod_of_nonneg (by omega)]
  refine ⟨fun c2 => spec_l02Finite_wp hl ⟨fun c3 => ?_, fun c3 => by rw [c3, Bool.false_and, Bool.and_false] at h; exact h⟩, fun c2 => by rw [decide_eq_false (by omega)] at h; exact h⟩
  rw [decide_eq_true (by omega), Bool.true_and, c3, Bool.true_and] at h
  intro Y hY
  have inner : ∀ (s : Nat), s ≤ 20 → s < l.length → ((small (if s = 0 then fop .sub .f32 (psum l s (l.length - s)) (cz .f32 1065353216) else psum l s (l.length - s)) = true → Y ((s + 2 : Nat) : Int)) ∧ (small (if s = 0 then fop .sub .f32 (psum l s (l.length - s)) (cz .f32 1065353216) else psum l s (l.length - s)) = false → K false)) → Y (s : Int) := by
    intro s h2 hs h3
    refine hY _ ⟨fun c5 => fun Z hZ => ?_, fun c5 => absurd (show (s : Int) < l.length by omega) c5⟩
    refine up (Y := fun k => Z (psum l s k) (k : Int)) (l.length - s) (hZ _ _ ⟨fun c => absurd c (by rw [wI (by omega)]; omega), fun _ => ?_⟩) fun k hk hx => hZ _ _ ⟨fun _ => ⟨⟨by omega, by omega⟩, ⟨by rw [wI (by omega)]; omega, by rw [wI (by omega)]; omega⟩, ?_⟩, fun c => absurd (show IntKind.i64.wrap ((k : Int) + (s : Int)) < l.length by rw [wI (by omega)]; omega) c⟩
    · rw [show IntKind.i64.wrap ((s : Int) + 2) = ((s + 2 : Nat) : Int) by rw [wI (by omega)]; omega]
      have tst : ∀ x, (small x = true → Y ((s + 2 : Nat) : Int)) ∧ (small x = false → K false) → (((fcmp .leq .f32 x (cz .f32 981668463)) = true → (((fcmp .geq .f32 x (cz .f32 3129152111)) = true → Y ((s + 2 : Nat) : Int)) ∧ ((fcmp .geq .f32 x (cz .f32 3129152111)) = false → K false))) ∧ ((fcmp .leq .f32 x (cz .f32 981668463)) = false → K false)) := by
        intro x hx
        unfold small at hx
        refine ⟨fun a => ⟨fun b => hx.1 (by rw [a, b]; rfl), fun b => hx.2 (by rw [a, b]; rfl)⟩, fun a => hx.2 (by rw [a]; rfl)⟩
      refine ⟨fun c0 => tst _ ?_, fun c0 => tst _ ?_⟩
      · rw [if_pos (by omega)] at h3; exact h3
      · rw [if_neg (by omega)] at h3; exact h3
    · rw [w1 (by omega), show IntKind.i64.wrap ((k : Int) + (s : Int)) = ((k + s : Nat) : Int) by rw [wI (by omega)]; omega]
      exact hx
  have key : ∀ f s : Nat, l.length ≤ s + 2 * f → s ≤ 20 → 0 < s → K (shOk l f s) → Y (s : Int) := by
    intro f
    induction f with
    | zero => intro s h1 h2 h0 h3; exact hY _ ⟨fun c => absurd c (by omega), fun _ => h3⟩
    | succ f ih =>
      intro s h1 h2 h0 h3
      rw [shOk] at h3
      by_cases hs : s < l.length
      · rw [if_pos hs] at h3
        refine inner s h2 hs ?_
        rw [if_neg (by omega)]
        exact ⟨fun c6 => ih (s + 2) (by omega) (by omega) (by omega) (by rw [c6, Bool.true_and] at h3; exact h3), fun c6 => by rw [c6, Bool.false_and] at h3; exact h3⟩
      · rw [if_neg hs] at h3
        exact hY _ ⟨fun c => absurd c (by omega), fun _ => h3⟩
  refine inner 0 (by omega) (by omega) ?_
  rw [if_pos rfl, Nat.sub_zero]
  exact ⟨fun c6 => key 5 2 (by omega) (by omega) (by omega) (by rw [c6, Bool.true_and] at h; exact h), fun c6 => by rw [c6, Bool.false_and] at h; exact h⟩

end Go.Proofs.Ytpeijfnfffogeaa.G

namespace Go.Proofs.Ytpeijfnfffogeaa.G
open Go Go.Ab
set_option maxRecDepth 100000
set_option linter.unusedVariables false
set_option linter.unusedSimpArgs false
set_option maxHeartbeats 1000000
def tapP (l t : List Nat) (j : Nat) : Nat → Nat
  | 0 => cz .f32 0
  | k + 1 => fop .add .f32 (tapP l t j k) (fop .mul .f32 (t.getD k 0) (l.getD ((2 * j + k) % l.length) 0))
def tapsF (l t : List Nat) : List Nat := (List.range (l.length / 2)).map fun j => tapP l t j t.length
theorem tapsF_len (l t : List Nat) : (tapsF l t).length = l.length / 2 := by simp [tapsF]
theorem tm {a n : Nat} (hn : n ≤ 2 ^ 30) (h0 : 0 < n) (ha : a ≤ 2 ^ 30) : Int.tmod (a : Int) (n : Int) = ((a % n : Nat) : Int) := by
  rw [Int.tmod_eq_emod_of_nonneg (by omega)]; rfl
theorem jk (j k : Nat) (hj : j ≤ 2 ^ 20) (hk : k ≤ 2 ^ 20) : IntKind.i64.wrap (IntKind.i64.wrap (2 * (j : Int)) + (k : Int)) = ((2 * j + k : Nat) : Int) := by
  rw [wI (n := 2 * (j : Int)) (by omega), wI (by omega)]; omega
theorem spec_l03Taps_wp {l t : List Nat} {K : List Nat → Prop} (hl : 1 ≤ l.length ∧ l.length ≤ 128) (he : l.length % 2 = 0) (ht : t.length ≤ 8) (h : K (tapsF l t)) : spec_l03Taps.wp l t K := by
  intro X hX
  refine up (Y := fun j => X ((List.range j).map fun j => tapP l t j t.length) (j : Int)) (l.length / 2) (hX _ _ ⟨fun c => absurd c (by rw [wI (by omega)]; omega), fun _ => h⟩) fun j hj hx => hX _ _ ⟨fun _ => fun Z hZ => ?_, fun c => absurd (show IntKind.i64.wrap (2 * (j : Int)) < l.length by rw [wI (by omega)]; omega) c⟩
  refine up (Y := fun k => Z (tapP l t j k) (k : Int)) t.length (hZ _ _ ⟨fun c => absurd c (by omega), fun _ => ?_⟩) fun k hk hz => hZ _ _ ⟨fun _ => ?_, fun c => absurd (show (k : Int) < t.length by omega) c⟩
  · rw [List.range_succ, List.map_append] at hx
    exact ⟨by rw [len1, List.length_map, List.length_range]; omega, by rw [w1 (by omega)]; exact hx⟩
  · have hm := Nat.mod_lt (2 * j + k) (show 0 < l.length by omega)
    rw [jk j k (by omega) (by omega), tm (by omega) (by omega) (by omega), nn, nn, w1 (by omega)]
    exact ⟨⟨by omega, by omega⟩, by omega, ⟨by omega, by omega⟩, hz⟩
def splOk (l p : List Nat) : Bool := isLg l && (decide (l.length % 2 = 0) && (pairOk p && (pAll (tapsF l p) && pAll (tapsF l (hiF p)))))
def splK (K : List Nat → List Nat → Bool → Prop) (l p : List Nat) : Prop := if splOk l p = true then K (tapsF l p) (tapsF l (hiF p)) true else K [] [] false
theorem pair_len {p : List Nat} (h : pairOk p = true) : 2 ≤ p.length ∧ p.length ≤ 8 := by
  unfold pairOk at h
  rw [Bool.and_eq_true, decide_eq_true_eq] at h
  exact h.1
theorem lg_len {l : List Nat} (h : isLg l = true) : 1 ≤ l.length ∧ l.length ≤ 128 := by
  unfold isLg at h
  rw [Bool.and_eq_true, decide_eq_true_eq] at h
  exact h.1
theorem spl_no {K : List Nat → List Nat → Bool → Prop} {l p : List Nat} (h : splK K l p) (hn : splOk l p = false) : K [] [] false := by
  unfold splK at h; rw [hn, if_neg (by decide)] at h; exact h
theorem spec_SplitRing_wp {l p : List Nat} {K : List Nat → List Nat → Bool → Prop} (hl : l.length ≤ 2 ^ 20) (hp : p.length ≤ 2 ^ 20) (h : splK K l p) : spec_SplitRing.wp l p K := by
  refine spec_l03Long_wp hl ⟨fun c1 => ?_, fun c1 => spl_no h (by unfold splOk; rw [c1]; rfl)⟩
  have hll := lg_len c1
  rw [Int.tmod_eq_emod_of_nonneg (by omega)]
  refine ⟨fun c2 => spec_l03Pair_wp hp ⟨fun c3 => ?_, fun c3 => spl_no h (by unfold splOk; rw [c3]; simp)⟩, fun c2 => spl_no h (by unfold splOk; rw [decide_eq_false (show ¬ l.length % 2 = 0 by omega)]; simp)⟩
  have hpl := pair_len c3
  refine spec_l03Taps_wp hll (by omega) (by omega) (spec_l03High_wp hp (spec_l03Taps_wp hll (by omega) (by rw [hiF_len]; omega) (spec_l02Finite_wp (by rw [tapsF_len]; omega) ⟨fun c4 => spec_l02Finite_wp (by rw [tapsF_len]; omega) ⟨fun c5 => ?_, fun c5 => spl_no h (by unfold splOk; rw [c5]; simp)⟩, fun c4 => spl_no h (by unfold splOk; rw [c4]; simp)⟩)))
  unfold splK at h
  rw [show splOk l p = true by unfold splOk; rw [c1, c3, c4, c5, decide_eq_true (show l.length % 2 = 0 by omega)]; rfl, if_pos rfl] at h
  exact h
theorem impl_SplitRing_wp {l p : List Nat} {K : List Nat → List Nat → Bool → Prop} (hl : l.length ≤ 2 ^ 20) (hp : p.length ≤ 2 ^ 20) (h : splK K l p) : impl_SplitRing.wp l p K := by
  refine impl_isLong_wp hl ⟨fun c1 => ?_, fun c1 => spl_no h (by unfold splOk; rw [c1]; rfl)⟩
  have hll := lg_len c1
  rw [Int.tmod_eq_emod_of_nonneg (by omega)]
  refine ⟨fun c2 => spl_no h (by unfold splOk; rw [decide_eq_false (show ¬ l.length % 2 = 0 by omega)]; simp), fun c2 => impl_ValidPair_wp hp ⟨fun c3 => ?_, fun c3 => spl_no h (by unfold splOk; rw [c3]; simp)⟩⟩
  have hpl := pair_len c3
  have hhl := hiF_len p
  refine impl_highOf_wp hp ?_
  intro X hX
  have hd : IntKind.i64.wrap (Int.tdiv (l.length : Int) 2) = ((l.length / 2 : Nat) : Int) := by rw [Int.tdiv_eq_ediv_of_nonneg (by omega), wI (by omega)]; omega
  rw [hd] at hX
  refine up (Y := fun j => X ((List.range j).map fun j => tapP l (hiF p) j (hiF p).length) ((List.range j).map fun j => tapP l p j p.length) (j : Int)) (l.length / 2) (hX _ _ _ ⟨fun c => absurd c (by omega), fun _ => ?_⟩) fun j hj hx => hX _ _ _ ⟨fun _ => fun Z hZ => ?_, fun c => absurd (show (j : Int) < ((l.length / 2 : Nat) : Int) by omega) c⟩
  · refine impl_areFinite_wp (by simp) (fun x hx => ?_) ?_
    · simp only [List.mem_cons, List.not_mem_nil, or_false] at hx
      rcases hx with rfl | rfl <;> (rw [List.length_map, List.length_range]; omega)
    · have e : ([(List.range (l.length / 2)).map fun j => tapP l p j p.length, (List.range (l.length / 2)).map fun j => tapP l (hiF p) j (hiF p).length].all pAll) = (pAll (tapsF l p) && pAll (tapsF l (hiF p))) := by
        rw [List.all_cons, List.all_cons, List.all_nil, Bool.and_true]; rfl
      rw [e]
      refine ⟨fun c4 => ?_, fun c4 => spl_no h (by unfold splOk; rw [c4]; simp)⟩
      unfold splK at h
      rw [show splOk l p = true by unfold splOk; rw [c1, c3, c4, decide_eq_true (show l.length % 2 = 0 by omega)]; rfl, if_pos rfl] at h
      exact h
  · refine up (Y := fun k => Z (tapP l p j k) (tapP l (hiF p) j k) (k : Int)) p.length (hZ _ _ _ ⟨fun c => absurd c (by omega), fun _ => ?_⟩) fun k hk hz => hZ _ _ _ ⟨fun _ => ?_, fun c => absurd (show (k : Int) < p.length by omega) c⟩
    · rw [List.range_succ, List.map_append, List.map_append] at hx
      refine ⟨by rw [len1, List.length_map, List.length_range]; omega, by rw [len1, List.length_map, List.length_range]; omega, ?_⟩
      rw [w1 (by omega)]
      have e : (hiF p).length = p.length := hhl
      rw [show [j].map (fun j => tapP l (hiF p) j (hiF p).length) = [tapP l (hiF p) j p.length] by rw [List.map_cons, List.map_nil, e]] at hx
      exact hx
    · have hm := Nat.mod_lt (2 * j + k) (show 0 < l.length by omega)
      rw [jk j k (by omega) (by omega), tm (by omega) (by omega) (by omega), nn, nn, w1 (by omega)]
      exact ⟨⟨by omega, by omega⟩, by omega, ⟨by omega, by omega⟩, ⟨by omega, by omega⟩, hz⟩
/-! ### joined -/
def jst (low high p : List Nat) (j k : Nat) (o : List Nat) : List Nat := o.set ((2 * j + k) % (2 * low.length)) (fop .add .f32 (o.getD ((2 * j + k) % (2 * low.length)) 0) (fop .add .f32 (fop .mul .f32 (p.getD k 0) (low.getD j 0)) (fop .mul .f32 ((hiF p).getD k 0) (high.getD j 0))))
def jin (low high p : List Nat) (j : Nat) (o : List Nat) : Nat → List Nat
  | 0 => o
  | k + 1 => jst low high p j k (jin low high p j o k)
def jout (low high p : List Nat) : Nat → List Nat
  | 0 => List.replicate (2 * low.length) 0
  | j + 1 => jin low high p j (jout low high p j) p.length
def joinF (low high p : List Nat) : List Nat := jout low high p low.length
theorem jin_len (low high p : List Nat) (j : Nat) (o : List Nat) : ∀ k, (jin low high p j o k).length = o.length
  | 0 => rfl
  | k + 1 => by rw [jin, jst, List.length_set, jin_len]
theorem jout_len (low high p : List Nat) : ∀ j, (jout low high p j).length = 2 * low.length
  | 0 => by simp [jout]
  | j + 1 => by rw [jout, jin_len, jout_len]
theorem joinF_len (low high p : List Nat) : (joinF low high p).length = 2 * low.length := jout_len _ _ _ _
theorem spec_l03Join_wp {low high p : List Nat} {K : List Nat → Prop} (h1 : 1 ≤ low.length ∧ low.length ≤ 64) (h2 : high.length = low.length) (hp : p.length ≤ 8) (h : K (joinF low high p)) : spec_l03Join.wp low high p K := by
  have hhl := hiF_len p
  have e2 : IntKind.i64.wrap (2 * (low.length : Int)) = ((2 * low.length : Nat) : Int) := by rw [wI (by omega)]; omega
  refine spec_l03High_wp (by omega) ?_
  rw [e2]
  refine ⟨by omega, fun X hX => ?_⟩
  refine up (Y := fun j => X (jout low high p j) (j : Int)) low.length (hX _ _ ⟨fun c => absurd c (by omega), fun _ => h⟩) fun j hj hx => hX _ _ ⟨fun _ => fun Z hZ => ?_, fun c => absurd (show (j : Int) < low.length by omega) c⟩
  refine up (Y := fun k => Z (jin low high p j (jout low high p j) k) (k : Int)) p.length (hZ _ _ ⟨fun c => absurd c (by omega), fun _ => by rw [w1 (by omega)]; exact hx⟩) fun k hk hz => hZ _ _ ⟨fun _ => ?_, fun c => absurd (show (k : Int) < p.length by omega) c⟩
  have hm := Nat.mod_lt (2 * j + k) (show 0 < 2 * low.length by omega)
  have hjl := jin_len low high p j (jout low high p j) k
  have hol := jout_len low high p j
  rw [jk j k (by omega) (by omega), tm (by omega) (by omega) (by omega), nn, nn, nn, w1 (by omega)]
  exact ⟨by omega, ⟨by omega, by omega⟩, ⟨by omega, by omega⟩, ⟨by omega, by omega⟩, ⟨by omega, by omega⟩, ⟨by omega, by omega⟩, hz⟩
theorem impl_JoinRing_wp {low high p : List Nat} {K : List Nat → Bool → Prop} (h1 : 1 ≤ low.length ∧ low.length ≤ 64) (h2 : high.length = low.length) (hfl : pAll low = true) (hfh : pAll high = true) (hp : pairOk p = true) (h : (pAll (joinF low high p) = true → K (joinF low high p) true) ∧ (pAll (joinF low high p) = false → K [] false)) : impl_JoinRing.wp low high p K := by
  have hpl := pair_len hp
  have hhl := hiF_len p
  have e2 : IntKind.i64.wrap (2 * (low.length : Int)) = ((2 * low.length : Nat) : Int) := by rw [wI (by omega)]; omega
  refine impl_within_wp (tE (decide_eq_true (by omega)) (tP (by omega) (impl_areFinite_wp (by simp) (fun x hx => ?_) (tE ?_ (impl_ValidPair_wp (by omega) (tE hp (impl_highOf_wp (by omega) ?_)))))))
  · simp only [List.mem_cons, List.not_mem_nil, or_false] at hx
    rcases hx with rfl | rfl <;> omega
  · rw [List.all_cons, List.all_cons, List.all_nil, hfl, hfh]; rfl
  rw [e2]
  refine ⟨by omega, fun X hX => ?_⟩
  have hjf := joinF_len low high p
  refine up (Y := fun j => X (jout low high p j) (j : Int)) low.length (hX _ _ ⟨fun c => absurd c (by omega), fun _ => ?_⟩) fun j hj hx => hX _ _ ⟨fun _ => fun Z hZ => ?_, fun c => absurd (show (j : Int) < low.length by omega) c⟩
  · show impl_finiteList.wp (joinF low high p) _
    refine impl_finiteList_wp (by omega) ⟨fun c => ?_, fun c => ?_⟩
    · rw [c]; exact h.1 c
    · rw [c]; exact h.2 c
  refine up (Y := fun k => Z (jin low high p j (jout low high p j) k) (k : Int)) p.length (hZ _ _ ⟨fun c => absurd c (by omega), fun _ => by rw [w1 (by omega)]; exact hx⟩) fun k hk hz => hZ _ _ ⟨fun _ => ?_, fun c => absurd (show (k : Int) < p.length by omega) c⟩
  have hm := Nat.mod_lt (2 * j + k) (show 0 < 2 * low.length by omega)
  have hjl := jin_len low high p j (jout low high p j) k
  have hol := jout_len low high p j
  rw [jk j k (by omega) (by omega), tm (by omega) (by omega) (by omega), nn, nn, nn, w1 (by omega)]
  exact ⟨⟨by omega, by omega⟩, by omega, ⟨by omega, by omega⟩, ⟨by omega, by omega⟩, ⟨by omega, by omega⟩, ⟨by omega, by omega⟩, hz⟩

end Go.Proofs.Ytpeijfnfffogeaa.G

namespace Go.Proofs.Ytpeijfnfffogeaa.G
open Go Go.Ab
set_option maxRecDepth 100000
set_option linter.unusedVariables false
set_option linter.unusedSimpArgs false
set_option maxHeartbeats 1000000
open Ieee in
theorem near_neg (M : Nat) (e : Int) : single.nearest true M e = 2147483648 + single.nearest false M e ∧ single.nearest false M e ≤ 2139095040 := by
  have hi : single.infRung = 2139095040 := by decide
  have hw : ∀ r, single.word true r = 2147483648 + r := fun r => by unfold Format.word; rw [if_pos rfl]; rfl
  have hf : ∀ r, single.word false r = r := fun r => if_neg (by decide)
  have hc : ∀ a b, Toward.even.cut true a b = Toward.even.cut false a b := fun _ _ => rfl
  unfold Format.nearest
  by_cases h0 : M = 0
  · rw [if_pos h0, if_pos h0, hw, hf]; exact ⟨rfl, by decide⟩
  · rw [if_neg h0, if_neg h0]
    dsimp only
    rw [hw, hf, hc, hi]
    exact ⟨rfl, Nat.min_le_right _ _⟩
theorem xor31 {R : Nat} (h : R < 2147483648) : R ^^^ 2147483648 = 2147483648 + R := by
  have h1 := Nat.two_pow_add_eq_or_of_lt (i := 31) (b := R) h 1
  have h2 : (2147483648 : Nat) ||| R = 2147483648 + R := by rw [← h1]
  rw [← h2]
  apply Nat.eq_of_testBit_eq
  intro i
  rw [Nat.testBit_xor, Nat.testBit_or]
  by_cases hi : i = 31
  · subst hi
    rw [Nat.testBit_lt_two_pow (i := 31) h]; rfl
  · have : Nat.testBit 2147483648 i = false := by
      rw [show (2147483648 : Nat) = 2 ^ 31 from rfl, Nat.testBit_two_pow]
      exact decide_eq_false (fun e => hi e.symm)
    rw [this]; simp
open Ieee in
theorem fneg_near (M : Nat) (e : Int) : fneg .f32 (single.nearest false M e) = cz .f32 (single.nearest true M e) := by
  obtain ⟨h1, h2⟩ := near_neg M e
  rw [h1]
  unfold fneg Op.negFloat
  show cz .f32 (single.nearest false M e ^^^ 2 ^ 31) = _
  rw [show (2 : Nat) ^ 31 = 2147483648 from rfl, xor31 (by omega)]
open Ieee in
theorem cz_near (M : Nat) (e : Int) : cz .f32 (single.nearest false M e) = single.nearest false M e := by
  obtain ⟨_, h2⟩ := near_neg M e
  refine cz32 _ ?_
  show (single.read _).isNaN = false
  have hr := read_rung (r := single.nearest false M e) (by omega)
  rw [hr]
  split
  · rfl
  · split
    · rfl
    · split
      · rfl
      · omega
open Ieee in
theorem signed_not (s : Bool) (m a : Nat) : signed (!s) m a = - signed s m a := by
  unfold signed; cases s <;> simp
open Ieee in
/-- A number below zero and a limit: its size less the limit, with the sign again. -/
theorem add_sub {x a l m n : Nat} {e j : Int} {t : Bool} (hx : single.read x = .number true m e) (ha : single.read a = .number false m e) (hl : single.read l = .number t n j) (hgt : val (.number t n j) < val (.number false m e)) : fop .add .f32 x l = fneg .f32 (fop .sub .f32 a l) := by
  have he := (rung_of hx).2.1
  have hj := (rung_of hl).2.1
  have e1 : val (.number false m e) = signed false m (e - min e j).toNat * (2 ^ (min e j + 149).toNat : Nat) := by
    show signed false m _ = _
    rw [← signed_up]; congr 1; omega
  have e2 : val (.number t n j) = signed t n (j - min e j).toNat * (2 ^ (min e j + 149).toNat : Nat) := by
    show signed t n _ = _
    rw [← signed_up]; congr 1; omega
  rw [e1, e2] at hgt
  have hp : (0 : Int) < ((2 ^ (min e j + 149).toNat : Nat) : Int) := by have := Nat.two_pow_pos (min e j + 149).toNat; omega
  have hlt := Int.lt_of_mul_lt_mul_right hgt (Int.le_of_lt hp)
  have s1 : single.add x l = some (single.nearest true (signed true m (e - min e j).toNat + signed t n (j - min e j).toNat).natAbs (min e j)) := by
    unfold Format.add
    rw [hx, hl]
    simp only [Datum.sum]
    have h0 : signed true m (e - min e j).toNat = - signed false m (e - min e j).toNat := signed_not false m _
    rw [h0, if_neg (by omega), decide_eq_true (by omega)]; rfl
  have s2 : single.sub a l = some (single.nearest false (signed true m (e - min e j).toNat + signed t n (j - min e j).toNat).natAbs (min e j)) := by
    unfold Format.sub
    rw [ha, hl]
    simp only [Datum.opposite, Datum.sum]
    have h0 : signed true m (e - min e j).toNat = - signed false m (e - min e j).toNat := signed_not false m _
    rw [h0, signed_not t n, if_neg (by omega), decide_eq_false (by omega), show (- signed false m (e - min e j).toNat + signed t n (j - min e j).toNat).natAbs = (signed false m (e - min e j).toNat + - signed t n (j - min e j).toNat).natAbs by omega]; rfl
  have f1 : fop .add .f32 x l = cz .f32 (single.nearest true (signed true m (e - min e j).toNat + signed t n (j - min e j).toNat).natAbs (min e j)) := by
    unfold fop floatBits
    show ((single.add x l).map (cz .f32)).getD _ = _
    rw [s1]; rfl
  have f2 : fop .sub .f32 a l = single.nearest false (signed true m (e - min e j).toNat + signed t n (j - min e j).toNat).natAbs (min e j) := by
    unfold fop floatBits
    show ((single.sub a l).map (cz .f32)).getD _ = _
    rw [s2]
    show cz .f32 _ = _
    exact cz_near _ _
  rw [f1, f2, fneg_near]
open Ieee in
theorem pFin_num {x : Nat} (h : pFin x = true) : ∃ s m e, single.read x = .number s m e := by
  have hq : fcmp .eql .f32 (qnan .f32) (cz .f32 0) = false := by decide +kernel
  unfold pFin at h
  cases hx : single.read x with
  | number s m e => exact ⟨s, m, e, rfl⟩
  | infinity s =>
    exfalso
    have : fop .sub .f32 x x = qnan .f32 := by
      unfold fop floatBits
      show ((single.sub x x).map (cz .f32)).getD _ = _
      unfold Format.sub
      rw [hx]
      cases s <;> rfl
    rw [this, hq] at h; cases h
  | nan s f =>
    exfalso
    have : fop .sub .f32 x x = qnan .f32 := by
      unfold fop floatBits
      show ((single.sub x x).map (cz .f32)).getD _ = _
      unfold Format.sub
      rw [hx]; rfl
    rw [this, hq] at h; cases h
open Ieee in
theorem num_lss {x y : Nat} {s t : Bool} {m n : Nat} {i j : Int} (hx : single.read x = .number s m i) (hy : single.read y = .number t n j) : fcmp .lss .f32 x y = decide (val (.number s m i) < val (.number t n j)) := by
  rw [fc_lss (ord_num hx hy)]; exact cmp_lt
open Ieee in
theorem num_gtr {x y : Nat} {s t : Bool} {m n : Nat} {i j : Int} (hx : single.read x = .number s m i) (hy : single.read y = .number t n j) : fcmp .gtr .f32 x y = decide (val (.number t n j) < val (.number s m i)) := by
  rw [fc_gtr (ord_num hx hy)]; exact cmp_gt
open Ieee in
theorem num_geq {x y : Nat} {s t : Bool} {m n : Nat} {i j : Int} (hx : single.read x = .number s m i) (hy : single.read y = .number t n j) : fcmp .geq .f32 x y = decide (val (.number t n j) ≤ val (.number s m i)) := by
  rw [fc_geq (ord_num hx hy)]; exact cmp_geq
open Ieee in
theorem num_eql {x y : Nat} {s t : Bool} {m n : Nat} {i j : Int} (hx : single.read x = .number s m i) (hy : single.read y = .number t n j) : fcmp .eql .f32 x y = decide (val (.number s m i) = val (.number t n j)) := by
  rw [fc_eql (ord_num hx hy)]; exact cmp_eq
open Ieee in
theorem val_0 : val (.number false 0 (-149)) = 0 := by decide +kernel
def shS (x l : Nat) : Nat := if fcmp .gtr .f32 (sizS x) l = true then (if fcmp .lss .f32 x (cz .f32 0) = true then fneg .f32 (fop .sub .f32 (sizS x) l) else fop .sub .f32 (sizS x) l) else cz .f32 0
theorem spec_l05Shrink_wp {x l : Nat} {K : Nat → Prop} (h : K (shS x l)) : spec_l05Shrink.wp x l false K := by
  unfold shS at h
  refine spec_l03Size_wp ⟨fun c => ⟨fun c2 => (by cases c2), fun _ => ⟨fun c3 => ?_, fun c3 => ?_⟩⟩, fun c => ?_⟩
  · rw [if_pos c, if_pos c3] at h; exact h
  · rw [if_pos c, if_neg (by rw [c3]; decide)] at h; exact h
  · rw [if_neg (by rw [c]; decide)] at h; exact h
open Ieee in
theorem impl_shrunk_wp {x l : Nat} {K : Nat → Prop} (hx : pFin x = true) (hl : isLeast l = true) (h : K (shS x l)) : impl_shrunk.wp x l false K := by
  unfold shS at h
  refine impl_size_wp ⟨fun c => ⟨fun c2 => (by cases c2), fun _ => ?_⟩, fun c => ?_⟩
  · rw [← siz_cmp] at c
    rw [if_pos c] at h
    unfold isLeast at hl
    rw [Bool.and_eq_true, c0_32] at hl
    obtain ⟨t, n, j, hrl⟩ := pFin_num hl.1
    obtain ⟨s, m, e, hrx⟩ := pFin_num hx
    have hl0 := hl.2
    rw [num_geq hrl read_0, val_0, decide_eq_true_eq] at hl0
    have hlss := num_lss hrx read_0
    have heql := num_eql hrx read_0
    rw [val_0] at hlss heql
    have hord := ord_num hrx read_0
    rw [val_0] at hord
    by_cases hneg : val (.number s m e) < 0
    · -- below zero
      rw [decide_eq_true hneg] at hlss
      have hs : s = true ∧ m ≠ 0 := by
        cases s with
        | false =>
          exfalso
          by_cases hm : m = 0
          · subst hm
            have : val (.number false 0 e) = 0 := by simp [val, signed]
            omega
          · have := val_pos (e := e) hm; omega
        | true =>
          refine ⟨rfl, fun hm => ?_⟩
          subst hm
          have : val (.number true 0 e) = 0 := by simp [val, signed]
          omega
      obtain ⟨rfl, hm⟩ := hs
      have ho : single.order x 0 = some .lt := by
        rw [hord]
        have := cmp_lt (a := val (.number true m e)) (b := 0)
        rw [decide_eq_true hneg, beq_iff_eq] at this
        rw [this]
      obtain ⟨hS, _⟩ := siz_lt ho
      obtain ⟨y, hy1, hy2⟩ := sub0_num hrx hm
      have hra : single.read (sizS x) = .number false m e := by rw [hS, fop_sub0 hy1 (by rw [hy2]; rfl), hy2]
      have hgt := c
      rw [num_gtr hra hrl, decide_eq_true_eq] at hgt
      have hxv := val_neg (m := m) (e := e)
      have hnl : (single.read l).isNaN = false := by rw [hrl]; rfl
      have hfl : single.read (fneg .f32 l) = .number (!t) n j := by rw [fneg_read hnl, hrl]; rfl
      have hvl : val (.number (!t) n j) = - val (.number t n j) := by
        cases t with
        | false => exact val_neg
        | true => rw [val_neg]; simp
      rw [c0_32, if_pos hlss, ← add_sub hrx hra hrl hgt] at h
      refine ⟨fun c2 => ?_, fun _ => ⟨fun _ => h, fun c3 => ?_⟩⟩
      · rw [num_gtr hrx hrl, decide_eq_true_eq] at c2; omega
      · rw [num_lss hrx hfl, decide_eq_false_iff_not, hvl] at c3; omega
    · rw [decide_eq_false hneg] at hlss
      rw [c0_32, if_neg (by rw [hlss]; decide)] at h
      by_cases hz : val (.number s m e) = 0
      · exfalso
        have ho : single.order x 0 = some .eq := by
          rw [hord, hz]; rfl
        have c' := c
        rw [siz_cmp, (siz_0 ho).2, num_gtr read_0 hrl, val_0, decide_eq_true_eq] at c'
        omega
      · have hcg : compare (val (.number s m e)) 0 = .gt := by
          have := cmp_gt (a := val (.number s m e)) (b := 0)
          rw [decide_eq_true (by omega), beq_iff_eq] at this
          exact this
        have ho : single.order x 0 = some .gt := by rw [hord, hcg]
        have hn := siz_not ho rfl rfl
        rw [hn.1] at h c
        exact ⟨fun _ => h, fun c2 => by rw [c] at c2; cases c2⟩
  · rw [← siz_cmp] at c
    rw [if_neg (by rw [c]; decide)] at h; exact h
def shL (l : List Nat) (a : Nat) : List Nat := l.map fun x => shS x a
theorem shL_len (l : List Nat) (a : Nat) : (shL l a).length = l.length := by simp [shL]
theorem pAll_at {l : List Nat} (h : pAll l = true) {i : Nat} (hi : i < l.length) : pFin l[i] = true := by
  unfold pAll at h
  rw [List.all_eq_true] at h
  exact h _ (List.getElem_mem hi)
theorem shL_take {l : List Nat} {a i : Nat} (hi : i < l.length) : (shL l a).take (i + 1) = (shL l a).take i ++ [shS l[i] a] := by
  rw [List.take_succ_eq_append_getElem (by rw [shL_len]; exact hi)]
  simp [shL]
theorem spec_l05List_wp {l : List Nat} {a : Nat} {K : List Nat → Prop} (hl : l.length ≤ 2 ^ 20) (h : K (shL l a)) : spec_l05List.wp l a false K := by
  intro X hX
  refine up (Y := fun i => X ((shL l a).take i) (i : Int)) l.length (hX _ _ ⟨fun c => absurd c (by omega), fun _ => by rw [List.take_of_length_le (by rw [shL_len]; omega)]; exact h⟩) fun i hi hx => hX _ _ ⟨fun _ => ⟨⟨by omega, by omega⟩, ?_⟩, fun c => absurd (show (i : Int) < l.length by omega) c⟩
  rw [nn, gD hi, w1 (by omega)]
  rw [shL_take hi] at hx
  exact spec_l05Shrink_wp ⟨by rw [len1, List.length_take, shL_len]; omega, hx⟩
theorem impl_shrunkList_wp {l : List Nat} {a : Nat} {K : List Nat → Prop} (hl : l.length ≤ 2 ^ 20) (hf : pAll l = true) (ha : isLeast a = true) (h : K (shL l a)) : impl_shrunkList.wp l a false K := by
  intro X hX
  refine up (Y := fun i => X ((shL l a).take i) (i : Int)) l.length (hX _ _ ⟨fun c => absurd c (by omega), fun _ => by rw [List.take_of_length_le (by rw [shL_len]; omega)]; exact h⟩) fun i hi hx => hX _ _ ⟨fun _ => ⟨⟨by omega, by omega⟩, ?_⟩, fun c => absurd (show (i : Int) < l.length by omega) c⟩
  rw [nn, gD hi, w1 (by omega)]
  rw [shL_take hi] at hx
  exact impl_shrunk_wp (pAll_at hf hi) ha ⟨by rw [len1, List.length_take, shL_len]; omega, hx⟩

end Go.Proofs.Ytpeijfnfffogeaa.G

namespace Go.Proofs.Ytpeijfnfffogeaa.G
open Go Go.Ab
set_option maxRecDepth 100000
set_option linter.unusedVariables false
set_option linter.unusedSimpArgs false
set_option maxHeartbeats 1000000
def ln (d : List (List Nat)) (i : Nat) : Nat := (d.getD i ([] : List Nat)).length
def szOk (d : List (List Nat)) (i : Nat) : Bool := decide (1 ≤ ln d i) && (decide (i = 0) || decide (ln d (i - 1) = 2 * ln d i))
def bandsOk (c : List Nat) (d : List (List Nat)) : Bool := decide (1 ≤ d.length ∧ d.length ≤ 6) && (decide (ln d 0 ≤ 64) && (pAll c && (d.all pAll && ((List.range d.length).all (szOk d) && decide (c.length = ln d (d.length - 1))))))
theorem rg3 {n i : Nat} (h : i < (List.range n).length) : (List.range n)[i] = i := List.getElem_range h
theorem all_range (d : List (List Nat)) : (List.range d.length).all (fun i => pAll (d.getD i ([] : List Nat))) = d.all pAll := by
  rw [Bool.eq_iff_iff, List.all_eq_true, List.all_eq_true]
  constructor
  · intro h x hx
    obtain ⟨i, hi, rfl⟩ := List.getElem_of_mem hx
    have := h i (List.mem_range.2 hi)
    rw [gD hi] at this; exact this
  · intro h i hi
    have hi := List.mem_range.1 hi
    rw [gD hi]; exact h _ (List.getElem_mem hi)
theorem ln_le {d : List (List Nat)} (hd : ∀ x ∈ d, x.length ≤ 2 ^ 20) (i : Nat) : ln d i ≤ 2 ^ 20 := by
  unfold ln
  rw [List.getD_eq_getElem?_getD]
  cases h : d[i]? with
  | none => exact Nat.zero_le _
  | some x => exact hd x (List.mem_of_getElem? h)
theorem ceq (a b : Nat) : decide ((a : Int) = (b : Int)) = decide (a = b) := by rw [Bool.eq_iff_iff, decide_eq_true_eq, decide_eq_true_eq]; omega
theorem impl_ValidBands_wp {c : List Nat} {d : List (List Nat)} {K : Bool → Prop} (hc : c.length ≤ 2 ^ 20) (hl : d.length ≤ 2 ^ 20) (hd : ∀ x ∈ d, x.length ≤ 2 ^ 20) (h : K (bandsOk c d)) : impl_ValidBands.wp c d K := by
  unfold bandsOk at h
  refine impl_within_wp ⟨fun c1 => ?_, fun c1 => by have c1 := of_decide_eq_false c1; rw [decide_eq_false (by omega)] at h; exact h⟩
  have c1 := of_decide_eq_true c1
  rw [decide_eq_true (by omega), Bool.true_and] at h
  refine ⟨⟨by omega, by omega⟩, fun c2 => ?_, fun c2 => ?_⟩
  · have c2 : (64 : Int) < (ln d 0 : Int) := c2
    rw [decide_eq_false (by omega)] at h; exact h
  have c2 : ¬ (64 : Int) < (ln d 0 : Int) := c2
  rw [decide_eq_true (by omega), Bool.true_and] at h
  refine impl_areFinite_wp hl hd ⟨fun c3 => impl_areFinite1_wp hc ⟨fun c4 => ?_, fun c4 => by rw [c4] at h; exact h⟩, fun c3 => by rw [c3, Bool.false_and, Bool.and_false] at h; exact h⟩
  rw [c3, c4, Bool.true_and, Bool.true_and] at h
  intro X hX
  have hlast : IntKind.i64.wrap ((d.length : Int) - 1) = ((d.length - 1 : Nat) : Int) := by rw [wI (by omega)]; omega
  refine all_loop (List.range d.length) (szOk d) (X := X) (T := K (decide (c.length = ln d (d.length - 1)))) (F := K false) (fun i hi hh => ?_) (fun ht => hX _ ⟨fun c => absurd c (by rw [List.length_range]; omega), fun _ => ?_⟩) (fun e => by rw [e, Bool.true_and] at h; exact h) (fun e => by rw [e, Bool.false_and] at h; exact h)
  · rw [rg3] at hh; rw [List.length_range] at hi
    have h1 := ln_le hd i
    have h2 := ln_le hd (i - 1)
    refine hX _ ⟨fun _ => ⟨⟨by omega, by omega⟩, ?_⟩, fun c => absurd (show (i : Int) < d.length by omega) c⟩
    unfold szOk at hh
    show ((ln d i : Int) = 0 → K false) ∧ (¬ (ln d i : Int) = 0 → ((0 < (i : Int) → _) ∧ _))
    refine ⟨fun c5 => hh.2 (by rw [decide_eq_false (by omega)]; rfl), fun c5 => ⟨fun c6 => ?_, fun c6 => ?_⟩⟩
    · rw [show IntKind.i64.wrap ((i : Int) - 1) = ((i - 1 : Nat) : Int) by rw [wI (by omega)]; omega, w1 (by omega)]
      refine ⟨⟨by omega, by omega⟩, ?_⟩
      show (IntKind.i64.wrap (2 * (ln d i : Int)) = (ln d (i - 1) : Int) → _) ∧ (¬ IntKind.i64.wrap (2 * (ln d i : Int)) = (ln d (i - 1) : Int) → _)
      rw [wI (by omega)]
      exact ⟨fun c7 => hh.1 (by rw [decide_eq_true (show 1 ≤ ln d i by omega), decide_eq_true (show ln d (i - 1) = 2 * ln d i by omega)]; simp), fun c7 => hh.2 (by rw [decide_eq_false (show ¬ i = 0 by omega), decide_eq_false (show ¬ ln d (i - 1) = 2 * ln d i by omega)]; simp)⟩
    · rw [w1 (by omega)]
      exact hh.1 (by rw [decide_eq_true (show 1 ≤ ln d i by omega), decide_eq_true (show i = 0 by omega)]; rfl)
  · rw [hlast]
    refine ⟨⟨by omega, by omega⟩, ?_⟩
    show K (decide ((c.length : Int) = (ln d (d.length - 1) : Int)))
    rw [ceq]; exact ht
theorem spec_l03Bands_wp {c : List Nat} {d : List (List Nat)} {K : Bool → Prop} (hc : c.length ≤ 2 ^ 20) (hl : d.length ≤ 2 ^ 20) (hd : ∀ x ∈ d, x.length ≤ 2 ^ 20) (h : K (bandsOk c d)) : spec_l03Bands.wp c d K := by
  unfold bandsOk at h
  refine ⟨fun c1 => by rw [decide_eq_false (by omega)] at h; exact h, fun c1 => ⟨fun c1' => by rw [decide_eq_false (by omega)] at h; exact h, fun c1' => ?_⟩⟩
  rw [decide_eq_true (by omega), Bool.true_and] at h
  refine ⟨⟨by omega, by omega⟩, fun c2 => ?_, fun c2 => ?_⟩
  · have c2 : (64 : Int) < (ln d 0 : Int) := c2
    rw [decide_eq_false (by omega)] at h; exact h
  have c2 : ¬ (64 : Int) < (ln d 0 : Int) := c2
  rw [decide_eq_true (by omega), Bool.true_and] at h
  refine spec_l02Finite_wp hc ⟨fun c4 => ?_, fun c4 => by rw [c4] at h; exact h⟩
  rw [c4, Bool.true_and, ← all_range d, ← Bool.and_assoc] at h
  have hall : ((List.range d.length).all (fun i => pAll (d.getD i ([] : List Nat))) && (List.range d.length).all (szOk d)) = (List.range d.length).all fun i => pAll (d.getD i ([] : List Nat)) && szOk d i := by
    rw [Bool.eq_iff_iff, Bool.and_eq_true, List.all_eq_true, List.all_eq_true, List.all_eq_true]
    exact ⟨fun ⟨a, b⟩ i hi => by rw [a i hi, b i hi]; rfl, fun a => ⟨fun i hi => by have := a i hi; rw [Bool.and_eq_true] at this; exact this.1, fun i hi => by have := a i hi; rw [Bool.and_eq_true] at this; exact this.2⟩⟩
  rw [hall] at h
  intro X hX
  have hlast : IntKind.i64.wrap ((d.length : Int) - 1) = ((d.length - 1 : Nat) : Int) := by rw [wI (by omega)]; omega
  refine all_loop (List.range d.length) (fun i => pAll (d.getD i ([] : List Nat)) && szOk d i) (X := X) (T := K (decide (c.length = ln d (d.length - 1)))) (F := K false) (fun i hi hh => ?_) (fun ht => hX _ ⟨fun c => absurd c (by rw [List.length_range]; omega), fun _ => ?_⟩) (fun e => by rw [e, Bool.true_and] at h; exact h) (fun e => by rw [e, Bool.false_and] at h; exact h)
  · rw [rg3] at hh; rw [List.length_range] at hi
    have h1 := ln_le hd i
    have h2 := ln_le hd (i - 1)
    refine hX _ ⟨fun _ => ⟨⟨by omega, by omega⟩, ?_⟩, fun c => absurd (show (i : Int) < d.length by omega) c⟩
    unfold szOk at hh
    show ((ln d i : Int) < 1 → K false) ∧ (¬ (ln d i : Int) < 1 → spec_l02Finite.wp (d.getD i ([] : List Nat)) _)
    refine ⟨fun c5 => hh.2 (by rw [decide_eq_false (show ¬ 1 ≤ ln d i by omega)]; simp), fun c5 => spec_l02Finite_wp h1 ⟨fun c8 => ⟨fun c6 => ?_, fun c6 => ?_⟩, fun c8 => hh.2 (by rw [c8]; rfl)⟩⟩
    · rw [show IntKind.i64.wrap ((i : Int) - 1) = ((i - 1 : Nat) : Int) by rw [wI (by omega)]; omega, w1 (by omega)]
      refine ⟨⟨by omega, by omega⟩, ?_⟩
      show ((ln d (i - 1) : Int) = IntKind.i64.wrap (2 * (ln d i : Int)) → _) ∧ (¬ (ln d (i - 1) : Int) = IntKind.i64.wrap (2 * (ln d i : Int)) → _)
      rw [wI (by omega)]
      exact ⟨fun c7 => hh.1 (by rw [c8, decide_eq_true (show 1 ≤ ln d i by omega), decide_eq_true (show ln d (i - 1) = 2 * ln d i by omega)]; simp), fun c7 => hh.2 (by rw [decide_eq_false (show ¬ i = 0 by omega), decide_eq_false (show ¬ ln d (i - 1) = 2 * ln d i by omega)]; simp)⟩
    · rw [w1 (by omega)]
      exact hh.1 (by rw [c8, decide_eq_true (show 1 ≤ ln d i by omega), decide_eq_true (show i = 0 by omega)]; rfl)
  · rw [hlast]
    refine ⟨⟨by omega, by omega⟩, ?_⟩
    show K (decide ((c.length : Int) = (ln d (d.length - 1) : Int)))
    rw [ceq]; exact ht
/-! ### what valid bands say -/
theorem bands_d {c : List Nat} {d : List (List Nat)} (h : bandsOk c d = true) : (1 ≤ d.length ∧ d.length ≤ 6) ∧ ln d 0 ≤ 64 ∧ pAll c = true ∧ d.all pAll = true ∧ (∀ i, i < d.length → 1 ≤ ln d i ∧ (i = 0 ∨ ln d (i - 1) = 2 * ln d i)) ∧ c.length = ln d (d.length - 1) := by
  unfold bandsOk szOk at h
  simp only [Bool.and_eq_true, decide_eq_true_eq, List.all_eq_true, List.mem_range, Bool.or_eq_true] at h
  obtain ⟨a, b, e, f, g, i⟩ := h
  exact ⟨a, b, e, List.all_eq_true.2 f, g, i⟩
theorem bands_le {c : List Nat} {d : List (List Nat)} (h : bandsOk c d = true) : ∀ i, i < d.length → ln d i ≤ 64
  | 0, _ => (bands_d h).2.1
  | i + 1, hi => by
    have h1 := bands_le h i (by omega)
    rcases ((bands_d h).2.2.2.2.1 (i + 1) hi).2 with h2 | h2
    · omega
    · rw [Nat.add_sub_cancel] at h2; omega
/-! ### shrunk -/
def endB2 (K : List Nat → List (List Nat) → Bool → Prop) : Option (List Nat × List (List Nat)) → Prop
  | some x => K x.1 x.2 true
  | none => K [] [] false
def shrB (c : List Nat) (d : List (List Nat)) (a : Nat) : Option (List Nat × List (List Nat)) := if bandsOk c d = true ∧ isLeast a = true then some (c, d.map fun x => shL x a) else none
theorem repl_at {n a i : Nat} (h : i < n) : (List.replicate n a).getD i 0 = a := by
  rw [gD (by rw [List.length_replicate]; exact h), List.getElem_replicate]
theorem map_take {d : List (List Nat)} {a i : Nat} (hi : i < d.length) : (d.map fun x => shL x a).take (i + 1) = (d.map fun x => shL x a).take i ++ [shL d[i] a] := by
  rw [List.take_succ_eq_append_getElem (by rw [List.length_map]; exact hi), List.getElem_map]
theorem impl_ShrinkBands_wp {c : List Nat} {d : List (List Nat)} {a : Nat} {K : List Nat → List (List Nat) → Bool → Prop} (hc : c.length ≤ 2 ^ 20) (hl : d.length ≤ 2 ^ 20) (hd : ∀ x ∈ d, x.length ≤ 2 ^ 20) (h : endB2 K (shrB c d a)) : impl_ShrinkBands.wp c d (List.replicate d.length a) false K := by
  unfold shrB at h
  refine impl_ValidBands_wp hc hl hd ⟨fun c1 => tP (by rw [List.length_replicate]) ?_, fun c1 => by rw [if_neg (fun x => by rw [c1] at x; exact Bool.false_ne_true x.1)] at h; exact h⟩
  obtain ⟨b1, b2, b3, b4, b5, b6⟩ := bands_d c1
  refine ⟨by simp only [List.length_nil]; omega, ?_⟩
  intro X hX
  cases ha : isLeast a with
  | false =>
    rw [if_neg (fun x => by rw [ha] at x; exact Bool.false_ne_true x.2)] at h
    refine hX _ _ _ _ ⟨fun _ => ⟨⟨by omega, by omega⟩, ⟨by omega, by rw [List.length_replicate]; omega⟩, impl_isLeast_wp ⟨fun x => ?_, fun _ => h⟩⟩, fun c => absurd (show (0 : Int) < d.length by omega) c⟩
    rw [show (0 : Int).toNat = 0 from rfl, repl_at (by omega), ha] at x; cases x
  | true =>
    rw [if_pos ⟨c1, ha⟩] at h
    refine up (Y := fun i => X ((d.map fun x => shL x a).take i) [] [] (i : Int)) d.length (hX _ _ _ _ ⟨fun c => absurd c (by omega), fun _ => ?_⟩) fun i hi hx => hX _ _ _ _ ⟨fun _ => ⟨⟨by omega, by omega⟩, ⟨by omega, by rw [List.length_replicate]; omega⟩, ?_⟩, fun c => absurd (show (i : Int) < d.length by omega) c⟩
    · rw [List.take_of_length_le (by rw [List.length_map]; omega), List.nil_append]; exact h
    · rw [nn, repl_at hi, gD hi, w1 (by omega)]
      rw [map_take hi] at hx
      refine impl_isLeast_wp (tE ha (impl_shrunkList_wp (hd _ (List.getElem_mem hi)) (List.all_eq_true.1 b4 _ (List.getElem_mem hi)) ha ⟨?_, hx⟩))
      rw [len1, List.length_take, List.length_map]; omega
theorem spec_ShrinkBands_wp {c : List Nat} {d : List (List Nat)} {a : Nat} {K : List Nat → List (List Nat) → Bool → Prop} (hc : c.length ≤ 2 ^ 20) (hl : d.length ≤ 2 ^ 20) (hd : ∀ x ∈ d, x.length ≤ 2 ^ 20) (h : endB2 K (shrB c d a)) : spec_ShrinkBands.wp c d (List.replicate d.length a) false K := by
  unfold shrB at h
  refine spec_l03Bands_wp hc hl hd ⟨fun c1 => tP (by rw [List.length_replicate]) ?_, fun c1 => by rw [if_neg (fun x => by rw [c1] at x; exact Bool.false_ne_true x.1)] at h; exact h⟩
  obtain ⟨b1, b2, b3, b4, b5, b6⟩ := bands_d c1
  refine ⟨by simp only [List.length_nil]; omega, ?_⟩
  intro X hX
  cases ha : isLeast a with
  | false =>
    rw [if_neg (fun x => by rw [ha] at x; exact Bool.false_ne_true x.2)] at h
    refine hX _ _ _ _ ⟨fun _ => ⟨⟨by omega, by rw [List.length_replicate]; omega⟩, spec_l02Least_wp ⟨fun x => ?_, fun _ => h⟩⟩, fun c => absurd (show (0 : Int) < d.length by omega) c⟩
    rw [show (0 : Int).toNat = 0 from rfl, repl_at (by omega), ha] at x; cases x
  | true =>
    rw [if_pos ⟨c1, ha⟩] at h
    refine up (Y := fun i => X ((d.map fun x => shL x a).take i) [] [] (i : Int)) d.length (hX _ _ _ _ ⟨fun c => absurd c (by omega), fun _ => ?_⟩) fun i hi hx => hX _ _ _ _ ⟨fun _ => ⟨⟨by omega, by rw [List.length_replicate]; omega⟩, ?_⟩, fun c => absurd (show (i : Int) < d.length by omega) c⟩
    · rw [List.take_of_length_le (by rw [List.length_map]; omega), List.nil_append]; exact h
    · rw [nn, repl_at hi, gD hi, w1 (by omega)]
      rw [map_take hi] at hx
      refine spec_l02Least_wp (tE ha ⟨⟨by omega, by omega⟩, spec_l05List_wp (hd _ (List.getElem_mem hi)) ⟨?_, hx⟩⟩)
      rw [len1, List.length_take, List.length_map]; omega
/-! ### split -/
def splF (p : List Nat) : Nat → List Nat → List (List Nat) → Option (List Nat × List (List Nat))
  | 0, c, d => some (c, d)
  | f + 1, c, d => if splOk c p = true then splF p f (tapsF c p) (d ++ [tapsF c (hiF p)]) else none
def splL (l p : List Nat) (lv : Int) : Option (List Nat × List (List Nat)) := if isLg l = true ∧ pairOk p = true ∧ (1 ≤ lv ∧ lv ≤ 6) ∧ l.length % 2 ^ lv.toNat = 0 then splF p lv.toNat l [] else none
theorem pw {n : Nat} (h : 1 ≤ n ∧ n ≤ 6) : IntKind.i64.wrap (1 * (2 ^ (min (n : Int).toNat IntKind.i64.bits))) = ((2 ^ n : Nat) : Int) ∧ 1 ≤ 2 ^ n ∧ 2 ^ n ≤ 64 := by
  obtain ⟨h1, h2⟩ := h
  have : n = 1 ∨ n = 2 ∨ n = 3 ∨ n = 4 ∨ n = 5 ∨ n = 6 := by omega
  rcases this with rfl | rfl | rfl | rfl | rfl | rfl <;> decide
theorem spec_SplitLevels_wp {l p : List Nat} {lv : Int} {K : List Nat → List (List Nat) → Bool → Prop} (hl : l.length ≤ 2 ^ 20) (hp : p.length ≤ 2 ^ 20) (h : endB2 K (splL l p lv)) : spec_SplitLevels.wp l p lv K := by
  unfold splL at h
  have no : ¬ (isLg l = true ∧ pairOk p = true ∧ (1 ≤ lv ∧ lv ≤ 6) ∧ l.length % 2 ^ lv.toNat = 0) → K [] [] false := fun c => by rw [if_neg c] at h; exact h
  refine spec_l03Long_wp hl ⟨fun c1 => spec_l03Pair_wp hp ⟨fun c2 => spec_l00In_wp ⟨fun c3 => ?_, fun c3 => no fun x => absurd x.2.2.1 (of_decide_eq_false c3)⟩, fun c2 => no fun x => by rw [c2] at x; exact Bool.false_ne_true x.2.1⟩, fun c1 => no fun x => by rw [c1] at x; exact Bool.false_ne_true x.1⟩
  have c3 := of_decide_eq_true c3
  obtain ⟨n, rfl⟩ : ∃ n : Nat, lv = n := ⟨lv.toNat, by omega⟩
  have hpw := pw (n := n) (by omega)
  have hll := lg_len c1
  rw [nn] at h no
  rw [hpw.1]
  refine ⟨by omega, by omega, ?_⟩
  rw [tm (by omega) (by omega) (by omega)]
  refine ⟨fun c4 => ?_, fun c4 => no fun x => c4 (by omega)⟩
  rw [if_pos ⟨c1, c2, c3, by omega⟩] at h
  refine ⟨by simp only [List.length_nil]; omega, fun X hX => ?_⟩
  have key : ∀ f c d, c.length ≤ 2 ^ 20 → d.length + f ≤ 10 → endB2 K (splF p f c d) → X c d [] [] (f : Int) := by
    intro f
    induction f with
    | zero => intro c d _ _ hk; exact hX _ _ _ _ _ ⟨fun c => absurd c (by decide), fun _ => hk⟩
    | succ f ih =>
      intro c d hc hd hk
      rw [splF] at hk
      refine hX _ _ _ _ _ ⟨fun _ => spec_SplitRing_wp hc hp ?_, fun c => absurd (show (0 : Int) < ((f + 1 : Nat) : Int) by omega) c⟩
      rw [show IntKind.i64.wrap (((f + 1 : Nat) : Int) - 1) = (f : Int) by rw [wI (by omega)]; omega]
      unfold splK
      cases hs : splOk c p with
      | true =>
        rw [hs, if_pos rfl] at hk
        rw [if_pos rfl]
        exact tT ⟨by rw [len1]; omega, ih _ _ (by rw [tapsF_len]; omega) (by rw [List.length_append, len1]; omega) hk⟩
      | false =>
        rw [hs, if_neg (by decide)] at hk
        rw [if_neg (by decide)]
        exact tF hk
  exact key n l [] hl (by simp only [List.length_nil]; omega) h
theorem impl_SplitLevels_wp {l p : List Nat} {lv : Int} {K : List Nat → List (List Nat) → Bool → Prop} (hl : l.length ≤ 2 ^ 20) (hp : p.length ≤ 2 ^ 20) (h : endB2 K (splL l p lv)) : impl_SplitLevels.wp l p lv K := by
  unfold splL at h
  have no : ¬ (isLg l = true ∧ pairOk p = true ∧ (1 ≤ lv ∧ lv ≤ 6) ∧ l.length % 2 ^ lv.toNat = 0) → K [] [] false := fun c => by rw [if_neg c] at h; exact h
  refine impl_isLong_wp hl ⟨fun c1 => impl_ValidPair_wp hp ⟨fun c2 => impl_within_wp ⟨fun c3 => ?_, fun c3 => no fun x => absurd x.2.2.1 (of_decide_eq_false c3)⟩, fun c2 => no fun x => by rw [c2] at x; exact Bool.false_ne_true x.2.1⟩, fun c1 => no fun x => by rw [c1] at x; exact Bool.false_ne_true x.1⟩
  have c3 := of_decide_eq_true c3
  obtain ⟨n, rfl⟩ : ∃ n : Nat, lv = n := ⟨lv.toNat, by omega⟩
  have hpw := pw (n := n) (by omega)
  have hll := lg_len c1
  rw [nn] at h no
  rw [hpw.1]
  refine ⟨by omega, by omega, ?_⟩
  rw [tm (by omega) (by omega) (by omega)]
  refine ⟨fun c4 => ?_, fun c4 => no fun x => c4 (by omega)⟩
  rw [if_pos ⟨c1, c2, c3, by omega⟩] at h
  refine ⟨by simp only [List.length_nil]; omega, fun X hX => ?_⟩
  have key : ∀ f x c d, x + f = n → c.length ≤ 2 ^ 20 → d.length + f ≤ 10 → endB2 K (splF p f c d) → X c d [] [] (x : Int) := by
    intro f
    induction f with
    | zero => intro x c d hx _ _ hk; exact hX _ _ _ _ _ ⟨fun c => absurd c (by omega), fun _ => hk⟩
    | succ f ih =>
      intro x c d hx hc hd hk
      rw [splF] at hk
      refine hX _ _ _ _ _ ⟨fun _ => impl_SplitRing_wp hc hp ?_, fun c => absurd (show (x : Int) < (n : Int) by omega) c⟩
      rw [w1 (by omega)]
      unfold splK
      cases hs : splOk c p with
      | true =>
        rw [hs, if_pos rfl] at hk
        rw [if_pos rfl]
        exact tT ⟨by rw [len1]; omega, ih _ _ _ (by omega) (by rw [tapsF_len]; omega) (by rw [List.length_append, len1]; omega) hk⟩
      | false =>
        rw [hs, if_neg (by decide)] at hk
        rw [if_neg (by decide)]
        exact tF hk
  exact key n 0 l [] (by omega) hl (by simp only [List.length_nil]; omega) h
/-- How long what is split is. -/
theorem splF_len {p : List Nat} {N : Nat} : ∀ f c d r, splF p f c d = some r → c.length ≤ N → (∀ x ∈ d, x.length ≤ N) → r.1.length ≤ N ∧ (∀ x ∈ r.2, x.length ≤ N) ∧ r.2.length = d.length + f ∧ (∀ i, i < d.length → ln r.2 i = ln d i)
  | 0, c, d, r, h, hc, hd => by cases h; exact ⟨hc, hd, rfl, fun _ _ => rfl⟩
  | f + 1, c, d, r, h, hc, hd => by
    rw [splF] at h
    split at h
    · obtain ⟨a, b, e, g⟩ := splF_len (N := N) f _ _ r h (by rw [tapsF_len]; omega) (fun x hx => by
        rcases List.mem_append.1 hx with hx | hx
        · exact hd x hx
        · rw [List.mem_singleton.1 hx, tapsF_len]; omega)
      rw [List.length_append, len1] at e g
      refine ⟨a, b, by omega, fun i hi => ?_⟩
      rw [g i (by omega)]
      unfold ln
      rw [List.getD_eq_getElem?_getD, List.getD_eq_getElem?_getD, List.getElem?_append_left hi]
    · cases h
theorem splL_len {l p : List Nat} {lv : Int} {r : List Nat × List (List Nat)} (h : splL l p lv = some r) : l.length ≤ 128 ∧ l.length % 2 = 0 ∧ r.1.length ≤ 128 ∧ (∀ x ∈ r.2, x.length ≤ 128) ∧ r.2.length ≤ 6 ∧ ln r.2 0 = l.length / 2 := by
  unfold splL at h
  split at h
  · rename_i hc
    obtain ⟨c1, c2, c3, c4⟩ := hc
    have hll := lg_len c1
    obtain ⟨m, hm⟩ : ∃ m, lv.toNat = m + 1 := ⟨lv.toNat - 1, by omega⟩
    rw [hm] at h
    obtain ⟨a, b, e, _⟩ := splF_len (N := 128) _ _ _ _ h hll.2 (fun x hx => by cases hx)
    rw [splF] at h
    split at h
    · rename_i hs
      obtain ⟨_, _, _, g⟩ := splF_len (N := 128) _ _ _ _ h (by rw [tapsF_len]; omega) (fun x hx => by
        rw [List.nil_append, List.mem_singleton] at hx; rw [hx, tapsF_len]; omega)
      have g0 := g 0 (by simp)
      have he : l.length % 2 = 0 := by
        unfold splOk at hs
        simp only [Bool.and_eq_true, decide_eq_true_eq] at hs
        exact hs.2.1
      refine ⟨hll.2, he, a, b, by simp only [List.length_nil] at e; omega, ?_⟩
      rw [g0]
      show (tapsF l (hiF p)).length = _
      exact tapsF_len _ _
    · cases h
  · cases h
/-! ### joined -/
def jlF (d : List (List Nat)) (p : List Nat) : Nat → List Nat → Option (List Nat)
  | 0, now => some now
  | m + 1, now => if pAll (joinF now (d.getD m ([] : List Nat)) p) = true then jlF d p m (joinF now (d.getD m ([] : List Nat)) p) else none
def endJ (K : List Nat → Bool → Prop) : Option (List Nat) → Prop
  | some r => K r true
  | none => K [] false
def jnL (c : List Nat) (d : List (List Nat)) (p : List Nat) : Option (List Nat) := if bandsOk c d = true ∧ pairOk p = true then jlF d p d.length c else none
theorem gd_len (d : List (List Nat)) (m : Nat) : (d.getD m ([] : List Nat)).length = ln d m := rfl
theorem gd_fin {d : List (List Nat)} (h : d.all pAll = true) {m : Nat} (hm : m < d.length) : pAll (d.getD m ([] : List Nat)) = true := by
  rw [gD hm]; exact List.all_eq_true.1 h _ (List.getElem_mem hm)
theorem spec_JoinLevels_wp {c : List Nat} {d : List (List Nat)} {p : List Nat} {K : List Nat → Bool → Prop} (hc : c.length ≤ 2 ^ 20) (hl : d.length ≤ 2 ^ 20) (hd : ∀ x ∈ d, x.length ≤ 2 ^ 20) (hp : p.length ≤ 2 ^ 20) (h : endJ K (jnL c d p)) : spec_JoinLevels.wp c d p K := by
  unfold jnL at h
  refine spec_l03Bands_wp hc hl hd ⟨fun c1 => spec_l03Pair_wp hp ⟨fun c2 => ?_, fun c2 => by rw [if_neg (fun x => by rw [c2] at x; exact Bool.false_ne_true x.2)] at h; exact h⟩, fun c1 => by rw [if_neg (fun x => by rw [c1] at x; exact Bool.false_ne_true x.1)] at h; exact h⟩
  rw [if_pos ⟨c1, c2⟩] at h
  have hpl := pair_len c2
  obtain ⟨b1, b2, b3, b4, b5, b6⟩ := bands_d c1
  refine ⟨by simp only [List.length_nil]; omega, fun X hX => ?_⟩
  have key : ∀ m now, m ≤ d.length → (m = 0 ∨ now.length = ln d (m - 1)) → endJ K (jlF d p m now) → X now ((m : Int) - 1) := by
    intro m
    induction m with
    | zero => intro now _ _ hk; exact hX _ _ ⟨fun c => absurd c (by omega), fun _ => hk⟩
    | succ m ih =>
      intro now hm hn hk
      have hn : now.length = ln d m := by rcases hn with hn | hn <;> first | omega | simpa using hn
      have h64 := bands_le c1 m (by omega)
      have h1 := b5 m (by omega)
      have hjl := joinF_len now (d.getD m ([] : List Nat)) p
      rw [jlF] at hk
      rw [show (((m + 1 : Nat) : Int) - 1) = (m : Int) by omega]
      refine hX _ _ ⟨fun _ => ⟨⟨by omega, by omega⟩, ?_⟩, fun c => absurd (show (0 : Int) ≤ (m : Int) by omega) c⟩
      rw [nn]
      refine spec_l03Join_wp (by omega) (by rw [gd_len]; omega) hpl.2 (spec_l02Finite_wp (by omega) ⟨fun c3 => ?_, fun c3 => ?_⟩)
      · rw [c3, if_pos rfl] at hk
        rw [show IntKind.i64.wrap ((m : Int) - 1) = (m : Int) - 1 from wI (by omega)]
        refine ih _ (by omega) ?_ hk
        rcases h1.2 with h0 | h0
        · exact .inl h0
        · exact .inr (by omega)
      · rw [c3, if_neg (by decide)] at hk; exact hk
  rw [wI (by omega)]
  exact key d.length _ (Nat.le_refl _) (.inr (by rw [List.nil_append]; exact b6)) h
theorem impl_JoinLevels_wp {c : List Nat} {d : List (List Nat)} {p : List Nat} {K : List Nat → Bool → Prop} (hc : c.length ≤ 2 ^ 20) (hl : d.length ≤ 2 ^ 20) (hd : ∀ x ∈ d, x.length ≤ 2 ^ 20) (hp : p.length ≤ 2 ^ 20) (h : endJ K (jnL c d p)) : impl_JoinLevels.wp c d p K := by
  unfold jnL at h
  refine impl_ValidBands_wp hc hl hd ⟨fun c1 => impl_ValidPair_wp hp ⟨fun c2 => ?_, fun c2 => by rw [if_neg (fun x => by rw [c2] at x; exact Bool.false_ne_true x.2)] at h; exact h⟩, fun c1 => by rw [if_neg (fun x => by rw [c1] at x; exact Bool.false_ne_true x.1)] at h; exact h⟩
  rw [if_pos ⟨c1, c2⟩] at h
  have hpl := pair_len c2
  obtain ⟨b1, b2, b3, b4, b5, b6⟩ := bands_d c1
  rw [wI (n := (d.length : Int) - 1) (by omega)]
  have one : ∀ (m : Nat) (now : List Nat) {B : List Nat → Prop}, m < d.length → now.length = ln d m → pAll now = true → (pAll (joinF now (d.getD m ([] : List Nat)) p) = true → B (joinF now (d.getD m ([] : List Nat)) p)) → (pAll (joinF now (d.getD m ([] : List Nat)) p) = false → K [] false) → impl_JoinRing.wp now (d.getD m ([] : List Nat)) p fun y128 y131 => ((y131 = true → B y128) ∧ (y131 = false → K ([] : List Nat) false)) := by
    intro m now B hm hn hf g1 g2
    have h64 := bands_le c1 m hm
    have h1 := b5 m hm
    exact impl_JoinRing_wp (by omega) (by rw [gd_len]; omega) hf (gd_fin b4 hm) c2 ⟨fun c3 => tT (g1 c3), fun c3 => tF (g2 c3)⟩
  refine ⟨fun _ => ⟨⟨by omega, by omega⟩, ?_⟩, fun cc => absurd (show (0 : Int) ≤ (d.length : Int) - 1 by omega) cc⟩
  obtain ⟨n, hn⟩ : ∃ n, d.length = n + 1 := ⟨d.length - 1, by omega⟩
  rw [show ((d.length : Int) - 1) = (n : Int) by omega, nn]
  rw [hn, jlF] at h
  refine one n c (by omega) (by rw [b6, hn]; rfl) b3 (fun c3 => ?_) (fun c3 => by rw [c3, if_neg (by decide)] at h; exact h)
  rw [c3, if_pos rfl] at h
  intro X hX
  have key : ∀ m now, m ≤ n → (m = 0 ∨ now.length = ln d (m - 1)) → pAll now = true → endJ K (jlF d p m now) → X now ((m : Int) - 1) := by
    intro m
    induction m with
    | zero => intro now _ _ _ hk; exact hX _ _ ⟨fun c => absurd c (by omega), fun _ => hk⟩
    | succ m ih =>
      intro now hm hn' hf hk
      have hn' : now.length = ln d m := by rcases hn' with hn' | hn' <;> first | omega | simpa using hn'
      have h1 := b5 m (by omega)
      have hjl := joinF_len now (d.getD m ([] : List Nat)) p
      rw [jlF] at hk
      rw [show (((m + 1 : Nat) : Int) - 1) = (m : Int) by omega]
      refine hX _ _ ⟨fun _ => ⟨⟨by omega, by omega⟩, ?_⟩, fun c => absurd (show (0 : Int) ≤ (m : Int) by omega) c⟩
      rw [nn]
      refine one m now (by omega) hn' hf (B := fun y => X y (IntKind.i64.wrap ((m : Int) - 1))) (fun c4 => ?_) (fun c4 => by rw [c4, if_neg (by decide)] at hk; exact hk)
      rw [c4, if_pos rfl] at hk
      rw [show IntKind.i64.wrap ((m : Int) - 1) = (m : Int) - 1 from wI (by omega)]
      refine ih _ (by omega) ?_ c4 hk
      rcases h1.2 with h0 | h0
      · exact .inl h0
      · exact .inr (by omega)
  rw [show IntKind.i64.wrap ((n : Int) - 1) = (n : Int) - 1 from wI (by omega)]
  have hjl := joinF_len c (d.getD n ([] : List Nat)) p
  refine key n _ (Nat.le_refl _) ?_ c3 h
  rcases (b5 n (by omega)).2 with h0 | h0
  · exact .inl h0
  · refine .inr ?_
    rw [hjl, b6, hn, Nat.add_sub_cancel, h0]
theorem jlF_len {c : List Nat} {d : List (List Nat)} {p : List Nat} (hb : bandsOk c d = true) : ∀ m now r, m ≤ d.length → (m = 0 ∨ now.length = ln d (m - 1)) → jlF d p m now = some r → (m = 0 → r.length = now.length) ∧ (m ≠ 0 → r.length = 2 * ln d 0)
  | 0, now, r, _, _, h => by cases h; exact ⟨fun _ => rfl, fun c => absurd rfl c⟩
  | m + 1, now, r, hm, hn, h => by
    rw [jlF] at h
    split at h
    · have hn : now.length = ln d m := by rcases hn with hn | hn <;> first | omega | simpa using hn
      have hjl := joinF_len now (d.getD m ([] : List Nat)) p
      have h1 := (bands_d hb).2.2.2.2.1 m (by omega)
      have := jlF_len hb m _ r (by omega) (by
        rcases h1.2 with h0 | h0
        · exact .inl h0
        · exact .inr (by omega)) h
      refine ⟨fun c => by omega, fun _ => ?_⟩
      by_cases h0 : m = 0
      · rw [this.1 h0, hjl, hn, h0]
      · exact this.2 h0
    · cases h
theorem jnL_len {c : List Nat} {d : List (List Nat)} {p : List Nat} {r : List Nat} (h : jnL c d p = some r) : r.length = 2 * ln d 0 := by
  unfold jnL at h
  split at h
  · rename_i hc
    obtain ⟨b1, _, _, _, _, b6⟩ := bands_d hc.1
    exact (jlF_len hc.1 d.length c r (Nat.le_refl _) (.inr b6) h).2 (by omega)
  · cases h

end Go.Proofs.Ytpeijfnfffogeaa.G

namespace Go.Proofs.Ytpeijfnfffogeaa.G
open Go Go.Ab
set_option maxRecDepth 100000
set_option linter.unusedVariables false
set_option linter.unusedSimpArgs false
set_option maxHeartbeats 1000000
def kF (l : List Nat) (kn : List Bool) : Nat → List Nat
  | 0 => []
  | i + 1 => if kn.getD i false = true then kF l kn i ++ [l.getD i 0] else kF l kn i
theorem kF_len (l : List Nat) (kn : List Bool) : ∀ i, (kF l kn i).length ≤ i
  | 0 => Nat.le_refl _
  | i + 1 => by
    have := kF_len l kn i
    rw [kF]; split
    · rw [List.length_append, len1]; omega
    · omega
theorem kF_zero {l : List Nat} {kn : List Bool} : ∀ i, (kF l kn i).length = 0 ↔ ∀ j, j < i → kn.getD j false = false
  | 0 => by simp [kF]
  | i + 1 => by
    rw [kF]
    constructor
    · intro h j hj
      split at h
      · rw [List.length_append, len1] at h; omega
      · rename_i hc
        by_cases e : j = i
        · subst e; simpa using hc
        · exact (kF_zero i).1 h j (by omega)
    · intro h
      rw [if_neg (by rw [h i (by omega)]; decide)]
      exact (kF_zero i).2 fun j hj => h j (by omega)
def sm (l : List Nat) : Nat := l.foldl (fop .add .f32) (cz .f32 0)
theorem sm_snoc (l : List Nat) (x : Nat) : sm (l ++ [x]) = fop .add .f32 (sm l) x := by unfold sm; rw [List.foldl_append]; rfl
def meanF (l : List Nat) : Nat := fop .quo .f32 (sm l) (itof .f32 (l.length : Int))
theorem impl_mean_wp {l : List Nat} {K : Nat → Prop} (hl : l.length ≤ 2 ^ 20) (h : K (meanF l)) : impl_mean.wp l K := by
  intro X hX
  refine up (Y := fun i => X (sm (l.take i)) (i : Int)) l.length (hX _ _ ⟨fun c => absurd c (by omega), fun _ => by rw [List.take_length]; exact h⟩) fun i hi hx => hX _ _ ⟨fun _ => ⟨⟨by omega, by omega⟩, ?_⟩, fun c => absurd (show (i : Int) < l.length by omega) c⟩
  rw [List.take_succ_eq_append_getElem hi, sm_snoc] at hx
  rw [nn, gD hi, w1 (by omega)]; exact hx
def flF (l : List Nat) (kn : List Bool) (m i : Nat) : Nat := if kn.getD i false = true then l.getD i 0 else m
def flL (l : List Nat) (kn : List Bool) (m : Nat) : List Nat := (List.range l.length).map (flF l kn m)
def ptF (l : List Nat) (kn : List Bool) (nx : List Nat) (i : Nat) : Nat := if kn.getD i false = true then l.getD i 0 else nx.getD i 0
def ptL (l : List Nat) (kn : List Bool) (nx : List Nat) : List Nat := (List.range l.length).map (ptF l kn nx)
theorem ptL_len (l : List Nat) (kn : List Bool) (nx : List Nat) : (ptL l kn nx).length = l.length := by simp [ptL]
theorem flL_len (l : List Nat) (kn : List Bool) (m : Nat) : (flL l kn m).length = l.length := by simp [flL]
theorem mix_yes {P o : List Nat} {i v : Nat} (h1 : i < P.length) (h2 : i < o.length) (hv : P[i] = v) : (P.take i ++ o.drop i).set i v = P.take (i + 1) ++ o.drop (i + 1) := by
  rw [dropC h2, List.take_succ_eq_append_getElem h1, hv, List.set_append_right _ _ (by rw [List.length_take]; omega), List.length_take, Nat.min_eq_left (by omega), Nat.sub_self, List.set_cons_zero, List.append_assoc]; rfl
theorem mix_no {P o : List Nat} {i : Nat} (h1 : i < P.length) (h2 : i < o.length) (hv : P[i] = o[i]) : P.take i ++ o.drop i = P.take (i + 1) ++ o.drop (i + 1) := by
  rw [dropC h2, List.take_succ_eq_append_getElem h1, hv, List.append_assoc]; rfl
theorem mix_len {P o : List Nat} {i n : Nat} (h1 : P.length = n) (h2 : o.length = n) (hi : i ≤ n) : (P.take i ++ o.drop i).length = n := by
  rw [List.length_append, List.length_take, List.length_drop]; omega
def turnF (p : List Nat) (lv : Int) (now : List Nat) (a : Nat) : Option (List Nat) := (splL now p lv).bind fun r => (shrB r.1 r.2 a).bind fun q => jnL q.1 q.2 p
theorem shr_len {c : List Nat} {d : List (List Nat)} {a : Nat} {q : List Nat × List (List Nat)} (h : shrB c d a = some q) : q.1 = c ∧ q.2.length = d.length ∧ (∀ N, (∀ x ∈ d, x.length ≤ N) → ∀ x ∈ q.2, x.length ≤ N) ∧ ln q.2 0 = ln d 0 := by
  unfold shrB at h
  split at h
  · rename_i hc
    cases h
    obtain ⟨b1, _⟩ := bands_d hc.1
    refine ⟨rfl, by simp, fun N hN x hx => ?_, ?_⟩
    · obtain ⟨y, hy, rfl⟩ := List.mem_map.1 hx
      rw [shL_len]; exact hN y hy
    · unfold ln
      rw [gD (by rw [List.length_map]; omega), gD (by omega), List.getElem_map, shL_len]
  · cases h
theorem turn_len {p : List Nat} {lv : Int} {now r : List Nat} {a : Nat} (h : turnF p lv now a = some r) : r.length = now.length := by
  unfold turnF at h
  cases hs : splL now p lv with
  | none => rw [hs] at h; cases h
  | some x =>
    rw [hs] at h
    have h : (shrB x.1 x.2 a).bind (fun q => jnL q.1 q.2 p) = some r := h
    cases hq : shrB x.1 x.2 a with
    | none => rw [hq] at h; cases h
    | some q =>
      rw [hq] at h
      have h : jnL q.1 q.2 p = some r := h
      have h1 := splL_len hs
      have h2 := shr_len hq
      have h3 := jnL_len h
      omega
theorem impl_fillTurn_wp {now p : List Nat} {lv : Int} {a : Nat} {K : List Nat → Bool → Prop} (hl : now.length ≤ 2 ^ 20) (hp : p.length ≤ 2 ^ 20) (h : endJ K (turnF p lv now a)) : impl_fillTurn.wp now p lv a K := by
  unfold turnF at h
  refine impl_SplitLevels_wp hl hp ?_
  cases hs : splL now p lv with
  | none => rw [hs] at h; exact tF h
  | some x =>
    rw [hs] at h
    have h : endJ K ((shrB x.1 x.2 a).bind fun q => jnL q.1 q.2 p) := h
    have h1 := splL_len hs
    have h2 : ∀ y ∈ x.2, y.length ≤ 2 ^ 20 := fun y hy => Nat.le_trans (h1.2.2.2.1 y hy) (by decide)
    refine tT fun X hX => ?_
    refine up (Y := fun i => X (List.replicate i a) (i : Int)) x.2.length (hX _ _ ⟨fun c => absurd c (by omega), fun _ => ?_⟩) fun i hi hx => hX _ _ ⟨fun _ => ⟨by rw [len1, List.length_replicate]; omega, by rw [w1 (by omega), ← List.replicate_succ']; exact hx⟩, fun c => absurd (show (i : Int) < x.2.length by omega) c⟩
    refine impl_ShrinkBands_wp (by omega) (by omega) h2 ?_
    cases hq : shrB x.1 x.2 a with
    | none => rw [hq] at h; exact tF h
    | some q =>
      rw [hq] at h
      have h3 := shr_len hq
      exact tT (impl_JoinLevels_wp (by rw [h3.1]; omega) (by omega) (h3.2.2.1 _ h2) hp h)
def rndF (l : List Nat) (kn : List Bool) (p : List Nat) (lv : Int) (fade : Nat) : Nat → List Nat → Nat → Option (List Nat)
  | 0, now, _ => some now
  | f + 1, now, a => (turnF p lv now a).bind fun nx => rndF l kn p lv fade f (ptL l kn nx) (fop .mul .f32 a fade)
def filOk (l : List Nat) (kn : List Bool) (p : List Nat) (lv : Int) (a fade : Nat) (tn : Int) : Prop := isLg l = true ∧ kn.length = l.length ∧ pairOk p = true ∧ (1 ≤ lv ∧ lv ≤ 6) ∧ l.length % 2 ^ lv.toNat = 0 ∧ isLeast a = true ∧ isShare fade = true ∧ (0 ≤ tn ∧ tn ≤ 32) ∧ (kF l kn l.length).length ≠ 0
open Classical in
noncomputable def filF (l : List Nat) (kn : List Bool) (p : List Nat) (lv : Int) (a fade : Nat) (tn : Int) : Option (List Nat) := if filOk l kn p lv a fade tn then (rndF l kn p lv fade tn.toNat (flL l kn (meanF (kF l kn l.length))) a).bind fun o => if pAll o = true then some o else none else none
theorem pt_loop {l : List Nat} {kn : List Bool} {nx : List Nat} (hk : kn.length = l.length) (hn : nx.length = l.length) (hl : l.length ≤ 2 ^ 20) {X : List Nat → Int → Prop} {E : Prop} (hX : ∀ (o : List Nat) (i : Nat), o.length = l.length → (i < l.length → (kn.getD i false = true → X (o.set i (l.getD i 0)) ((i + 1 : Nat) : Int)) ∧ (kn.getD i false = false → X o ((i + 1 : Nat) : Int)) → X o (i : Int))) (hend : X (ptL l kn nx) (l.length : Int)) : X nx 0 := by
  have hpl := ptL_len l kn nx
  refine up (Y := fun i => X ((ptL l kn nx).take i ++ nx.drop i) (i : Int)) l.length ?_ fun i hi hx => hX _ i (mix_len hpl hn (by omega)) hi ⟨fun c => ?_, fun c => ?_⟩
  · show X ((ptL l kn nx).take l.length ++ nx.drop l.length) _
    rw [List.take_of_length_le (by omega), List.drop_of_length_le (by omega), List.append_nil]; exact hend
  · rw [mix_yes (by omega) (by omega) (v := l.getD i 0) (by
      have e : (ptL l kn nx)[i]'(by omega) = ptF l kn nx i := by simp [ptL]
      rw [e]; unfold ptF; rw [if_pos c])]
    exact hx
  · rw [mix_no (by omega) (by omega) (by
      have e : (ptL l kn nx)[i]'(by omega) = ptF l kn nx i := by simp [ptL]
      rw [e]; unfold ptF; rw [if_neg (by rw [c]; decide), gD (by omega)])]
    exact hx
theorem index_wp {kn : List Bool} {K : Bool → Prop} (hl : kn.length ≤ 2 ^ 20) (h1 : (∃ j, j < kn.length ∧ kn.getD j false = true) → K true) (h2 : (∀ j, j < kn.length → kn.getD j false = false) → K false) : slices_Contains_bool_bool.wp kn true K := by
  intro X hX
  have key : ∀ m i, m + i = kn.length → (∀ j, j < i → kn.getD j false = false) → X (i : Int) := by
    intro m
    induction m with
    | zero => intro i h3 h4; exact hX _ ⟨fun c => absurd c (by omega), fun _ => h2 fun j hj => h4 j (by omega)⟩
    | succ m ih =>
      intro i h3 h4
      refine hX _ ⟨fun _ => ⟨⟨by omega, by omega⟩, fun c => ?_, fun c => ?_⟩, fun c => absurd (show (i : Int) < kn.length by omega) c⟩
      · show K (decide ((0 : Int) ≤ (i : Int)))
        rw [decide_eq_true (show (0 : Int) ≤ (i : Int) by omega)]
        refine h1 ⟨i, by omega, ?_⟩
        rw [nn] at c
        cases hc : kn.getD i false with
        | true => rfl
        | false => rw [hc] at c; cases c
      · rw [w1 (by omega)]
        refine ih (i + 1) (by omega) fun j hj => ?_
        by_cases e : j = i
        · subst e
          rw [nn] at c
          cases hc : kn.getD j false with
          | false => rfl
          | true => rw [hc] at c; cases c
        · exact h4 j (by omega)
  exact key kn.length 0 (by omega) fun j hj => by omega
theorem impl_FillRounds_wp {l : List Nat} {kn : List Bool} {p : List Nat} {lv : Int} {a fade : Nat} {tn : Int} {K : List Nat → Bool → Prop} (hl : l.length ≤ 2 ^ 20) (hk : kn.length ≤ 2 ^ 20) (hp : p.length ≤ 2 ^ 20) (h : endJ K (filF l kn p lv a fade tn)) : impl_FillRounds.wp l kn p lv a fade tn K := by
  unfold filF at h
  have no : ¬ filOk l kn p lv a fade tn → K [] false := fun c => by rw [if_neg c] at h; exact h
  refine impl_isLong_wp hl ⟨fun c1 => ⟨fun c2 => impl_ValidPair_wp hp ⟨fun c3 => impl_within_wp ⟨fun c4 => ?_, fun c4 => no fun x => absurd x.2.2.2.1 (of_decide_eq_false c4)⟩, fun c3 => no fun x => by have := x.2.2.1; rw [c3] at this; cases this⟩, fun c2 => no fun x => c2 (by have := x.2.1; omega)⟩, fun c1 => no fun x => by have := x.1; rw [c1] at this; cases this⟩
  have c4 := of_decide_eq_true c4
  obtain ⟨n, rfl⟩ : ∃ n : Nat, lv = n := ⟨lv.toNat, by omega⟩
  have hpw := pw (n := n) (by omega)
  have hll := lg_len c1
  rw [hpw.1]
  refine ⟨by omega, by omega, ?_⟩
  rw [tm (by omega) (by omega) (by omega)]
  refine ⟨fun c5 => impl_isLeast_wp ⟨fun c6 => impl_isShare_wp ⟨fun c7 => impl_within_wp ⟨fun c8 => ?_, fun c8 => no fun x => absurd x.2.2.2.2.2.2.2.1 (of_decide_eq_false c8)⟩, fun c7 => no fun x => by have := x.2.2.2.2.2.2.1; rw [c7] at this; cases this⟩, fun c6 => no fun x => by have := x.2.2.2.2.2.1; rw [c6] at this; cases this⟩, fun c5 => no fun x => c5 (by have := x.2.2.2.2.1; rw [nn] at this; omega)⟩
  have c8 := of_decide_eq_true c8
  have hkl : kn.length = l.length := by omega
  refine index_wp hk (fun c9 => ⟨fun _ => ?_, fun c => (by cases c)⟩) (fun c9 => ⟨fun c => (by cases c), fun _ => no fun x => x.2.2.2.2.2.2.2.2 ((kF_zero _).2 fun j hj => c9 j (by omega))⟩)
  have hok : filOk l kn p n a fade tn := by
    refine ⟨c1, hkl, c3, c4, by rw [nn]; omega, c6, c7, c8, fun c => ?_⟩
    obtain ⟨j, hj, hj2⟩ := c9
    have := (kF_zero (l := l) (kn := kn) l.length).1 c j (by omega)
    rw [this] at hj2; cases hj2
  rw [if_pos hok] at h
  intro X hX
  refine up (Y := fun i => X (kF l kn i) (i : Int)) l.length (hX _ _ ⟨fun c => absurd c (by omega), fun _ => ?_⟩) fun i hi hx => hX _ _ ⟨fun _ => ⟨⟨by omega, by omega⟩, ⟨by omega, by omega⟩, ?_⟩, fun c => absurd (show (i : Int) < l.length by omega) c⟩
  rotate_left
  · have := kF_len l kn i
    rw [nn, w1 (by omega)]
    rw [kF] at hx
    refine ⟨fun c => ⟨by rw [len1]; omega, ?_⟩, fun c => ?_⟩
    · rw [if_pos c] at hx; exact hx
    · rw [if_neg (by rw [c]; decide)] at hx; exact hx
  have hkfl := kF_len l kn l.length
  refine impl_mean_wp (by omega) ?_
  generalize hm : meanF (kF l kn l.length) = m at h
  intro Y hY
  have hfl := flL_len l kn m
  refine up (Y := fun i => Y ((flL l kn m).take i) (i : Int)) l.length (hY _ _ ⟨fun c => absurd c (by omega), fun _ => ?_⟩) fun i hi hx => hY _ _ ⟨fun _ => ⟨⟨by omega, by omega⟩, ⟨by omega, by omega⟩, ?_⟩, fun c => absurd (show (i : Int) < l.length by omega) c⟩
  rotate_left
  · rw [List.take_succ_eq_append_getElem (by omega)] at hx
    have e : (flL l kn m)[i]'(by omega) = flF l kn m i := by simp [flL]
    rw [e] at hx
    rw [nn, w1 (by omega)]
    refine ⟨fun c => ⟨by rw [len1, List.length_take]; omega, ?_⟩, fun c => ⟨by rw [len1, List.length_take]; omega, ?_⟩⟩
    · rw [show flF l kn m i = l.getD i 0 from if_pos c] at hx; exact hx
    · rw [show flF l kn m i = m from if_neg (by rw [c]; decide)] at hx; exact hx
  rw [List.take_of_length_le (by omega)]
  intro Z hZ
  obtain ⟨tn, rfl⟩ : ∃ t : Nat, tn = t := ⟨tn.toNat, by omega⟩
  rw [nn] at h
  have key : ∀ f x now b, x + f = tn → now.length = l.length → endJ K ((rndF l kn p n fade f now b).bind fun o => if pAll o = true then some o else none) → Z now b (x : Int) := by
    intro f
    induction f with
    | zero =>
      intro x now b h1 h2 hk
      refine hZ _ _ _ ⟨fun c => absurd c (by omega), fun _ => impl_finiteList_wp (by omega) ?_⟩
      have hk : endJ K (if pAll now = true then some now else none) := hk
      cases hpa : pAll now with
      | true => rw [hpa, if_pos rfl] at hk; exact tT hk
      | false => rw [hpa, if_neg (by decide)] at hk; exact tF hk
    | succ f ih =>
      intro x now b h1 h2 hk
      rw [rndF] at hk
      refine hZ _ _ _ ⟨fun _ => impl_fillTurn_wp (by omega) hp ?_, fun c => absurd (show (x : Int) < (tn : Int) by omega) c⟩
      cases ht : turnF p n now b with
      | none => rw [ht] at hk; exact tF hk
      | some nx =>
        rw [ht] at hk
        have hk : endJ K ((rndF l kn p n fade f (ptL l kn nx) (fop .mul .f32 b fade)).bind fun o => if pAll o = true then some o else none) := hk
        have hnl := turn_len ht
        refine tT fun W hW => ?_
        refine pt_loop hkl (by omega) hl (X := W) (E := True) (fun o i ho hi hh => hW _ _ ⟨fun _ => ⟨⟨by omega, by omega⟩, ⟨by omega, by omega⟩, ?_⟩, fun c => absurd (show (i : Int) < l.length by omega) c⟩) (hW _ _ ⟨fun c => absurd c (by omega), fun _ => ?_⟩)
        · rw [nn, w1 (by omega)]
          exact ⟨fun c => ⟨⟨by omega, by omega⟩, hh.1 c⟩, fun c => hh.2 c⟩
        · rw [w1 (by omega)]
          exact ih _ _ _ (by omega) (ptL_len _ _ _) hk
  exact key tn 0 _ _ (by omega) hfl h
theorem spec_FillRounds_wp {l : List Nat} {kn : List Bool} {p : List Nat} {lv : Int} {a fade : Nat} {tn : Int} {K : List Nat → Bool → Prop} (hl : l.length ≤ 2 ^ 20) (hk : kn.length ≤ 2 ^ 20) (hp : p.length ≤ 2 ^ 20) (h : endJ K (filF l kn p lv a fade tn)) : spec_FillRounds.wp l kn p lv a fade tn K := by
  unfold filF at h
  have no : ¬ filOk l kn p lv a fade tn → K [] false := fun c => by rw [if_neg c] at h; exact h
  refine spec_l03Long_wp hl ⟨fun c1 => ⟨fun c2 => spec_l03Pair_wp hp ⟨fun c3 => spec_l00In_wp ⟨fun c4 => ?_, fun c4 => no fun x => absurd x.2.2.2.1 (of_decide_eq_false c4)⟩, fun c3 => no fun x => by have := x.2.2.1; rw [c3] at this; cases this⟩, fun c2 => no fun x => c2 (by have := x.2.1; omega)⟩, fun c1 => no fun x => by have := x.1; rw [c1] at this; cases this⟩
  have c4 := of_decide_eq_true c4
  obtain ⟨n, rfl⟩ : ∃ n : Nat, lv = n := ⟨lv.toNat, by omega⟩
  have hpw := pw (n := n) (by omega)
  have hll := lg_len c1
  rw [hpw.1]
  refine ⟨by omega, by omega, ?_⟩
  rw [tm (by omega) (by omega) (by omega)]
  refine ⟨fun c5 => spec_l02Least_wp ⟨fun c6 => spec_l02Share_wp ⟨fun c7 => spec_l00In_wp ⟨fun c8 => ?_, fun c8 => no fun x => absurd x.2.2.2.2.2.2.2.1 (of_decide_eq_false c8)⟩, fun c7 => no fun x => by have := x.2.2.2.2.2.2.1; rw [c7] at this; cases this⟩, fun c6 => no fun x => by have := x.2.2.2.2.2.1; rw [c6] at this; cases this⟩, fun c5 => no fun x => c5 (by have := x.2.2.2.2.1; rw [nn] at this; omega)⟩
  have c8 := of_decide_eq_true c8
  have hkl : kn.length = l.length := by omega
  intro X hX
  refine up (Y := fun i => X (sm (kF l kn i)) ((kF l kn i).length : Int) (i : Int)) l.length (hX _ _ _ ⟨fun c => absurd c (by omega), fun _ => ?_⟩) fun i hi hx => hX _ _ _ ⟨fun _ => ⟨⟨by omega, by omega⟩, ?_⟩, fun c => absurd (show (i : Int) < l.length by omega) c⟩
  rotate_left
  · have hb := kF_len l kn i
    rw [nn, w1 (by omega)]
    rw [kF] at hx
    refine ⟨fun c => ⟨⟨by omega, by omega⟩, ?_⟩, fun c => ?_⟩
    · rw [if_pos c, sm_snoc, List.length_append, len1] at hx
      rw [w1 (by omega)]; exact hx
    · rw [if_neg (by rw [c]; decide)] at hx; first | exact hx | (rw [w1 (by omega)]; exact hx)
  have hkfl := kF_len l kn l.length
  refine ⟨fun c9 => no fun x => x.2.2.2.2.2.2.2.2 (by omega), fun c9 => ?_⟩
  have hok : filOk l kn p n a fade tn := ⟨c1, hkl, c3, c4, by rw [nn]; omega, c6, c7, c8, fun c => c9 (by omega)⟩
  rw [if_pos hok] at h
  refine ⟨by simp only [List.length_nil]; omega, fun Y hY => ?_⟩
  show Y ([] ++ l) 0
  rw [List.nil_append] at hY ⊢
  have hmm : fop .quo .f32 (sm (kF l kn l.length)) (itof .f32 ((kF l kn l.length).length : Int)) = meanF (kF l kn l.length) := rfl
  rw [hmm] at hY
  generalize hm : meanF (kF l kn l.length) = m at h hY
  have hfl := flL_len l kn m
  refine up (Y := fun i => Y ((flL l kn m).take i ++ l.drop i) (i : Int)) l.length (hY _ _ ⟨fun c => absurd c (by omega), fun _ => ?_⟩) fun i hi hx => hY _ _ ⟨fun _ => ⟨⟨by omega, by omega⟩, ?_⟩, fun c => absurd (show (i : Int) < l.length by omega) c⟩
  rotate_left
  · have hml := mix_len hfl (rfl : l.length = l.length) (i := i) (by omega)
    have e : (flL l kn m)[i]'(by omega) = flF l kn m i := by simp [flL]
    rw [nn, w1 (by omega)]
    refine ⟨fun c => ?_, fun c => ⟨⟨by omega, by omega⟩, ?_⟩⟩
    · rw [mix_no (by omega) hi (by rw [e]; unfold flF; rw [if_pos c, gD hi])]; exact hx
    · rw [mix_yes (by omega) hi (v := m) (by rw [e]; unfold flF; rw [if_neg (by rw [c]; decide)])]; exact hx
  rw [List.take_of_length_le (by omega), List.drop_of_length_le (Nat.le_refl _), List.append_nil]
  intro Z hZ
  obtain ⟨tn, rfl⟩ : ∃ t : Nat, tn = t := ⟨tn.toNat, by omega⟩
  rw [nn] at h
  have key : ∀ f now b, f ≤ 32 → now.length = l.length → endJ K ((rndF l kn p n fade f now b).bind fun o => if pAll o = true then some o else none) → Z now b (f : Int) := by
    intro f
    induction f with
    | zero =>
      intro now b h1 h2 hk
      refine hZ _ _ _ ⟨fun c => absurd c (by decide), fun _ => spec_l02Finite_wp (by omega) ?_⟩
      have hk : endJ K (if pAll now = true then some now else none) := hk
      cases hpa : pAll now with
      | true => rw [hpa, if_pos rfl] at hk; exact tT hk
      | false => rw [hpa, if_neg (by decide)] at hk; exact tF hk
    | succ f ih =>
      intro now b h1 h2 hk
      rw [rndF] at hk
      refine hZ _ _ _ ⟨fun _ => spec_SplitLevels_wp (by omega) hp ?_, fun c => absurd (show (0 : Int) < ((f + 1 : Nat) : Int) by omega) c⟩
      rw [show IntKind.i64.wrap (((f + 1 : Nat) : Int) - 1) = (f : Int) by rw [wI (by omega)]; omega]
      unfold turnF at hk
      have lims : ∀ (d : List (List Nat)) {B : List Nat → Prop}, d.length ≤ 100 → B (List.replicate d.length b) → ∀ W : List Nat → Int → Prop, (∀ (o : List Nat) (i : Int), ((i < (d.length : Int) → ((o.length + ([b] : List Nat).length) * 4 ≤ 2 ^ 40) ∧ W (o ++ ([b] : List Nat)) (IntKind.i64.wrap (i + 1))) ∧ (¬ i < (d.length : Int) → B o)) → W o i) → W [] 0 := by
        intro d B hd hB W hW
        refine up (Y := fun i => W (List.replicate i b) (i : Int)) d.length (hW _ _ ⟨fun c => absurd c (by omega), fun _ => hB⟩) fun i hi hx => hW _ _ ⟨fun _ => ⟨by rw [len1, List.length_replicate]; omega, by rw [w1 (by omega), ← List.replicate_succ']; exact hx⟩, fun c => absurd (show (i : Int) < d.length by omega) c⟩
      cases hs : splL now p n with
      | none =>
        rw [hs] at hk
        refine lims [] (by decide) (spec_ShrinkBands_wp (by decide) (by decide) (fun x hx => by cases hx) ?_)
        have : shrB [] [] b = none := if_neg fun x => by
          have := x.1
          unfold bandsOk at this
          simp at this
        rw [this]
        exact tF hk
      | some x =>
        rw [hs] at hk
        have hk : endJ K ((((shrB x.1 x.2 b).bind fun q => jnL q.1 q.2 p).bind fun nx => rndF l kn p n fade f (ptL l kn nx) (fop .mul .f32 b fade)).bind fun o => if pAll o = true then some o else none) := hk
        have g1 := splL_len hs
        have g2 : ∀ y ∈ x.2, y.length ≤ 2 ^ 20 := fun y hy => Nat.le_trans (g1.2.2.2.1 y hy) (by decide)
        refine lims x.2 (by omega) (spec_ShrinkBands_wp (by omega) (by omega) g2 ?_)
        cases hq : shrB x.1 x.2 b with
        | none => rw [hq] at hk; exact tT (tF hk)
        | some q =>
          rw [hq] at hk
          have hk : endJ K (((jnL q.1 q.2 p).bind fun nx => rndF l kn p n fade f (ptL l kn nx) (fop .mul .f32 b fade)).bind fun o => if pAll o = true then some o else none) := hk
          have g3 := shr_len hq
          refine tT (tT (spec_JoinLevels_wp (by rw [g3.1]; omega) (by omega) (g3.2.2.1 _ g2) hp ?_))
          cases hj : jnL q.1 q.2 p with
          | none => rw [hj] at hk; exact tF hk
          | some nx =>
            rw [hj] at hk
            have hk : endJ K ((rndF l kn p n fade f (ptL l kn nx) (fop .mul .f32 b fade)).bind fun o => if pAll o = true then some o else none) := hk
            have g4 := jnL_len hj
            have hnl : nx.length = l.length := by omega
            refine tT fun W hW => ?_
            refine pt_loop hkl hnl hl (X := W) (E := True) (fun o i ho hi hh => hW _ _ ⟨fun _ => ⟨⟨by omega, by omega⟩, ?_⟩, fun c => absurd (show (i : Int) < nx.length by omega) c⟩) (hW _ _ ⟨fun c => absurd c (by omega), fun _ => ?_⟩)
            · rw [nn, w1 (by omega)]
              exact ⟨fun c => ⟨⟨by omega, by omega⟩, ⟨by omega, by omega⟩, hh.1 c⟩, fun c => hh.2 c⟩
            · exact ih _ _ (by omega) (ptL_len _ _ _) hk
  exact key tn _ _ (by omega) hfl h
theorem rnd_len {l : List Nat} {kn : List Bool} {p : List Nat} {lv : Int} {fade : Nat} : ∀ f now a r, now.length = l.length → rndF l kn p lv fade f now a = some r → r.length = l.length
  | 0, now, a, r, hn, h => by cases h; exact hn
  | f + 1, now, a, r, hn, h => by
    rw [rndF] at h
    cases ht : turnF p lv now a with
    | none => rw [ht] at h; cases h
    | some nx => rw [ht] at h; exact rnd_len f _ _ r (ptL_len _ _ _) h
theorem fil_both (l : List Nat) (kn : List Bool) (p : List Nat) (lv : Int) (a fade : Nat) (tn : Int) (hl : l.length ≤ 2 ^ 20) (hk : kn.length ≤ 2 ^ 20) (hp : p.length ≤ 2 ^ 20) : ∃ out ok, (∀ K, K out ok → spec_FillRounds.wp l kn p lv a fade tn K) ∧ (∀ K, K out ok → impl_FillRounds.wp l kn p lv a fade tn K) ∧ out.length ≤ 2 ^ 20 := by
  cases hf : filF l kn p lv a fade tn with
  | none => exact ⟨[], false, fun K hk2 => spec_FillRounds_wp hl hk hp (by rw [hf]; exact hk2), fun K hk2 => impl_FillRounds_wp hl hk hp (by rw [hf]; exact hk2), by simp⟩
  | some r =>
    refine ⟨r, true, fun K hk2 => spec_FillRounds_wp hl hk hp (by rw [hf]; exact hk2), fun K hk2 => impl_FillRounds_wp hl hk hp (by rw [hf]; exact hk2), ?_⟩
    unfold filF at hf
    split at hf
    · cases hr : rndF l kn p lv fade tn.toNat (flL l kn (meanF (kF l kn l.length))) a with
      | none => rw [hr] at hf; cases hf
      | some o =>
        rw [hr] at hf
        have hf : (if pAll o = true then some o else none) = some r := hf
        have := rnd_len _ _ _ _ (flL_len _ _ _) hr
        split at hf
        · cases hf; omega
        · cases hf
    · cases hf

end Go.Proofs.Ytpeijfnfffogeaa.G

namespace Go.Proofs.Ytpeijfnfffogeaa.G
open Go Go.Ab
set_option maxRecDepth 100000
set_option linter.unusedVariables false
set_option linter.unusedSimpArgs false
set_option maxHeartbeats 1000000
def mB (k : Nat) : Nat → List Bool
  | 0 => []
  | n + 1 => decide (Int.tmod (k : Int) 3 = 0) :: mB (k + 1) n
theorem mB_len (k : Nat) : ∀ n, (mB k n).length = n
  | 0 => rfl
  | n + 1 => by rw [mB, List.length_cons, mB_len]
theorem mB_app (k : Nat) : ∀ n, mB k (n + 1) = mB k n ++ [decide (Int.tmod ((k + n : Nat) : Int) 3 = 0)] := by
  intro n
  induction n generalizing k with
  | zero => rfl
  | succ n ih => rw [mB, ih, show mB k (n + 1) = decide (Int.tmod (k : Int) 3 = 0) :: mB (k + 1) n from rfl, List.cons_append, show k + 1 + n = k + (n + 1) by omega]
theorem mB_at (k : Nat) : ∀ (n i : Nat), i < n → (mB k n).getD i false = decide (Int.tmod ((k + i : Nat) : Int) 3 = 0) := by
  intro n
  induction n generalizing k with
  | zero => intro i h; omega
  | succ n ih =>
    intro i h
    cases i with
    | zero => rfl
    | succ i => rw [mB, List.getD_cons_succ, ih (k + 1) i (by omega), show k + 1 + i = k + (i + 1) by omega]
theorem setB {α : Type} (p : List α) (a b : α) (q : List α) : ((p ++ a :: q).set p.length b) = p ++ b :: q := by
  rw [List.set_append_right _ _ (Nat.le_refl _), Nat.sub_self]; rfl
theorem markBoolS_wp {l : List Bool} {k : Nat} {K : Int → List Bool → Prop} (hl : l.length ≤ 2 ^ 20) (hk : k ≤ 2 ^ 40) (h : K ((k + l.length : Nat) : Int) (mB k l.length)) : laws_markBoolS.wp l (k : Int) K := by
  intro X hX
  have key : X (mB k 0 ++ l.drop 0) ((k + 0 : Nat) : Int) ((0 : Nat) : Int) := by
    refine up (Y := fun i => X (mB k i ++ l.drop i) ((k + i : Nat) : Int) (i : Int)) l.length ?_ fun i hi hn => ?_
    · refine hX _ _ _ ⟨fun c => absurd c (by rw [List.length_append, mB_len, List.length_drop]; omega), fun _ => ?_⟩
      rw [List.drop_length, List.append_nil]; exact h
    · have hlen : (mB k i ++ l.drop i).length = l.length := by rw [List.length_append, mB_len, List.length_drop]; omega
      refine hX _ _ _ ⟨fun _ => ⟨⟨by omega, by rw [hlen]; omega⟩, ?_⟩, fun c => absurd (show (i : Int) < _ by rw [hlen]; omega) c⟩
      rw [nn, w1 (by omega), w1 (by omega)]
      have e1 : (mB k i ++ l.drop i) = mB k i ++ l[i] :: l.drop (i + 1) := by rw [dropC hi]
      have e2 : (mB k i ++ l[i] :: l.drop (i + 1)).set i (decide (Int.tmod ((k + i : Nat) : Int) 3 = 0)) = mB k i ++ decide (Int.tmod ((k + i : Nat) : Int) 3 = 0) :: l.drop (i + 1) := by
        have := setB (mB k i) l[i] (decide (Int.tmod ((k + i : Nat) : Int) 3 = 0)) (l.drop (i + 1)); rw [mB_len] at this; exact this
      rw [e1, e2]
      rw [mB_app, List.append_assoc, List.singleton_append] at hn
      exact hn
  exact key
theorem heldBoolS_wp {k n : Nat} {K : Int → Prop} (hl : n ≤ 2 ^ 20) (hk : k ≤ 2 ^ 40) (h : K ((k + n : Nat) : Int)) : laws_heldBoolS.wp (mB k n) (k : Int) K := by
  intro X hX
  have hlen : (mB k n).length = n := mB_len _ _
  have key : X ((k + 0 : Nat) : Int) ((0 : Nat) : Int) := by
    refine up (Y := fun i => X ((k + i : Nat) : Int) (i : Int)) n ?_ fun i hi hn => ?_
    · exact hX _ _ ⟨fun c => absurd c (by omega), fun _ => h⟩
    · refine hX _ _ ⟨fun _ => ⟨⟨by omega, by omega⟩, ?_⟩, fun c => absurd (show (i : Int) < _ by omega) c⟩
      rw [nn, mB_at k n i hi]
      refine tB ?_
      rw [w1 (by omega), w1 (by omega)]; exact hn
  exact key

end Go.Proofs.Ytpeijfnfffogeaa.G

namespace Go.Proofs.Ytpeijfnfffogeaa.G
open Go Go.Ab
set_option maxRecDepth 100000
set_option linter.unusedVariables false
set_option linter.unusedSimpArgs false
set_option maxHeartbeats 1000000
theorem szFloat32S_wp {l : List Nat} {n : Int} {K : Int → Prop} (hl : l.length ≤ maxLen) (hn : 0 ≤ n ∧ n ≤ 2 ^ 40) (h0 : K (-1)) (h : (l.length : Int) ≤ n → K (n - (l.length : Int))) : laws_szFloat32S.wp l n K := by
  have hm : l.length < 2 ^ 63 := Nat.lt_of_le_of_lt hl (by decide)
  have e : IntKind.i64.wrap (n - (l.length : Int)) = n - (l.length : Int) := wI (by omega)
  refine ⟨fun c => h0, fun c => ?_⟩
  rw [e] at c ⊢; exact h (by omega)
theorem eqTake_wp {a : List UInt8} {k : Int} {l : List Nat} {K : Bool → Prop} (hl : l.length ≤ 2 ^ 20) (h : K true) : laws_eqTake.wp a k l a k l K :=
  tP rfl (tP rfl (eqFloat32S_wp hl (tT h)))
def btOk (a : List UInt8) (i : Nat) : Bool := !decide (bt a i < 97) && !decide (122 < bt a i)
def isNm (a : List UInt8) : Bool := (List.range a.length).all (btOk a) && decide (1 ≤ (a.length : Int) ∧ (a.length : Int) ≤ 8)
theorem range_get2 {n i : Nat} (h : i < (List.range n).length) : (List.range n)[i] = i := List.getElem_range h
theorem nm_yes {a : List UInt8} (h : (List.range a.length).all (btOk a) = true) : isNm a = decide (1 ≤ (a.length : Int) ∧ (a.length : Int) ≤ 8) := by rw [isNm, h]; rfl
theorem nm_no {a : List UInt8} (h : (List.range a.length).all (btOk a) = false) : isNm a = false := by rw [isNm, h]; rfl
theorem spec_l07Name_wp {a : List UInt8} {K : Bool → Prop} (ha : a.length ≤ 2 ^ 40) (h : K (isNm a)) : spec_l07Name.wp a K := by
  intro X hX
  refine all_loop (List.range a.length) (btOk a) (X := X) (T := K (decide (1 ≤ (a.length : Int) ∧ (a.length : Int) ≤ 8))) (F := K false) (fun i hi hh => ?_) (fun ht => hX _ ⟨fun c => absurd c (by rw [List.length_range]; omega), fun _ => ⟨fun h1 => ?_, fun h1 => ?_⟩⟩) (fun e => by rw [nm_yes e] at h; exact h) (fun e => by rw [nm_no e] at h; exact h)
  · rw [range_get2] at hh; rw [List.length_range] at hi
    refine hX _ ⟨fun _ => ⟨⟨by omega, by omega⟩, ?_⟩, fun c => absurd (show (i : Int) < a.length by omega) c⟩
    rw [w1 (by omega)]
    refine ⟨fun c1 => hh.2 (by rw [btOk, decide_eq_true c1]; rfl), fun c1 => ⟨fun c2 => hh.2 (by rw [btOk, decide_eq_true c2, Bool.not_true, Bool.and_false]), fun c2 => hh.1 (by rw [btOk, decide_eq_false c1, decide_eq_false c2]; rfl)⟩⟩
  · rw [show decide (1 ≤ (a.length : Int) ∧ (a.length : Int) ≤ 8) = decide ((a.length : Int) ≤ 8) by simp [h1]] at ht; exact ht
  · rw [show decide (1 ≤ (a.length : Int) ∧ (a.length : Int) ≤ 8) = false by simp [h1]] at ht; exact ht
theorem impl_IsName_wp {a : List UInt8} {K : Bool → Prop} (ha : a.length ≤ 2 ^ 40) (h : K (isNm a)) : impl_IsName.wp a K := by
  intro X hX
  refine all_loop (List.range a.length) (btOk a) (X := X) (T := K (decide (1 ≤ (a.length : Int) ∧ (a.length : Int) ≤ 8))) (F := K false) (fun i hi hh => ?_) (fun ht => hX _ ⟨fun c => absurd c (by rw [List.length_range]; omega), fun _ => ⟨fun h1 => ?_, fun h1 => ?_⟩⟩) (fun e => by rw [nm_yes e] at h; exact h) (fun e => by rw [nm_no e] at h; exact h)
  · rw [range_get2] at hh; rw [List.length_range] at hi
    refine hX _ ⟨fun _ => ⟨⟨by omega, by omega⟩, ?_⟩, fun c => absurd (show (i : Int) < a.length by omega) c⟩
    rw [w1 (by omega)]
    refine ⟨fun c1 => hh.2 (by rw [btOk, decide_eq_true c1]; rfl), fun c1 => ⟨fun c2 => hh.2 (by rw [btOk, decide_eq_true c2, Bool.not_true, Bool.and_false]), fun c2 => hh.1 (by rw [btOk, decide_eq_false c1, decide_eq_false c2]; rfl)⟩⟩
  · rw [show decide (1 ≤ (a.length : Int) ∧ (a.length : Int) ≤ 8) = decide ((a.length : Int) ≤ 8) by simp [h1]] at ht; exact ht
  · rw [show decide (1 ≤ (a.length : Int) ∧ (a.length : Int) ≤ 8) = false by simp [h1]] at ht; exact ht
def isVals (l : List Nat) : Bool := decide (1 ≤ (l.length : Int) ∧ (l.length : Int) ≤ 128)
theorem spec_l07Values_wp {l : List Nat} {K : Bool → Prop} (h : K (isVals l)) : spec_l07Values.wp l K := by
  unfold isVals at h
  refine ⟨fun h1 => ?_, fun h1 => ?_⟩
  · rw [show decide (1 ≤ (l.length : Int) ∧ (l.length : Int) ≤ 128) = decide ((l.length : Int) ≤ 128) by simp [h1]] at h; exact h
  · rw [show decide (1 ≤ (l.length : Int) ∧ (l.length : Int) ≤ 128) = false by simp [h1]] at h; exact h
def isTk (a : List UInt8) (k : Int) (l : List Nat) : Bool := isNm a && decide (1 ≤ k ∧ k ≤ 65535) && isVals l
theorem spec_l07Take_wp {a : List UInt8} {k : Int} {l : List Nat} {K : Bool → Prop} (ha : a.length ≤ 2 ^ 40) (h : K (isTk a k l)) : spec_l07Take.wp a k l K := by
  refine spec_l07Name_wp ha ⟨fun h1 => spec_l00In_wp ⟨fun h2 => spec_l07Values_wp ?_, fun h2 => ?_⟩, fun h1 => ?_⟩
  · rw [isTk, h1, h2] at h; exact h
  · rw [isTk, h1, h2] at h; exact h
  · rw [isTk, h1] at h; exact h
theorem impl_ValidTake_wp {a : List UInt8} {k : Int} {l : List Nat} {K : Bool → Prop} (ha : a.length ≤ 2 ^ 40) (h : K (isTk a k l)) : impl_ValidTake.wp a k l K := by
  refine impl_IsName_wp ha ⟨fun h1 => impl_within_wp ⟨fun h2 => impl_within_wp ?_, fun h2 => ?_⟩, fun h1 => ?_⟩
  · rw [isTk, h1, h2] at h; exact h
  · rw [isTk, h1, h2] at h; exact h
  · rw [isTk, h1] at h; exact h

end Go.Proofs.Ytpeijfnfffogeaa.G

namespace Go.Proofs.Ytpeijfnfffogeaa.G
open Go Go.Ab
set_option maxRecDepth 100000
set_option linter.unusedVariables false
set_option linter.unusedSimpArgs false
set_option maxHeartbeats 1000000
theorem toPair_wp {l : List Nat} {K : List Nat → Prop} (hl : l.length ≤ 2 ^ 20) (h : K l) : laws_toPair.wp l K := toFloat32S_wp hl h
theorem eqPair_wp {l : List Nat} {K : Bool → Prop} (hl : l.length ≤ 2 ^ 20) (h : K true) : laws_eqPair.wp l l K := eqFloat32S_wp hl (tT h)
theorem szPair_wp {l : List Nat} {K : Int → Prop} (hl : l.length ≤ maxLen) (h0 : K (-1)) (h : (l.length : Int) ≤ 1048576 → K (1048576 - (l.length : Int))) : laws_szPair.wp l 1048576 K :=
  szFloat32S_wp hl (by omega) (tP (by omega) h0) fun h1 => tN (by omega) (h h1)
theorem markPair_wp {l : List Nat} {q : Nat} {K : Int → List Nat → Prop} (hl : l.length ≤ 2 ^ 20) (hq : q ≤ 2 ^ 40) (h : K ((q + l.length : Nat) : Int) (marks q l.length)) : laws_markPair.wp l (q : Int) K := markFloat32S_wp hl hq h
-- HYPS: 2
theorem pureExactFillRounds (l0 : List Nat) (l1 : List Bool) (l2 : List Nat) (a3 : Int) (a4 a5 : Nat) (a6 : Int) (hp : l2.length ≤ maxLen) : laws_FnExactFillRounds.wp l0 l1 l2 a3 a4 a5 a6 (fun b => b = true) := by
  refine ⟨fun _ => rfl, fun hb => ⟨fun _ => rfl, fun hc => szPair_wp hp (tP (by omega) rfl) fun hd => tN (by omega) ?_⟩⟩
  have h0 : l0.length ≤ 2 ^ 20 := by omega
  have h1 : l1.length ≤ 2 ^ 20 := by omega
  have h2 : l2.length ≤ 2 ^ 20 := by omega
  obtain ⟨out, ok, hs, hi, ho⟩ := fil_both l0 l1 l2 a3 a4 a5 a6 h0 h1 h2
  repeat' (first
    | exact rfl
    | refine hs _ ?_
    | refine hi _ ?_
    | refine toPair_wp (by omega) ?_
    | refine eqPair_wp (by omega) ?_
    | refine markPair_wp (by omega) (by omega) ?_
    | refine toFloat32S_wp (by omega) ?_
    | refine szFloat32S_wp (by omega) (by omega) ?_
    | refine eqFloat32S_wp (by first | omega | simp) ?_
    | refine markFloat32S_wp (k := 1) (by first | omega | simp) (by omega) ?_
    | refine markFloat32S_wp (by first | omega | simp) (by omega) ?_
    | refine heldFloat32S_wp (k := 1) (by first | omega | simp) (by omega) ?_
    | refine toInt64S_wp (by omega) ?_
    | refine eqInt64S_wp (by first | omega | simp) ?_
    | refine markInt64S_wp (k := 1) (by first | omega | simp) (by omega) ?_
    | refine markInt64S_wp (by first | omega | simp) (by omega) ?_
    | refine heldInt64S_wp (k := 1) (by first | omega | simp) (by omega) ?_
    | refine toBoolS_wp (by omega) ?_
    | refine szBoolS_wp (by omega) (by omega) ?_
    | refine eqBoolS_wp (by first | omega | simp) ?_
    | refine markBoolS_wp (k := 1) (by first | omega | simp) (by omega) ?_
    | refine markBoolS_wp (by first | omega | simp) (by omega) ?_
    | refine heldBoolS_wp (k := 1) (by first | omega | simp) (by omega) ?_
    | refine toCostS_wp (by omega) ?_
    | refine szCostS_wp (by omega) (by omega) ?_
    | refine eqCostS_wp (by first | omega | simp) ?_
    | refine markCostS_wp (k := 1) (by first | omega | simp) (by omega) ?_
    | refine markCostS_wp (by first | omega | simp) (by omega) ?_
    | refine toCostSS_wp (by omega) ?_
    | refine szCostSS_wp (by omega) (by omega) ?_
    | refine eqCostSS_wp (by first | omega | simp) ?_
    | refine tT ?_
    | refine tB ?_
    | refine tN (by omega) ?_
    | refine tP (by first | rfl | omega) ?_)

end Go.Proofs.Ytpeijfnfffogeaa.G

