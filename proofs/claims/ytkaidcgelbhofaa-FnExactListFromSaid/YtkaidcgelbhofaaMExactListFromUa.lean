/-
  What the formulas say, over numbers and lists alone. Nothing here is trusted.
-/
import Derived.Test.YtkaidcgelbhofaaMExactListFromWa
namespace Go.Proofs.Ytkaidcgelbhofaa.G
open Go Go.Ab
set_option maxRecDepth 100000
set_option linter.unusedVariables false
set_option linter.unusedSimpArgs false
set_option maxHeartbeats 1000000
/-! ### truth -/
theorem tT {A B : Prop} (h : A) : (true = true → A) ∧ (true = false → B) := ⟨fun _ => h, fun c => (by cases c)⟩
theorem tF {A B : Prop} (h : B) : (false = true → A) ∧ (false = false → B) := ⟨fun c => (by cases c), fun _ => h⟩
theorem tB {A B : Prop} {b : Bool} (h : A) : ((b == b) = true → A) ∧ ((b == b) = false → B) := ⟨fun _ => h, fun c => (by simp at c)⟩
theorem tE {A B : Prop} {b : Bool} (e : b = true) (h : A) : (b = true → A) ∧ (b = false → B) := ⟨fun _ => h, fun c => (by rw [e] at c; cases c)⟩
theorem tG {A B : Prop} {b : Bool} (e : b = false) (h : B) : (b = true → A) ∧ (b = false → B) := ⟨fun c => (by rw [e] at c; cases c), fun _ => h⟩
theorem tP {p A B : Prop} (e : p) (h : A) : (p → A) ∧ (¬p → B) := ⟨fun _ => h, fun c => absurd e c⟩
theorem tN {p A B : Prop} (e : ¬p) (h : B) : (p → A) ∧ (¬p → B) := ⟨fun c => absurd c e, fun _ => h⟩
theorem tI {b : Bool} {K : Bool → Prop} {A B : Prop} (h1 : b = true → A) (h2 : b = false → B) : (b = true → A) ∧ (b = false → B) := ⟨h1, h2⟩
/-! ### loops -/
theorem up {Y : Nat → Prop} (n : Nat) (last : Y n) (step : ∀ i, i < n → Y (i + 1) → Y i) : Y 0 := by
  have key : ∀ d i, i + d = n → Y i := by
    intro d
    induction d with
    | zero => intro i h; obtain rfl : i = n := by omega
              exact last
    | succ d ih => intro i h; exact step i (by omega) (ih (i + 1) (by omega))
  exact key n 0 (by omega)
theorem upFrom {Y : Nat → Prop} (k n : Nat) (hk : k ≤ n) (last : Y n) (step : ∀ i, k ≤ i → i < n → Y (i + 1) → Y i) : Y k := by
  have key : ∀ d i, k ≤ i → i + d = n → Y i := by
    intro d
    induction d with
    | zero => intro i _ h; obtain rfl : i = n := by omega
              exact last
    | succ d ih => intro i h0 h; exact step i h0 (by omega) (ih (i + 1) (by omega) (by omega))
  exact key (n - k) k (Nat.le_refl _) (by omega)
theorem w1 {i : Nat} (h : i < 4611686018427387904) : IntKind.i64.wrap ((i : Int) + (1 : Int)) = ((i + 1 : Nat) : Int) := wrap_succ (by omega)
theorem wI {n : Int} (h : -9223372036854775808 ≤ n ∧ n < 9223372036854775808) : IntKind.i64.wrap n = n := wrap_i64 h.1 h.2
theorem nn (i : Nat) : ((i : Int)).toNat = i := rfl
theorem gD {α : Type} {l : List α} {i : Nat} (h : i < l.length) (d : α) : l.getD i d = l[i] := by rw [List.getD_eq_getElem?_getD, List.getElem?_eq_getElem h]; rfl
theorem dropC {α : Type} {l : List α} {i : Nat} (h : i < l.length) : l.drop i = l[i] :: l.drop (i + 1) := List.drop_eq_getElem_cons h
theorem len1 {α : Type} (a : α) : ([a] : List α).length = 1 := rfl
theorem cz32 (n : Nat) (h : (FloatKind.f32.decode n).isNaN = false) : cz .f32 n = n := by simp [cz, h]
theorem c0_32 : cz .f32 0 = 0 := cz_zero32
theorem c0_64 : cz .f64 0 = 0 := cz_zero64
/-! ### copies, comparisons, marks -/
theorem toFloat32S_wp {l : List Nat} {K : List Nat → Prop} (hl : l.length ≤ 2 ^ 20) (h : K l) : laws_toFloat32S.wp l K := by
  refine ⟨⟨by omega, by omega, by omega, by omega⟩, fun X hX => ?_⟩
  have key : X (l.take 0 ++ List.replicate (l.length - 0) (0 : Nat)) ((0 : Nat) : Int) := by
    refine up (Y := fun i => X (l.take i ++ List.replicate (l.length - i) (0 : Nat)) (i : Int)) l.length ?_ fun i hi hn => ?_
    · refine hX _ _ ⟨fun c => absurd c (by omega), fun _ => ?_⟩
      rw [List.take_length, Nat.sub_self, List.replicate_zero, List.append_nil]; exact h
    · refine hX _ _ ⟨fun _ => ⟨⟨by omega, by omega⟩, ⟨by omega, ?_⟩, ?_⟩, fun c => absurd (show (i : Int) < l.length by omega) c⟩
      · rw [List.length_append, List.length_take, List.length_replicate]; omega
      · rw [nn, w1 (by omega), gD hi, set_fill (0 : Nat) (by omega) hi]
        exact hn
  rw [List.take_zero, List.nil_append, Nat.sub_zero] at key; exact key
theorem toInt64S_wp {l : List Int} {K : List Int → Prop} (hl : l.length ≤ 2 ^ 20) (h : K l) : laws_toInt64S.wp l K := by
  refine ⟨⟨by omega, by omega, by omega, by omega⟩, fun X hX => ?_⟩
  have key : X (l.take 0 ++ List.replicate (l.length - 0) (0 : Int)) ((0 : Nat) : Int) := by
    refine up (Y := fun i => X (l.take i ++ List.replicate (l.length - i) (0 : Int)) (i : Int)) l.length ?_ fun i hi hn => ?_
    · refine hX _ _ ⟨fun c => absurd c (by omega), fun _ => ?_⟩
      rw [List.take_length, Nat.sub_self, List.replicate_zero, List.append_nil]; exact h
    · refine hX _ _ ⟨fun _ => ⟨⟨by omega, by omega⟩, ⟨by omega, ?_⟩, ?_⟩, fun c => absurd (show (i : Int) < l.length by omega) c⟩
      · rw [List.length_append, List.length_take, List.length_replicate]; omega
      · rw [nn, w1 (by omega), gD hi, set_fill (0 : Int) (by omega) hi]
        exact hn
  rw [List.take_zero, List.nil_append, Nat.sub_zero] at key; exact key
theorem toBoolS_wp {l : List Bool} {K : List Bool → Prop} (hl : l.length ≤ 2 ^ 20) (h : K l) : laws_toBoolS.wp l K := by
  refine ⟨⟨by omega, by omega, by omega, by omega⟩, fun X hX => ?_⟩
  have key : X (l.take 0 ++ List.replicate (l.length - 0) false) ((0 : Nat) : Int) := by
    refine up (Y := fun i => X (l.take i ++ List.replicate (l.length - i) false) (i : Int)) l.length ?_ fun i hi hn => ?_
    · refine hX _ _ ⟨fun c => absurd c (by omega), fun _ => ?_⟩
      rw [List.take_length, Nat.sub_self, List.replicate_zero, List.append_nil]; exact h
    · refine hX _ _ ⟨fun _ => ⟨⟨by omega, by omega⟩, ⟨by omega, ?_⟩, ?_⟩, fun c => absurd (show (i : Int) < l.length by omega) c⟩
      · rw [List.length_append, List.length_take, List.length_replicate]; omega
      · rw [nn, w1 (by omega), gD hi, set_fill false (by omega) hi]
        exact hn
  rw [List.take_zero, List.nil_append, Nat.sub_zero] at key; exact key
theorem sameFloat_wp {a : Nat} {K : Bool → Prop} (h : K true) : laws_sameFloat.wp a a K := by
  rcases order_self Ieee.double a with ho | ho
  · have e : fcmp .neq .f64 a a = true := by simp [fcmp, FloatKind.format, ho]
    exact tE e (by rw [e]; exact h)
  · have e : fcmp .neq .f64 a a = false := by simp [fcmp, FloatKind.format, ho]
    have e2 : fcmp .eql .f64 a a = true := by simp [fcmp, FloatKind.format, ho]
    refine tG e (tG e ⟨fun c => ⟨fun _ => by rw [BEq.rfl]; exact h, fun c2 => (by rw [c] at c2; cases c2)⟩, fun _ => by rw [e2]; exact h⟩)
theorem eqFloat32S_wp {l : List Nat} {K : Bool → Prop} (hl : l.length ≤ 2 ^ 20) (h : K true) : laws_eqFloat32S.wp l l K := by
  refine tP rfl fun X hX => ?_
  refine up (Y := fun i => X (i : Int)) l.length ?_ fun i hi hn => ?_
  · exact hX _ ⟨fun c => absurd c (by omega), fun _ => h⟩
  · refine hX _ ⟨fun _ => ⟨⟨by omega, by omega⟩, ⟨by omega, by omega⟩, sameFloat_wp (tT ?_)⟩, fun c => absurd (show (i : Int) < l.length by omega) c⟩
    rw [w1 (by omega)]; exact hn
theorem eqInt64S_wp {l : List Int} {K : Bool → Prop} (hl : l.length ≤ 2 ^ 20) (h : K true) : laws_eqInt64S.wp l l K := by
  refine tP rfl fun X hX => ?_
  refine up (Y := fun i => X (i : Int)) l.length ?_ fun i hi hn => ?_
  · exact hX _ ⟨fun c => absurd c (by omega), fun _ => h⟩
  · refine hX _ ⟨fun _ => ⟨⟨by omega, by omega⟩, ⟨by omega, by omega⟩, tP rfl ?_⟩, fun c => absurd (show (i : Int) < l.length by omega) c⟩
    rw [w1 (by omega)]; exact hn
theorem eqBoolS_wp {l : List Bool} {K : Bool → Prop} (hl : l.length ≤ 2 ^ 20) (h : K true) : laws_eqBoolS.wp l l K := by
  refine tP rfl fun X hX => ?_
  refine up (Y := fun i => X (i : Int)) l.length ?_ fun i hi hn => ?_
  · exact hX _ ⟨fun c => absurd c (by omega), fun _ => h⟩
  · refine hX _ ⟨fun _ => ⟨⟨by omega, by omega⟩, ⟨by omega, by omega⟩, tB ?_⟩, fun c => absurd (show (i : Int) < l.length by omega) c⟩
    rw [w1 (by omega)]; exact hn
theorem markFloat32S_wp {l : List Nat} {k : Nat} {K : Int → List Nat → Prop} (hl : l.length ≤ 2 ^ 20) (hk : k ≤ 2 ^ 40) (h : K ((k + l.length : Nat) : Int) (marks k l.length)) : laws_markFloat32S.wp l (k : Int) K := by
  intro X hX
  have key : X (marks k 0 ++ l.drop 0) ((k + 0 : Nat) : Int) ((0 : Nat) : Int) := by
    refine up (Y := fun i => X (marks k i ++ l.drop i) ((k + i : Nat) : Int) (i : Int)) l.length ?_ fun i hi hn => ?_
    · refine hX _ _ _ ⟨fun c => absurd c (by rw [List.length_append, marks_length, List.length_drop]; omega), fun _ => ?_⟩
      rw [List.drop_length, List.append_nil]; exact h
    · have hlen : (marks k i ++ l.drop i).length = l.length := by rw [List.length_append, marks_length, List.length_drop]; omega
      refine hX _ _ _ ⟨fun _ => ⟨⟨by omega, by rw [hlen]; omega⟩, ?_⟩, fun c => absurd (show (i : Int) < _ by rw [hlen]; omega) c⟩
      rw [nn, w1 (by omega), w1 (by omega)]
      have e := marks_step (l := l) (i := i) (m := l.length - i) k (by omega) hi
      rw [show (k : Int) + (i : Int) = ((k + i : Nat) : Int) by omega] at e
      rw [show itof .f32 ((k + i : Nat) : Int) = fl ((k + i : Nat) : Int) from rfl]
      rw [e]; exact hn
  exact key
theorem heldFloat32S_wp {k n : Nat} {K : Int → Prop} (hl : n ≤ 2 ^ 20) (hk : k ≤ 2 ^ 40) (h : K ((k + n : Nat) : Int)) : laws_heldFloat32S.wp (marks k n) (k : Int) K := by
  intro X hX
  have hlen : (marks k n).length = n := marks_length _ _
  have key : X ((k + 0 : Nat) : Int) ((0 : Nat) : Int) := by
    refine up (Y := fun i => X ((k + i : Nat) : Int) (i : Int)) n ?_ fun i hi hn => ?_
    · exact hX _ _ ⟨fun c => absurd c (by omega), fun _ => h⟩
    · refine hX _ _ ⟨fun _ => ⟨⟨by omega, by omega⟩, ?_⟩, fun c => absurd (show (i : Int) < _ by omega) c⟩
      rw [nn, gD (by omega), marks_at k n i (by omega), show (k : Int) + (i : Int) = ((k + i : Nat) : Int) by omega]
      refine tG (show fcmp .neq .f32 (fl ((k + i : Nat) : Int)) (itof .f32 ((k + i : Nat) : Int)) = false from fl_neq _) ?_
      rw [w1 (by omega), w1 (by omega)]; exact hn
  exact key
theorem markInt64S_wp {l : List Int} {k : Nat} {K : Int → List Int → Prop} (hl : l.length ≤ 2 ^ 20) (hk : k ≤ 2 ^ 40) (h : K ((k + l.length : Nat) : Int) (marksI k l.length)) : laws_markInt64S.wp l (k : Int) K := by
  intro X hX
  have key : X (marksI k 0 ++ l.drop 0) ((k + 0 : Nat) : Int) ((0 : Nat) : Int) := by
    refine up (Y := fun i => X (marksI k i ++ l.drop i) ((k + i : Nat) : Int) (i : Int)) l.length ?_ fun i hi hn => ?_
    · refine hX _ _ _ ⟨fun c => absurd c (by rw [List.length_append, marksI_length, List.length_drop]; omega), fun _ => ?_⟩
      rw [List.drop_length, List.append_nil]; exact h
    · have hlen : (marksI k i ++ l.drop i).length = l.length := by rw [List.length_append, marksI_length, List.length_drop]; omega
      refine hX _ _ _ ⟨fun _ => ⟨⟨by omega, by rw [hlen]; omega⟩, ?_⟩, fun c => absurd (show (i : Int) < _ by rw [hlen]; omega) c⟩
      rw [nn, w1 (by omega), w1 (by omega)]
      have e := marksI_step (l := l) (i := i) (m := l.length - i) k (by omega) hi
      rw [show (k : Int) + (i : Int) = ((k + i : Nat) : Int) by omega] at e
      
      rw [e]; exact hn
  exact key
theorem heldInt64S_wp {k n : Nat} {K : Int → Prop} (hl : n ≤ 2 ^ 20) (hk : k ≤ 2 ^ 40) (h : K ((k + n : Nat) : Int)) : laws_heldInt64S.wp (marksI k n) (k : Int) K := by
  intro X hX
  have hlen : (marksI k n).length = n := marksI_length _ _
  have key : X ((k + 0 : Nat) : Int) ((0 : Nat) : Int) := by
    refine up (Y := fun i => X ((k + i : Nat) : Int) (i : Int)) n ?_ fun i hi hn => ?_
    · exact hX _ _ ⟨fun c => absurd c (by omega), fun _ => h⟩
    · refine hX _ _ ⟨fun _ => ⟨⟨by omega, by omega⟩, ?_⟩, fun c => absurd (show (i : Int) < _ by omega) c⟩
      rw [nn, gD (by omega), marksI_at k n i (by omega), show (k : Int) + (i : Int) = ((k + i : Nat) : Int) by omega]
      refine tP rfl ?_
      rw [w1 (by omega), w1 (by omega)]; exact hn
  exact key

end Go.Proofs.Ytkaidcgelbhofaa.G

namespace Go.Proofs.Ytkaidcgelbhofaa.G
open Go Go.Ab
set_option maxRecDepth 100000
set_option linter.unusedVariables false
set_option linter.unusedSimpArgs false
set_option maxHeartbeats 1000000
def mB (k : Nat) : Nat → List Bool
  | 0 => []
  | n + 1 => decide (Int.tmod (k : Int) 3 = 0) :: mB (k + 1) n
theorem mB_len (k : Nat) : ∀ n, (mB k n).length = n
  | 0 => rfl
  | n + 1 => by rw [mB, List.length_cons, mB_len]
theorem mB_app (k : Nat) : ∀ n, mB k (n + 1) = mB k n ++ [decide (Int.tmod ((k + n : Nat) : Int) 3 = 0)] := by
  intro n
  induction n generalizing k with
  | zero => rfl
  | succ n ih => rw [mB, ih, show mB k (n + 1) = decide (Int.tmod (k : Int) 3 = 0) :: mB (k + 1) n from rfl, List.cons_append, show k + 1 + n = k + (n + 1) by omega]
theorem mB_at (k : Nat) : ∀ (n i : Nat), i < n → (mB k n).getD i false = decide (Int.tmod ((k + i : Nat) : Int) 3 = 0) := by
  intro n
  induction n generalizing k with
  | zero => intro i h; omega
  | succ n ih =>
    intro i h
    cases i with
    | zero => rfl
    | succ i => rw [mB, List.getD_cons_succ, ih (k + 1) i (by omega), show k + 1 + i = k + (i + 1) by omega]
theorem setB {α : Type} (p : List α) (a b : α) (q : List α) : ((p ++ a :: q).set p.length b) = p ++ b :: q := by
  rw [List.set_append_right _ _ (Nat.le_refl _), Nat.sub_self]; rfl
theorem markBoolS_wp {l : List Bool} {k : Nat} {K : Int → List Bool → Prop} (hl : l.length ≤ 2 ^ 20) (hk : k ≤ 2 ^ 40) (h : K ((k + l.length : Nat) : Int) (mB k l.length)) : laws_markBoolS.wp l (k : Int) K := by
  intro X hX
  have key : X (mB k 0 ++ l.drop 0) ((k + 0 : Nat) : Int) ((0 : Nat) : Int) := by
    refine up (Y := fun i => X (mB k i ++ l.drop i) ((k + i : Nat) : Int) (i : Int)) l.length ?_ fun i hi hn => ?_
    · refine hX _ _ _ ⟨fun c => absurd c (by rw [List.length_append, mB_len, List.length_drop]; omega), fun _ => ?_⟩
      rw [List.drop_length, List.append_nil]; exact h
    · have hlen : (mB k i ++ l.drop i).length = l.length := by rw [List.length_append, mB_len, List.length_drop]; omega
      refine hX _ _ _ ⟨fun _ => ⟨⟨by omega, by rw [hlen]; omega⟩, ?_⟩, fun c => absurd (show (i : Int) < _ by rw [hlen]; omega) c⟩
      rw [nn, w1 (by omega), w1 (by omega)]
      have e1 : (mB k i ++ l.drop i) = mB k i ++ l[i] :: l.drop (i + 1) := by rw [dropC hi]
      have e2 : (mB k i ++ l[i] :: l.drop (i + 1)).set i (decide (Int.tmod ((k + i : Nat) : Int) 3 = 0)) = mB k i ++ decide (Int.tmod ((k + i : Nat) : Int) 3 = 0) :: l.drop (i + 1) := by
        have := setB (mB k i) l[i] (decide (Int.tmod ((k + i : Nat) : Int) 3 = 0)) (l.drop (i + 1)); rw [mB_len] at this; exact this
      rw [e1, e2]
      rw [mB_app, List.append_assoc, List.singleton_append] at hn
      exact hn
  exact key

end Go.Proofs.Ytkaidcgelbhofaa.G

namespace Go.Proofs.Ytkaidcgelbhofaa.G
open Go Go.Ab
set_option maxRecDepth 100000
set_option linter.unusedVariables false
set_option linter.unusedSimpArgs false
set_option maxHeartbeats 1000000
def pFin (x : Nat) : Bool := fcmp .eql .f32 (fop .sub .f32 x x) (cz .f32 0)
def pAll (l : List Nat) : Bool := l.all pFin
theorem pAll_cons (x : Nat) (l : List Nat) : pAll (x :: l) = (pFin x && pAll l) := rfl
/-- A loop that ends early where something does not hold. -/
theorem all_loop {α : Type} (l : List α) (p : α → Bool) {X : Int → Prop} {T F : Prop} (hX : ∀ (i : Nat) (h : i < l.length), ((p l[i] = true → X ((i + 1 : Nat) : Int)) ∧ (p l[i] = false → F)) → X (i : Int))
    (hend : T → X (l.length : Int)) (ht : l.all p = true → T) (hf : l.all p = false → F) : X (0 : Int) := by
  have key := up (Y := fun i => ((l.drop i).all p = true → T) → ((l.drop i).all p = false → F) → X (i : Int)) l.length (fun h _ => hend (h (by rw [List.drop_length]; rfl))) fun i hi hn h1 h2 => ?_
  · exact key (by rw [List.drop_zero]; exact ht) (by rw [List.drop_zero]; exact hf)
  · rw [dropC hi, List.all_cons] at h1 h2
    refine hX i hi ⟨fun e => hn (fun a => h1 (by rw [e, a]; rfl)) (fun a => h2 (by rw [e, a]; rfl)), fun e => h2 (by rw [e]; rfl)⟩
/-- A loop that makes a list, and ends early where something does not hold. -/
theorem map_loop {α β : Type} (l : List α) (p : α → Bool) (f : α → β) {X : List β → Int → Prop} {T F : Prop} (hX : ∀ (i : Nat) (h : i < l.length) (o : List β), o.length = i → ((p l[i] = true → X (o ++ [f l[i]]) ((i + 1 : Nat) : Int)) ∧ (p l[i] = false → F)) → X o (i : Int))
    (hend : T → X (l.map f) (l.length : Int)) (ht : l.all p = true → T) (hf : l.all p = false → F) : X [] (0 : Int) := by
  have key := up (Y := fun i => ((l.drop i).all p = true → T) → ((l.drop i).all p = false → F) → X ((l.take i).map f) (i : Int)) l.length (fun h _ => by rw [List.take_length]; exact hend (h (by rw [List.drop_length]; rfl))) fun i hi hn h1 h2 => ?_
  · have := key (by rw [List.drop_zero]; exact ht) (by rw [List.drop_zero]; exact hf)
    rw [List.take_zero] at this; exact this
  · rw [dropC hi, List.all_cons] at h1 h2
    refine hX i hi _ (by rw [List.length_map, List.length_take]; omega) ⟨fun e => ?_, fun e => h2 (by rw [e]; rfl)⟩
    have := hn (fun a => h1 (by rw [e, a]; rfl)) (fun a => h2 (by rw [e, a]; rfl))
    rw [List.take_succ_eq_append_getElem hi, List.map_append] at this
    exact this
theorem spec_l01Finite_wp {a : Nat} {K : Bool → Prop} (h : K (pFin a)) : spec_l01Finite.wp a K := h
theorem impl_IsFinite_wp {a : Nat} {K : Bool → Prop} (h : K (pFin a)) : impl_IsFinite.wp a K := h
theorem spec_l02Finite_wp {l : List Nat} {K : Bool → Prop} (hl : l.length ≤ 2 ^ 20) (h : K (pAll l)) : spec_l02Finite.wp l K := by
  intro X hX
  refine all_loop l pFin (X := X) (T := K true) (F := K false) (fun i hi hh => ?_) (fun ht => hX _ ⟨fun c => absurd c (by omega), fun _ => ht⟩) (fun e => by rw [pAll, e] at h; exact h) (fun e => by rw [pAll, e] at h; exact h)
  refine hX _ ⟨fun _ => ⟨⟨by omega, by omega⟩, spec_l01Finite_wp ?_⟩, fun c => absurd (show (i : Int) < l.length by omega) c⟩
  rw [nn, gD hi, w1 (by omega)]; exact hh
theorem impl_areFinite_wp {ll : List (List Nat)} {K : Bool → Prop} (hll : ll.length ≤ 2 ^ 20) (hl : ∀ l ∈ ll, l.length ≤ 2 ^ 20) (h : K (ll.all pAll)) : impl_areFinite.wp ll K := by
  intro X hX
  refine all_loop ll pAll (X := X) (T := K true) (F := K false) (fun i hi hh => ?_) (fun ht => hX _ ⟨fun c => absurd c (by omega), fun _ => ht⟩) (fun e => by rw [e] at h; exact h) (fun e => by rw [e] at h; exact h)
  refine hX _ ⟨fun _ => ⟨⟨by omega, by omega⟩, fun Y hY => ?_⟩, fun c => absurd (show (i : Int) < ll.length by omega) c⟩
  have hlen := hl ll[i] (List.getElem_mem hi)
  rw [nn, gD hi, w1 (by omega)] at hY
  refine all_loop ll[i] pFin (X := Y) (T := X ((i + 1 : Nat) : Int)) (F := K false) (fun j hj h2 => ?_) (fun ht => hY _ ⟨fun c => absurd c (by omega), fun _ => ht⟩) (fun e => hh.1 e) (fun e => hh.2 e)
  refine hY _ ⟨fun _ => ⟨⟨by omega, by omega⟩, impl_IsFinite_wp ?_⟩, fun c => absurd (show (j : Int) < ll[i].length by omega) c⟩
  rw [nn, gD hj, w1 (by omega)]; exact h2
theorem impl_areFinite1_wp {l : List Nat} {K : Bool → Prop} (hl : l.length ≤ 2 ^ 20) (h : K (pAll l)) : impl_areFinite.wp [l] K := by
  refine impl_areFinite_wp (by simp) (fun x hx => by rw [List.mem_singleton] at hx; subst hx; exact hl) ?_
  rw [List.all_cons, List.all_nil, Bool.and_true]; exact h
theorem impl_within_wp {a b c : Int} {K : Bool → Prop} (h : K (decide (b ≤ a ∧ a ≤ c))) : impl_within.wp a b c K := by
  refine ⟨fun h1 => ?_, fun h1 => ?_⟩
  · have : decide (b ≤ a ∧ a ≤ c) = decide (a ≤ c) := by simp [h1]
    rw [this] at h; exact h
  · have : decide (b ≤ a ∧ a ≤ c) = false := by simp [h1]
    rw [this] at h; exact h
theorem spec_l00In_wp {a b c : Int} {K : Bool → Prop} (h : K (decide (b ≤ a ∧ a ≤ c))) : spec_l00In.wp a b c K := by
  refine ⟨fun h1 => ?_, fun h1 => ?_⟩
  · have : decide (b ≤ a ∧ a ≤ c) = decide (a ≤ c) := by simp [h1]
    rw [this] at h; exact h
  · have : decide (b ≤ a ∧ a ≤ c) = false := by simp [h1]
    rw [this] at h; exact h
theorem bT {b : Bool} {A B : Prop} (h1 : b = true → A) (h2 : b = false → B) : (b = true → A) ∧ (b = false → B) := ⟨h1, h2⟩
def isL (l : List Nat) : Bool := decide (1 ≤ l.length ∧ l.length ≤ 128) && pAll l
theorem spec_l02Is_wp {l : List Nat} {K : Bool → Prop} (hl : l.length ≤ 2 ^ 20) (h : K (isL l)) : spec_l02Is.wp l K := by
  refine ⟨fun h1 => ⟨fun h2 => spec_l02Finite_wp hl ?_, fun h2 => ?_⟩, fun h1 => ?_⟩
  · rw [isL, decide_eq_true (show 1 ≤ l.length ∧ l.length ≤ 128 by omega), Bool.true_and] at h; exact h
  · rw [isL, decide_eq_false (show ¬(1 ≤ l.length ∧ l.length ≤ 128) by omega), Bool.false_and] at h; exact h
  · rw [isL, decide_eq_false (show ¬(1 ≤ l.length ∧ l.length ≤ 128) by omega), Bool.false_and] at h; exact h
theorem impl_IsList_wp {l : List Nat} {K : Bool → Prop} (hl : l.length ≤ 2 ^ 20) (h : K (isL l)) : impl_IsList.wp l K := by
  refine impl_within_wp ⟨fun h1 => ?_, fun h1 => ?_⟩
  · have h1 := of_decide_eq_true h1
    refine impl_areFinite1_wp hl ?_
    rw [isL, decide_eq_true (show 1 ≤ l.length ∧ l.length ≤ 128 by omega), Bool.true_and] at h; exact h
  · have h1 := of_decide_eq_false h1
    rw [isL, decide_eq_false (show ¬(1 ≤ l.length ∧ l.length ≤ 128) by omega), Bool.false_and] at h; exact h
def isOver (x : Nat) : Bool := pFin x && fcmp .gtr .f32 x (cz .f32 0)
def isLeast (x : Nat) : Bool := pFin x && fcmp .geq .f32 x (cz .f32 0)
theorem spec_l02Above_wp {a : Nat} {K : Bool → Prop} (h : K (isOver a)) : spec_l02Above.wp a K := by
  refine spec_l01Finite_wp ⟨fun h1 => ?_, fun h1 => ?_⟩ <;> (rw [isOver, h1] at h; exact h)
theorem impl_isOver_wp {a : Nat} {K : Bool → Prop} (h : K (isOver a)) : impl_isOver.wp a K := by
  refine impl_IsFinite_wp ⟨fun h1 => ?_, fun h1 => ?_⟩ <;> (rw [isOver, h1] at h; exact h)
theorem spec_l02Least_wp {a : Nat} {K : Bool → Prop} (h : K (isLeast a)) : spec_l02Least.wp a K := by
  refine spec_l01Finite_wp ⟨fun h1 => ?_, fun h1 => ?_⟩ <;> (rw [isLeast, h1] at h; exact h)
theorem impl_isLeast_wp {a : Nat} {K : Bool → Prop} (h : K (isLeast a)) : impl_isLeast.wp a K := by
  refine impl_IsFinite_wp ⟨fun h1 => ?_, fun h1 => ?_⟩ <;> (rw [isLeast, h1] at h; exact h)
def isShare (x : Nat) : Bool := fcmp .geq .f32 x (cz .f32 0) && fcmp .leq .f32 x (cz .f32 1065353216)
theorem spec_l02Share_wp {a : Nat} {K : Bool → Prop} (h : K (isShare a)) : spec_l02Share.wp a K := by
  refine ⟨fun h1 => ?_, fun h1 => ?_⟩ <;> (rw [isShare, h1] at h; exact h)
theorem impl_isShare_wp {a : Nat} {K : Bool → Prop} (h : K (isShare a)) : impl_isShare.wp a K := by
  refine ⟨fun h1 => ?_, fun h1 => ?_⟩ <;> (rw [isShare, h1] at h; exact h)
/-! ### integers -/
def bnd (m : Int) (l : List Int) : Bool := l.all fun n => decide (-m ≤ n ∧ n ≤ m)
def isI (l : List Int) : Bool := decide (1 ≤ l.length ∧ l.length ≤ 128) && bnd 1000000 l
theorem spec_l02Bound_wp {l : List Int} {m : Int} {K : Bool → Prop} (hl : l.length ≤ 2 ^ 20) (hm : 0 ≤ m ∧ m ≤ 2 ^ 40) (h : K (bnd m l)) : spec_l02Bound.wp l m K := by
  intro X hX
  refine all_loop l (fun n => decide (-m ≤ n ∧ n ≤ m)) (X := X) (T := K true) (F := K false) (fun i hi hh => ?_) (fun ht => hX _ ⟨fun c => absurd c (by omega), fun _ => ht⟩) (fun e => by rw [bnd, e] at h; exact h) (fun e => by rw [bnd, e] at h; exact h)
  refine hX _ ⟨fun _ => ⟨⟨by omega, by omega⟩, spec_l00In_wp ?_⟩, fun c => absurd (show (i : Int) < l.length by omega) c⟩
  rw [nn, gD hi, w1 (by omega), wI (show -9223372036854775808 ≤ (0 : Int) - m ∧ (0 : Int) - m < 9223372036854775808 by omega), Int.zero_sub]; exact hh
theorem impl_areWithin_wp {l : List Int} {m : Int} {K : Bool → Prop} (hl : l.length ≤ 2 ^ 20) (hm : 0 ≤ m ∧ m ≤ 2 ^ 40) (h : K (bnd m l)) : impl_areWithin.wp l m K := by
  intro X hX
  refine all_loop l (fun n => decide (-m ≤ n ∧ n ≤ m)) (X := X) (T := K true) (F := K false) (fun i hi hh => ?_) (fun ht => hX _ ⟨fun c => absurd c (by omega), fun _ => ht⟩) (fun e => by rw [bnd, e] at h; exact h) (fun e => by rw [bnd, e] at h; exact h)
  refine hX _ ⟨fun _ => ⟨⟨by omega, by omega⟩, impl_within_wp ?_⟩, fun c => absurd (show (i : Int) < l.length by omega) c⟩
  rw [nn, gD hi, w1 (by omega), wI (show -9223372036854775808 ≤ (0 : Int) - m ∧ (0 : Int) - m < 9223372036854775808 by omega), Int.zero_sub]; exact hh
theorem spec_l02Integers_wp {l : List Int} {K : Bool → Prop} (hl : l.length ≤ 2 ^ 20) (h : K (isI l)) : spec_l02Integers.wp l K := by
  refine ⟨fun h1 => ⟨fun h2 => spec_l02Bound_wp hl (by omega) ?_, fun h2 => ?_⟩, fun h1 => ?_⟩
  · rw [isI, decide_eq_true (show 1 ≤ l.length ∧ l.length ≤ 128 by omega), Bool.true_and] at h; exact h
  · rw [isI, decide_eq_false (show ¬(1 ≤ l.length ∧ l.length ≤ 128) by omega), Bool.false_and] at h; exact h
  · rw [isI, decide_eq_false (show ¬(1 ≤ l.length ∧ l.length ≤ 128) by omega), Bool.false_and] at h; exact h
theorem impl_AreIntegers_wp {l : List Int} {K : Bool → Prop} (hl : l.length ≤ 2 ^ 20) (h : K (isI l)) : impl_AreIntegers.wp l K := by
  refine impl_within_wp ⟨fun h1 => ?_, fun h1 => ?_⟩
  · have h1 := of_decide_eq_true h1
    refine impl_areWithin_wp hl (by omega) ?_
    rw [isI, decide_eq_true (show 1 ≤ l.length ∧ l.length ≤ 128 by omega), Bool.true_and] at h; exact h
  · have h1 := of_decide_eq_false h1
    rw [isI, decide_eq_false (show ¬(1 ≤ l.length ∧ l.length ≤ 128) by omega), Bool.false_and] at h; exact h
theorem impl_finiteList_wp {l : List Nat} {K : Bool → Bool → Prop} (hl : l.length ≤ 2 ^ 20) (h : K (pAll l) (pAll l)) : impl_finiteList.wp l K := by
  refine impl_areFinite1_wp hl ⟨fun h1 => ?_, fun h1 => ?_⟩ <;> (rw [h1] at h; exact h)
theorem spec_l02List_wp {l : List Nat} {K : Bool → Bool → Prop} (hl : l.length ≤ 2 ^ 20) (h : K (pAll l) (pAll l)) : spec_l02List.wp l K := by
  refine spec_l02Finite_wp hl ⟨fun h1 => ?_, fun h1 => ?_⟩ <;> (rw [h1] at h; exact h)

end Go.Proofs.Ytkaidcgelbhofaa.G

namespace Go.Proofs.Ytkaidcgelbhofaa.G
open Go Go.Ab
set_option maxRecDepth 100000
set_option linter.unusedVariables false
set_option linter.unusedSimpArgs false
set_option maxHeartbeats 1000000
/-- What is like itself is a number. -/
theorem num_of_eq {x : Nat} (h : fcmp .neq .f32 x x = false) : num .f32 x = true := by
  unfold num
  cases hd : (FloatKind.f32.decode x).isNaN with
  | false => rfl
  | true =>
    exfalso
    have h2 : Ieee.single.order x x = none := by
      unfold Ieee.Format.order
      have hd' : (Ieee.single.read x).isNaN = true := hd
      cases hr : Ieee.single.read x with
      | nan s t => rfl
      | _ => rw [hr] at hd'; cases hd'
    unfold fcmp at h
    rw [show FloatKind.f32.format = Ieee.single from rfl, h2] at h
    cases h
theorem ixor {a b : Nat} (ha : a < 2 ^ 32) (hb : b < 2 ^ 32) : ibits .xor .i64 (a : Int) (b : Int) = ((a ^^^ b : Nat) : Int) := by
  have hx : a ^^^ b < 2 ^ 32 := Nat.xor_lt_two_pow ha hb
  have ea : (BitVec.ofInt 64 (a : Int)).toNat = a := by rw [BitVec.ofInt_natCast, BitVec.toNat_ofNat]; omega
  have eb : (BitVec.ofInt 64 (b : Int)).toNat = b := by rw [BitVec.ofInt_natCast, BitVec.toNat_ofNat]; omega
  show IntKind.i64.wrap ((BitVec.ofInt 64 (a : Int) ^^^ BitVec.ofInt 64 (b : Int)).toNat : Int) = _
  rw [BitVec.toNat_xor, ea, eb]
  exact wI (by omega)
theorem ior {a b : Nat} (ha : a < 2 ^ 32) (hb : b < 2 ^ 32) : ibits .or .i64 (a : Int) (b : Int) = ((a ||| b : Nat) : Int) := by
  have hx : a ||| b < 2 ^ 32 := Nat.or_lt_two_pow ha hb
  have ea : (BitVec.ofInt 64 (a : Int)).toNat = a := by rw [BitVec.ofInt_natCast, BitVec.toNat_ofNat]; omega
  have eb : (BitVec.ofInt 64 (b : Int)).toNat = b := by rw [BitVec.ofInt_natCast, BitVec.toNat_ofNat]; omega
  show IntKind.i64.wrap ((BitVec.ofInt 64 (a : Int) ||| BitVec.ofInt 64 (b : Int)).toNat : Int) = _
  rw [BitVec.toNat_or, ea, eb]
  exact wI (by omega)
theorem p8 : (2 ^ (min (8 : Int).toNat IntKind.i64.bits) : Int) = 256 := by decide
theorem fdiv8 (m : Nat) : Int.fdiv (m : Int) (2 ^ (min (8 : Int).toNat IntKind.i64.bits)) = ((m / 256 : Nat) : Int) := by
  rw [p8, Int.fdiv_eq_ediv_of_nonneg _ (by decide)]; omega
theorem tdivN (m k : Nat) (h : m < 2 ^ 40) : IntKind.i64.wrap (Int.tdiv (m : Int) (k : Int)) = ((m / k : Nat) : Int) := by
  rw [show (m : Int).tdiv (k : Int) = ((m / k : Nat) : Int) by rw [Int.tdiv_eq_ediv_of_nonneg (by omega)]; rfl]
  have := Nat.div_le_self m k
  generalize m / k = d at this
  exact wI (by omega)
theorem u8wrap (m : Nat) : IntKind.u8.wrap (m : Int) = ((m % 256 : Nat) : Int) := by
  show (m : Int) % 256 = _
  omega
theorem tmod8 (m : Nat) : Int.tmod (m : Int) 256 = ((m % 256 : Nat) : Int) := by
  rw [Int.tmod_eq_emod_of_nonneg (by omega)]; rfl
/-- How many bytes a number fills. -/
def nb (x : Nat) : Nat := if x = 0 then 0 else if x < 256 then 1 else if x < 65536 then 2 else if x < 16777216 then 3 else 4
theorem nb_le (x : Nat) : nb x ≤ 4 := by unfold nb; repeat' split
                                         all_goals omega
theorem nb_div {m : Nat} (h : 0 < m) (h32 : m < 2 ^ 32) : nb (m / 256) + 1 = nb m := by
  unfold nb; repeat' split
  all_goals omega
def lowB : Nat → Nat → List Int
  | 0, _ => []
  | n + 1, x => ((x % 256 : Nat) : Int) :: lowB n (x / 256)
theorem lowB_len : ∀ n x, (lowB n x).length = n
  | 0, _ => rfl
  | n + 1, x => by rw [lowB, List.length_cons, lowB_len]
def bitsN (x : Nat) : Nat := if fcmp .neq .f32 x x = true then 2143289344 else x
theorem bitsN_lt {x : Nat} (h : x < 2 ^ 32) : bitsN x < 2 ^ 32 := by unfold bitsN; split <;> omega
def oneB (y : Nat) : List Int := ((4 - nb y : Nat) : Int) :: lowB (nb y) y
theorem oneB_len (y : Nat) : (oneB y).length ≤ 5 := by rw [oneB, List.length_cons, lowB_len]; have := nb_le y; omega
def packTo : List Nat → Nat → List Int
  | [], _ => []
  | x :: l, b => oneB (bitsN x ^^^ b) ++ packTo l (bitsN x)
def packL (l : List Nat) : List UInt8 := byts (packTo l 0)
/-- The loop over the values. -/
theorem pack_loop (l : List Nat) (hl : l.length ≤ 2 ^ 20) (hw : ∀ x ∈ l, x < 2 ^ 32) {X : List Int → Int → Int → Prop} (hX : ∀ (o : List Int) (b i : Nat) (hi : i < l.length), b < 2 ^ 32 → o.length ≤ 5 * i → X (o ++ oneB (bitsN l[i] ^^^ b)) (bitsN l[i] : Nat) ((i + 1 : Nat) : Int) → X o (b : Int) (i : Int)) (hend : ∀ b : Int, X (packTo l 0) b (l.length : Int)) : X [] ((0 : Nat) : Int) ((0 : Nat) : Int) := by
  have key : ∀ (m i : Nat) (o : List Int) (b : Nat), m + i = l.length → b < 2 ^ 32 → o.length ≤ 5 * i → o ++ packTo (l.drop i) b = packTo l 0 → X o (b : Int) (i : Int) := by
    intro m
    induction m with
    | zero => intro i o b h1 h2 h3 h4
              obtain rfl : i = l.length := by omega
              rw [List.drop_length, packTo, List.append_nil] at h4
              rw [h4]; exact hend _
    | succ m ih =>
      intro i o b h1 h2 h3 h4
      have hi : i < l.length := by omega
      refine hX o b i hi h2 h3 (ih (i + 1) _ _ (by omega) (bitsN_lt (hw _ (List.getElem_mem hi))) (by rw [List.length_append]; have := oneB_len (bitsN l[i] ^^^ b); omega) ?_)
      rw [dropC hi, packTo] at h4
      rw [List.append_assoc]; exact h4
  exact key l.length 0 [] 0 (by omega) (by decide) (by simp) rfl
/-- The loop over a number's bytes. -/
theorem bytes_loop (M : Nat) {X : List Int → Int → Int → Prop} {N : Nat} (hX : ∀ (o : List Int) (x k : Nat), k < N → x < 2 ^ 32 → o.length < M → X (o ++ [((x % 256 : Nat) : Int)]) ((x / 256 : Nat) : Int) ((k + 1 : Nat) : Int) → X o (x : Int) (k : Int)) : ∀ (n k x : Nat) (o : List Int), k + n = N → x < 2 ^ 32 → o.length + n ≤ M → (∀ x, X (o ++ lowB n x) x (N : Int) → True) → (∀ y : Int, X (o ++ lowB n x) y (N : Int)) → X o (x : Int) (k : Int) := by
  intro n
  induction n with
  | zero => intro k x o h1 h2 h3 _ h4
            obtain rfl : k = N := by omega
            have := h4 x
            rw [lowB, List.append_nil] at this; exact this
  | succ n ih =>
    intro k x o h1 h2 h3 _ h4
    refine hX o x k (by omega) h2 (by omega) (ih (k + 1) (x / 256) _ (by omega) (by omega) (by rw [List.length_append, List.length_singleton]; omega) (fun _ _ => trivial) fun y => ?_)
    have := h4 y
    rw [lowB] at this
    rw [List.append_assoc]; exact this
theorem spec_l01Bits_wp {x : Nat} {K : Int → Prop} (hx : x < 2 ^ 32) (h : K (bitsN x : Nat)) : spec_l01Bits.wp x K := by
  refine ⟨fun c => ?_, fun c => ⟨?_, ?_⟩⟩
  · rw [bitsN, if_pos c] at h; exact h
  · exact num_of_eq c
  · rw [bitsN, if_neg (by rw [c]; decide)] at h
    rw [wI (by omega)]; exact h
theorem impl_BitsOf_wp {x : Nat} {K : Int → Prop} (hx : x < 2 ^ 32) (h : K (bitsN x : Nat)) : impl_BitsOf.wp x K := by
  refine ⟨fun c => ?_, fun c => ⟨?_, ?_⟩⟩
  · rw [bitsN, if_pos c] at h; exact h
  · exact num_of_eq c
  · rw [bitsN, if_neg (by rw [c]; decide)] at h
    rw [wI (by omega)]; exact h
theorem impl_packed_wp {l : List Nat} {K : List UInt8 → Prop} (hl : l.length ≤ 2 ^ 20) (hw : ∀ x ∈ l, x < 2 ^ 32) (h : K (packL l)) : impl_packed.wp l K := by
  intro X hX
  refine pack_loop l hl hw (X := X) (fun o b i hi hb ho hn => hX _ _ _ ⟨fun _ => ⟨⟨by omega, by omega⟩, ?_⟩, fun c => absurd (show (i : Int) < l.length by omega) c⟩) (fun b => hX _ _ _ ⟨fun c => absurd c (by omega), fun _ => h⟩)
  have hxi := hw _ (List.getElem_mem hi)
  rw [nn, gD hi]
  refine impl_BitsOf_wp hxi ?_
  have hbi := bitsN_lt hxi
  rw [ixor hbi hb, w1 (by omega)]
  generalize hy : bitsN l[i] ^^^ b = y at hn
  have hy32 : y < 2 ^ 32 := by rw [← hy]; exact Nat.xor_lt_two_pow hbi hb
  have hnb := nb_le y
  intro Z hZ
  have key : ∀ (n z m : Nat), nb m = n → z + nb y = 4 + n → m < 2 ^ 32 → Z (z : Int) (m : Int) := by
    intro n
    induction n with
    | zero =>
      intro z m h1 h2 h3
      obtain rfl : m = 0 := by
        unfold nb at h1; repeat' split at h1
        all_goals first | assumption | omega
      refine hZ _ _ ⟨fun c => absurd c (by omega), fun _ => ⟨by rw [len1]; omega, fun Y hY => ?_⟩⟩
      have e1 : IntKind.u8.wrap (z : Int) = ((4 - nb y : Nat) : Int) := by rw [u8wrap]; omega
      have e2 : IntKind.i64.wrap ((4 : Int) - (z : Int)) = ((nb y : Nat) : Int) := by rw [wI (by omega)]; omega
      rw [e1]
      refine bytes_loop (5 * i + 5) (X := Y) (N := nb y) (fun q x k hk hx hq hn2 => hY _ _ _ ⟨fun _ => ⟨by rw [len1]; omega, ?_⟩, fun c => absurd (by rw [e2]; omega) c⟩) (nb y) 0 y _ (by omega) hy32 (by rw [List.length_append, List.length_singleton]; omega) (fun _ _ => trivial) (fun w => hY _ _ _ ⟨fun c => absurd c (by rw [e2]; omega), fun _ => ?_⟩)
      · rw [u8wrap, fdiv8, w1 (by omega)]; exact hn2
      · rw [List.append_assoc]; exact hn
    | succ n ih =>
      intro z m h1 h2 h3
      have hm : 0 < m := by
        unfold nb at h1; repeat' split at h1
        all_goals omega
      have := nb_div hm h3
      have := nb_le m
      refine hZ _ _ ⟨fun _ => ?_, fun c => absurd (show (0 : Int) < m by omega) c⟩
      rw [fdiv8, show IntKind.i64.wrap ((z : Int) - 1) = ((z - 1 : Nat) : Int) by rw [wI (by omega)]; omega]
      exact ih (z - 1) (m / 256) (by omega) (by omega) (by omega)
  exact key (nb y) 4 y rfl (by omega) hy32
theorem spec_l07Pack_wp {l : List Nat} {K : List UInt8 → Prop} (hl : l.length ≤ 2 ^ 20) (hw : ∀ x ∈ l, x < 2 ^ 32) (h : K (packL l)) : spec_l07Pack.wp l K := by
  intro X hX
  refine pack_loop l hl hw (X := X) (fun o b i hi hb ho hn => hX _ _ _ ⟨fun _ => ⟨⟨by omega, by omega⟩, ?_⟩, fun c => absurd (show (i : Int) < l.length by omega) c⟩) (fun b => hX _ _ _ ⟨fun c => absurd c (by omega), fun _ => h⟩)
  have hxi := hw _ (List.getElem_mem hi)
  rw [nn, gD hi]
  refine spec_l01Bits_wp hxi ?_
  have hbi := bitsN_lt hxi
  rw [ixor hbi hb, w1 (by omega)]
  generalize hy : bitsN l[i] ^^^ b = y at hn
  have hy32 : y < 2 ^ 32 := by rw [← hy]; exact Nat.xor_lt_two_pow hbi hb
  have hnb := nb_le y
  intro Z hZ
  have fin : ∀ (z : Nat), z + nb y = 4 → ∀ Y : List Int → Int → Int → Prop, (∀ (q : List Int) (x k : Int), ((k < 4 → ((q.length + ([(IntKind.u8.wrap (Int.tmod x 256))] : List (Int)).length) * 1 ≤ 2 ^ 40) ∧ Y (q ++ ([(IntKind.u8.wrap (Int.tmod x 256))] : List (Int))) (IntKind.i64.wrap (Int.tdiv x 256)) (IntKind.i64.wrap (k + 1))) ∧ (¬(k < 4) → X q (bitsN l[i] : Nat) ((i + 1 : Nat) : Int))) → Y q x k) → Y (o ++ ([(z : Int)] : List Int)) (y : Int) (z : Int) := by
    intro z hz Y hY
    refine bytes_loop (5 * i + 5) (X := Y) (N := 4) (fun q x k hk hx hq hn2 => hY _ _ _ ⟨fun _ => ⟨by rw [len1]; omega, ?_⟩, fun c => absurd (show (k : Int) < 4 by omega) c⟩) (nb y) z y _ hz hy32 (by rw [List.length_append, List.length_singleton]; omega) (fun _ _ => trivial) (fun w => hY _ _ _ ⟨fun c => absurd c (by omega), fun _ => ?_⟩)
    · rw [tmod8, u8wrap, Nat.mod_mod, show (256 : Int) = ((256 : Nat) : Int) from rfl, tdivN _ _ (by omega), w1 (by omega)]; exact hn2
    · rw [List.append_assoc]
      rw [oneB, show 4 - nb y = z by omega] at hn; exact hn
  have wz : ∀ z : Nat, z ≤ 4 → IntKind.u8.wrap (z : Int) = (z : Int) := fun z hz => by rw [u8wrap]; omega
  have q3 : y < 256 → Z ((3 : Nat) : Int) ((1 : Nat) : Int) := fun hy3 => by
    refine hZ _ _ ⟨fun _ => ⟨by decide, ?_⟩, fun c => absurd (by decide) c⟩
    rw [tdivN _ _ (by omega), Nat.div_one]
    refine ⟨fun c => ⟨fun _ => ⟨by rw [len1]; omega, ?_⟩, fun c2 => absurd rfl c2⟩, fun c => ⟨by rw [len1]; omega, ?_⟩⟩
    · rw [w1 (by decide), wz 4 (by decide)]
      exact fin 4 (by unfold nb; rw [if_pos (by omega)])
    · rw [wz 3 (by decide)]
      exact fin 3 (by unfold nb; rw [if_neg (by omega), if_pos (by omega)])
  have q2 : y < 65536 → Z ((2 : Nat) : Int) ((256 : Nat) : Int) := fun hy3 => by
    refine hZ _ _ ⟨fun _ => ⟨by decide, ?_⟩, fun c => absurd (by decide) c⟩
    rw [tdivN _ _ (by omega), w1 (by decide), show IntKind.i64.wrap (Int.tdiv ((256 : Nat) : Int) 256) = ((1 : Nat) : Int) by decide]
    refine ⟨fun c => ⟨fun c2 => absurd c2 (by decide), fun _ => q3 (by omega)⟩, fun c => ⟨by rw [len1]; omega, ?_⟩⟩
    rw [wz 2 (by decide)]
    exact fin 2 (by unfold nb; rw [if_neg (by omega), if_neg (by omega), if_pos (by omega)])
  have q1 : y < 16777216 → Z ((1 : Nat) : Int) ((65536 : Nat) : Int) := fun hy3 => by
    refine hZ _ _ ⟨fun _ => ⟨by decide, ?_⟩, fun c => absurd (by decide) c⟩
    rw [tdivN _ _ (by omega), w1 (by decide), show IntKind.i64.wrap (Int.tdiv ((65536 : Nat) : Int) 256) = ((256 : Nat) : Int) by decide]
    refine ⟨fun c => ⟨fun c2 => absurd c2 (by decide), fun _ => q2 (by omega)⟩, fun c => ⟨by rw [len1]; omega, ?_⟩⟩
    rw [wz 1 (by decide)]
    exact fin 1 (by unfold nb; rw [if_neg (by omega), if_neg (by omega), if_neg (by omega), if_pos (by omega)])
  show Z ((0 : Nat) : Int) ((16777216 : Nat) : Int)
  refine hZ _ _ ⟨fun _ => ⟨by decide, ?_⟩, fun c => absurd (by decide) c⟩
  rw [tdivN _ _ (by omega), w1 (by decide), show IntKind.i64.wrap (Int.tdiv ((16777216 : Nat) : Int) 256) = ((65536 : Nat) : Int) by decide]
  refine ⟨fun c => ⟨fun c2 => absurd c2 (by decide), fun _ => q1 (by omega)⟩, fun c => ⟨by rw [len1]; omega, ?_⟩⟩
  rw [wz 0 (by decide)]
  exact fin 0 (by unfold nb; rw [if_neg (by omega), if_neg (by omega), if_neg (by omega), if_neg (by omega)])

end Go.Proofs.Ytkaidcgelbhofaa.G

namespace Go.Proofs.Ytkaidcgelbhofaa.G
open Go Go.Ab
set_option maxRecDepth 100000
set_option linter.unusedVariables false
set_option linter.unusedSimpArgs false
set_option maxHeartbeats 1000000
theorem szFloat32S_wp {l : List Nat} {n : Int} {K : Int → Prop} (hl : l.length ≤ maxLen) (hn : 0 ≤ n ∧ n ≤ 2 ^ 40) (h0 : K (-1)) (h : (l.length : Int) ≤ n → K (n - (l.length : Int))) : laws_szFloat32S.wp l n K := by
  have hm : l.length < 2 ^ 63 := Nat.lt_of_le_of_lt hl (by decide)
  have e : IntKind.i64.wrap (n - (l.length : Int)) = n - (l.length : Int) := wI (by omega)
  refine ⟨fun c => h0, fun c => ?_⟩
  rw [e] at c ⊢; exact h (by omega)
theorem eqTake_wp {a : List UInt8} {k : Int} {l : List Nat} {K : Bool → Prop} (hl : l.length ≤ 2 ^ 20) (h : K true) : laws_eqTake.wp a k l a k l K :=
  tP rfl (tP rfl (eqFloat32S_wp hl (tT h)))
def btOk (a : List UInt8) (i : Nat) : Bool := !decide (bt a i < 97) && !decide (122 < bt a i)
def isNm (a : List UInt8) : Bool := (List.range a.length).all (btOk a) && decide (1 ≤ (a.length : Int) ∧ (a.length : Int) ≤ 8)
theorem range_get2 {n i : Nat} (h : i < (List.range n).length) : (List.range n)[i] = i := List.getElem_range h
theorem nm_yes {a : List UInt8} (h : (List.range a.length).all (btOk a) = true) : isNm a = decide (1 ≤ (a.length : Int) ∧ (a.length : Int) ≤ 8) := by rw [isNm, h]; rfl
theorem nm_no {a : List UInt8} (h : (List.range a.length).all (btOk a) = false) : isNm a = false := by rw [isNm, h]; rfl
theorem spec_l07Name_wp {a : List UInt8} {K : Bool → Prop} (ha : a.length ≤ 2 ^ 40) (h : K (isNm a)) : spec_l07Name.wp a K := by
  intro X hX
  refine all_loop (List.range a.length) (btOk a) (X := X) (T := K (decide (1 ≤ (a.length : Int) ∧ (a.length : Int) ≤ 8))) (F := K false) (fun i hi hh => ?_) (fun ht => hX _ ⟨fun c => absurd c (by rw [List.length_range]; omega), fun _ => ⟨fun h1 => ?_, fun h1 => ?_⟩⟩) (fun e => by rw [nm_yes e] at h; exact h) (fun e => by rw [nm_no e] at h; exact h)
  · rw [range_get2] at hh; rw [List.length_range] at hi
    refine hX _ ⟨fun _ => ⟨⟨by omega, by omega⟩, ?_⟩, fun c => absurd (show (i : Int) < a.length by omega) c⟩
    rw [w1 (by omega)]
    refine ⟨fun c1 => hh.2 (by rw [btOk, decide_eq_true c1]; rfl), fun c1 => ⟨fun c2 => hh.2 (by rw [btOk, decide_eq_true c2, Bool.not_true, Bool.and_false]), fun c2 => hh.1 (by rw [btOk, decide_eq_false c1, decide_eq_false c2]; rfl)⟩⟩
  · rw [show decide (1 ≤ (a.length : Int) ∧ (a.length : Int) ≤ 8) = decide ((a.length : Int) ≤ 8) by simp [h1]] at ht; exact ht
  · rw [show decide (1 ≤ (a.length : Int) ∧ (a.length : Int) ≤ 8) = false by simp [h1]] at ht; exact ht
theorem impl_IsName_wp {a : List UInt8} {K : Bool → Prop} (ha : a.length ≤ 2 ^ 40) (h : K (isNm a)) : impl_IsName.wp a K := by
  intro X hX
  refine all_loop (List.range a.length) (btOk a) (X := X) (T := K (decide (1 ≤ (a.length : Int) ∧ (a.length : Int) ≤ 8))) (F := K false) (fun i hi hh => ?_) (fun ht => hX _ ⟨fun c => absurd c (by rw [List.length_range]; omega), fun _ => ⟨fun h1 => ?_, fun h1 => ?_⟩⟩) (fun e => by rw [nm_yes e] at h; exact h) (fun e => by rw [nm_no e] at h; exact h)
  · rw [range_get2] at hh; rw [List.length_range] at hi
    refine hX _ ⟨fun _ => ⟨⟨by omega, by omega⟩, ?_⟩, fun c => absurd (show (i : Int) < a.length by omega) c⟩
    rw [w1 (by omega)]
    refine ⟨fun c1 => hh.2 (by rw [btOk, decide_eq_true c1]; rfl), fun c1 => ⟨fun c2 => hh.2 (by rw [btOk, decide_eq_true c2, Bool.not_true, Bool.and_false]), fun c2 => hh.1 (by rw [btOk, decide_eq_false c1, decide_eq_false c2]; rfl)⟩⟩
  · rw [show decide (1 ≤ (a.length : Int) ∧ (a.length : Int) ≤ 8) = decide ((a.length : Int) ≤ 8) by simp [h1]] at ht; exact ht
  · rw [show decide (1 ≤ (a.length : Int) ∧ (a.length : Int) ≤ 8) = false by simp [h1]] at ht; exact ht
def isVals (l : List Nat) : Bool := decide (1 ≤ (l.length : Int) ∧ (l.length : Int) ≤ 128)
theorem spec_l07Values_wp {l : List Nat} {K : Bool → Prop} (h : K (isVals l)) : spec_l07Values.wp l K := by
  unfold isVals at h
  refine ⟨fun h1 => ?_, fun h1 => ?_⟩
  · rw [show decide (1 ≤ (l.length : Int) ∧ (l.length : Int) ≤ 128) = decide ((l.length : Int) ≤ 128) by simp [h1]] at h; exact h
  · rw [show decide (1 ≤ (l.length : Int) ∧ (l.length : Int) ≤ 128) = false by simp [h1]] at h; exact h
def isTk (a : List UInt8) (k : Int) (l : List Nat) : Bool := isNm a && decide (1 ≤ k ∧ k ≤ 65535) && isVals l
theorem spec_l07Take_wp {a : List UInt8} {k : Int} {l : List Nat} {K : Bool → Prop} (ha : a.length ≤ 2 ^ 40) (h : K (isTk a k l)) : spec_l07Take.wp a k l K := by
  refine spec_l07Name_wp ha ⟨fun h1 => spec_l00In_wp ⟨fun h2 => spec_l07Values_wp ?_, fun h2 => ?_⟩, fun h1 => ?_⟩
  · rw [isTk, h1, h2] at h; exact h
  · rw [isTk, h1, h2] at h; exact h
  · rw [isTk, h1] at h; exact h
theorem impl_ValidTake_wp {a : List UInt8} {k : Int} {l : List Nat} {K : Bool → Prop} (ha : a.length ≤ 2 ^ 40) (h : K (isTk a k l)) : impl_ValidTake.wp a k l K := by
  refine impl_IsName_wp ha ⟨fun h1 => impl_within_wp ⟨fun h2 => impl_within_wp ?_, fun h2 => ?_⟩, fun h1 => ?_⟩
  · rw [isTk, h1, h2] at h; exact h
  · rw [isTk, h1, h2] at h; exact h
  · rw [isTk, h1] at h; exact h

end Go.Proofs.Ytkaidcgelbhofaa.G

namespace Go.Proofs.Ytkaidcgelbhofaa.G
open Go Go.Ab
set_option maxRecDepth 100000
set_option linter.unusedVariables false
set_option linter.unusedSimpArgs false
set_option maxHeartbeats 1000000
theorem szBoolS_wp {l : List Bool} {n : Int} {K : Int → Prop} (hl : l.length ≤ maxLen) (hn : 0 ≤ n ∧ n ≤ 2 ^ 40) (h0 : K (-1)) (h : (l.length : Int) ≤ n → K (n - (l.length : Int))) : laws_szBoolS.wp l n K := by
  have hm : l.length < 2 ^ 63 := Nat.lt_of_le_of_lt hl (by decide)
  have e : IntKind.i64.wrap (n - (l.length : Int)) = n - (l.length : Int) := wI (by omega)
  refine ⟨fun c => h0, fun c => ?_⟩
  rw [e] at c ⊢; exact h (by omega)
theorem szScheme_wp {l : List Nat} {s : Nat} {n : Int} {K : Int → Prop} (hl : l.length ≤ maxLen) (hn : 0 ≤ n ∧ n ≤ 2 ^ 40) (h0 : K (-1)) (h : (l.length : Int) ≤ n → K (n - (l.length : Int))) : laws_szScheme.wp l s n K :=
  szFloat32S_wp hl hn (tP (by omega) h0) fun h1 => tN (by omega) (h h1)
theorem szCoded_wp {a b : Int} {l : List Bool} {n : Int} {K : Int → Prop} (hl : l.length ≤ maxLen) (hn : 0 ≤ n ∧ n ≤ 2 ^ 40) (h0 : K (-1)) (h : (l.length : Int) ≤ n → K (n - (l.length : Int))) : laws_szCoded.wp a b l n K :=
  szBoolS_wp hl hn (tP (by omega) h0) fun h1 => tN (by omega) (h h1)
theorem toScheme_wp {l : List Nat} {s : Nat} {K : List Nat → Nat → Prop} (hl : l.length ≤ 2 ^ 20) (h : K l s) : laws_toScheme.wp l s K := toFloat32S_wp hl h
theorem toCoded_wp {a b : Int} {l : List Bool} {K : Int → Int → List Bool → Prop} (hl : l.length ≤ 2 ^ 20) (h : K a b l) : laws_toCoded.wp a b l K := toBoolS_wp hl h
theorem eqScheme_wp {l : List Nat} {s : Nat} {K : Bool → Prop} (hl : l.length ≤ 2 ^ 20) (h : K true) : laws_eqScheme.wp l s l s K := eqFloat32S_wp hl (tT (sameFloat_wp (tT h)))
theorem eqCoded_wp {a b : Int} {l : List Bool} {K : Bool → Prop} (hl : l.length ≤ 2 ^ 20) (h : K true) : laws_eqCoded.wp a b l a b l K := tP rfl (tP rfl (eqBoolS_wp hl (tT h)))
def isSch (l : List Nat) (s : Nat) : Bool := decide (1 ≤ (l.length : Int) ∧ (l.length : Int) ≤ 8) && pAll l && isOver s
theorem spec_l02Scheme_wp {l : List Nat} {s : Nat} {K : Bool → Prop} (hl : l.length ≤ 2 ^ 20) (h : K (isSch l s)) : spec_l02Scheme.wp l s K := by
  refine ⟨fun h1 => ⟨fun h2 => ?_, fun h2 => ?_⟩, fun h1 => ?_⟩
  · rw [isSch, decide_eq_true ⟨h1, h2⟩, Bool.true_and] at h
    refine spec_l02Finite_wp hl ⟨fun h3 => spec_l02Above_wp ?_, fun h3 => ?_⟩ <;> (rw [h3] at h; exact h)
  · rw [isSch, decide_eq_false (by omega)] at h; exact h
  · rw [isSch, decide_eq_false (by omega)] at h; exact h
theorem impl_ValidScheme_wp {l : List Nat} {s : Nat} {K : Bool → Prop} (hl : l.length ≤ 2 ^ 20) (h : K (isSch l s)) : impl_ValidScheme.wp l s K := by
  refine impl_within_wp ⟨fun h1 => impl_areFinite1_wp hl ⟨fun h3 => impl_isOver_wp ?_, fun h3 => ?_⟩, fun h1 => ?_⟩
  · rw [isSch, h1, h3] at h; exact h
  · rw [isSch, h1, h3] at h; exact h
  · rw [isSch, h1] at h; exact h
def isPic (a b : Int) (l : List Nat) : Bool := decide (1 ≤ a ∧ a ≤ 16) && decide (1 ≤ b ∧ b ≤ 16) && decide ((l.length : Int) = a * b) && pAll l
theorem w16 {a b : Int} (h1 : decide (1 ≤ a ∧ a ≤ 16) = true) (h2 : decide (1 ≤ b ∧ b ≤ 16) = true) : IntKind.i64.wrap (a * b) = a * b := by
  simp only [decide_eq_true_eq] at h1 h2
  obtain ⟨an, rfl⟩ : ∃ n : Nat, a = n := ⟨a.toNat, by omega⟩
  obtain ⟨bn, rfl⟩ : ∃ n : Nat, b = n := ⟨b.toNat, by omega⟩
  have : an * bn ≤ 16 * 16 := Nat.mul_le_mul (by omega) (by omega)
  rw [show (an : Int) * (bn : Int) = ((an * bn : Nat) : Int) from rfl]
  exact wI (by omega)
def isCod (a b : Int) (l : List Bool) : Bool := decide (1 ≤ a ∧ a ≤ 128) && decide (0 ≤ b ∧ b ≤ 24) && decide ((l.length : Int) ≤ 32768)
theorem spec_l06Is_wp {a b : Int} {l : List Bool} {K : Bool → Prop} (h : K (isCod a b l)) : spec_l06Is.wp a b l K := by
  refine spec_l00In_wp ⟨fun h1 => spec_l00In_wp ⟨fun h2 => ?_, fun h2 => ?_⟩, fun h1 => ?_⟩
  · rw [isCod, h1, h2] at h; exact h
  · rw [isCod, h1, h2] at h; exact h
  · rw [isCod, h1] at h; exact h
theorem impl_ValidCoded_wp {a b : Int} {l : List Bool} {K : Bool → Prop} (h : K (isCod a b l)) : impl_ValidCoded.wp a b l K := by
  refine impl_within_wp ⟨fun h1 => impl_within_wp ⟨fun h2 => ?_, fun h2 => ?_⟩, fun h1 => ?_⟩
  · rw [isCod, h1, h2] at h; exact h
  · rw [isCod, h1, h2] at h; exact h
  · rw [isCod, h1] at h; exact h
def isDesk (l m : List Nat) (s : Nat) (w v : Int) (p : List Nat) (c t : Int) (b : List Bool) : Bool := isL l && isSch m s && isPic w v p && isCod c t b

end Go.Proofs.Ytkaidcgelbhofaa.G

namespace Go.Proofs.Ytkaidcgelbhofaa.G
open Go Go.Ab
set_option maxRecDepth 100000
set_option linter.unusedVariables false
set_option linter.unusedSimpArgs false
set_option maxHeartbeats 1000000
abbrev Q3 := List Nat × List Int × Nat
def rS (bs : List Bool) (k : Nat) : Nat → Nat → List Nat → List Int → Nat → Q3
  | 0, _, z, g, a => (z, g, a)
  | n + 1, i, z, g, a =>
    if a < bs.length then
      if bs.getD a false = true then
        if z.getD i 0 = 0 then
          if a + 1 = bs.length then (z, g, a + 1)
          else rS bs k n (i + 1) (z.set i (z.getD i 0 + 2 ^ k)) (if bs.getD (a + 1) false = true then (g.set i 1).set i (-1) else g.set i 1) (a + 1 + 1)
        else rS bs k n (i + 1) (z.set i (z.getD i 0 + 2 ^ k)) g (a + 1)
      else rS bs k n (i + 1) z g (a + 1)
    else (z, g, a)
def rI (bs : List Bool) (k : Nat) : Nat → Nat → List Nat → List Int → Nat → Q3
  | 0, _, z, g, a => (z, g, a)
  | n + 1, i, z, g, a =>
    if a = bs.length then (z, g, a)
    else if bs.getD a false = true then
      if g.getD i 0 = 0 then
        if a + 1 < bs.length then rI bs k n (i + 1) (z.set i (z.getD i 0 + 2 ^ k)) (if bs.getD (a + 1) false = true then (g.set i 1).set i (-1) else g.set i 1) (a + 1 + 1)
        else rI bs k n (i + 1) (z.set i (z.getD i 0 + 2 ^ k)) g (a + 1)
      else rI bs k n (i + 1) (z.set i (z.getD i 0 + 2 ^ k)) g (a + 1)
    else rI bs k n (i + 1) z g (a + 1)
def pS (bs : List Bool) (c : Nat) : Nat → Q3 → Q3
  | 0, s => s
  | k + 1, s => pS bs c k (rS bs k c 0 s.1 s.2.1 s.2.2)
def pI (bs : List Bool) (c : Nat) : Nat → Q3 → Q3
  | 0, s => s
  | k + 1, s => pI bs c k (rI bs k c 0 s.1 s.2.1 s.2.2)
/-- A size is nothing where no sign has been told. -/
def zg (z : List Nat) (g : List Int) : Prop := ∀ i, z.getD i 0 = 0 ↔ g.getD i 0 = 0
theorem getD_set_eq {α : Type} (l : List α) (i j : Nat) (x d : α) : (l.set i x).getD j d = if i = j ∧ i < l.length then x else l.getD j d := by
  simp only [List.getD_eq_getElem?_getD, List.getElem?_set]
  by_cases h : i = j
  · subst h
    by_cases h2 : i < l.length
    · simp [h2]
    · simp [h2]
  · simp [h]
theorem zg_set {z : List Nat} {g : List Int} {i n : Nat} {x : Int} (h : zg z g) (hl : z.length = g.length) (hn : n ≠ 0) (hx : x ≠ 0) : zg (z.set i n) (g.set i x) := by
  intro j
  rw [getD_set_eq, getD_set_eq, hl]
  split
  · exact ⟨fun e => absurd e hn, fun e => absurd e hx⟩
  · exact h j
theorem zg_set1 {z : List Nat} {g : List Int} {i n : Nat} (h : zg z g) (hl : z.length = g.length) (hn : n ≠ 0) (hx : g.getD i 0 ≠ 0) : zg (z.set i n) g := by
  intro j
  rw [getD_set_eq]
  split
  · rename_i e; obtain ⟨rfl, _⟩ := e; exact ⟨fun e => absurd e hn, fun e => absurd e hx⟩
  · exact h j
structure Rl (bs : List Bool) (s t : Q3) : Prop where
  g : s.2.1 = t.2.1
  a : s.2.2 = t.2.2
  le : s.2.2 ≤ bs.length
  len : s.1.length = s.2.1.length
  z : (s.1 = t.1 ∧ zg s.1 s.2.1) ∨ (s.2.2 = bs.length ∧ ∃ j c, t.1 = s.1.set j c ∧ s.2.1.getD j 0 = 0)
theorem two_ne (n k : Nat) : n + 2 ^ k ≠ 0 := by have := Nat.two_pow_pos k; omega
theorem rS_end (bs : List Bool) (k n i : Nat) (z : List Nat) (g : List Int) : rS bs k n i z g bs.length = (z, g, bs.length) := by
  cases n with
  | zero => rfl
  | succ n => rw [rS, if_neg (Nat.lt_irrefl _)]
theorem rI_end (bs : List Bool) (k n i : Nat) (z : List Nat) (g : List Int) : rI bs k n i z g bs.length = (z, g, bs.length) := by
  cases n with
  | zero => rfl
  | succ n => rw [rI, if_pos rfl]
theorem r_sim (bs : List Bool) (k : Nat) : ∀ (n i : Nat) (z : List Nat) (g : List Int) (a : Nat), a ≤ bs.length → z.length = g.length → zg z g → Rl bs (rS bs k n i z g a) (rI bs k n i z g a)
  | 0, i, z, g, a, h1, h2, h3 => ⟨rfl, rfl, h1, h2, .inl ⟨rfl, h3⟩⟩
  | n + 1, i, z, g, a, h1, h2, h3 => by
    rw [rS, rI]
    by_cases ha : a < bs.length
    · rw [if_pos ha, if_neg (show ¬ a = bs.length by omega)]
      by_cases hb : bs.getD a false = true
      · rw [if_pos hb, if_pos hb]
        by_cases hz : z.getD i 0 = 0
        · have hg := (h3 i).1 hz
          rw [if_pos hz, if_pos hg]
          by_cases he : a + 1 = bs.length
          · rw [if_pos he, if_neg (show ¬ a + 1 < bs.length by omega), he, rI_end]
            exact ⟨rfl, rfl, Nat.le_refl _, h2, .inr ⟨rfl, i, _, rfl, hg⟩⟩
          · rw [if_neg he, if_pos (show a + 1 < bs.length by omega)]
            refine r_sim bs k n (i + 1) _ _ _ (by omega) ?_ ?_
            · rw [List.length_set]; split <;> simp [h2]
            · split
              · rw [List.set_set]; exact zg_set h3 h2 (two_ne _ _) (by decide)
              · exact zg_set h3 h2 (two_ne _ _) (by decide)
        · have hg : ¬ g.getD i 0 = 0 := fun e => hz ((h3 i).2 e)
          rw [if_neg hz, if_neg hg]
          exact r_sim bs k n (i + 1) _ _ _ (by omega) (by rw [List.length_set]; exact h2) (zg_set1 h3 h2 (two_ne _ _) hg)
      · rw [if_neg hb, if_neg hb]
        exact r_sim bs k n (i + 1) _ _ _ (by omega) h2 h3
    · obtain rfl : a = bs.length := by omega
      rw [if_neg ha, if_pos rfl]
      exact ⟨rfl, rfl, h1, h2, .inl ⟨rfl, h3⟩⟩
theorem p_sim (bs : List Bool) (c : Nat) : ∀ (k : Nat) (s t : Q3), Rl bs s t → Rl bs (pS bs c k s) (pI bs c k t)
  | 0, s, t, h => h
  | k + 1, s, t, h => by
    rw [pS, pI]
    refine p_sim bs c k _ _ ?_
    obtain ⟨z, g, a⟩ := s
    obtain ⟨z', g', a'⟩ := t
    obtain ⟨h1, h2, h3, h4, h5⟩ := h
    dsimp only at h1 h2 h3 h4 h5 ⊢
    subst h1; subst h2
    rcases h5 with ⟨rfl, h5⟩ | ⟨rfl, j, d, rfl, h5⟩
    · exact r_sim bs k c 0 _ _ _ h3 h4 h5
    · rw [rS_end, rI_end]
      exact ⟨rfl, rfl, Nat.le_refl _, h4, .inr ⟨rfl, j, d, rfl, h5⟩⟩
/-! ### sizes: bounds, digits -/
def nats (l : List Nat) : List Int := l.map fun (n : Nat) => (n : Int)
theorem nats_len (l : List Nat) : (nats l).length = l.length := by simp [nats]
theorem nats_getD (l : List Nat) (i : Nat) : (nats l).getD i 0 = ((l.getD i 0 : Nat) : Int) := by
  simp only [nats, List.getD_eq_getElem?_getD, List.getElem?_map]
  cases l[i]? <;> rfl
theorem nats_set (l : List Nat) (i n : Nat) : (nats l).set i (n : Int) = nats (l.set i n) := by simp [nats, List.map_set]
/-- Sizes in the middle of plane k at index i. -/
def dig (k i : Nat) (z : List Nat) : Prop := ∀ j, z.getD j 0 < 2 ^ 24 ∧ (if j < i then z.getD j 0 % 2 ^ k = 0 else z.getD j 0 % 2 ^ (k + 1) = 0)
theorem dig_skip {k i : Nat} {z : List Nat} (h : dig k i z) : dig k (i + 1) z := by
  intro j
  obtain ⟨h1, h2⟩ := h j
  refine ⟨h1, ?_⟩
  split
  · split at h2
    · exact h2
    · rw [Nat.pow_succ] at h2
      exact Nat.mod_eq_zero_of_dvd (Nat.dvd_trans (Nat.dvd_mul_right _ _) (Nat.dvd_of_mod_eq_zero h2))
  · rw [if_neg (by omega)] at h2; exact h2
theorem dig_lt {k v : Nat} (hk : k < 24) (h1 : v < 2 ^ 24) (h2 : v % 2 ^ (k + 1) = 0) : v + 2 ^ k < 2 ^ 24 := by
  obtain ⟨q, rfl⟩ := Nat.dvd_of_mod_eq_zero h2
  obtain ⟨d, hd⟩ : ∃ d, 24 = k + 1 + d := ⟨24 - (k + 1), by omega⟩
  have e : (2 : Nat) ^ (k + 1 + d) = 2 ^ (k + 1) * 2 ^ d := Nat.pow_add ..
  have hq : q < 2 ^ d := by
    rw [hd, e] at h1
    exact Nat.lt_of_mul_lt_mul_left h1
  have h3 : 2 ^ (k + 1) * q + 2 ^ (k + 1) ≤ 2 ^ (k + 1) * 2 ^ d := by
    rw [← Nat.mul_succ]; exact Nat.mul_le_mul_left _ hq
  have h4 : (2 : Nat) ^ k < 2 ^ (k + 1) := Nat.pow_lt_pow_right (by decide) (by omega)
  rw [hd, e]; omega
theorem dig_set {k i : Nat} {z : List Nat} (hk : k < 24) (h : dig k i z) : dig k (i + 1) (z.set i (z.getD i 0 + 2 ^ k)) := by
  intro j
  rw [getD_set_eq]
  split
  · rename_i e
    obtain ⟨rfl, _⟩ := e
    obtain ⟨h1, h2⟩ := h i
    rw [if_neg (Nat.lt_irrefl _)] at h2
    refine ⟨dig_lt hk h1 h2, ?_⟩
    rw [if_pos (Nat.lt_succ_self _)]
    rw [Nat.pow_succ] at h2
    have : z.getD i 0 % 2 ^ k = 0 := Nat.mod_eq_zero_of_dvd (Nat.dvd_trans (Nat.dvd_mul_right _ _) (Nat.dvd_of_mod_eq_zero h2))
    rw [Nat.add_mod, this, Nat.mod_self]; rfl
  · exact dig_skip h j
theorem dig_zero (k c : Nat) : dig k 0 (List.replicate c 0) := by
  intro j
  have : (List.replicate c 0).getD j 0 = 0 := by
    simp only [List.getD_eq_getElem?_getD, List.getElem?_replicate]; split <;> rfl
  rw [this]; exact ⟨by decide, by rw [if_neg (Nat.not_lt_zero _)]; exact Nat.zero_mod _⟩
theorem dig_next {k c : Nat} {z : List Nat} (h : dig (k + 1) c z) (hz : z.length ≤ c) : dig k 0 z := by
  intro j
  obtain ⟨h1, h2⟩ := h j
  refine ⟨h1, ?_⟩
  rw [if_neg (Nat.not_lt_zero _)]
  by_cases hj : j < c
  · rw [if_pos hj] at h2; exact h2
  · have : z.getD j 0 = 0 := by rw [List.getD_eq_getElem?_getD, List.getElem?_eq_none (by omega)]; rfl
    rw [this]; exact Nat.zero_mod _
theorem or_add {v k : Nat} (hk : k < 24) (h1 : v < 2 ^ 24) (h2 : v % 2 ^ (k + 1) = 0) : ibits .or .i64 (v : Int) ((2 ^ k : Nat) : Int) = ((v + 2 ^ k : Nat) : Int) := by
  have hlt := dig_lt hk h1 h2
  have h3 : (2 : Nat) ^ k < 2 ^ (k + 1) := Nat.pow_lt_pow_right (by decide) (by omega)
  obtain ⟨q, hq⟩ := Nat.dvd_of_mod_eq_zero h2
  have e : v ||| 2 ^ k = v + 2 ^ k := by
    rw [hq]; exact (Nat.two_pow_add_eq_or_of_lt h3 q).symm
  show IntKind.i64.wrap (((BitVec.ofInt 64 (v : Int) ||| BitVec.ofInt 64 ((2 ^ k : Nat) : Int)).toNat : Nat) : Int) = _
  rw [BitVec.toNat_or, BitVec.ofInt_natCast, BitVec.ofInt_natCast, BitVec.toNat_ofNat, BitVec.toNat_ofNat, Nat.mod_eq_of_lt (Nat.lt_trans h1 (by decide)), Nat.mod_eq_of_lt (by omega), e, wI (by omega)]
theorem shW {k : Nat} (hk : k < 24) : IntKind.i64.wrap ((1 : Int) * (2 ^ (min ((k : Int)).toNat IntKind.i64.bits))) = ((2 ^ k : Nat) : Int) := by
  have e : min ((k : Int)).toNat IntKind.i64.bits = k := by rw [Int.toNat_natCast, show IntKind.i64.bits = 64 from rfl]; omega
  have h : (2 : Nat) ^ k < 2 ^ 24 := Nat.pow_lt_pow_right (by decide) hk
  rw [e, Int.one_mul, show (2 : Int) ^ k = ((2 ^ k : Nat) : Int) by rw [Int.natCast_pow]; rfl]
  generalize 2 ^ k = m at h ⊢
  exact wI (by omega)
theorem u64N {k : Nat} (hk : k < 24) : IntKind.u64.wrap (k : Int) = (k : Int) := by show (k : Int) % 18446744073709551616 = _; omega
theorem wm1 (k : Nat) (h : k < 2 ^ 40) : IntKind.i64.wrap (((k + 1 : Nat) : Int) - 1) = (k : Int) := by rw [wI (by omega)]; omega
/-! ### the rows -/
def outOf (c : Nat) (s : Q3) : List Int := (List.range c).map fun i => IntKind.i64.wrap (((s.1.getD i 0 : Nat) : Int) * s.2.1.getD i 0)
theorem out_len (c : Nat) (s : Q3) : (outOf c s).length = c := by simp [outOf]
theorem out_succ (c : Nat) (s : Q3) : outOf (c + 1) s = outOf c s ++ [IntKind.i64.wrap (((s.1.getD c 0 : Nat) : Int) * s.2.1.getD c 0)] := by simp [outOf, List.range_succ]
theorem out_eq {bs : List Bool} {s t : Q3} (c : Nat) (h : Rl bs s t) : outOf c s = outOf c t := by
  obtain ⟨z, g, a⟩ := s
  obtain ⟨z', g', a'⟩ := t
  obtain ⟨h1, h2, h3, h4, h5⟩ := h
  dsimp only at h1 h2 h3 h4 h5
  subst h1
  rcases h5 with ⟨rfl, _⟩ | ⟨_, j, d, rfl, h5⟩
  · rfl
  · refine List.map_congr_left fun i _ => ?_
    show IntKind.i64.wrap (((z.getD i 0 : Nat) : Int) * g.getD i 0) = IntKind.i64.wrap ((((z.set j d).getD i 0 : Nat) : Int) * g.getD i 0)
    rw [getD_set_eq]
    split
    · rename_i e
      obtain ⟨rfl, _⟩ := e
      rw [h5, Int.mul_zero, Int.mul_zero]
    · rfl
theorem rI_len (bs : List Bool) (k : Nat) : ∀ (n i : Nat) (z : List Nat) (g : List Int) (a : Nat), (rI bs k n i z g a).1.length = z.length ∧ (rI bs k n i z g a).2.1.length = g.length
  | 0, _, _, _, _ => ⟨rfl, rfl⟩
  | n + 1, i, z, g, a => by
    rw [rI]
    split
    · exact ⟨rfl, rfl⟩
    · split
      · split
        · split
          · have := rI_len bs k n (i + 1) (z.set i (z.getD i 0 + 2 ^ k)) (if bs.getD (a + 1) false = true then (g.set i 1).set i (-1) else g.set i 1) (a + 1 + 1)
            rw [List.length_set] at this
            refine ⟨this.1, this.2.trans ?_⟩
            split <;> simp
          · have := rI_len bs k n (i + 1) (z.set i (z.getD i 0 + 2 ^ k)) g (a + 1)
            rw [List.length_set] at this; exact this
        · have := rI_len bs k n (i + 1) (z.set i (z.getD i 0 + 2 ^ k)) g (a + 1)
          rw [List.length_set] at this; exact this
      · exact rI_len bs k n (i + 1) z g (a + 1)
theorem rI_dig (bs : List Bool) {k : Nat} (hk : k < 24) : ∀ (n i : Nat) (z : List Nat) (g : List Int) (a : Nat), dig k i z → dig k (i + n) (rI bs k n i z g a).1
  | 0, _, _, _, _, h => h
  | n + 1, i, z, g, a, h => by
    have skip : ∀ m, dig k (i + m) z := fun m => by
      induction m with
      | zero => exact h
      | succ m ih => exact dig_skip ih
    rw [rI, show i + (n + 1) = i + 1 + n by omega]
    split
    · have := skip (n + 1); rw [show i + (n + 1) = i + 1 + n by omega] at this; exact this
    · split
      · split
        · split
          · exact rI_dig bs hk n _ _ _ _ (dig_set hk h)
          · exact rI_dig bs hk n _ _ _ _ (dig_set hk h)
        · exact rI_dig bs hk n _ _ _ _ (dig_set hk h)
      · exact rI_dig bs hk n _ _ _ _ (dig_skip h)
theorem rS_len (bs : List Bool) (k : Nat) : ∀ (n i : Nat) (z : List Nat) (g : List Int) (a : Nat), (rS bs k n i z g a).1.length = z.length ∧ (rS bs k n i z g a).2.1.length = g.length
  | 0, _, _, _, _ => ⟨rfl, rfl⟩
  | n + 1, i, z, g, a => by
    rw [rS]
    split
    · split
      · split
        · split
          · exact ⟨rfl, rfl⟩
          · have := rS_len bs k n (i + 1) (z.set i (z.getD i 0 + 2 ^ k)) (if bs.getD (a + 1) false = true then (g.set i 1).set i (-1) else g.set i 1) (a + 1 + 1)
            rw [List.length_set] at this
            refine ⟨this.1, this.2.trans ?_⟩
            split <;> simp
        · have := rS_len bs k n (i + 1) (z.set i (z.getD i 0 + 2 ^ k)) g (a + 1)
          rw [List.length_set] at this; exact this
      · exact rS_len bs k n (i + 1) z g (a + 1)
    · exact ⟨rfl, rfl⟩
theorem rS_dig (bs : List Bool) {k : Nat} (hk : k < 24) : ∀ (n i : Nat) (z : List Nat) (g : List Int) (a : Nat), dig k i z → dig k (i + n) (rS bs k n i z g a).1
  | 0, _, _, _, _, h => h
  | n + 1, i, z, g, a, h => by
    have skip : ∀ m, dig k (i + m) z := fun m => by
      induction m with
      | zero => exact h
      | succ m ih => exact dig_skip ih
    have sk := skip (n + 1)
    rw [show i + (n + 1) = i + 1 + n by omega] at sk
    rw [rS, show i + (n + 1) = i + 1 + n by omega]
    split
    · split
      · split
        · split
          · exact sk
          · exact rS_dig bs hk n _ _ _ _ (dig_set hk h)
        · exact rS_dig bs hk n _ _ _ _ (dig_set hk h)
      · exact rS_dig bs hk n _ _ _ _ (dig_skip h)
    · exact sk
theorem rI_at (bs : List Bool) (k : Nat) : ∀ (n i : Nat) (z : List Nat) (g : List Int) (a : Nat), a ≤ bs.length → (rI bs k n i z g a).2.2 ≤ bs.length
  | 0, _, _, _, _, h => h
  | n + 1, i, z, g, a, h => by
    rw [rI]
    split
    · exact h
    · split
      · split
        · split
          · exact rI_at bs k n _ _ _ _ (by omega)
          · exact rI_at bs k n _ _ _ _ (by omega)
        · exact rI_at bs k n _ _ _ _ (by omega)
      · exact rI_at bs k n _ _ _ _ (by omega)
theorem rS_at (bs : List Bool) (k : Nat) : ∀ (n i : Nat) (z : List Nat) (g : List Int) (a : Nat), a ≤ bs.length → (rS bs k n i z g a).2.2 ≤ bs.length
  | 0, _, _, _, _, h => h
  | n + 1, i, z, g, a, h => by
    rw [rS]
    split
    · split
      · split
        · split
          · exact Nat.le_of_eq (by assumption)
          · exact rS_at bs k n _ _ _ _ (by omega)
        · exact rS_at bs k n _ _ _ _ (by omega)
      · exact rS_at bs k n _ _ _ _ (by omega)
    · exact h
def sIni (c : Nat) : Q3 := (List.replicate c 0, List.replicate c 0, 0)
/-- What both tell. -/
def lfOut (c t : Nat) (bs : List Bool) : Option (List Int) := if (pS bs c t (sIni c)).2.2 < bs.length then none else if isI (outOf c (pS bs c t (sIni c))) = true then some (outOf c (pS bs c t (sIni c))) else none
theorem lf_impl {c t : Nat} {bs : List Bool} {K : List Int → Bool → Prop} (hc : isCod c t bs = true) (h : ∀ o, lfOut c t bs = o → K (o.getD []) o.isSome) : impl_ListFrom.wp c t bs K := by
  have hc2 := hc
  unfold isCod at hc2
  rw [Bool.and_eq_true, Bool.and_eq_true, decide_eq_true_eq, decide_eq_true_eq, decide_eq_true_eq] at hc2
  obtain ⟨⟨c1, c2⟩, c3⟩ := hc2
  have hsim : Rl bs (pS bs c t (sIni c)) (pI bs c t (sIni c)) := p_sim bs c t _ _ ⟨rfl, rfl, Nat.zero_le _, by simp [sIni], .inl ⟨rfl, fun i => by
    simp only [sIni, List.getD_eq_getElem?_getD, List.getElem?_replicate]; split <;> simp⟩⟩
  have h' := h _ rfl
  unfold lfOut at h'
  rw [out_eq c hsim, hsim.a] at h'
  refine impl_ValidCoded_wp (tE hc ⟨by omega, fun X hX => ?_⟩)
  have key : ∀ (k : Nat) (s : Q3), k ≤ 24 → s.1.length = c → s.2.1.length = c → s.2.2 ≤ bs.length → (∀ k', k = k' + 1 → dig k' 0 s.1) → pI bs c k s = pI bs c t (sIni c) → X s.2.1 (nats s.1) (s.2.2 : Int) (IntKind.i64.wrap ((k : Int) - 1)) := by
    intro k
    induction k with
    | zero =>
      rintro ⟨z, g, a⟩ _ hz hg ha _ he
      rw [show pI bs c 0 (z, g, a) = (z, g, a) from rfl] at he
      rw [← he] at h'
      dsimp only at hz hg ha h' ⊢
      rw [wI (by omega)]
      refine hX _ _ _ _ ⟨fun c => absurd c (by omega), fun _ => ⟨fun hlt => ?_, fun hge Y hY => ?_⟩⟩
      · rw [if_pos (show a < bs.length by omega)] at h'; exact h'
      · rw [if_neg (show ¬ a < bs.length by omega)] at h'
        have key2 : Y (outOf 0 (z, g, a)) ((0 : Nat) : Int) := by
          refine up (Y := fun i => Y (outOf i (z, g, a)) (i : Int)) c ?_ fun i hi hn => ?_
          · refine hY _ _ ⟨fun c => absurd c (by rw [nats_len]; omega), fun _ => impl_AreIntegers_wp (by rw [out_len]; omega) ⟨fun e => ?_, fun e => ?_⟩⟩
            · rw [if_pos e] at h'; exact h'
            · rw [if_neg (by rw [e]; decide)] at h'; exact h'
          · refine hY _ _ ⟨fun _ => ⟨by rw [nats_len]; omega, by omega, by rw [out_len, len1]; omega, ?_⟩, fun c => absurd (show (i : Int) < _ by rw [nats_len]; omega) c⟩
            rw [nn, nats_getD, w1 (by omega)]
            rw [out_succ] at hn; exact hn
        exact key2
    | succ k ih =>
      rintro ⟨z, g, a⟩ hk hz hg ha hd he
      have hd0 := hd k rfl
      dsimp only at hz hg ha hd0 ⊢
      rw [wm1 _ (by omega)]
      refine hX _ _ _ _ ⟨fun _ Y hY => ?_, fun c => absurd (show (0 : Int) ≤ k by omega) c⟩
      have hI := rI_len bs k c 0 z g a
      have hnx := ih (rI bs k c 0 z g a) (by omega) (hI.1.trans hz) (hI.2.trans hg) (rI_at bs k c 0 z g a ha) (fun k' hk' => by
        subst hk'
        have := rI_dig bs (k := k' + 1) (by omega) c 0 z g a hd0
        rw [Nat.zero_add] at this
        exact dig_next this (by rw [hI.1]; omega)) he
      have row : ∀ (n i : Nat) (z1 : List Nat) (g1 : List Int) (a1 : Nat), i + n = c → z1.length = c → g1.length = c → a1 ≤ bs.length → dig k i z1 → rI bs k n i z1 g1 a1 = rI bs k c 0 z g a → Y g1 (nats z1) (a1 : Int) (i : Int) := by
        intro n
        induction n with
        | zero =>
          intro i z1 g1 a1 hi hz1 hg1 ha1 hd1 he1
          refine hY _ _ _ _ ⟨fun c => absurd c (by rw [nats_len]; omega), fun _ => ?_⟩
          rw [← he1] at hnx
          exact hnx
        | succ n ihn =>
          intro i z1 g1 a1 hi hz1 hg1 ha1 hd1 he1
          rw [rI] at he1
          refine hY _ _ _ _ ⟨fun _ => ⟨fun e => ?_, fun e => ?_⟩, fun c => absurd (show (i : Int) < _ by rw [nats_len]; omega) c⟩
          · rw [if_pos (show a1 = bs.length by omega)] at he1
            rw [← he1] at hnx
            exact hnx
          · rw [if_neg (show ¬ a1 = bs.length by omega)] at he1
            refine ⟨by omega, fun hb => ?_, fun hb => ?_⟩
            · rw [nn] at hb
              rw [if_pos hb] at he1
              obtain ⟨hv1, hv2⟩ := hd1 i
              rw [if_neg (Nat.lt_irrefl _)] at hv2
              have hor : ibits .or .i64 ((nats z1).getD i 0) (IntKind.i64.wrap ((1 : Int) * (2 ^ (min ((k : Int)).toNat IntKind.i64.bits)))) = ((z1.getD i 0 + 2 ^ k : Nat) : Int) := by
                rw [shW (by omega), nats_getD, or_add (by omega) hv1 hv2]
              have hds := dig_set (z := z1) (show k < 24 by omega) hd1
              simp only [nn] at hor ⊢
              rw [hor, nats_set, w1 (show a1 < _ by omega), w1 (show i < _ by omega)]
              refine ⟨by rw [nats_len]; omega, by omega, by omega, fun hg0 => ?_, fun hg0 => ?_⟩
              · rw [if_pos hg0] at he1
                refine ⟨fun hlt => ⟨by omega, fun hb2 => ?_, fun hb2 => ?_⟩, fun hge => ?_⟩
                · simp only [nn] at hb2
                  rw [if_pos (show a1 + 1 < bs.length by omega), if_pos hb2] at he1
                  rw [w1 (show a1 + 1 < _ by omega)]
                  exact ⟨by rw [List.length_set]; omega, ihn (i + 1) _ _ _ (by omega) (by rw [List.length_set]; exact hz1) (by rw [List.length_set, List.length_set]; exact hg1) (by omega) hds he1⟩
                · simp only [nn] at hb2
                  rw [if_pos (show a1 + 1 < bs.length by omega), if_neg (show ¬ bs.getD (a1 + 1) false = true by rw [hb2]; decide)] at he1
                  rw [w1 (show a1 + 1 < _ by omega)]
                  exact ihn (i + 1) _ _ _ (by omega) (by rw [List.length_set]; exact hz1) (by rw [List.length_set]; exact hg1) (by omega) hds he1
                · rw [if_neg (show ¬ a1 + 1 < bs.length by omega)] at he1
                  exact ihn (i + 1) _ _ _ (by omega) (by rw [List.length_set]; exact hz1) hg1 (by omega) hds he1
              · rw [if_neg hg0] at he1
                exact ihn (i + 1) _ _ _ (by omega) (by rw [List.length_set]; exact hz1) hg1 (by omega) hds he1
            · rw [nn] at hb
              rw [if_neg (show ¬ bs.getD a1 false = true by rw [hb]; decide)] at he1
              rw [w1 (show a1 < _ by omega), w1 (show i < _ by omega)]
              exact ihn (i + 1) _ _ _ (by omega) hz1 hg1 (by omega) (dig_skip hd1) he1
      exact row c 0 z g a (by omega) hz hg ha hd0 rfl
  have := key t (sIni c) (by omega) (by simp [sIni]) (by simp [sIni]) (Nat.zero_le _) (fun k' _ => dig_zero k' c) rfl
  have e : nats (List.replicate c 0) = List.replicate c 0 := by simp [nats]
  rw [show (sIni c).1 = List.replicate c 0 from rfl, e] at this
  exact this
theorem lf_spec {c t : Nat} {bs : List Bool} {K : List Int → Bool → Prop} (hc : isCod c t bs = true) (h : ∀ o, lfOut c t bs = o → K (o.getD []) o.isSome) : spec_ListFrom.wp c t bs K := by
  have hc2 := hc
  unfold isCod at hc2
  rw [Bool.and_eq_true, Bool.and_eq_true, decide_eq_true_eq, decide_eq_true_eq, decide_eq_true_eq] at hc2
  obtain ⟨⟨c1, c2⟩, c3⟩ := hc2
  have h' := h _ rfl
  unfold lfOut at h'
  refine spec_l06Is_wp (tE hc ⟨by omega, fun X hX => ?_⟩)
  have key : ∀ (k : Nat) (s : Q3), k ≤ 24 → s.1.length = c → s.2.1.length = c → s.2.2 ≤ bs.length → (∀ k', k = k' + 1 → dig k' 0 s.1) → pS bs c k s = pS bs c t (sIni c) → X s.2.1 (nats s.1) (s.2.2 : Int) (IntKind.i64.wrap ((k : Int) - 1)) := by
    intro k
    induction k with
    | zero =>
      rintro ⟨z, g, a⟩ _ hz hg ha _ he
      rw [show pS bs c 0 (z, g, a) = (z, g, a) from rfl] at he
      rw [← he] at h'
      dsimp only at hz hg ha h' ⊢
      rw [wI (by omega)]
      refine hX _ _ _ _ ⟨fun c => absurd c (by omega), fun _ => ⟨fun hlt => ?_, fun hge Y hY => ?_⟩⟩
      · rw [if_pos (show a < bs.length by omega)] at h'; exact h'
      · rw [if_neg (show ¬ a < bs.length by omega)] at h'
        have key2 : Y (outOf 0 (z, g, a)) ((0 : Nat) : Int) := by
          refine up (Y := fun i => Y (outOf i (z, g, a)) (i : Int)) c ?_ fun i hi hn => ?_
          · refine hY _ _ ⟨fun c => absurd c (by omega), fun _ => spec_l02Integers_wp (by rw [out_len]; omega) ⟨fun e => ?_, fun e => ?_⟩⟩
            · rw [if_pos e] at h'; exact h'
            · rw [if_neg (by rw [e]; decide)] at h'; exact h'
          · refine hY _ _ ⟨fun _ => ⟨by rw [nats_len]; omega, by omega, by rw [out_len, len1]; omega, ?_⟩, fun c => absurd (show (i : Int) < _ by omega) c⟩
            rw [nn, nats_getD, w1 (by omega)]
            rw [out_succ] at hn; exact hn
        exact key2
    | succ k ih =>
      rintro ⟨z, g, a⟩ hk hz hg ha hd he
      have hd0 := hd k rfl
      dsimp only at hz hg ha hd0 ⊢
      rw [wm1 _ (by omega)]
      refine hX _ _ _ _ ⟨fun _ Y hY => ?_, fun c => absurd (show (0 : Int) ≤ k by omega) c⟩
      have hI := rS_len bs k c 0 z g a
      have hnx := ih (rS bs k c 0 z g a) (by omega) (hI.1.trans hz) (hI.2.trans hg) (rS_at bs k c 0 z g a ha) (fun k' hk' => by
        subst hk'
        have := rS_dig bs (k := k' + 1) (by omega) c 0 z g a hd0
        rw [Nat.zero_add] at this
        exact dig_next this (by rw [hI.1]; omega)) he
      have row : ∀ (n i : Nat) (z1 : List Nat) (g1 : List Int) (a1 : Nat), i + n = c → z1.length = c → g1.length = c → a1 ≤ bs.length → dig k i z1 → rS bs k n i z1 g1 a1 = rS bs k c 0 z g a → Y g1 (nats z1) (a1 : Int) (i : Int) := by
        intro n
        induction n with
        | zero =>
          intro i z1 g1 a1 hi hz1 hg1 ha1 hd1 he1
          refine hY _ _ _ _ ⟨fun c => absurd c (by omega), fun _ => ?_⟩
          rw [← he1] at hnx
          exact hnx
        | succ n ihn =>
          intro i z1 g1 a1 hi hz1 hg1 ha1 hd1 he1
          rw [rS] at he1
          refine hY _ _ _ _ ⟨fun _ => ⟨fun e => ?_, fun e => ?_⟩, fun c => absurd (show (i : Int) < _ by omega) c⟩
          · rw [if_pos (show a1 < bs.length by omega)] at he1
            refine ⟨by omega, fun hb => ?_, fun hb => ?_⟩
            · rw [nn] at hb
              rw [if_pos hb] at he1
              obtain ⟨hv1, hv2⟩ := hd1 i
              rw [if_neg (Nat.lt_irrefl _)] at hv2
              have hlt2 := dig_lt (show k < 24 by omega) hv1 hv2
              have had : IntKind.i64.wrap ((nats z1).getD i 0 + (IntKind.i64.wrap ((1 : Int) * (2 ^ (min ((k : Int)).toNat IntKind.i64.bits))))) = ((z1.getD i 0 + 2 ^ k : Nat) : Int) := by
                rw [shW (by omega), nats_getD]
                generalize 2 ^ k = m at hlt2 ⊢
                rw [wI (by omega)]; omega
              have hds := dig_set (z := z1) (show k < 24 by omega) hd1
              rw [u64N (show k < 24 by omega)]
              simp only [nn] at had ⊢
              rw [had, nats_set, w1 (show a1 < _ by omega), w1 (show i < _ by omega)]
              refine ⟨by rw [nats_len]; omega, fun hz0 => ?_, fun hz0 => ?_⟩
              · rw [nats_getD] at hz0
                rw [if_pos (show z1.getD i 0 = 0 by omega)] at he1
                refine ⟨fun hlt => ?_, fun hne => ⟨by omega, by omega, fun hb2 => ?_, fun hb2 => ?_⟩⟩
                · rw [if_pos (show a1 + 1 = bs.length by omega)] at he1
                  rw [← he1] at hnx
                  exact hnx
                · simp only [nn] at hb2
                  rw [if_neg (show ¬ a1 + 1 = bs.length by omega), if_pos hb2] at he1
                  rw [w1 (show a1 + 1 < _ by omega)]
                  exact ⟨by rw [List.length_set]; omega, by omega, ihn (i + 1) _ _ _ (by omega) (by rw [List.length_set]; exact hz1) (by rw [List.length_set, List.length_set]; exact hg1) (by omega) hds he1⟩
                · simp only [nn] at hb2
                  rw [if_neg (show ¬ a1 + 1 = bs.length by omega), if_neg (show ¬ bs.getD (a1 + 1) false = true by rw [hb2]; decide)] at he1
                  rw [w1 (show a1 + 1 < _ by omega)]
                  exact ⟨by omega, ihn (i + 1) _ _ _ (by omega) (by rw [List.length_set]; exact hz1) (by rw [List.length_set]; exact hg1) (by omega) hds he1⟩
              · rw [nats_getD] at hz0
                rw [if_neg (show ¬ z1.getD i 0 = 0 by omega)] at he1
                exact ⟨by omega, ihn (i + 1) _ _ _ (by omega) (by rw [List.length_set]; exact hz1) hg1 (by omega) hds he1⟩
            · rw [nn] at hb
              rw [if_neg (show ¬ bs.getD a1 false = true by rw [hb]; decide)] at he1
              rw [w1 (show a1 < _ by omega), w1 (show i < _ by omega)]
              exact ihn (i + 1) _ _ _ (by omega) hz1 hg1 (by omega) (dig_skip hd1) he1
          · rw [if_neg (show ¬ a1 < bs.length by omega)] at he1
            rw [← he1] at hnx
            exact hnx
      exact row c 0 z g a (by omega) hz hg ha hd0 rfl
  have := key t (sIni c) (by omega) (by simp [sIni]) (by simp [sIni]) (Nat.zero_le _) (fun k' _ => dig_zero k' c) rfl
  have e : nats (List.replicate c 0) = List.replicate c 0 := by simp [nats]
  rw [show (sIni c).1 = List.replicate c 0 from rfl, e] at this
  exact this
theorem lf_len {c t : Nat} {bs : List Bool} (hc : c ≤ 128) : ((lfOut c t bs).getD []).length ≤ 128 := by
  unfold lfOut
  split
  · exact Nat.zero_le _
  · split
    · show (outOf c _).length ≤ 128; rw [out_len]; exact hc
    · exact Nat.zero_le _
theorem lf_both (a b : Int) (l : List Bool) (hl : l.length ≤ 2 ^ 20) : ∃ out ok, (∀ K : List Int → Bool → Prop, K out ok → spec_ListFrom.wp a b l K) ∧ (∀ K : List Int → Bool → Prop, K out ok → impl_ListFrom.wp a b l K) ∧ out.length ≤ 2 ^ 20 := by
  cases hc : isCod a b l with
  | false => exact ⟨[], false, fun K hK => spec_l06Is_wp (tG hc hK), fun K hK => impl_ValidCoded_wp (tG hc hK), Nat.zero_le _⟩
  | true =>
    have hc2 := hc
    unfold isCod at hc2
    rw [Bool.and_eq_true, Bool.and_eq_true, decide_eq_true_eq, decide_eq_true_eq, decide_eq_true_eq] at hc2
    obtain ⟨⟨c1, c2⟩, c3⟩ := hc2
    obtain ⟨c, rfl⟩ : ∃ c : Nat, a = (c : Int) := ⟨a.toNat, by omega⟩
    obtain ⟨t, rfl⟩ : ∃ t : Nat, b = (t : Int) := ⟨b.toNat, by omega⟩
    refine ⟨(lfOut c t l).getD [], (lfOut c t l).isSome, fun K hK => lf_spec hc fun o ho => by rw [← ho]; exact hK, fun K hK => lf_impl hc fun o ho => by rw [← ho]; exact hK, ?_⟩
    have := lf_len (t := t) (bs := l) (show c ≤ 128 by omega)
    omega

end Go.Proofs.Ytkaidcgelbhofaa.G

namespace Go.Proofs.Ytkaidcgelbhofaa.G
open Go Go.Ab
set_option maxRecDepth 100000
set_option linter.unusedVariables false
set_option linter.unusedSimpArgs false
set_option maxHeartbeats 1000000
-- HYPS: 2
theorem markCodedL_wp {a b : Int} {l : List Bool} {k : Nat} {K : Int → List Bool → Prop} (hl : l.length ≤ 2 ^ 20) (hk : k ≤ 2 ^ 40) (h : K ((k + l.length : Nat) : Int) (mB k l.length)) : laws_markCoded.wp a b l (k : Int) K := markBoolS_wp hl hk h
theorem pureExactListFrom (a0 : Int) (a1 : Int) (l2 : List Bool) (hm : l2.length ≤ maxLen) : laws_FnExactListFrom.wp a0 a1 l2 (fun b => b = true) := by
  refine szCoded_wp hm (by omega) (tP (by omega) rfl) fun hn => tN (by omega) ?_
  have hl : l2.length ≤ 2 ^ 20 := by omega
  obtain ⟨out, ok, hs, hi, ho⟩ := lf_both a0 a1 l2 hl
  refine toCoded_wp hl (hs _ (toCoded_wp hl (hi _ (eqInt64S_wp ho (tT (tB (toCoded_wp hl (eqCoded_wp hl (tT ?_)))))))))
  refine markCodedL_wp (k := 1) hl (by omega) (tN (by omega) (eqInt64S_wp ho (tT ?_)))
  refine markInt64S_wp (k := 1) ho (by omega) (heldInt64S_wp (k := 1) ho (by omega) (tN (by omega) (tP rfl ?_)))
  exact toCoded_wp hl (hi _ (eqInt64S_wp ho (tT (tB (heldInt64S_wp (k := 1) ho (by omega) (tN (by omega) (tP rfl rfl)))))))

end Go.Proofs.Ytkaidcgelbhofaa.G

