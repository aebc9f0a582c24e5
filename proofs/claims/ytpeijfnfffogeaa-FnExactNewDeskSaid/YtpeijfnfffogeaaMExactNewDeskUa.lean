/-
  What the formulas say, over numbers and lists alone. Nothing here is trusted.
-/
import Derived.Test.YtpeijfnfffogeaaMExactNewDeskWa
namespace Go.Proofs.Ytpeijfnfffogeaa.G
open Go Go.Ab
set_option maxRecDepth 100000
set_option linter.unusedVariables false
set_option linter.unusedSimpArgs false
set_option maxHeartbeats 1000000
/-! ### truth -/
theorem tT {A B : Prop} (h : A) : (true = true → A) ∧ (true = false → B) := ⟨fun _ => h, fun c => (by cases c)⟩
theorem tF {A B : Prop} (h : B) : (false = true → A) ∧ (false = false → B) := ⟨fun c => (by cases c), fun _ => h⟩
theorem tB {A B : Prop} {b : Bool} (h : A) : ((b == b) = true → A) ∧ ((b == b) = false → B) := ⟨fun _ => h, fun c => (by simp at c)⟩
theorem tE {A B : Prop} {b : Bool} (e : b = true) (h : A) : (b = true → A) ∧ (b = false → B) := ⟨fun _ => h, fun c => (by rw [e] at c; cases c)⟩
theorem tG {A B : Prop} {b : Bool} (e : b = false) (h : B) : (b = true → A) ∧ (b = false → B) := ⟨fun c => (by rw [e] at c; cases c), fun _ => h⟩
theorem tP {p A B : Prop} (e : p) (h : A) : (p → A) ∧ (¬p → B) := ⟨fun _ => h, fun c => absurd e c⟩
theorem tN {p A B : Prop} (e : ¬p) (h : B) : (p → A) ∧ (¬p → B) := ⟨fun c => absurd c e, fun _ => h⟩
theorem tI {b : Bool} {K : Bool → Prop} {A B : Prop} (h1 : b = true → A) (h2 : b = false → B) : (b = true → A) ∧ (b = false → B) := ⟨h1, h2⟩
/-! ### loops -/
theorem up {Y : Nat → Prop} (n : Nat) (last : Y n) (step : ∀ i, i < n → Y (i + 1) → Y i) : Y 0 := by
  have key : ∀ d i, i + d = n → Y i := by
    intro d
    induction d with
    | zero => intro i h; obtain rfl : i = n := by omega
              exact last
    | succ d ih => intro i h; exact step i (by omega) (ih (i + 1) (by omega))
  exact key n 0 (by omega)
theorem upFrom {Y : Nat → Prop} (k n : Nat) (hk : k ≤ n) (last : Y n) (step : ∀ i, k ≤ i → i < n → Y (i + 1) → Y i) : Y k := by
  have key : ∀ d i, k ≤ i → i + d = n → Y i := by
    intro d
    induction d with
    | zero => intro i _ h; obtain rfl : i = n := by omega
              exact last
    | succ d ih => intro i h0 h; exact step i h0 (by omega) (ih (i + 1) (by omega) (by omega))
  exact key (n - k) k (Nat.le_refl _) (by omega)
theorem w1 {i : Nat} (h : i < 4611686018427387904) : IntKind.i64.wrap ((i : Int) + (1 : Int)) = ((i + 1 : Nat) : Int) := wrap_succ (by omega)
theorem wI {n : Int} (h : -9223372036854775808 ≤ n ∧ n < 9223372036854775808) : IntKind.i64.wrap n = n := wrap_i64 h.1 h.2
theorem nn (i : Nat) : ((i : Int)).toNat = i := rfl
theorem gD {α : Type} {l : List α} {i : Nat} (h : i < l.length) (d : α) : l.getD i d = l[i] := by rw [List.getD_eq_getElem?_getD, List.getElem?_eq_getElem h]; rfl
theorem dropC {α : Type} {l : List α} {i : Nat} (h : i < l.length) : l.drop i = l[i] :: l.drop (i + 1) := List.drop_eq_getElem_cons h
theorem len1 {α : Type} (a : α) : ([a] : List α).length = 1 := rfl
theorem cz32 (n : Nat) (h : (FloatKind.f32.decode n).isNaN = false) : cz .f32 n = n := by simp [cz, h]
theorem c0_32 : cz .f32 0 = 0 := cz_zero32
theorem c0_64 : cz .f64 0 = 0 := cz_zero64
/-! ### copies, comparisons, marks -/
theorem toFloat32S_wp {l : List Nat} {K : List Nat → Prop} (hl : l.length ≤ 2 ^ 20) (h : K l) : laws_toFloat32S.wp l K := by
  refine ⟨⟨by omega, by omega, by omega, by omega⟩, fun X hX => ?_⟩
  have key : X (l.take 0 ++ List.replicate (l.length - 0) (0 : Nat)) ((0 : Nat) : Int) := by
    refine up (Y := fun i => X (l.take i ++ List.replicate (l.length - i) (0 : Nat)) (i : Int)) l.length ?_ fun i hi hn => ?_
    · refine hX _ _ ⟨fun c => absurd c (by omega), fun _ => ?_⟩
      rw [List.take_length, Nat.sub_self, List.replicate_zero, List.append_nil]; exact h
    · refine hX _ _ ⟨fun _ => ⟨⟨by omega, by omega⟩, ⟨by omega, ?_⟩, ?_⟩, fun c => absurd (show (i : Int) < l.length by omega) c⟩
      · rw [List.length_append, List.length_take, List.length_replicate]; omega
      · rw [nn, w1 (by omega), gD hi, set_fill (0 : Nat) (by omega) hi]
        exact hn
  rw [List.take_zero, List.nil_append, Nat.sub_zero] at key; exact key
theorem toInt64S_wp {l : List Int} {K : List Int → Prop} (hl : l.length ≤ 2 ^ 20) (h : K l) : laws_toInt64S.wp l K := by
  refine ⟨⟨by omega, by omega, by omega, by omega⟩, fun X hX => ?_⟩
  have key : X (l.take 0 ++ List.replicate (l.length - 0) (0 : Int)) ((0 : Nat) : Int) := by
    refine up (Y := fun i => X (l.take i ++ List.replicate (l.length - i) (0 : Int)) (i : Int)) l.length ?_ fun i hi hn => ?_
    · refine hX _ _ ⟨fun c => absurd c (by omega), fun _ => ?_⟩
      rw [List.take_length, Nat.sub_self, List.replicate_zero, List.append_nil]; exact h
    · refine hX _ _ ⟨fun _ => ⟨⟨by omega, by omega⟩, ⟨by omega, ?_⟩, ?_⟩, fun c => absurd (show (i : Int) < l.length by omega) c⟩
      · rw [List.length_append, List.length_take, List.length_replicate]; omega
      · rw [nn, w1 (by omega), gD hi, set_fill (0 : Int) (by omega) hi]
        exact hn
  rw [List.take_zero, List.nil_append, Nat.sub_zero] at key; exact key
theorem toBoolS_wp {l : List Bool} {K : List Bool → Prop} (hl : l.length ≤ 2 ^ 20) (h : K l) : laws_toBoolS.wp l K := by
  refine ⟨⟨by omega, by omega, by omega, by omega⟩, fun X hX => ?_⟩
  have key : X (l.take 0 ++ List.replicate (l.length - 0) false) ((0 : Nat) : Int) := by
    refine up (Y := fun i => X (l.take i ++ List.replicate (l.length - i) false) (i : Int)) l.length ?_ fun i hi hn => ?_
    · refine hX _ _ ⟨fun c => absurd c (by omega), fun _ => ?_⟩
      rw [List.take_length, Nat.sub_self, List.replicate_zero, List.append_nil]; exact h
    · refine hX _ _ ⟨fun _ => ⟨⟨by omega, by omega⟩, ⟨by omega, ?_⟩, ?_⟩, fun c => absurd (show (i : Int) < l.length by omega) c⟩
      · rw [List.length_append, List.length_take, List.length_replicate]; omega
      · rw [nn, w1 (by omega), gD hi, set_fill false (by omega) hi]
        exact hn
  rw [List.take_zero, List.nil_append, Nat.sub_zero] at key; exact key
theorem sameFloat_wp {a : Nat} {K : Bool → Prop} (h : K true) : laws_sameFloat.wp a a K := by
  rcases order_self Ieee.double a with ho | ho
  · have e : fcmp .neq .f64 a a = true := by simp [fcmp, FloatKind.format, ho]
    exact tE e (by rw [e]; exact h)
  · have e : fcmp .neq .f64 a a = false := by simp [fcmp, FloatKind.format, ho]
    have e2 : fcmp .eql .f64 a a = true := by simp [fcmp, FloatKind.format, ho]
    refine tG e (tG e ⟨fun c => ⟨fun _ => by rw [BEq.rfl]; exact h, fun c2 => (by rw [c] at c2; cases c2)⟩, fun _ => by rw [e2]; exact h⟩)
theorem eqFloat32S_wp {l : List Nat} {K : Bool → Prop} (hl : l.length ≤ 2 ^ 20) (h : K true) : laws_eqFloat32S.wp l l K := by
  refine tP rfl fun X hX => ?_
  refine up (Y := fun i => X (i : Int)) l.length ?_ fun i hi hn => ?_
  · exact hX _ ⟨fun c => absurd c (by omega), fun _ => h⟩
  · refine hX _ ⟨fun _ => ⟨⟨by omega, by omega⟩, ⟨by omega, by omega⟩, sameFloat_wp (tT ?_)⟩, fun c => absurd (show (i : Int) < l.length by omega) c⟩
    rw [w1 (by omega)]; exact hn
theorem eqInt64S_wp {l : List Int} {K : Bool → Prop} (hl : l.length ≤ 2 ^ 20) (h : K true) : laws_eqInt64S.wp l l K := by
  refine tP rfl fun X hX => ?_
  refine up (Y := fun i => X (i : Int)) l.length ?_ fun i hi hn => ?_
  · exact hX _ ⟨fun c => absurd c (by omega), fun _ => h⟩
  · refine hX _ ⟨fun _ => ⟨⟨by omega, by omega⟩, ⟨by omega, by omega⟩, tP rfl ?_⟩, fun c => absurd (show (i : Int) < l.length by omega) c⟩
    rw [w1 (by omega)]; exact hn
theorem eqBoolS_wp {l : List Bool} {K : Bool → Prop} (hl : l.length ≤ 2 ^ 20) (h : K true) : laws_eqBoolS.wp l l K := by
  refine tP rfl fun X hX => ?_
  refine up (Y := fun i => X (i : Int)) l.length ?_ fun i hi hn => ?_
  · exact hX _ ⟨fun c => absurd c (by omega), fun _ => h⟩
  · refine hX _ ⟨fun _ => ⟨⟨by omega, by omega⟩, ⟨by omega, by omega⟩, tB ?_⟩, fun c => absurd (show (i : Int) < l.length by omega) c⟩
    rw [w1 (by omega)]; exact hn
theorem markFloat32S_wp {l : List Nat} {k : Nat} {K : Int → List Nat → Prop} (hl : l.length ≤ 2 ^ 20) (hk : k ≤ 2 ^ 40) (h : K ((k + l.length : Nat) : Int) (marks k l.length)) : laws_markFloat32S.wp l (k : Int) K := by
  intro X hX
  have key : X (marks k 0 ++ l.drop 0) ((k + 0 : Nat) : Int) ((0 : Nat) : Int) := by
    refine up (Y := fun i => X (marks k i ++ l.drop i) ((k + i : Nat) : Int) (i : Int)) l.length ?_ fun i hi hn => ?_
    · refine hX _ _ _ ⟨fun c => absurd c (by rw [List.length_append, marks_length, List.length_drop]; omega), fun _ => ?_⟩
      rw [List.drop_length, List.append_nil]; exact h
    · have hlen : (marks k i ++ l.drop i).length = l.length := by rw [List.length_append, marks_length, List.length_drop]; omega
      refine hX _ _ _ ⟨fun _ => ⟨⟨by omega, by rw [hlen]; omega⟩, ?_⟩, fun c => absurd (show (i : Int) < _ by rw [hlen]; omega) c⟩
      rw [nn, w1 (by omega), w1 (by omega)]
      have e := marks_step (l := l) (i := i) (m := l.length - i) k (by omega) hi
      rw [show (k : Int) + (i : Int) = ((k + i : Nat) : Int) by omega] at e
      rw [show itof .f32 ((k + i : Nat) : Int) = fl ((k + i : Nat) : Int) from rfl]
      rw [e]; exact hn
  exact key
theorem heldFloat32S_wp {k n : Nat} {K : Int → Prop} (hl : n ≤ 2 ^ 20) (hk : k ≤ 2 ^ 40) (h : K ((k + n : Nat) : Int)) : laws_heldFloat32S.wp (marks k n) (k : Int) K := by
  intro X hX
  have hlen : (marks k n).length = n := marks_length _ _
  have key : X ((k + 0 : Nat) : Int) ((0 : Nat) : Int) := by
    refine up (Y := fun i => X ((k + i : Nat) : Int) (i : Int)) n ?_ fun i hi hn => ?_
    · exact hX _ _ ⟨fun c => absurd c (by omega), fun _ => h⟩
    · refine hX _ _ ⟨fun _ => ⟨⟨by omega, by omega⟩, ?_⟩, fun c => absurd (show (i : Int) < _ by omega) c⟩
      rw [nn, gD (by omega), marks_at k n i (by omega), show (k : Int) + (i : Int) = ((k + i : Nat) : Int) by omega]
      refine tG (show fcmp .neq .f32 (fl ((k + i : Nat) : Int)) (itof .f32 ((k + i : Nat) : Int)) = false from fl_neq _) ?_
      rw [w1 (by omega), w1 (by omega)]; exact hn
  exact key
theorem markInt64S_wp {l : List Int} {k : Nat} {K : Int → List Int → Prop} (hl : l.length ≤ 2 ^ 20) (hk : k ≤ 2 ^ 40) (h : K ((k + l.length : Nat) : Int) (marksI k l.length)) : laws_markInt64S.wp l (k : Int) K := by
  intro X hX
  have key : X (marksI k 0 ++ l.drop 0) ((k + 0 : Nat) : Int) ((0 : Nat) : Int) := by
    refine up (Y := fun i => X (marksI k i ++ l.drop i) ((k + i : Nat) : Int) (i : Int)) l.length ?_ fun i hi hn => ?_
    · refine hX _ _ _ ⟨fun c => absurd c (by rw [List.length_append, marksI_length, List.length_drop]; omega), fun _ => ?_⟩
      rw [List.drop_length, List.append_nil]; exact h
    · have hlen : (marksI k i ++ l.drop i).length = l.length := by rw [List.length_append, marksI_length, List.length_drop]; omega
      refine hX _ _ _ ⟨fun _ => ⟨⟨by omega, by rw [hlen]; omega⟩, ?_⟩, fun c => absurd (show (i : Int) < _ by rw [hlen]; omega) c⟩
      rw [nn, w1 (by omega), w1 (by omega)]
      have e := marksI_step (l := l) (i := i) (m := l.length - i) k (by omega) hi
      rw [show (k : Int) + (i : Int) = ((k + i : Nat) : Int) by omega] at e
      
      rw [e]; exact hn
  exact key
theorem heldInt64S_wp {k n : Nat} {K : Int → Prop} (hl : n ≤ 2 ^ 20) (hk : k ≤ 2 ^ 40) (h : K ((k + n : Nat) : Int)) : laws_heldInt64S.wp (marksI k n) (k : Int) K := by
  intro X hX
  have hlen : (marksI k n).length = n := marksI_length _ _
  have key : X ((k + 0 : Nat) : Int) ((0 : Nat) : Int) := by
    refine up (Y := fun i => X ((k + i : Nat) : Int) (i : Int)) n ?_ fun i hi hn => ?_
    · exact hX _ _ ⟨fun c => absurd c (by omega), fun _ => h⟩
    · refine hX _ _ ⟨fun _ => ⟨⟨by omega, by omega⟩, ?_⟩, fun c => absurd (show (i : Int) < _ by omega) c⟩
      rw [nn, gD (by omega), marksI_at k n i (by omega), show (k : Int) + (i : Int) = ((k + i : Nat) : Int) by omega]
      refine tP rfl ?_
      rw [w1 (by omega), w1 (by omega)]; exact hn
  exact key

end Go.Proofs.Ytpeijfnfffogeaa.G

namespace Go.Proofs.Ytpeijfnfffogeaa.G
open Go Go.Ab
set_option maxRecDepth 100000
set_option linter.unusedVariables false
set_option linter.unusedSimpArgs false
set_option maxHeartbeats 1000000
def mB (k : Nat) : Nat → List Bool
  | 0 => []
  | n + 1 => decide (Int.tmod (k : Int) 3 = 0) :: mB (k + 1) n
theorem mB_len (k : Nat) : ∀ n, (mB k n).length = n
  | 0 => rfl
  | n + 1 => by rw [mB, List.length_cons, mB_len]
theorem mB_app (k : Nat) : ∀ n, mB k (n + 1) = mB k n ++ [decide (Int.tmod ((k + n : Nat) : Int) 3 = 0)] := by
  intro n
  induction n generalizing k with
  | zero => rfl
  | succ n ih => rw [mB, ih, show mB k (n + 1) = decide (Int.tmod (k : Int) 3 = 0) :: mB (k + 1) n from rfl, List.cons_append, show k + 1 + n = k + (n + 1) by omega]
theorem mB_at (k : Nat) : ∀ (n i : Nat), i < n → (mB k n).getD i false = decide (Int.tmod ((k + i : Nat) : Int) 3 = 0) := by
  intro n
  induction n generalizing k with
  | zero => intro i h; omega
  | succ n ih =>
    intro i h
    cases i with
    | zero => rfl
    | succ i => rw [mB, List.getD_cons_succ, ih (k + 1) i (by omega), show k + 1 + i = k + (i + 1) by omega]
theorem setB {α : Type} (p : List α) (a b : α) (q : List α) : ((p ++ a :: q).set p.length b) = p ++ b :: q := by
  rw [List.set_append_right _ _ (Nat.le_refl _), Nat.sub_self]; rfl
theorem markBoolS_wp {l : List Bool} {k : Nat} {K : Int → List Bool → Prop} (hl : l.length ≤ 2 ^ 20) (hk : k ≤ 2 ^ 40) (h : K ((k + l.length : Nat) : Int) (mB k l.length)) : laws_markBoolS.wp l (k : Int) K := by
  intro X hX
  have key : X (mB k 0 ++ l.drop 0) ((k + 0 : Nat) : Int) ((0 : Nat) : Int) := by
    refine up (Y := fun i => X (mB k i ++ l.drop i) ((k + i : Nat) : Int) (i : Int)) l.length ?_ fun i hi hn => ?_
    · refine hX _ _ _ ⟨fun c => absurd c (by rw [List.length_append, mB_len, List.length_drop]; omega), fun _ => ?_⟩
      rw [List.drop_length, List.append_nil]; exact h
    · have hlen : (mB k i ++ l.drop i).length = l.length := by rw [List.length_append, mB_len, List.length_drop]; omega
      refine hX _ _ _ ⟨fun _ => ⟨⟨by omega, by rw [hlen]; omega⟩, ?_⟩, fun c => absurd (show (i : Int) < _ by rw [hlen]; omega) c⟩
      rw [nn, w1 (by omega), w1 (by omega)]
      have e1 : (mB k i ++ l.drop i) = mB k i ++ l[i] :: l.drop (i + 1) := by rw [dropC hi]
      have e2 : (mB k i ++ l[i] :: l.drop (i + 1)).set i (decide (Int.tmod ((k + i : Nat) : Int) 3 = 0)) = mB k i ++ decide (Int.tmod ((k + i : Nat) : Int) 3 = 0) :: l.drop (i + 1) := by
        have := setB (mB k i) l[i] (decide (Int.tmod ((k + i : Nat) : Int) 3 = 0)) (l.drop (i + 1)); rw [mB_len] at this; exact this
      rw [e1, e2]
      rw [mB_app, List.append_assoc, List.singleton_append] at hn
      exact hn
  exact key
theorem heldBoolS_wp {k n : Nat} {K : Int → Prop} (hl : n ≤ 2 ^ 20) (hk : k ≤ 2 ^ 40) (h : K ((k + n : Nat) : Int)) : laws_heldBoolS.wp (mB k n) (k : Int) K := by
  intro X hX
  have hlen : (mB k n).length = n := mB_len _ _
  have key : X ((k + 0 : Nat) : Int) ((0 : Nat) : Int) := by
    refine up (Y := fun i => X ((k + i : Nat) : Int) (i : Int)) n ?_ fun i hi hn => ?_
    · exact hX _ _ ⟨fun c => absurd c (by omega), fun _ => h⟩
    · refine hX _ _ ⟨fun _ => ⟨⟨by omega, by omega⟩, ?_⟩, fun c => absurd (show (i : Int) < _ by omega) c⟩
      rw [nn, mB_at k n i hi]
      refine tB ?_
      rw [w1 (by omega), w1 (by omega)]; exact hn
  exact key

end Go.Proofs.Ytpeijfnfffogeaa.G

namespace Go.Proofs.Ytpeijfnfffogeaa.G
open Go Go.Ab
set_option maxRecDepth 100000
set_option linter.unusedVariables false
set_option linter.unusedSimpArgs false
set_option maxHeartbeats 1000000
def pFin (x : Nat) : Bool := fcmp .eql .f32 (fop .sub .f32 x x) (cz .f32 0)
def pAll (l : List Nat) : Bool := l.all pFin
theorem pAll_cons (x : Nat) (l : List Nat) : pAll (x :: l) = (pFin x && pAll l) := rfl
/-- A loop that ends early where something does not hold. -/
theorem all_loop {α : Type} (l : List α) (p : α → Bool) {X : Int → Prop} {T F : Prop} (hX : ∀ (i : Nat) (h : i < l.length), ((p l[i] = true → X ((i + 1 : Nat) : Int)) ∧ (p l[i] = false → F)) → X (i : Int))
    (hend : T → X (l.length : Int)) (ht : l.all p = true → T) (hf : l.all p = false → F) : X (0 : Int) := by
  have key := up (Y := fun i => ((l.drop i).all p = true → T) → ((l.drop i).all p = false → F) → X (i : Int)) l.length (fun h _ => hend (h (by rw [List.drop_length]; rfl))) fun i hi hn h1 h2 => ?_
  · exact key (by rw [List.drop_zero]; exact ht) (by rw [List.drop_zero]; exact hf)
  · rw [dropC hi, List.all_cons] at h1 h2
    refine hX i hi ⟨fun e => hn (fun a => h1 (by rw [e, a]; rfl)) (fun a => h2 (by rw [e, a]; rfl)), fun e => h2 (by rw [e]; rfl)⟩
/-- A loop that makes a list, and ends early where something does not hold. -/
theorem map_loop {α β : Type} (l : List α) (p : α → Bool) (f : α → β) {X : List β → Int → Prop} {T F : Prop} (hX : ∀ (i : Nat) (h : i < l.length) (o : List β), o.length = i → ((p l[i] = true → X (o ++ [f l[i]]) ((i + 1 : Nat) : Int)) ∧ (p l[i] = false → F)) → X o (i : Int))
    (hend : T → X (l.map f) (l.length : Int)) (ht : l.all p = true → T) (hf : l.all p = false → F) : X [] (0 : Int) := by
  have key := up (Y := fun i => ((l.drop i).all p = true → T) → ((l.drop i).all p = false → F) → X ((l.take i).map f) (i : Int)) l.length (fun h _ => by rw [List.take_length]; exact hend (h (by rw [List.drop_length]; rfl))) fun i hi hn h1 h2 => ?_
  · have := key (by rw [List.drop_zero]; exact ht) (by rw [List.drop_zero]; exact hf)
    rw [List.take_zero] at this; exact this
  · rw [dropC hi, List.all_cons] at h1 h2
    refine hX i hi _ (by rw [List.length_map, List.length_take]; omega) ⟨fun e => ?_, fun e => h2 (by rw [e]; rfl)⟩
    have := hn (fun a => h1 (by rw [e, a]; rfl)) (fun a => h2 (by rw [e, a]; rfl))
    rw [List.take_succ_eq_append_getElem hi, List.map_append] at this
    exact this
theorem spec_l01Finite_wp {a : Nat} {K : Bool → Prop} (h : K (pFin a)) : spec_l01Finite.wp a K := h
theorem impl_IsFinite_wp {a : Nat} {K : Bool → Prop} (h : K (pFin a)) : impl_IsFinite.wp a K := h
theorem spec_l02Finite_wp {l : List Nat} {K : Bool → Prop} (hl : l.length ≤ 2 ^ 20) (h : K (pAll l)) : spec_l02Finite.wp l K := by
  intro X hX
  refine all_loop l pFin (X := X) (T := K true) (F := K false) (fun i hi hh => ?_) (fun ht => hX _ ⟨fun c => absurd c (by omega), fun _ => ht⟩) (fun e => by rw [pAll, e] at h; exact h) (fun e => by rw [pAll, e] at h; exact h)
  refine hX _ ⟨fun _ => ⟨⟨by omega, by omega⟩, spec_l01Finite_wp ?_⟩, fun c => absurd (show (i : Int) < l.length by omega) c⟩
  rw [nn, gD hi, w1 (by omega)]; exact hh
theorem impl_areFinite_wp {ll : List (List Nat)} {K : Bool → Prop} (hll : ll.length ≤ 2 ^ 20) (hl : ∀ l ∈ ll, l.length ≤ 2 ^ 20) (h : K (ll.all pAll)) : impl_areFinite.wp ll K := by
  intro X hX
  refine all_loop ll pAll (X := X) (T := K true) (F := K false) (fun i hi hh => ?_) (fun ht => hX _ ⟨fun c => absurd c (by omega), fun _ => ht⟩) (fun e => by rw [e] at h; exact h) (fun e => by rw [e] at h; exact h)
  refine hX _ ⟨fun _ => ⟨⟨by omega, by omega⟩, fun Y hY => ?_⟩, fun c => absurd (show (i : Int) < ll.length by omega) c⟩
  have hlen := hl ll[i] (List.getElem_mem hi)
  rw [nn, gD hi, w1 (by omega)] at hY
  refine all_loop ll[i] pFin (X := Y) (T := X ((i + 1 : Nat) : Int)) (F := K false) (fun j hj h2 => ?_) (fun ht => hY _ ⟨fun c => absurd c (by omega), fun _ => ht⟩) (fun e => hh.1 e) (fun e => hh.2 e)
  refine hY _ ⟨fun _ => ⟨⟨by omega, by omega⟩, impl_IsFinite_wp ?_⟩, fun c => absurd (show (j : Int) < ll[i].length by omega) c⟩
  rw [nn, gD hj, w1 (by omega)]; exact h2
theorem impl_areFinite1_wp {l : List Nat} {K : Bool → Prop} (hl : l.length ≤ 2 ^ 20) (h : K (pAll l)) : impl_areFinite.wp [l] K := by
  refine impl_areFinite_wp (by simp) (fun x hx => by rw [List.mem_singleton] at hx; subst hx; exact hl) ?_
  rw [List.all_cons, List.all_nil, Bool.and_true]; exact h
theorem impl_within_wp {a b c : Int} {K : Bool → Prop} (h : K (decide (b ≤ a ∧ a ≤ c))) : impl_within.wp a b c K := by
  refine ⟨fun h1 => ?_, fun h1 => ?_⟩
  · have : decide (b ≤ a ∧ a ≤ c) = decide (a ≤ c) := by simp [h1]
    rw [this] at h; exact h
  · have : decide (b ≤ a ∧ a ≤ c) = false := by simp [h1]
    rw [this] at h; exact h
theorem spec_l00In_wp {a b c : Int} {K : Bool → Prop} (h : K (decide (b ≤ a ∧ a ≤ c))) : spec_l00In.wp a b c K := by
  refine ⟨fun h1 => ?_, fun h1 => ?_⟩
  · have : decide (b ≤ a ∧ a ≤ c) = decide (a ≤ c) := by simp [h1]
    rw [this] at h; exact h
  · have : decide (b ≤ a ∧ a ≤ c) = false := by simp [h1]
    rw [this] at h; exact h
theorem bT {b : Bool} {A B : Prop} (h1 : b = true → A) (h2 : b = false → B) : (b = true → A) ∧ (b = false → B) := ⟨h1, h2⟩
def isL (l : List Nat) : Bool := decide (1 ≤ l.length ∧ l.length ≤ 128) && pAll l
theorem spec_l02Is_wp {l : List Nat} {K : Bool → Prop} (hl : l.length ≤ 2 ^ 20) (h : K (isL l)) : spec_l02Is.wp l K := by
  refine ⟨fun h1 => ⟨fun h2 => spec_l02Finite_wp hl ?_, fun h2 => ?_⟩, fun h1 => ?_⟩
  · rw [isL, decide_eq_true (show 1 ≤ l.length ∧ l.length ≤ 128 by omega), Bool.true_and] at h; exact h
  · rw [isL, decide_eq_false (show ¬(1 ≤ l.length ∧ l.length ≤ 128) by omega), Bool.false_and] at h; exact h
  · rw [isL, decide_eq_false (show ¬(1 ≤ l.length ∧ l.length ≤ 128) by omega), Bool.false_and] at h; exact h
theorem impl_IsList_wp {l : List Nat} {K : Bool → Prop} (hl : l.length ≤ 2 ^ 20) (h : K (isL l)) : impl_IsList.wp l K := by
  refine impl_within_wp ⟨fun h1 => ?_, fun h1 => ?_⟩
  · have h1 := of_decide_eq_true h1
    refine impl_areFinite1_wp hl ?_
    rw [isL, decide_eq_true (show 1 ≤ l.length ∧ l.length ≤ 128 by omega), Bool.true_and] at h; exact h
  · have h1 := of_decide_eq_false h1
    rw [isL, decide_eq_false (show ¬(1 ≤ l.length ∧ l.length ≤ 128) by omega), Bool.false_and] at h; exact h
def isOver (x : Nat) : Bool := pFin x && fcmp .gtr .f32 x (cz .f32 0)
def isLeast (x : Nat) : Bool := pFin x && fcmp .geq .f32 x (cz .f32 0)
theorem spec_l02Above_wp {a : Nat} {K : Bool → Prop} (h : K (isOver a)) : spec_l02Above.wp a K := by
  refine spec_l01Finite_wp ⟨fun h1 => ?_, fun h1 => ?_⟩ <;> (rw [isOver, h1] at h; exact h)
theorem impl_isOver_wp {a : Nat} {K : Bool → Prop} (h : K (isOver a)) : impl_isOver.wp a K := by
  refine impl_IsFinite_wp ⟨fun h1 => ?_, fun h1 => ?_⟩ <;> (rw [isOver, h1] at h; exact h)
theorem spec_l02Least_wp {a : Nat} {K : Bool → Prop} (h : K (isLeast a)) : spec_l02Least.wp a K := by
  refine spec_l01Finite_wp ⟨fun h1 => ?_, fun h1 => ?_⟩ <;> (rw [isLeast, h1] at h; exact h)
theorem impl_isLeast_wp {a : Nat} {K : Bool → Prop} (h : K (isLeast a)) : impl_isLeast.wp a K := by
  refine impl_IsFinite_wp ⟨fun h1 => ?_, fun h1 => ?_⟩ <;> (rw [isLeast, h1] at h; exact h)
def isShare (x : Nat) : Bool := fcmp .geq .f32 x (cz .f32 0) && fcmp .leq .f32 x (cz .f32 1065353216)
theorem spec_l02Share_wp {a : Nat} {K : Bool → Prop} (h : K (isShare a)) : spec_l02Share.wp a K := by
  refine ⟨fun h1 => ?_, fun h1 => ?_⟩ <;> (rw [isShare, h1] at h; exact h)
theorem impl_isShare_wp {a : Nat} {K : Bool → Prop} (h : K (isShare a)) : impl_isShare.wp a K := by
  refine ⟨fun h1 => ?_, fun h1 => ?_⟩ <;> (rw [isShare, h1] at h; exact h)
/-! ### integers -/
def bnd (m : Int) (l : List Int) : Bool := l.all fun n => decide (-m ≤ n ∧ n ≤ m)
def isI (l : List Int) : Bool := decide (1 ≤ l.length ∧ l.length ≤ 128) && bnd 1000000 l
theorem spec_l02Bound_wp {l : List Int} {m : Int} {K : Bool → Prop} (hl : l.length ≤ 2 ^ 20) (hm : 0 ≤ m ∧ m ≤ 2 ^ 40) (h : K (bnd m l)) : spec_l02Bound.wp l m K := by
  intro X hX
  refine all_loop l (fun n => decide (-m ≤ n ∧ n ≤ m)) (X := X) (T := K true) (F := K false) (fun i hi hh => ?_) (fun ht => hX _ ⟨fun c => absurd c (by omega), fun _ => ht⟩) (fun e => by rw [bnd, e] at h; exact h) (fun e => by rw [bnd, e] at h; exact h)
  refine hX _ ⟨fun _ => ⟨⟨by omega, by omega⟩, spec_l00In_wp ?_⟩, fun c => absurd (show (i : Int) < l.length by omega) c⟩
  rw [nn, gD hi, w1 (by omega), wI (show -9223372036854775808 ≤ (0 : Int) - m ∧ (0 : Int) - m < 9223372036854775808 by omega), Int.zero_sub]; exact hh
theorem impl_areWithin_wp {l : List Int} {m : Int} {K : Bool → Prop} (hl : l.length ≤ 2 ^ 20) (hm : 0 ≤ m ∧ m ≤ 2 ^ 40) (h : K (bnd m l)) : impl_areWithin.wp l m K := by
  intro X hX
  refine all_loop l (fun n => decide (-m ≤ n ∧ n ≤ m)) (X := X) (T := K true) (F := K false) (fun i hi hh => ?_) (fun ht => hX _ ⟨fun c => absurd c (by omega), fun _ => ht⟩) (fun e => by rw [bnd, e] at h; exact h) (fun e => by rw [bnd, e] at h; exact h)
  refine hX _ ⟨fun _ => ⟨⟨by omega, by omega⟩, impl_within_wp ?_⟩, fun c => absurd (show (i : Int) < l.length by omega) c⟩
  rw [nn, gD hi, w1 (by omega), wI (show -9223372036854775808 ≤ (0 : Int) - m ∧ (0 : Int) - m < 9223372036854775808 by omega), Int.zero_sub]; exact hh
theorem spec_l02Integers_wp {l : List Int} {K : Bool → Prop} (hl : l.length ≤ 2 ^ 20) (h : K (isI l)) : spec_l02Integers.wp l K := by
  refine ⟨fun h1 => ⟨fun h2 => spec_l02Bound_wp hl (by omega) ?_, fun h2 => ?_⟩, fun h1 => ?_⟩
  · rw [isI, decide_eq_true (show 1 ≤ l.length ∧ l.length ≤ 128 by omega), Bool.true_and] at h; exact h
  · rw [isI, decide_eq_false (show ¬(1 ≤ l.length ∧ l.length ≤ 128) by omega), Bool.false_and] at h; exact h
  · rw [isI, decide_eq_false (show ¬(1 ≤ l.length ∧ l.length ≤ 128) by omega), Bool.false_and] at h; exact h
theorem impl_AreIntegers_wp {l : List Int} {K : Bool → Prop} (hl : l.length ≤ 2 ^ 20) (h : K (isI l)) : impl_AreIntegers.wp l K := by
  refine impl_within_wp ⟨fun h1 => ?_, fun h1 => ?_⟩
  · have h1 := of_decide_eq_true h1
    refine impl_areWithin_wp hl (by omega) ?_
    rw [isI, decide_eq_true (show 1 ≤ l.length ∧ l.length ≤ 128 by omega), Bool.true_and] at h; exact h
  · have h1 := of_decide_eq_false h1
    rw [isI, decide_eq_false (show ¬(1 ≤ l.length ∧ l.length ≤ 128) by omega), Bool.false_and] at h; exact h
theorem impl_finiteList_wp {l : List Nat} {K : Bool → Bool → Prop} (hl : l.length ≤ 2 ^ 20) (h : K (pAll l) (pAll l)) : impl_finiteList.wp l K := by
  refine impl_areFinite1_wp hl ⟨fun h1 => ?_, fun h1 => ?_⟩ <;> (rw [h1] at h; exact h)
theorem spec_l02List_wp {l : List Nat} {K : Bool → Bool → Prop} (hl : l.length ≤ 2 ^ 20) (h : K (pAll l) (pAll l)) : spec_l02List.wp l K := by
  refine spec_l02Finite_wp hl ⟨fun h1 => ?_, fun h1 => ?_⟩ <;> (rw [h1] at h; exact h)

end Go.Proofs.Ytpeijfnfffogeaa.G

namespace Go.Proofs.Ytpeijfnfffogeaa.G
open Go Go.Ab
set_option maxRecDepth 100000
set_option linter.unusedVariables false
set_option linter.unusedSimpArgs false
set_option maxHeartbeats 1000000
def Sm (n : Int) : Prop := -1000000 ≤ n ∧ n ≤ 1000000
theorem u64w {k : Nat} (h : k < 2 ^ 40) : IntKind.u64.wrap (k : Int) = (k : Int) := by
  show (k : Int) % 18446744073709551616 = _; omega
theorem shr (y k : Nat) (hk : k ≤ 60) : Int.fdiv (y : Int) (2 ^ (min (k : Int).toNat IntKind.i64.bits)) = ((y / 2 ^ k : Nat) : Int) := by
  have e : min (k : Int).toNat IntKind.i64.bits = k := by
    rw [Int.toNat_natCast, show IntKind.i64.bits = 64 from rfl]; omega
  rw [e, Int.fdiv_eq_ediv_of_nonneg _ (by exact Int.le_of_lt (Int.pow_pos (by decide)))]
  rw [show (2 : Int) ^ k = ((2 ^ k : Nat) : Int) by rw [Int.natCast_pow]; rfl]
  rfl
theorem isI_sm {l : List Int} (h : isI l = true) : l.length ≤ 128 ∧ ∀ n ∈ l, Sm n := by
  simp only [isI, Bool.and_eq_true, decide_eq_true_eq, bnd, List.all_eq_true] at h
  exact ⟨h.1.2, h.2⟩

end Go.Proofs.Ytpeijfnfffogeaa.G

namespace Go.Proofs.Ytpeijfnfffogeaa.G
open Go Go.Ab
set_option maxRecDepth 100000
set_option linter.unusedVariables false
set_option linter.unusedSimpArgs false
set_option maxHeartbeats 1000000
theorem spec_l06AbsC_wp {n : Int} {K : Int → Prop} (h : Sm n) (hk : K (n.natAbs : Int)) : spec_l06Abs.wp n K := by
  obtain ⟨h1, h2⟩ := h
  refine ⟨fun c => ?_, fun c => ?_⟩
  · rw [wI (n := 0 - n) (by omega), show 0 - n = (n.natAbs : Int) by omega]; exact hk
  · rw [show (n.natAbs : Int) = n by omega] at hk; exact hk
theorem impl_farC_wp {n : Int} {K : Int → Prop} (h : Sm n) (hk : K (n.natAbs : Int)) : impl_far.wp n K := by
  obtain ⟨h1, h2⟩ := h
  show K (mxI n (IntKind.i64.wrap (0 - n)))
  rw [wI (n := 0 - n) (by omega)]
  have : mxI n (0 - n) = (n.natAbs : Int) := by unfold mxI; split <;> omega
  rw [this]; exact hk
/-- How many digits the greatest has. -/
def IsTop (l : List Int) (n : Nat) : Prop := (∀ x ∈ l, x.natAbs < 2 ^ n) ∧ (n = 0 ∨ ∃ x ∈ l, 2 ^ (n - 1) ≤ x.natAbs)
theorem top_uniq {l : List Int} {n m : Nat} (h1 : IsTop l n) (h2 : IsTop l m) : n = m := by
  have key : ∀ {n m : Nat}, IsTop l n → IsTop l m → n ≤ m := by
    intro n m h1 h2
    rcases h1.2 with h | ⟨x, hx, h3⟩
    · omega
    · have h4 := h2.1 x hx
      rcases Nat.lt_or_ge m n with h5 | h5
      · have : 2 ^ m ≤ 2 ^ (n - 1) := Nat.pow_le_pow_right (by decide) (by omega)
        omega
      · exact h5
  exact Nat.le_antisymm (key h1 h2) (key h2 h1)
theorem top_le {l : List Int} {n : Nat} (hg : ∀ x ∈ l, Sm x) (h : IsTop l n) : n ≤ 20 := by
  rcases h.2 with h | ⟨x, hx, h3⟩
  · omega
  · obtain ⟨h1, h2⟩ := hg x hx
    rcases Nat.lt_or_ge 20 n with h5 | h5
    · have : 2 ^ 20 ≤ 2 ^ (n - 1) := Nat.pow_le_pow_right (by decide) (by omega)
      omega
    · exact h5
theorem div0 {a n : Nat} : a / 2 ^ n = 0 ↔ a < 2 ^ n := by
  rw [Nat.div_eq_zero_iff]
  have := Nat.two_pow_pos n
  omega
theorem spec_l06Planes_wp {l : List Int} {K : Int → Prop} (hl : l.length ≤ 128) (hg : ∀ x ∈ l, Sm x) (h : ∀ n, IsTop l n → K (n : Nat)) : spec_l06Planes.wp l K := by
  intro X hX
  have key : ∀ (m i n : Nat), m + i = l.length → IsTop (l.take i) n → X (n : Int) (i : Int) := by
    intro m
    induction m with
    | zero =>
      intro i n h1 h2
      obtain rfl : i = l.length := by omega
      rw [List.take_length] at h2
      exact hX _ _ ⟨fun c => absurd c (by omega), fun _ => h n h2⟩
    | succ m ih =>
      intro i n h1 h2
      have hi : i < l.length := by omega
      have hz := hg _ (List.getElem_mem hi)
      have hn20 := top_le (fun x hx => hg x (List.mem_of_mem_take hx)) h2
      refine hX _ _ ⟨fun _ => fun Y hY => ?_, fun c => absurd (show (i : Int) < l.length by omega) c⟩
      have htake : l.take (i + 1) = l.take i ++ [l[i]] := List.take_succ_eq_append_getElem hi
      -- from n on
      have hm : l[i] ∈ l.take (i + 1) := by rw [htake]; exact List.mem_append_right _ (List.mem_singleton.2 rfl)
      have up : ∀ (d k : Nat), k + d = 21 → (∀ x ∈ l.take i, x.natAbs < 2 ^ k) → (k = 0 ∨ ∃ x ∈ l.take (i + 1), 2 ^ (k - 1) ≤ x.natAbs) → Y (k : Int) := by
        intro d
        induction d with
        | zero =>
          intro k hk h3 h4
          rcases h4 with h4 | ⟨x, hx, h4⟩
          · omega
          · obtain ⟨h5, h6⟩ := hg x (List.mem_of_mem_take hx)
            rw [show k - 1 = 20 by omega] at h4
            omega
        | succ d ihd =>
          intro k hk h3 h4
          refine hY _ ⟨⟨by omega, by omega⟩, ?_⟩
          rw [nn, gD hi, u64w (by omega)]
          refine spec_l06AbsC_wp hz ⟨by omega, ?_⟩
          rw [shr _ _ (by omega), w1 (by omega), w1 (by omega)]
          refine ⟨fun c => ih (i + 1) k (by omega) ⟨fun x hx => ?_, h4⟩, fun c => ?_⟩
          · rw [htake] at hx
            rcases List.mem_append.1 hx with hx | hx
            · exact h3 x hx
            · rw [List.mem_singleton.1 hx]; exact div0.1 (by omega)
          · have hge : 2 ^ k ≤ l[i].natAbs := by
              have : ¬ l[i].natAbs / 2 ^ k = 0 := by omega
              rw [div0] at this; omega
            refine ihd (k + 1) (by omega) (fun x hx => ?_) (.inr ⟨l[i], hm, by rw [Nat.add_sub_cancel]; exact hge⟩)
            have := h3 x hx
            rw [Nat.pow_succ]; omega
      refine up (21 - n) n (by omega) h2.1 ?_
      rcases h2.2 with h3 | ⟨x, hx, h3⟩
      · exact .inl h3
      · exact .inr ⟨x, by rw [htake]; exact List.mem_append_left _ hx, h3⟩
  exact key l.length 0 0 (by omega) ⟨fun x hx => by simp at hx, .inl rfl⟩
def tab8 : List UInt8 := ([0, 1, 2, 2, 3, 3, 3, 3, 4, 4, 4, 4, 4, 4, 4, 4, 5, 5, 5, 5, 5, 5, 5, 5, 5, 5, 5, 5, 5, 5, 5, 5] ++ List.replicate 32 6) ++ (List.replicate 64 7 ++ List.replicate 128 8)
def bitL (n : Nat) : Nat := if n = 0 then 0 else n.log2 + 1
def bN8 (n : Nat) : Nat := (tab8.getD n 0).toNat
theorem tab8_at : ∀ n, n < 256 → bN8 n = bitL n := by decide +kernel
theorem bitL_lt (n : Nat) : n < 2 ^ bitL n := by
  unfold bitL; split
  · rename_i h; subst h; decide
  · exact Nat.lt_log2_self
theorem bitL_le {n : Nat} (h : n ≠ 0) : 2 ^ (bitL n - 1) ≤ n := by
  unfold bitL; rw [if_neg h, Nat.add_sub_cancel]; exact Nat.log2_self_le h
theorem fdivu (y k : Nat) (hk : k ≤ 60) : Int.fdiv (y : Int) (2 ^ (min (k : Int).toNat IntKind.u64.bits)) = ((y / 2 ^ k : Nat) : Int) := by
  have e : min (k : Int).toNat IntKind.u64.bits = k := by
    rw [Int.toNat_natCast, show IntKind.u64.bits = 64 from rfl]; omega
  rw [e, Int.fdiv_eq_ediv_of_nonneg _ (by exact Int.le_of_lt (Int.pow_pos (by decide)))]
  rw [show (2 : Int) ^ k = ((2 ^ k : Nat) : Int) by rw [Int.natCast_pow]; rfl]
  rfl
theorem u8w {n : Nat} (h : n < 256) : IntKind.u8.wrap (n : Int) = (n : Int) := by
  show (n : Int) % 256 = _; omega
theorem bt_tab {n : Nat} (h : n < 256) : IntKind.i64.wrap (bt tab8 (n : Int)) = ((bitL n : Nat) : Int) := by
  have e : bt tab8 (n : Int) = ((bitL n : Nat) : Int) := by
    rw [← tab8_at n h]; rfl
  have hb : bitL n ≤ 8 := by
    unfold bitL; split
    · omega
    · have : n.log2 < 8 := (Nat.log2_lt (by assumption)).2 (by omega)
      omega
  rw [e, wI (by omega)]
theorem bitL8 {n : Nat} (h : n < 256) : bitL n ≤ 8 := by
  unfold bitL; split
  · omega
  · have : n.log2 < 8 := (Nat.log2_lt (by assumption)).2 (by omega)
    omega
/-- The digits of a number are those of its upper part, and the lower ones. -/
theorem bits_up {m s : Nat} (h : m / 2 ^ s ≠ 0) : m < 2 ^ (s + bitL (m / 2 ^ s)) ∧ 2 ^ (s + bitL (m / 2 ^ s) - 1) ≤ m := by
  have h1 := bitL_lt (m / 2 ^ s)
  have h2 := bitL_le h
  have h0 : bitL (m / 2 ^ s) ≠ 0 := by unfold bitL; rw [if_neg h]; omega
  have hp := Nat.two_pow_pos s
  constructor
  · rw [Nat.pow_add]; exact Nat.lt_of_lt_of_le ((Nat.div_lt_iff_lt_mul hp).1 h1) (Nat.le_of_eq (Nat.mul_comm _ _))
  · rw [show s + bitL (m / 2 ^ s) - 1 = s + (bitL (m / 2 ^ s) - 1) by omega, Nat.pow_add, Nat.mul_comm]
    exact (Nat.le_div_iff_mul_le hp).1 h2
theorem Len64_wp {m : Nat} {K : Int → Prop} (hm : m ≤ 1000000) (h : ∀ n, n ≤ 40 → m < 2 ^ n → (n = 0 ∨ 2 ^ (n - 1) ≤ m) → K (n : Nat)) : math_bits_Len64.wp (m : Int) K := by
  refine ⟨fun c => absurd c (by omega), fun _ => ⟨fun c => ?_, fun c => ?_⟩⟩
  · have e : Int.fdiv (m : Int) (2 ^ (min (16 : Int).toNat IntKind.u64.bits)) = ((m / 2 ^ 16 : Nat) : Int) := fdivu m 16 (by decide)
    have hd : m / 2 ^ 16 < 256 := by omega
    rw [e]
    refine ⟨fun c2 => absurd c2 (by omega), fun _ => ?_⟩
    rw [u8w hd]
    have hb := bitL8 hd
    refine ⟨⟨by omega, by show ((m / 2 ^ 16 : Nat) : Int) < 256; omega⟩, ?_⟩
    show K (IntKind.i64.wrap (IntKind.i64.wrap (0 + 16) + IntKind.i64.wrap (bt tab8 ((m / 2 ^ 16 : Nat) : Int))))
    rw [bt_tab hd, show IntKind.i64.wrap (IntKind.i64.wrap (0 + 16) + ((bitL (m / 2 ^ 16) : Nat) : Int)) = ((16 + bitL (m / 2 ^ 16) : Nat) : Int) by rw [show IntKind.i64.wrap (0 + 16) = 16 from by decide, wI (by omega)]; omega]
    have := bits_up (m := m) (s := 16) (by omega)
    exact h _ (by omega) this.1 (.inr this.2)
  · refine ⟨fun c2 => ?_, fun c2 => ?_⟩
    · have e : Int.fdiv (m : Int) (2 ^ (min (8 : Int).toNat IntKind.u64.bits)) = ((m / 2 ^ 8 : Nat) : Int) := fdivu m 8 (by decide)
      have hd : m / 2 ^ 8 < 256 := by omega
      rw [e, u8w hd]
      have hb := bitL8 hd
      refine ⟨⟨by omega, by show ((m / 2 ^ 8 : Nat) : Int) < 256; omega⟩, ?_⟩
      show K (IntKind.i64.wrap (IntKind.i64.wrap (0 + 8) + IntKind.i64.wrap (bt tab8 ((m / 2 ^ 8 : Nat) : Int))))
      rw [bt_tab hd, show IntKind.i64.wrap (IntKind.i64.wrap (0 + 8) + ((bitL (m / 2 ^ 8) : Nat) : Int)) = ((8 + bitL (m / 2 ^ 8) : Nat) : Int) by rw [show IntKind.i64.wrap (0 + 8) = 8 from by decide, wI (by omega)]; omega]
      have := bits_up (m := m) (s := 8) (by omega)
      exact h _ (by omega) this.1 (.inr this.2)
    · have hd : m < 256 := by omega
      rw [u8w hd]
      have hb := bitL8 hd
      refine ⟨⟨by omega, by show (m : Int) < 256; omega⟩, ?_⟩
      show K (IntKind.i64.wrap (0 + IntKind.i64.wrap (bt tab8 (m : Int))))
      rw [bt_tab hd, show IntKind.i64.wrap (0 + ((bitL m : Nat) : Int)) = ((bitL m : Nat) : Int) by rw [wI (by omega)]; omega]
      refine h _ (by omega) (bitL_lt m) ?_
      by_cases h0 : m = 0
      · exact .inl (by unfold bitL; rw [if_pos h0])
      · exact .inr (bitL_le h0)
theorem impl_planesFor_wp {l : List Int} {K : Int → Prop} (hl : l.length ≤ 128) (hg : ∀ x ∈ l, Sm x) (h : ∀ n, IsTop l n → K (n : Nat)) : impl_planesFor.wp l K := by
  intro X hX
  have key : ∀ (d i m : Nat), d + i = l.length → m ≤ 1000000 → (∀ x ∈ l.take i, x.natAbs ≤ m) → (m = 0 ∨ ∃ x ∈ l, x.natAbs = m) → X (m : Int) (i : Int) := by
    intro d
    induction d with
    | zero =>
      intro i m h1 hm h2 h3
      obtain rfl : i = l.length := by omega
      rw [List.take_length] at h2
      refine hX _ _ ⟨fun c => absurd c (by omega), fun _ => ?_⟩
      rw [u64w (by omega)]
      refine Len64_wp hm fun n _ h4 h5 => h n ⟨fun x hx => Nat.lt_of_le_of_lt (h2 x hx) h4, ?_⟩
      rcases h5 with h5 | h5
      · exact .inl h5
      · rcases h3 with h3 | ⟨x, hx, h3⟩
        · have := Nat.two_pow_pos (n - 1); omega
        · exact .inr ⟨x, hx, by rw [h3]; exact h5⟩
    | succ d ih =>
      intro i m h1 hm h2 h3
      have hi : i < l.length := by omega
      have hz := hg _ (List.getElem_mem hi)
      refine hX _ _ ⟨fun _ => ⟨⟨by omega, by omega⟩, ?_⟩, fun c => absurd (show (i : Int) < l.length by omega) c⟩
      rw [nn, gD hi, w1 (by omega)]
      refine impl_farC_wp hz ?_
      have hzb : l[i].natAbs ≤ 1000000 := by obtain ⟨h5, h6⟩ := hz; omega
      have hmx : mxI (m : Int) (l[i].natAbs : Int) = ((max m l[i].natAbs : Nat) : Int) := by unfold mxI; split <;> omega
      rw [hmx]
      refine ih (i + 1) _ (by omega) (by omega) (fun x hx => ?_) ?_
      · rw [List.take_succ_eq_append_getElem hi] at hx
        rcases List.mem_append.1 hx with hx | hx
        · have := h2 x hx; omega
        · rw [List.mem_singleton.1 hx]; omega
      · rcases Nat.le_total m l[i].natAbs with h5 | h5
        · exact .inr ⟨l[i], List.getElem_mem hi, by omega⟩
        · rcases h3 with h3 | ⟨x, hx, h3⟩
          · exact .inl (by omega)
          · exact .inr ⟨x, hx, by omega⟩
  exact key l.length 0 0 (by omega) (by omega) (fun x hx => by simp at hx) (.inl rfl)
/-- One integer's bits of a plane. -/
def dgt (a k : Nat) : Bool := decide (ibits .and .i64 ((a / 2 ^ k : Nat) : Int) 1 = 1)
def oneC (n : Int) (k : Nat) : List Bool := if dgt n.natAbs k = true then (if n.natAbs / 2 ^ (k + 1) = 0 then [true, decide (n < 0)] else [true]) else [false]
theorem oneC_len (n : Int) (k : Nat) : (oneC n k).length ≤ 2 := by unfold oneC; split <;> (try split) <;> simp
def planeC (l : List Int) (k : Nat) : List Bool := l.flatMap fun n => oneC n k
def codeC (l : List Int) (p : Nat) : Nat → List Bool
  | 0 => []
  | j + 1 => planeC l (p + j) ++ codeC l p j
theorem flat_len {l : List Int} {k : Nat} : (planeC l k).length ≤ 2 * l.length := by
  unfold planeC
  induction l with
  | nil => simp
  | cons a l ih => rw [List.flatMap_cons, List.length_append, List.length_cons]; have := oneC_len a k; omega
theorem spec_l06Digit_wp {n : Int} {k : Nat} {K : Bool → Prop} (h : Sm n) (hk : k ≤ 40) (hK : K (dgt n.natAbs k)) : spec_l06Digit.wp n (k : Int) K := by
  refine spec_l06AbsC_wp h ?_
  rw [u64w (by omega), shr _ _ (by omega)]
  exact ⟨by omega, hK⟩
theorem impl_digit_wp {n : Int} {k : Nat} {K : Bool → Prop} (h : Sm n) (hk : k ≤ 40) (hK : K (dgt n.natAbs k)) : impl_digit.wp n (k : Int) K := by
  refine impl_farC_wp h ?_
  rw [shr _ _ (by omega)]
  exact ⟨by omega, hK⟩
/-- The inner loop. -/
theorem plane_loop (l : List Int) (k : Nat) {X : List Bool → Int → Prop} (o : List Bool) (hX : ∀ (q : List Bool) (i : Nat) (hi : i < l.length), q.length + (oneC l[i] k).length ≤ o.length + 2 * l.length → X (q ++ oneC l[i] k) ((i + 1 : Nat) : Int) → X q (i : Int)) (hend : X (o ++ planeC l k) (l.length : Int)) : X o ((0 : Nat) : Int) := by
  have key : ∀ m i q, m + i = l.length → q ++ planeC (l.drop i) k = o ++ planeC l k → X q (i : Int) := by
    intro m
    induction m with
    | zero => intro i q h1 h3
              obtain rfl : i = l.length := by omega
              rw [List.drop_length] at h3
              have h3 : q ++ [] = _ := h3
              rw [List.append_nil] at h3
              rw [h3]; exact hend
    | succ m ih =>
      intro i q h1 h3
      have hi : i < l.length := by omega
      rw [dropC hi] at h3
      have h3 : q ++ (oneC l[i] k ++ planeC (l.drop (i + 1)) k) = _ := h3
      have h4 := congrArg List.length h3
      rw [List.length_append, List.length_append, List.length_append] at h4
      have h5 := flat_len (l := l) (k := k)
      exact hX q i hi (by omega) (ih (i + 1) _ (by omega) (by rw [List.append_assoc]; exact h3))
  exact key l.length 0 o (by omega) (by rw [List.drop_zero])
theorem code_len (l : List Int) (p : Nat) : ∀ j, (codeC l p j).length ≤ 2 * l.length * j
  | 0 => by simp [codeC]
  | j + 1 => by
    have := code_len l p j
    have := flat_len (l := l) (k := p + j)
    rw [codeC, List.length_append, Nat.mul_succ]; omega
/-- The outer loop: planes down to p. -/
theorem planes_loop (l : List Int) (hl : l.length ≤ 128) (p T : Nat) (hT : T ≤ 40) {X : List Bool → Int → Prop} (hX : ∀ (o : List Bool) (j : Nat), j < T → o.length + 2 * l.length ≤ 2 * l.length * T → X (o ++ planeC l (p + j)) (((p + j : Nat) : Int) - 1) → X o (((p + j : Nat)) : Int)) (hend : X (codeC l p T) ((p : Int) - 1)) : X [] (((p + T : Nat) : Int) - 1) := by
  have key : ∀ j o, j ≤ T → o.length + 2 * l.length * j ≤ 2 * l.length * T → o ++ codeC l p j = codeC l p T → X o (((p + j : Nat) : Int) - 1) := by
    intro j
    induction j with
    | zero =>
      intro o h1 h2 h3
      rw [codeC, List.append_nil] at h3
      rw [h3]; exact hend
    | succ j ih =>
      intro o h1 h2 h3
      rw [codeC] at h3
      rw [Nat.mul_succ] at h2
      have h5 := flat_len (l := l) (k := p + j)
      have := hX o j (by omega) (by omega) (ih _ (by omega) (by rw [List.length_append]; omega) (by rw [List.append_assoc]; exact h3))
      rw [show ((p + (j + 1) : Nat) : Int) - 1 = ((p + j : Nat) : Int) by omega]; exact this
  exact key T [] (Nat.le_refl _) (by simp) rfl
theorem shr1 {n : Int} {k : Nat} (hk : k ≤ 40) {A B : Prop} (h : (n.natAbs / 2 ^ (k + 1) = 0 → A) ∧ (¬ n.natAbs / 2 ^ (k + 1) = 0 → B)) : (Int.fdiv (n.natAbs : Int) (2 ^ (min ((k + 1 : Nat) : Int).toNat IntKind.i64.bits)) = 0 → A) ∧ (¬ Int.fdiv (n.natAbs : Int) (2 ^ (min ((k + 1 : Nat) : Int).toNat IntKind.i64.bits)) = 0 → B) := by
  rw [shr _ _ (by omega)]
  exact ⟨fun c => h.1 (by omega), fun c => h.2 (by omega)⟩
theorem spec_l06Code_wp {l : List Int} {p : Nat} {K : Int → Int → List Bool → Prop} (hl : l.length ≤ 128) (hg : ∀ x ∈ l, Sm x) (hp : p ≤ 40) (h : ∀ n, IsTop l n → K (l.length : Int) (n : Int) (codeC l p (n - p))) : spec_l06Code.wp l (p : Int) K := by
  refine spec_l06Planes_wp hl hg fun n hn => ?_
  have hn20 := top_le hg hn
  intro X hX
  rw [wI (by omega)]
  have main : X [] (l.length : Int) (n : Int) (((p + (n - p) : Nat) : Int) - 1) := by
    refine planes_loop l hl p (n - p) (by omega) (X := fun o k => X o (l.length : Int) (n : Int) k) (fun o j hj ho hn1 => hX _ _ _ _ ⟨fun _ => fun Y hY => ?_, fun c => absurd (show (p : Int) ≤ ((p + j : Nat) : Int) by omega) c⟩) (hX _ _ _ _ ⟨fun c => absurd c (by omega), fun _ => h n hn⟩)
    have hb : 2 * l.length * (n - p) ≤ 256 * 20 := Nat.mul_le_mul (by omega) (by omega)
    refine plane_loop l (p + j) (X := fun o i => Y o (l.length : Int) (n : Int) i) o (fun q i hi hq hn2 => hY _ _ _ _ ⟨fun _ => ⟨⟨by omega, by omega⟩, ?_⟩, fun c => absurd (show (i : Int) < l.length by omega) c⟩) (hY _ _ _ _ ⟨fun c => absurd c (by omega), fun _ => ?_⟩)
    · have hz := hg _ (List.getElem_mem hi)
      rw [nn, gD hi, w1 (by omega)]
      refine spec_l06Digit_wp hz (by omega) ⟨by rw [len1]; omega, fun c => ?_, fun c => ?_⟩
      · refine spec_l06AbsC_wp hz ?_
        rw [w1 (by omega), u64w (by omega)]
        refine ⟨by omega, shr1 (by omega) ⟨fun c2 => ⟨by rw [List.length_append, len1, len1]; omega, ?_⟩, fun c2 => ?_⟩⟩
        · rw [oneC, if_pos c, if_pos c2] at hn2
          rw [c, List.append_assoc]; exact hn2
        · rw [oneC, if_pos c, if_neg c2] at hn2
          rw [c]; exact hn2
      · rw [oneC, if_neg (by rw [c]; decide)] at hn2
        rw [c]
        first | exact hn2 | (rw [w1 (by omega)]; exact hn2)
    · rw [wI (by omega)]; exact hn1
  by_cases hc : p ≤ n
  · rw [show (n : Int) - 1 = ((p + (n - p) : Nat) : Int) - 1 by omega]; exact main
  · refine hX _ _ _ _ ⟨fun c => absurd c (by omega), fun _ => ?_⟩
    have := h n hn
    rw [show n - p = 0 by omega] at this; exact this
theorem impl_codeUntil_wp {l : List Int} {p n : Nat} {K : List Bool → Prop} (hl : l.length ≤ 128) (hg : ∀ x ∈ l, Sm x) (hp : p ≤ 40) (hn20 : n ≤ 20) (h : K (codeC l p (n - p))) : impl_codeUntil.wp l (n : Int) (p : Int) K := by
  intro X hX
  rw [wI (by omega)]
  have main : X [] (((p + (n - p) : Nat) : Int) - 1) := by
    refine planes_loop l hl p (n - p) (by omega) (X := X) (fun o j hj ho hn1 => hX _ _ ⟨fun _ => fun Y hY => ?_, fun c => absurd (show (p : Int) ≤ ((p + j : Nat) : Int) by omega) c⟩) (hX _ _ ⟨fun c => absurd c (by omega), fun _ => h⟩)
    have hb : 2 * l.length * (n - p) ≤ 256 * 20 := Nat.mul_le_mul (by omega) (by omega)
    refine plane_loop l (p + j) (X := Y) o (fun q i hi hq hn2 => hY _ _ ⟨fun _ => ⟨⟨by omega, by omega⟩, ?_⟩, fun c => absurd (show (i : Int) < l.length by omega) c⟩) (hY _ _ ⟨fun c => absurd c (by omega), fun _ => ?_⟩)
    · have hz := hg _ (List.getElem_mem hi)
      rw [nn, gD hi, w1 (by omega)]
      refine impl_digit_wp hz (by omega) ⟨by rw [len1]; omega, fun c => ?_, fun c => ?_⟩
      · refine impl_farC_wp hz ?_
        rw [w1 (by omega)]
        refine ⟨by omega, shr1 (by omega) ⟨fun c2 => ⟨by rw [List.length_append, len1, len1]; omega, ?_⟩, fun c2 => ?_⟩⟩
        · rw [oneC, if_pos c, if_pos c2] at hn2
          rw [c, List.append_assoc]; exact hn2
        · rw [oneC, if_pos c, if_neg c2] at hn2
          rw [c]; exact hn2
      · rw [oneC, if_neg (by rw [c]; decide)] at hn2
        rw [c]
        first | exact hn2 | (rw [w1 (by omega)]; exact hn2)
    · rw [wI (by omega)]; exact hn1
  by_cases hc : p ≤ n
  · rw [show (n : Int) - 1 = ((p + (n - p) : Nat) : Int) - 1 by omega]; exact main
  · refine hX _ _ ⟨fun c => absurd c (by omega), fun _ => ?_⟩
    rw [show n - p = 0 by omega] at h; exact h
theorem top_ex (l : List Int) : ∃ n, IsTop l n := by
  have h0 : ∀ m, (∀ x ∈ l, x.natAbs < 2 ^ m) → ∃ n, IsTop l n := by
    intro m
    induction m with
    | zero => intro h; exact ⟨0, h, .inl rfl⟩
    | succ m ih =>
      intro h
      by_cases hc : ∃ x ∈ l, 2 ^ m ≤ x.natAbs
      · exact ⟨m + 1, h, .inr hc⟩
      · refine ih fun x hx => ?_
        rcases Nat.lt_or_ge x.natAbs (2 ^ m) with h1 | h1
        · exact h1
        · exact absurd ⟨x, hx, h1⟩ hc
  have hb : ∀ l : List Int, ∃ m, ∀ x ∈ l, x.natAbs < 2 ^ m := by
    intro l
    induction l with
    | nil => exact ⟨0, fun x hx => by cases hx⟩
    | cons a l ih =>
      obtain ⟨m, hm⟩ := ih
      refine ⟨m + bitL a.natAbs, fun x hx => ?_⟩
      rcases List.mem_cons.1 hx with rfl | hx
      · exact Nat.lt_of_lt_of_le (bitL_lt _) (Nat.pow_le_pow_right (by decide) (by omega))
      · exact Nat.lt_of_lt_of_le (hm x hx) (Nat.pow_le_pow_right (by decide) (by omega))
  obtain ⟨m, hm⟩ := hb l
  exact h0 m hm

end Go.Proofs.Ytpeijfnfffogeaa.G

namespace Go.Proofs.Ytpeijfnfffogeaa.G
open Go Go.Ab
set_option maxRecDepth 100000
set_option linter.unusedVariables false
set_option linter.unusedSimpArgs false
set_option maxHeartbeats 1000000
/-- What is like itself is a number. -/
theorem num_of_eq {x : Nat} (h : fcmp .neq .f32 x x = false) : num .f32 x = true := by
  unfold num
  cases hd : (FloatKind.f32.decode x).isNaN with
  | false => rfl
  | true =>
    exfalso
    have h2 : Ieee.single.order x x = none := by
      unfold Ieee.Format.order
      have hd' : (Ieee.single.read x).isNaN = true := hd
      cases hr : Ieee.single.read x with
      | nan s t => rfl
      | _ => rw [hr] at hd'; cases hd'
    unfold fcmp at h
    rw [show FloatKind.f32.format = Ieee.single from rfl, h2] at h
    cases h
theorem ixor {a b : Nat} (ha : a < 2 ^ 32) (hb : b < 2 ^ 32) : ibits .xor .i64 (a : Int) (b : Int) = ((a ^^^ b : Nat) : Int) := by
  have hx : a ^^^ b < 2 ^ 32 := Nat.xor_lt_two_pow ha hb
  have ea : (BitVec.ofInt 64 (a : Int)).toNat = a := by rw [BitVec.ofInt_natCast, BitVec.toNat_ofNat]; omega
  have eb : (BitVec.ofInt 64 (b : Int)).toNat = b := by rw [BitVec.ofInt_natCast, BitVec.toNat_ofNat]; omega
  show IntKind.i64.wrap ((BitVec.ofInt 64 (a : Int) ^^^ BitVec.ofInt 64 (b : Int)).toNat : Int) = _
  rw [BitVec.toNat_xor, ea, eb]
  exact wI (by omega)
theorem ior {a b : Nat} (ha : a < 2 ^ 32) (hb : b < 2 ^ 32) : ibits .or .i64 (a : Int) (b : Int) = ((a ||| b : Nat) : Int) := by
  have hx : a ||| b < 2 ^ 32 := Nat.or_lt_two_pow ha hb
  have ea : (BitVec.ofInt 64 (a : Int)).toNat = a := by rw [BitVec.ofInt_natCast, BitVec.toNat_ofNat]; omega
  have eb : (BitVec.ofInt 64 (b : Int)).toNat = b := by rw [BitVec.ofInt_natCast, BitVec.toNat_ofNat]; omega
  show IntKind.i64.wrap ((BitVec.ofInt 64 (a : Int) ||| BitVec.ofInt 64 (b : Int)).toNat : Int) = _
  rw [BitVec.toNat_or, ea, eb]
  exact wI (by omega)
theorem p8 : (2 ^ (min (8 : Int).toNat IntKind.i64.bits) : Int) = 256 := by decide
theorem fdiv8 (m : Nat) : Int.fdiv (m : Int) (2 ^ (min (8 : Int).toNat IntKind.i64.bits)) = ((m / 256 : Nat) : Int) := by
  rw [p8, Int.fdiv_eq_ediv_of_nonneg _ (by decide)]; omega
theorem tdivN (m k : Nat) (h : m < 2 ^ 40) : IntKind.i64.wrap (Int.tdiv (m : Int) (k : Int)) = ((m / k : Nat) : Int) := by
  rw [show (m : Int).tdiv (k : Int) = ((m / k : Nat) : Int) by rw [Int.tdiv_eq_ediv_of_nonneg (by omega)]; rfl]
  have := Nat.div_le_self m k
  generalize m / k = d at this
  exact wI (by omega)
theorem u8wrap (m : Nat) : IntKind.u8.wrap (m : Int) = ((m % 256 : Nat) : Int) := by
  show (m : Int) % 256 = _
  omega
theorem tmod8 (m : Nat) : Int.tmod (m : Int) 256 = ((m % 256 : Nat) : Int) := by
  rw [Int.tmod_eq_emod_of_nonneg (by omega)]; rfl
/-- How many bytes a number fills. -/
def nb (x : Nat) : Nat := if x = 0 then 0 else if x < 256 then 1 else if x < 65536 then 2 else if x < 16777216 then 3 else 4
theorem nb_le (x : Nat) : nb x ≤ 4 := by unfold nb; repeat' split
                                         all_goals omega
theorem nb_div {m : Nat} (h : 0 < m) (h32 : m < 2 ^ 32) : nb (m / 256) + 1 = nb m := by
  unfold nb; repeat' split
  all_goals omega
def lowB : Nat → Nat → List Int
  | 0, _ => []
  | n + 1, x => ((x % 256 : Nat) : Int) :: lowB n (x / 256)
theorem lowB_len : ∀ n x, (lowB n x).length = n
  | 0, _ => rfl
  | n + 1, x => by rw [lowB, List.length_cons, lowB_len]
def bitsN (x : Nat) : Nat := if fcmp .neq .f32 x x = true then 2143289344 else x
theorem bitsN_lt {x : Nat} (h : x < 2 ^ 32) : bitsN x < 2 ^ 32 := by unfold bitsN; split <;> omega
def oneB (y : Nat) : List Int := ((4 - nb y : Nat) : Int) :: lowB (nb y) y
theorem oneB_len (y : Nat) : (oneB y).length ≤ 5 := by rw [oneB, List.length_cons, lowB_len]; have := nb_le y; omega
def packTo : List Nat → Nat → List Int
  | [], _ => []
  | x :: l, b => oneB (bitsN x ^^^ b) ++ packTo l (bitsN x)
def packL (l : List Nat) : List UInt8 := byts (packTo l 0)
/-- The loop over the values. -/
theorem pack_loop (l : List Nat) (hl : l.length ≤ 2 ^ 20) (hw : ∀ x ∈ l, x < 2 ^ 32) {X : List Int → Int → Int → Prop} (hX : ∀ (o : List Int) (b i : Nat) (hi : i < l.length), b < 2 ^ 32 → o.length ≤ 5 * i → X (o ++ oneB (bitsN l[i] ^^^ b)) (bitsN l[i] : Nat) ((i + 1 : Nat) : Int) → X o (b : Int) (i : Int)) (hend : ∀ b : Int, X (packTo l 0) b (l.length : Int)) : X [] ((0 : Nat) : Int) ((0 : Nat) : Int) := by
  have key : ∀ (m i : Nat) (o : List Int) (b : Nat), m + i = l.length → b < 2 ^ 32 → o.length ≤ 5 * i → o ++ packTo (l.drop i) b = packTo l 0 → X o (b : Int) (i : Int) := by
    intro m
    induction m with
    | zero => intro i o b h1 h2 h3 h4
              obtain rfl : i = l.length := by omega
              rw [List.drop_length, packTo, List.append_nil] at h4
              rw [h4]; exact hend _
    | succ m ih =>
      intro i o b h1 h2 h3 h4
      have hi : i < l.length := by omega
      refine hX o b i hi h2 h3 (ih (i + 1) _ _ (by omega) (bitsN_lt (hw _ (List.getElem_mem hi))) (by rw [List.length_append]; have := oneB_len (bitsN l[i] ^^^ b); omega) ?_)
      rw [dropC hi, packTo] at h4
      rw [List.append_assoc]; exact h4
  exact key l.length 0 [] 0 (by omega) (by decide) (by simp) rfl
/-- The loop over a number's bytes. -/
theorem bytes_loop (M : Nat) {X : List Int → Int → Int → Prop} {N : Nat} (hX : ∀ (o : List Int) (x k : Nat), k < N → x < 2 ^ 32 → o.length < M → X (o ++ [((x % 256 : Nat) : Int)]) ((x / 256 : Nat) : Int) ((k + 1 : Nat) : Int) → X o (x : Int) (k : Int)) : ∀ (n k x : Nat) (o : List Int), k + n = N → x < 2 ^ 32 → o.length + n ≤ M → (∀ x, X (o ++ lowB n x) x (N : Int) → True) → (∀ y : Int, X (o ++ lowB n x) y (N : Int)) → X o (x : Int) (k : Int) := by
  intro n
  induction n with
  | zero => intro k x o h1 h2 h3 _ h4
            obtain rfl : k = N := by omega
            have := h4 x
            rw [lowB, List.append_nil] at this; exact this
  | succ n ih =>
    intro k x o h1 h2 h3 _ h4
    refine hX o x k (by omega) h2 (by omega) (ih (k + 1) (x / 256) _ (by omega) (by omega) (by rw [List.length_append, List.length_singleton]; omega) (fun _ _ => trivial) fun y => ?_)
    have := h4 y
    rw [lowB] at this
    rw [List.append_assoc]; exact this
theorem spec_l01Bits_wp {x : Nat} {K : Int → Prop} (hx : x < 2 ^ 32) (h : K (bitsN x : Nat)) : spec_l01Bits.wp x K := by
  refine ⟨fun c => ?_, fun c => ⟨?_, ?_⟩⟩
  · rw [bitsN, if_pos c] at h; exact h
  · exact num_of_eq c
  · rw [bitsN, if_neg (by rw [c]; decide)] at h
    rw [wI (by omega)]; exact h
theorem impl_BitsOf_wp {x : Nat} {K : Int → Prop} (hx : x < 2 ^ 32) (h : K (bitsN x : Nat)) : impl_BitsOf.wp x K := by
  refine ⟨fun c => ?_, fun c => ⟨?_, ?_⟩⟩
  · rw [bitsN, if_pos c] at h; exact h
  · exact num_of_eq c
  · rw [bitsN, if_neg (by rw [c]; decide)] at h
    rw [wI (by omega)]; exact h
theorem impl_packed_wp {l : List Nat} {K : List UInt8 → Prop} (hl : l.length ≤ 2 ^ 20) (hw : ∀ x ∈ l, x < 2 ^ 32) (h : K (packL l)) : impl_packed.wp l K := by
  intro X hX
  refine pack_loop l hl hw (X := X) (fun o b i hi hb ho hn => hX _ _ _ ⟨fun _ => ⟨⟨by omega, by omega⟩, ?_⟩, fun c => absurd (show (i : Int) < l.length by omega) c⟩) (fun b => hX _ _ _ ⟨fun c => absurd c (by omega), fun _ => h⟩)
  have hxi := hw _ (List.getElem_mem hi)
  rw [nn, gD hi]
  refine impl_BitsOf_wp hxi ?_
  have hbi := bitsN_lt hxi
  rw [ixor hbi hb, w1 (by omega)]
  generalize hy : bitsN l[i] ^^^ b = y at hn
  have hy32 : y < 2 ^ 32 := by rw [← hy]; exact Nat.xor_lt_two_pow hbi hb
  have hnb := nb_le y
  intro Z hZ
  have key : ∀ (n z m : Nat), nb m = n → z + nb y = 4 + n → m < 2 ^ 32 → Z (z : Int) (m : Int) := by
    intro n
    induction n with
    | zero =>
      intro z m h1 h2 h3
      obtain rfl : m = 0 := by
        unfold nb at h1; repeat' split at h1
        all_goals first | assumption | omega
      refine hZ _ _ ⟨fun c => absurd c (by omega), fun _ => ⟨by rw [len1]; omega, fun Y hY => ?_⟩⟩
      have e1 : IntKind.u8.wrap (z : Int) = ((4 - nb y : Nat) : Int) := by rw [u8wrap]; omega
      have e2 : IntKind.i64.wrap ((4 : Int) - (z : Int)) = ((nb y : Nat) : Int) := by rw [wI (by omega)]; omega
      rw [e1]
      refine bytes_loop (5 * i + 5) (X := Y) (N := nb y) (fun q x k hk hx hq hn2 => hY _ _ _ ⟨fun _ => ⟨by rw [len1]; omega, ?_⟩, fun c => absurd (by rw [e2]; omega) c⟩) (nb y) 0 y _ (by omega) hy32 (by rw [List.length_append, List.length_singleton]; omega) (fun _ _ => trivial) (fun w => hY _ _ _ ⟨fun c => absurd c (by rw [e2]; omega), fun _ => ?_⟩)
      · rw [u8wrap, fdiv8, w1 (by omega)]; exact hn2
      · rw [List.append_assoc]; exact hn
    | succ n ih =>
      intro z m h1 h2 h3
      have hm : 0 < m := by
        unfold nb at h1; repeat' split at h1
        all_goals omega
      have := nb_div hm h3
      have := nb_le m
      refine hZ _ _ ⟨fun _ => ?_, fun c => absurd (show (0 : Int) < m by omega) c⟩
      rw [fdiv8, show IntKind.i64.wrap ((z : Int) - 1) = ((z - 1 : Nat) : Int) by rw [wI (by omega)]; omega]
      exact ih (z - 1) (m / 256) (by omega) (by omega) (by omega)
  exact key (nb y) 4 y rfl (by omega) hy32
theorem spec_l07Pack_wp {l : List Nat} {K : List UInt8 → Prop} (hl : l.length ≤ 2 ^ 20) (hw : ∀ x ∈ l, x < 2 ^ 32) (h : K (packL l)) : spec_l07Pack.wp l K := by
  intro X hX
  refine pack_loop l hl hw (X := X) (fun o b i hi hb ho hn => hX _ _ _ ⟨fun _ => ⟨⟨by omega, by omega⟩, ?_⟩, fun c => absurd (show (i : Int) < l.length by omega) c⟩) (fun b => hX _ _ _ ⟨fun c => absurd c (by omega), fun _ => h⟩)
  have hxi := hw _ (List.getElem_mem hi)
  rw [nn, gD hi]
  refine spec_l01Bits_wp hxi ?_
  have hbi := bitsN_lt hxi
  rw [ixor hbi hb, w1 (by omega)]
  generalize hy : bitsN l[i] ^^^ b = y at hn
  have hy32 : y < 2 ^ 32 := by rw [← hy]; exact Nat.xor_lt_two_pow hbi hb
  have hnb := nb_le y
  intro Z hZ
  have fin : ∀ (z : Nat), z + nb y = 4 → ∀ Y : List Int → Int → Int → Prop, (∀ (q : List Int) (x k : Int), ((k < 4 → ((q.length + ([(IntKind.u8.wrap (Int.tmod x 256))] : List (Int)).length) * 1 ≤ 2 ^ 40) ∧ Y (q ++ ([(IntKind.u8.wrap (Int.tmod x 256))] : List (Int))) (IntKind.i64.wrap (Int.tdiv x 256)) (IntKind.i64.wrap (k + 1))) ∧ (¬(k < 4) → X q (bitsN l[i] : Nat) ((i + 1 : Nat) : Int))) → Y q x k) → Y (o ++ ([(z : Int)] : List Int)) (y : Int) (z : Int) := by
    intro z hz Y hY
    refine bytes_loop (5 * i + 5) (X := Y) (N := 4) (fun q x k hk hx hq hn2 => hY _ _ _ ⟨fun _ => ⟨by rw [len1]; omega, ?_⟩, fun c => absurd (show (k : Int) < 4 by omega) c⟩) (nb y) z y _ hz hy32 (by rw [List.length_append, List.length_singleton]; omega) (fun _ _ => trivial) (fun w => hY _ _ _ ⟨fun c => absurd c (by omega), fun _ => ?_⟩)
    · rw [tmod8, u8wrap, Nat.mod_mod, show (256 : Int) = ((256 : Nat) : Int) from rfl, tdivN _ _ (by omega), w1 (by omega)]; exact hn2
    · rw [List.append_assoc]
      rw [oneB, show 4 - nb y = z by omega] at hn; exact hn
  have wz : ∀ z : Nat, z ≤ 4 → IntKind.u8.wrap (z : Int) = (z : Int) := fun z hz => by rw [u8wrap]; omega
  have q3 : y < 256 → Z ((3 : Nat) : Int) ((1 : Nat) : Int) := fun hy3 => by
    refine hZ _ _ ⟨fun _ => ⟨by decide, ?_⟩, fun c => absurd (by decide) c⟩
    rw [tdivN _ _ (by omega), Nat.div_one]
    refine ⟨fun c => ⟨fun _ => ⟨by rw [len1]; omega, ?_⟩, fun c2 => absurd rfl c2⟩, fun c => ⟨by rw [len1]; omega, ?_⟩⟩
    · rw [w1 (by decide), wz 4 (by decide)]
      exact fin 4 (by unfold nb; rw [if_pos (by omega)])
    · rw [wz 3 (by decide)]
      exact fin 3 (by unfold nb; rw [if_neg (by omega), if_pos (by omega)])
  have q2 : y < 65536 → Z ((2 : Nat) : Int) ((256 : Nat) : Int) := fun hy3 => by
    refine hZ _ _ ⟨fun _ => ⟨by decide, ?_⟩, fun c => absurd (by decide) c⟩
    rw [tdivN _ _ (by omega), w1 (by decide), show IntKind.i64.wrap (Int.tdiv ((256 : Nat) : Int) 256) = ((1 : Nat) : Int) by decide]
    refine ⟨fun c => ⟨fun c2 => absurd c2 (by decide), fun _ => q3 (by omega)⟩, fun c => ⟨by rw [len1]; omega, ?_⟩⟩
    rw [wz 2 (by decide)]
    exact fin 2 (by unfold nb; rw [if_neg (by omega), if_neg (by omega), if_pos (by omega)])
  have q1 : y < 16777216 → Z ((1 : Nat) : Int) ((65536 : Nat) : Int) := fun hy3 => by
    refine hZ _ _ ⟨fun _ => ⟨by decide, ?_⟩, fun c => absurd (by decide) c⟩
    rw [tdivN _ _ (by omega), w1 (by decide), show IntKind.i64.wrap (Int.tdiv ((65536 : Nat) : Int) 256) = ((256 : Nat) : Int) by decide]
    refine ⟨fun c => ⟨fun c2 => absurd c2 (by decide), fun _ => q2 (by omega)⟩, fun c => ⟨by rw [len1]; omega, ?_⟩⟩
    rw [wz 1 (by decide)]
    exact fin 1 (by unfold nb; rw [if_neg (by omega), if_neg (by omega), if_neg (by omega), if_pos (by omega)])
  show Z ((0 : Nat) : Int) ((16777216 : Nat) : Int)
  refine hZ _ _ ⟨fun _ => ⟨by decide, ?_⟩, fun c => absurd (by decide) c⟩
  rw [tdivN _ _ (by omega), w1 (by decide), show IntKind.i64.wrap (Int.tdiv ((16777216 : Nat) : Int) 256) = ((65536 : Nat) : Int) by decide]
  refine ⟨fun c => ⟨fun c2 => absurd c2 (by decide), fun _ => q1 (by omega)⟩, fun c => ⟨by rw [len1]; omega, ?_⟩⟩
  rw [wz 0 (by decide)]
  exact fin 0 (by unfold nb; rw [if_neg (by omega), if_neg (by omega), if_neg (by omega), if_neg (by omega)])

end Go.Proofs.Ytpeijfnfffogeaa.G

namespace Go.Proofs.Ytpeijfnfffogeaa.G
open Go Go.Ab
set_option maxRecDepth 100000
set_option linter.unusedVariables false
set_option linter.unusedSimpArgs false
set_option maxHeartbeats 1000000
theorem szFloat32S_wp {l : List Nat} {n : Int} {K : Int → Prop} (hl : l.length ≤ maxLen) (hn : 0 ≤ n ∧ n ≤ 2 ^ 40) (h0 : K (-1)) (h : (l.length : Int) ≤ n → K (n - (l.length : Int))) : laws_szFloat32S.wp l n K := by
  have hm : l.length < 2 ^ 63 := Nat.lt_of_le_of_lt hl (by decide)
  have e : IntKind.i64.wrap (n - (l.length : Int)) = n - (l.length : Int) := wI (by omega)
  refine ⟨fun c => h0, fun c => ?_⟩
  rw [e] at c ⊢; exact h (by omega)
theorem eqTake_wp {a : List UInt8} {k : Int} {l : List Nat} {K : Bool → Prop} (hl : l.length ≤ 2 ^ 20) (h : K true) : laws_eqTake.wp a k l a k l K :=
  tP rfl (tP rfl (eqFloat32S_wp hl (tT h)))
def btOk (a : List UInt8) (i : Nat) : Bool := !decide (bt a i < 97) && !decide (122 < bt a i)
def isNm (a : List UInt8) : Bool := (List.range a.length).all (btOk a) && decide (1 ≤ (a.length : Int) ∧ (a.length : Int) ≤ 8)
theorem range_get2 {n i : Nat} (h : i < (List.range n).length) : (List.range n)[i] = i := List.getElem_range h
theorem nm_yes {a : List UInt8} (h : (List.range a.length).all (btOk a) = true) : isNm a = decide (1 ≤ (a.length : Int) ∧ (a.length : Int) ≤ 8) := by rw [isNm, h]; rfl
theorem nm_no {a : List UInt8} (h : (List.range a.length).all (btOk a) = false) : isNm a = false := by rw [isNm, h]; rfl
theorem spec_l07Name_wp {a : List UInt8} {K : Bool → Prop} (ha : a.length ≤ 2 ^ 40) (h : K (isNm a)) : spec_l07Name.wp a K := by
  intro X hX
  refine all_loop (List.range a.length) (btOk a) (X := X) (T := K (decide (1 ≤ (a.length : Int) ∧ (a.length : Int) ≤ 8))) (F := K false) (fun i hi hh => ?_) (fun ht => hX _ ⟨fun c => absurd c (by rw [List.length_range]; omega), fun _ => ⟨fun h1 => ?_, fun h1 => ?_⟩⟩) (fun e => by rw [nm_yes e] at h; exact h) (fun e => by rw [nm_no e] at h; exact h)
  · rw [range_get2] at hh; rw [List.length_range] at hi
    refine hX _ ⟨fun _ => ⟨⟨by omega, by omega⟩, ?_⟩, fun c => absurd (show (i : Int) < a.length by omega) c⟩
    rw [w1 (by omega)]
    refine ⟨fun c1 => hh.2 (by rw [btOk, decide_eq_true c1]; rfl), fun c1 => ⟨fun c2 => hh.2 (by rw [btOk, decide_eq_true c2, Bool.not_true, Bool.and_false]), fun c2 => hh.1 (by rw [btOk, decide_eq_false c1, decide_eq_false c2]; rfl)⟩⟩
  · rw [show decide (1 ≤ (a.length : Int) ∧ (a.length : Int) ≤ 8) = decide ((a.length : Int) ≤ 8) by simp [h1]] at ht; exact ht
  · rw [show decide (1 ≤ (a.length : Int) ∧ (a.length : Int) ≤ 8) = false by simp [h1]] at ht; exact ht
theorem impl_IsName_wp {a : List UInt8} {K : Bool → Prop} (ha : a.length ≤ 2 ^ 40) (h : K (isNm a)) : impl_IsName.wp a K := by
  intro X hX
  refine all_loop (List.range a.length) (btOk a) (X := X) (T := K (decide (1 ≤ (a.length : Int) ∧ (a.length : Int) ≤ 8))) (F := K false) (fun i hi hh => ?_) (fun ht => hX _ ⟨fun c => absurd c (by rw [List.length_range]; omega), fun _ => ⟨fun h1 => ?_, fun h1 => ?_⟩⟩) (fun e => by rw [nm_yes e] at h; exact h) (fun e => by rw [nm_no e] at h; exact h)
  · rw [range_get2] at hh; rw [List.length_range] at hi
    refine hX _ ⟨fun _ => ⟨⟨by omega, by omega⟩, ?_⟩, fun c => absurd (show (i : Int) < a.length by omega) c⟩
    rw [w1 (by omega)]
    refine ⟨fun c1 => hh.2 (by rw [btOk, decide_eq_true c1]; rfl), fun c1 => ⟨fun c2 => hh.2 (by rw [btOk, decide_eq_true c2, Bool.not_true, Bool.and_false]), fun c2 => hh.1 (by rw [btOk, decide_eq_false c1, decide_eq_false c2]; rfl)⟩⟩
  · rw [show decide (1 ≤ (a.length : Int) ∧ (a.length : Int) ≤ 8) = decide ((a.length : Int) ≤ 8) by simp [h1]] at ht; exact ht
  · rw [show decide (1 ≤ (a.length : Int) ∧ (a.length : Int) ≤ 8) = false by simp [h1]] at ht; exact ht
def isVals (l : List Nat) : Bool := decide (1 ≤ (l.length : Int) ∧ (l.length : Int) ≤ 128)
theorem spec_l07Values_wp {l : List Nat} {K : Bool → Prop} (h : K (isVals l)) : spec_l07Values.wp l K := by
  unfold isVals at h
  refine ⟨fun h1 => ?_, fun h1 => ?_⟩
  · rw [show decide (1 ≤ (l.length : Int) ∧ (l.length : Int) ≤ 128) = decide ((l.length : Int) ≤ 128) by simp [h1]] at h; exact h
  · rw [show decide (1 ≤ (l.length : Int) ∧ (l.length : Int) ≤ 128) = false by simp [h1]] at h; exact h
def isTk (a : List UInt8) (k : Int) (l : List Nat) : Bool := isNm a && decide (1 ≤ k ∧ k ≤ 65535) && isVals l
theorem spec_l07Take_wp {a : List UInt8} {k : Int} {l : List Nat} {K : Bool → Prop} (ha : a.length ≤ 2 ^ 40) (h : K (isTk a k l)) : spec_l07Take.wp a k l K := by
  refine spec_l07Name_wp ha ⟨fun h1 => spec_l00In_wp ⟨fun h2 => spec_l07Values_wp ?_, fun h2 => ?_⟩, fun h1 => ?_⟩
  · rw [isTk, h1, h2] at h; exact h
  · rw [isTk, h1, h2] at h; exact h
  · rw [isTk, h1] at h; exact h
theorem impl_ValidTake_wp {a : List UInt8} {k : Int} {l : List Nat} {K : Bool → Prop} (ha : a.length ≤ 2 ^ 40) (h : K (isTk a k l)) : impl_ValidTake.wp a k l K := by
  refine impl_IsName_wp ha ⟨fun h1 => impl_within_wp ⟨fun h2 => impl_within_wp ?_, fun h2 => ?_⟩, fun h1 => ?_⟩
  · rw [isTk, h1, h2] at h; exact h
  · rw [isTk, h1, h2] at h; exact h
  · rw [isTk, h1] at h; exact h

end Go.Proofs.Ytpeijfnfffogeaa.G

namespace Go.Proofs.Ytpeijfnfffogeaa.G
open Go Go.Ab
set_option maxRecDepth 100000
set_option linter.unusedVariables false
set_option linter.unusedSimpArgs false
set_option maxHeartbeats 1000000
theorem szBoolS_wp {l : List Bool} {n : Int} {K : Int → Prop} (hl : l.length ≤ maxLen) (hn : 0 ≤ n ∧ n ≤ 2 ^ 40) (h0 : K (-1)) (h : (l.length : Int) ≤ n → K (n - (l.length : Int))) : laws_szBoolS.wp l n K := by
  have hm : l.length < 2 ^ 63 := Nat.lt_of_le_of_lt hl (by decide)
  have e : IntKind.i64.wrap (n - (l.length : Int)) = n - (l.length : Int) := wI (by omega)
  refine ⟨fun c => h0, fun c => ?_⟩
  rw [e] at c ⊢; exact h (by omega)
theorem szScheme_wp {l : List Nat} {s : Nat} {n : Int} {K : Int → Prop} (hl : l.length ≤ maxLen) (hn : 0 ≤ n ∧ n ≤ 2 ^ 40) (h0 : K (-1)) (h : (l.length : Int) ≤ n → K (n - (l.length : Int))) : laws_szScheme.wp l s n K :=
  szFloat32S_wp hl hn (tP (by omega) h0) fun h1 => tN (by omega) (h h1)
theorem szPicture_wp {a b : Int} {l : List Nat} {n : Int} {K : Int → Prop} (hl : l.length ≤ maxLen) (hn : 0 ≤ n ∧ n ≤ 2 ^ 40) (h0 : K (-1)) (h : (l.length : Int) ≤ n → K (n - (l.length : Int))) : laws_szPicture.wp a b l n K :=
  szFloat32S_wp hl hn (tP (by omega) h0) fun h1 => tN (by omega) (h h1)
theorem szCoded_wp {a b : Int} {l : List Bool} {n : Int} {K : Int → Prop} (hl : l.length ≤ maxLen) (hn : 0 ≤ n ∧ n ≤ 2 ^ 40) (h0 : K (-1)) (h : (l.length : Int) ≤ n → K (n - (l.length : Int))) : laws_szCoded.wp a b l n K :=
  szBoolS_wp hl hn (tP (by omega) h0) fun h1 => tN (by omega) (h h1)
theorem szDesk_wp {l m : List Nat} {s : Nat} {w v : Int} {p : List Nat} {c t : Int} {b : List Bool} {n : Int} {K : Int → Prop} (hl : l.length ≤ maxLen) (hm : m.length ≤ maxLen) (hp : p.length ≤ maxLen) (hb : b.length ≤ maxLen) (hn : 0 ≤ n ∧ n ≤ 2 ^ 40) (h0 : K (-1)) (h : (l.length : Int) + (m.length : Int) + (p.length : Int) + (b.length : Int) ≤ n → K (n - (l.length : Int) - (m.length : Int) - (p.length : Int) - (b.length : Int))) : laws_szDesk.wp l m s w v p c t b n K :=
  szFloat32S_wp hl hn (tP (by omega) h0) fun h1 => tN (by omega) (szScheme_wp hm (by omega) (tP (by omega) h0) fun h2 => tN (by omega) (szPicture_wp hp (by omega) (tP (by omega) h0) fun h3 => tN (by omega) (szCoded_wp hb (by omega) (tP (by omega) h0) fun h4 => tN (by omega) (h (by omega)))))
theorem toScheme_wp {l : List Nat} {s : Nat} {K : List Nat → Nat → Prop} (hl : l.length ≤ 2 ^ 20) (h : K l s) : laws_toScheme.wp l s K := toFloat32S_wp hl h
theorem toPicture_wp {a b : Int} {l : List Nat} {K : Int → Int → List Nat → Prop} (hl : l.length ≤ 2 ^ 20) (h : K a b l) : laws_toPicture.wp a b l K := toFloat32S_wp hl h
theorem toCoded_wp {a b : Int} {l : List Bool} {K : Int → Int → List Bool → Prop} (hl : l.length ≤ 2 ^ 20) (h : K a b l) : laws_toCoded.wp a b l K := toBoolS_wp hl h
theorem toDesk_wp {l m : List Nat} {s : Nat} {w v : Int} {p : List Nat} {c t : Int} {b : List Bool} {K : List Nat → List Nat → Nat → Int → Int → List Nat → Int → Int → List Bool → Prop} (hl : l.length ≤ 2 ^ 20) (hm : m.length ≤ 2 ^ 20) (hp : p.length ≤ 2 ^ 20) (hb : b.length ≤ 2 ^ 20) (h : K l m s w v p c t b) : laws_toDesk.wp l m s w v p c t b K :=
  toFloat32S_wp hl (toScheme_wp hm (toPicture_wp hp (toCoded_wp hb h)))
theorem eqScheme_wp {l : List Nat} {s : Nat} {K : Bool → Prop} (hl : l.length ≤ 2 ^ 20) (h : K true) : laws_eqScheme.wp l s l s K := eqFloat32S_wp hl (tT (sameFloat_wp (tT h)))
theorem eqPicture_wp {a b : Int} {l : List Nat} {K : Bool → Prop} (hl : l.length ≤ 2 ^ 20) (h : K true) : laws_eqPicture.wp a b l a b l K := tP rfl (tP rfl (eqFloat32S_wp hl (tT h)))
theorem eqCoded_wp {a b : Int} {l : List Bool} {K : Bool → Prop} (hl : l.length ≤ 2 ^ 20) (h : K true) : laws_eqCoded.wp a b l a b l K := tP rfl (tP rfl (eqBoolS_wp hl (tT h)))
theorem eqDesk_wp {l m : List Nat} {s : Nat} {w v : Int} {p : List Nat} {c t : Int} {b : List Bool} {K : Bool → Prop} (hl : l.length ≤ 2 ^ 20) (hm : m.length ≤ 2 ^ 20) (hp : p.length ≤ 2 ^ 20) (hb : b.length ≤ 2 ^ 20) (h : K true) : laws_eqDesk.wp l m s w v p c t b l m s w v p c t b K :=
  eqFloat32S_wp hl (tT (eqScheme_wp hm (tT (eqPicture_wp hp (tT (eqCoded_wp hb (tT h)))))))
def isSch (l : List Nat) (s : Nat) : Bool := decide (1 ≤ (l.length : Int) ∧ (l.length : Int) ≤ 8) && pAll l && isOver s
theorem spec_l02Scheme_wp {l : List Nat} {s : Nat} {K : Bool → Prop} (hl : l.length ≤ 2 ^ 20) (h : K (isSch l s)) : spec_l02Scheme.wp l s K := by
  refine ⟨fun h1 => ⟨fun h2 => ?_, fun h2 => ?_⟩, fun h1 => ?_⟩
  · rw [isSch, decide_eq_true ⟨h1, h2⟩, Bool.true_and] at h
    refine spec_l02Finite_wp hl ⟨fun h3 => spec_l02Above_wp ?_, fun h3 => ?_⟩ <;> (rw [h3] at h; exact h)
  · rw [isSch, decide_eq_false (by omega)] at h; exact h
  · rw [isSch, decide_eq_false (by omega)] at h; exact h
theorem impl_ValidScheme_wp {l : List Nat} {s : Nat} {K : Bool → Prop} (hl : l.length ≤ 2 ^ 20) (h : K (isSch l s)) : impl_ValidScheme.wp l s K := by
  refine impl_within_wp ⟨fun h1 => impl_areFinite1_wp hl ⟨fun h3 => impl_isOver_wp ?_, fun h3 => ?_⟩, fun h1 => ?_⟩
  · rw [isSch, h1, h3] at h; exact h
  · rw [isSch, h1, h3] at h; exact h
  · rw [isSch, h1] at h; exact h
def isPic (a b : Int) (l : List Nat) : Bool := decide (1 ≤ a ∧ a ≤ 16) && decide (1 ≤ b ∧ b ≤ 16) && decide ((l.length : Int) = a * b) && pAll l
theorem w16 {a b : Int} (h1 : decide (1 ≤ a ∧ a ≤ 16) = true) (h2 : decide (1 ≤ b ∧ b ≤ 16) = true) : IntKind.i64.wrap (a * b) = a * b := by
  simp only [decide_eq_true_eq] at h1 h2
  obtain ⟨an, rfl⟩ : ∃ n : Nat, a = n := ⟨a.toNat, by omega⟩
  obtain ⟨bn, rfl⟩ : ∃ n : Nat, b = n := ⟨b.toNat, by omega⟩
  have : an * bn ≤ 16 * 16 := Nat.mul_le_mul (by omega) (by omega)
  rw [show (an : Int) * (bn : Int) = ((an * bn : Nat) : Int) from rfl]
  exact wI (by omega)
theorem impl_ValidPicture_wp {a b : Int} {l : List Nat} {K : Bool → Prop} (hl : l.length ≤ 2 ^ 20) (h : K (isPic a b l)) : impl_ValidPicture.wp a b l K := by
  refine impl_within_wp ⟨fun h1 => impl_within_wp ⟨fun h2 => ?_, fun h2 => ?_⟩, fun h1 => ?_⟩
  · rw [w16 h1 h2]
    rw [isPic, h1, h2, Bool.true_and, Bool.true_and] at h
    refine ⟨fun h3 => impl_areFinite1_wp hl ?_, fun h3 => ?_⟩
    · rw [decide_eq_true h3] at h; exact h
    · rw [decide_eq_false h3] at h; exact h
  · rw [isPic, h1, h2] at h; exact h
  · rw [isPic, h1] at h; exact h
def isCod (a b : Int) (l : List Bool) : Bool := decide (1 ≤ a ∧ a ≤ 128) && decide (0 ≤ b ∧ b ≤ 24) && decide ((l.length : Int) ≤ 32768)
def isDesk (l m : List Nat) (s : Nat) (w v : Int) (p : List Nat) (c t : Int) (b : List Bool) : Bool := isL l && isSch m s && isPic w v p && isCod c t b

end Go.Proofs.Ytpeijfnfffogeaa.G

namespace Go.Proofs.Ytpeijfnfffogeaa.G
open Go Go.Ab
set_option maxRecDepth 100000
set_option linter.unusedVariables false
set_option linter.unusedSimpArgs false
set_option maxHeartbeats 1000000
def pixD (i : Nat) : Nat := if i % 4 < 2 then cz .f32 0 else cz .f32 1082130432
def stL (n : Nat) : List Nat := (List.range n).map pixD
theorem stL_len (n : Nat) : (stL n).length = n := by simp [stL]
theorem stL_succ (n : Nat) : stL (n + 1) = stL n ++ [pixD n] := by
  unfold stL; rw [List.range_succ, List.map_append]; rfl
theorem spec_l04Step_wp {K : Int → Int → List Nat → Prop} (h : K 4 2 (stL 8)) : spec_l04Step.wp 4 2 2 (cz .f32 0) (cz .f32 1082130432) K := by
  intro X hX
  rw [show IntKind.i64.wrap ((4 : Int) * 2) = 8 by decide] at hX
  refine up (Y := fun i => X (stL i) 4 2 (i : Int)) 8 (hX _ _ _ _ ⟨fun c => absurd c (by decide), fun _ => h⟩) fun i hi hx => hX _ _ _ _ ⟨fun _ => ⟨by decide, ?_⟩, fun c => absurd (show (i : Int) < 8 by omega) c⟩
  rw [Int.tmod_eq_emod_of_nonneg (by omega), w1 (by omega), stL_len]
  rw [stL_succ] at hx
  refine ⟨fun c => ⟨by rw [len1]; omega, ?_⟩, fun c => ⟨by rw [len1]; omega, ?_⟩⟩
  · rw [show pixD i = cz .f32 0 from if_pos (by omega)] at hx; exact hx
  · rw [show pixD i = cz .f32 1082130432 from if_neg (by omega)] at hx; exact hx
theorem pix_fin (i : Nat) : pFin (pixD i) = true := by
  unfold pixD; split <;> decide +kernel
theorem stL_fin (n : Nat) : pAll (stL n) = true := by
  unfold pAll stL
  rw [List.all_eq_true]
  intro x hx
  obtain ⟨i, _, rfl⟩ := List.mem_map.1 hx
  exact pix_fin i
theorem impl_StepPicture_wp {K : Int → Int → List Nat → Bool → Prop} (h : K 4 2 (stL 8) true) : impl_StepPicture.wp 4 2 2 (cz .f32 0) (cz .f32 1082130432) K := by
  refine impl_within_wp (tE (by decide) (impl_IsFinite_wp (tE (by decide +kernel) (impl_IsFinite_wp (tE (by decide +kernel) (impl_within_wp (tE (by decide) (impl_within_wp (tE (by decide) ?_)))))))))
  intro X hX
  refine up (Y := fun y => X 4 2 (stL (4 * y)) (y : Int)) 2 (hX _ _ _ _ ⟨fun c => absurd c (by decide), fun _ => ?_⟩) fun y hy hx => hX _ _ _ _ ⟨fun _ => fun Z hZ => ?_, fun c => absurd (show (y : Int) < 2 by omega) c⟩
  · refine impl_ValidPicture_wp (by rw [stL_len]; decide) ?_
    rw [show isPic 4 2 (stL (4 * 2)) = true by
      unfold isPic
      rw [stL_fin, stL_len]; decide]
    exact tT (tT h)
  · refine up (Y := fun x => Z (stL (4 * y + x)) 4 2 (x : Int)) 4 (hZ _ _ _ _ ⟨fun c => absurd c (by decide), fun _ => ?_⟩) fun x hx2 hz => hZ _ _ _ _ ⟨fun _ => ?_, fun c => absurd (show (x : Int) < 4 by omega) c⟩
    · rw [w1 (by omega)]
      rw [show 4 * (y + 1) = 4 * y + 4 by omega] at hx
      exact hx
    · rw [show 4 * y + (x + 1) = (4 * y + x) + 1 by omega, stL_succ] at hz
      refine ⟨fun c => ?_, fun c => ?_⟩
      · rw [show pixD (4 * y + x) = cz .f32 0 from if_pos (by omega)] at hz
        exact ⟨by rw [len1, stL_len]; omega, by rw [w1 (by omega)]; exact hz⟩
      · rw [show pixD (4 * y + x) = cz .f32 1082130432 from if_neg (by omega)] at hz
        exact ⟨by rw [len1, stL_len]; omega, by rw [w1 (by omega)]; exact hz⟩
def ndL : List Nat := [(cz .f32 1065353216), (cz .f32 1077936128), (cz .f32 1073741824)]
def ndW : List Nat := [(cz .f32 3204448256), (cz .f32 1048576000)]
theorem nd_both : ∃ (n : Nat) (b : List Bool), b.length ≤ 2 ^ 20 ∧ (∀ K, K ndL ndW (cz .f32 1065353216) 4 2 (stL 8) 2 (n : Int) b → spec_NewDesk.wp K) ∧ (∀ K, K ndL ndW (cz .f32 1065353216) 4 2 (stL 8) 2 (n : Int) b → impl_NewDesk.wp K) := by
  have h1 : isI [3, -1] = true := by decide
  have hg := isI_sm h1
  obtain ⟨n, hn⟩ := top_ex [3, -1]
  have hn20 := top_le hg.2 hn
  refine ⟨n, codeC [3, -1] 0 n, ?_, fun K hk => spec_l04Step_wp (spec_l06Code_wp (p := 0) hg.1 hg.2 (by decide) fun m hm => ?_), fun K hk => impl_StepPicture_wp (impl_AreIntegers_wp (by decide) (tE h1 (impl_planesFor_wp hg.1 hg.2 fun m hm => ?_)))⟩
  · have := code_len [3, -1] 0 n
    have h3 : 2 * ([3, -1] : List Int).length * n ≤ 4 * 20 := Nat.mul_le_mul (by decide) hn20
    omega
  · rw [top_uniq hm hn]; exact hk
  · rw [top_uniq hm hn]
    exact impl_codeUntil_wp (p := 0) hg.1 hg.2 (by decide) hn20 hk

end Go.Proofs.Ytpeijfnfffogeaa.G

namespace Go.Proofs.Ytpeijfnfffogeaa.G
open Go Go.Ab
set_option maxRecDepth 100000
set_option linter.unusedVariables false
set_option linter.unusedSimpArgs false
set_option maxHeartbeats 1000000
theorem heldF_wp {n q : Nat} {K : Int → Prop} (hl : n ≤ 2 ^ 20) (hq : q ≤ 2 ^ 40) (h : K ((q + n : Nat) : Int)) : laws_heldFloat32S.wp (marks q n) (q : Int) K := heldFloat32S_wp hl hq h
section
variable {l m : List Nat} {s : Nat} {w v : Int} {p : List Nat} {c t : Int} {b : List Bool}
theorem markDesk_wp {K : Int → List Nat → List Nat → List Nat → List Bool → Prop} (hl : l.length ≤ 2 ^ 20) (hm : m.length ≤ 2 ^ 20) (hp : p.length ≤ 2 ^ 20) (hb : b.length ≤ 2 ^ 20)
    (h : K ((1 + l.length + m.length + p.length + b.length : Nat) : Int) (marks 1 l.length) (marks (1 + l.length) m.length) (marks (1 + l.length + m.length) p.length) (mB (1 + l.length + m.length + p.length) b.length)) : laws_markDesk.wp l m s w v p c t b 1 K :=
  markFloat32S_wp (k := 1) hl (by omega) (markFloat32S_wp hm (by omega) (markFloat32S_wp hp (by omega) (markBoolS_wp hb (by omega) h)))
theorem heldDesk_wp {a d e f : Nat} {K : Int → Prop} (hl : a ≤ 2 ^ 20) (hm : d ≤ 2 ^ 20) (hp : e ≤ 2 ^ 20) (hb : f ≤ 2 ^ 20) (h : K ((1 + a + d + e + f : Nat) : Int)) :
    laws_heldDesk.wp (marks 1 a) (marks (1 + a) d) s w v (marks (1 + a + d) e) c t (mB (1 + a + d + e) f) 1 K :=
  heldFloat32S_wp (k := 1) hl (by omega) (tN (by omega) (heldFloat32S_wp (k := 1 + a) hm (by omega) (tN (by omega) (tN (by omega) (heldFloat32S_wp (k := 1 + a + d) hp (by omega) (tN (by omega) (tN (by omega) (heldBoolS_wp (k := 1 + a + d + e) hb (by omega) (tN (by omega) (tN (by omega) h))))))))))
end
theorem pureExactNewDesk : laws_FnExactNewDesk.wp (fun b => b = true) := by
  obtain ⟨n, b, hb, hs, hi⟩ := nd_both
  have h1 : ndL.length ≤ 2 ^ 20 := by decide
  have h2 : ndW.length ≤ 2 ^ 20 := by decide
  have h3 : (stL 8).length ≤ 2 ^ 20 := by rw [stL_len]; decide
  exact hs _ (hi _ (eqDesk_wp h1 h2 h3 hb (tT (markDesk_wp h1 h2 h3 hb (heldDesk_wp h1 h2 h3 hb (tN (by omega) (tP rfl (hi _ (eqDesk_wp h1 h2 h3 hb (tT (heldDesk_wp h1 h2 h3 hb (tN (by omega) (tP rfl rfl)))))))))))))

end Go.Proofs.Ytpeijfnfffogeaa.G

