/-
  What the formulas say, over numbers and lists alone. Nothing here is trusted.
-/
import Derived.Test.YtcplmcfnegphlaaMExactFromRiceWa
namespace Go.Proofs.Ytcplmcfnegphlaa.G
open Go Go.Ab
set_option maxRecDepth 100000
set_option linter.unusedVariables false
set_option linter.unusedSimpArgs false
set_option maxHeartbeats 1000000
/-! ### truth -/
theorem tT {A B : Prop} (h : A) : (true = true → A) ∧ (true = false → B) := ⟨fun _ => h, fun c => (by cases c)⟩
theorem tF {A B : Prop} (h : B) : (false = true → A) ∧ (false = false → B) := ⟨fun c => (by cases c), fun _ => h⟩
theorem tB {A B : Prop} {b : Bool} (h : A) : ((b == b) = true → A) ∧ ((b == b) = false → B) := ⟨fun _ => h, fun c => (by simp at c)⟩
theorem tE {A B : Prop} {b : Bool} (e : b = true) (h : A) : (b = true → A) ∧ (b = false → B) := ⟨fun _ => h, fun c => (by rw [e] at c; cases c)⟩
theorem tG {A B : Prop} {b : Bool} (e : b = false) (h : B) : (b = true → A) ∧ (b = false → B) := ⟨fun c => (by rw [e] at c; cases c), fun _ => h⟩
theorem tP {p A B : Prop} (e : p) (h : A) : (p → A) ∧ (¬p → B) := ⟨fun _ => h, fun c => absurd e c⟩
theorem tN {p A B : Prop} (e : ¬p) (h : B) : (p → A) ∧ (¬p → B) := ⟨fun c => absurd c e, fun _ => h⟩
theorem tI {b : Bool} {K : Bool → Prop} {A B : Prop} (h1 : b = true → A) (h2 : b = false → B) : (b = true → A) ∧ (b = false → B) := ⟨h1, h2⟩
/-! ### loops -/
theorem up {Y : Nat → Prop} (n : Nat) (last : Y n) (step : ∀ i, i < n → Y (i + 1) → Y i) : Y 0 := by
  have key : ∀ d i, i + d = n → Y i := by
    intro d
    induction d with
    | zero => intro i h; obtain rfl : i = n := by omega
              exact last
    | succ d ih => intro i h; exact step i (by omega) (ih (i + 1) (by omega))
  exact key n 0 (by omega)
theorem upFrom {Y : Nat → Prop} (k n : Nat) (hk : k ≤ n) (last : Y n) (step : ∀ i, k ≤ i → i < n → Y (i + 1) → Y i) : Y k := by
  have key : ∀ d i, k ≤ i → i + d = n → Y i := by
    intro d
    induction d with
    | zero => intro i _ h; obtain rfl : i = n := by omega
              exact last
    | succ d ih => intro i h0 h; exact step i h0 (by omega) (ih (i + 1) (by omega) (by omega))
  exact key (n - k) k (Nat.le_refl _) (by omega)
theorem w1 {i : Nat} (h : i < 4611686018427387904) : IntKind.i64.wrap ((i : Int) + (1 : Int)) = ((i + 1 : Nat) : Int) := wrap_succ (by omega)
theorem wI {n : Int} (h : -9223372036854775808 ≤ n ∧ n < 9223372036854775808) : IntKind.i64.wrap n = n := wrap_i64 h.1 h.2
theorem nn (i : Nat) : ((i : Int)).toNat = i := rfl
theorem gD {α : Type} {l : List α} {i : Nat} (h : i < l.length) (d : α) : l.getD i d = l[i] := by rw [List.getD_eq_getElem?_getD, List.getElem?_eq_getElem h]; rfl
theorem dropC {α : Type} {l : List α} {i : Nat} (h : i < l.length) : l.drop i = l[i] :: l.drop (i + 1) := List.drop_eq_getElem_cons h
theorem len1 {α : Type} (a : α) : ([a] : List α).length = 1 := rfl
theorem cz32 (n : Nat) (h : (FloatKind.f32.decode n).isNaN = false) : cz .f32 n = n := by simp [cz, h]
theorem c0_32 : cz .f32 0 = 0 := cz_zero32
theorem c0_64 : cz .f64 0 = 0 := cz_zero64
/-! ### copies, comparisons, marks -/
theorem toInt64S_wp {l : List Int} {K : List Int → Prop} (hl : l.length ≤ 2 ^ 20) (h : K l) : laws_toInt64S.wp l K := by
  refine ⟨⟨by omega, by omega, by omega, by omega⟩, fun X hX => ?_⟩
  have key : X (l.take 0 ++ List.replicate (l.length - 0) (0 : Int)) ((0 : Nat) : Int) := by
    refine up (Y := fun i => X (l.take i ++ List.replicate (l.length - i) (0 : Int)) (i : Int)) l.length ?_ fun i hi hn => ?_
    · refine hX _ _ ⟨fun c => absurd c (by omega), fun _ => ?_⟩
      rw [List.take_length, Nat.sub_self, List.replicate_zero, List.append_nil]; exact h
    · refine hX _ _ ⟨fun _ => ⟨⟨by omega, by omega⟩, ⟨by omega, ?_⟩, ?_⟩, fun c => absurd (show (i : Int) < l.length by omega) c⟩
      · rw [List.length_append, List.length_take, List.length_replicate]; omega
      · rw [nn, w1 (by omega), gD hi, set_fill (0 : Int) (by omega) hi]
        exact hn
  rw [List.take_zero, List.nil_append, Nat.sub_zero] at key; exact key
theorem toBoolS_wp {l : List Bool} {K : List Bool → Prop} (hl : l.length ≤ 2 ^ 20) (h : K l) : laws_toBoolS.wp l K := by
  refine ⟨⟨by omega, by omega, by omega, by omega⟩, fun X hX => ?_⟩
  have key : X (l.take 0 ++ List.replicate (l.length - 0) false) ((0 : Nat) : Int) := by
    refine up (Y := fun i => X (l.take i ++ List.replicate (l.length - i) false) (i : Int)) l.length ?_ fun i hi hn => ?_
    · refine hX _ _ ⟨fun c => absurd c (by omega), fun _ => ?_⟩
      rw [List.take_length, Nat.sub_self, List.replicate_zero, List.append_nil]; exact h
    · refine hX _ _ ⟨fun _ => ⟨⟨by omega, by omega⟩, ⟨by omega, ?_⟩, ?_⟩, fun c => absurd (show (i : Int) < l.length by omega) c⟩
      · rw [List.length_append, List.length_take, List.length_replicate]; omega
      · rw [nn, w1 (by omega), gD hi, set_fill false (by omega) hi]
        exact hn
  rw [List.take_zero, List.nil_append, Nat.sub_zero] at key; exact key
theorem eqInt64S_wp {l : List Int} {K : Bool → Prop} (hl : l.length ≤ 2 ^ 20) (h : K true) : laws_eqInt64S.wp l l K := by
  refine tP rfl fun X hX => ?_
  refine up (Y := fun i => X (i : Int)) l.length ?_ fun i hi hn => ?_
  · exact hX _ ⟨fun c => absurd c (by omega), fun _ => h⟩
  · refine hX _ ⟨fun _ => ⟨⟨by omega, by omega⟩, ⟨by omega, by omega⟩, tP rfl ?_⟩, fun c => absurd (show (i : Int) < l.length by omega) c⟩
    rw [w1 (by omega)]; exact hn
theorem eqBoolS_wp {l : List Bool} {K : Bool → Prop} (hl : l.length ≤ 2 ^ 20) (h : K true) : laws_eqBoolS.wp l l K := by
  refine tP rfl fun X hX => ?_
  refine up (Y := fun i => X (i : Int)) l.length ?_ fun i hi hn => ?_
  · exact hX _ ⟨fun c => absurd c (by omega), fun _ => h⟩
  · refine hX _ ⟨fun _ => ⟨⟨by omega, by omega⟩, ⟨by omega, by omega⟩, tB ?_⟩, fun c => absurd (show (i : Int) < l.length by omega) c⟩
    rw [w1 (by omega)]; exact hn
theorem markInt64S_wp {l : List Int} {k : Nat} {K : Int → List Int → Prop} (hl : l.length ≤ 2 ^ 20) (hk : k ≤ 2 ^ 40) (h : K ((k + l.length : Nat) : Int) (marksI k l.length)) : laws_markInt64S.wp l (k : Int) K := by
  intro X hX
  have key : X (marksI k 0 ++ l.drop 0) ((k + 0 : Nat) : Int) ((0 : Nat) : Int) := by
    refine up (Y := fun i => X (marksI k i ++ l.drop i) ((k + i : Nat) : Int) (i : Int)) l.length ?_ fun i hi hn => ?_
    · refine hX _ _ _ ⟨fun c => absurd c (by rw [List.length_append, marksI_length, List.length_drop]; omega), fun _ => ?_⟩
      rw [List.drop_length, List.append_nil]; exact h
    · have hlen : (marksI k i ++ l.drop i).length = l.length := by rw [List.length_append, marksI_length, List.length_drop]; omega
      refine hX _ _ _ ⟨fun _ => ⟨⟨by omega, by rw [hlen]; omega⟩, ?_⟩, fun c => absurd (show (i : Int) < _ by rw [hlen]; omega) c⟩
      rw [nn, w1 (by omega), w1 (by omega)]
      have e := marksI_step (l := l) (i := i) (m := l.length - i) k (by omega) hi
      rw [show (k : Int) + (i : Int) = ((k + i : Nat) : Int) by omega] at e
      
      rw [e]; exact hn
  exact key
theorem heldInt64S_wp {k n : Nat} {K : Int → Prop} (hl : n ≤ 2 ^ 20) (hk : k ≤ 2 ^ 40) (h : K ((k + n : Nat) : Int)) : laws_heldInt64S.wp (marksI k n) (k : Int) K := by
  intro X hX
  have hlen : (marksI k n).length = n := marksI_length _ _
  have key : X ((k + 0 : Nat) : Int) ((0 : Nat) : Int) := by
    refine up (Y := fun i => X ((k + i : Nat) : Int) (i : Int)) n ?_ fun i hi hn => ?_
    · exact hX _ _ ⟨fun c => absurd c (by omega), fun _ => h⟩
    · refine hX _ _ ⟨fun _ => ⟨⟨by omega, by omega⟩, ?_⟩, fun c => absurd (show (i : Int) < _ by omega) c⟩
      rw [nn, gD (by omega), marksI_at k n i (by omega), show (k : Int) + (i : Int) = ((k + i : Nat) : Int) by omega]
      refine tP rfl ?_
      rw [w1 (by omega), w1 (by omega)]; exact hn
  exact key

end Go.Proofs.Ytcplmcfnegphlaa.G

namespace Go.Proofs.Ytcplmcfnegphlaa.G
open Go Go.Ab
set_option maxRecDepth 100000
set_option linter.unusedVariables false
set_option linter.unusedSimpArgs false
set_option maxHeartbeats 1000000
def mB (k : Nat) : Nat → List Bool
  | 0 => []
  | n + 1 => decide (Int.tmod (k : Int) 3 = 0) :: mB (k + 1) n
theorem mB_len (k : Nat) : ∀ n, (mB k n).length = n
  | 0 => rfl
  | n + 1 => by rw [mB, List.length_cons, mB_len]
theorem mB_app (k : Nat) : ∀ n, mB k (n + 1) = mB k n ++ [decide (Int.tmod ((k + n : Nat) : Int) 3 = 0)] := by
  intro n
  induction n generalizing k with
  | zero => rfl
  | succ n ih => rw [mB, ih, show mB k (n + 1) = decide (Int.tmod (k : Int) 3 = 0) :: mB (k + 1) n from rfl, List.cons_append, show k + 1 + n = k + (n + 1) by omega]
theorem mB_at (k : Nat) : ∀ (n i : Nat), i < n → (mB k n).getD i false = decide (Int.tmod ((k + i : Nat) : Int) 3 = 0) := by
  intro n
  induction n generalizing k with
  | zero => intro i h; omega
  | succ n ih =>
    intro i h
    cases i with
    | zero => rfl
    | succ i => rw [mB, List.getD_cons_succ, ih (k + 1) i (by omega), show k + 1 + i = k + (i + 1) by omega]
theorem setB {α : Type} (p : List α) (a b : α) (q : List α) : ((p ++ a :: q).set p.length b) = p ++ b :: q := by
  rw [List.set_append_right _ _ (Nat.le_refl _), Nat.sub_self]; rfl
theorem markBoolS_wp {l : List Bool} {k : Nat} {K : Int → List Bool → Prop} (hl : l.length ≤ 2 ^ 20) (hk : k ≤ 2 ^ 40) (h : K ((k + l.length : Nat) : Int) (mB k l.length)) : laws_markBoolS.wp l (k : Int) K := by
  intro X hX
  have key : X (mB k 0 ++ l.drop 0) ((k + 0 : Nat) : Int) ((0 : Nat) : Int) := by
    refine up (Y := fun i => X (mB k i ++ l.drop i) ((k + i : Nat) : Int) (i : Int)) l.length ?_ fun i hi hn => ?_
    · refine hX _ _ _ ⟨fun c => absurd c (by rw [List.length_append, mB_len, List.length_drop]; omega), fun _ => ?_⟩
      rw [List.drop_length, List.append_nil]; exact h
    · have hlen : (mB k i ++ l.drop i).length = l.length := by rw [List.length_append, mB_len, List.length_drop]; omega
      refine hX _ _ _ ⟨fun _ => ⟨⟨by omega, by rw [hlen]; omega⟩, ?_⟩, fun c => absurd (show (i : Int) < _ by rw [hlen]; omega) c⟩
      rw [nn, w1 (by omega), w1 (by omega)]
      have e1 : (mB k i ++ l.drop i) = mB k i ++ l[i] :: l.drop (i + 1) := by rw [dropC hi]
      have e2 : (mB k i ++ l[i] :: l.drop (i + 1)).set i (decide (Int.tmod ((k + i : Nat) : Int) 3 = 0)) = mB k i ++ decide (Int.tmod ((k + i : Nat) : Int) 3 = 0) :: l.drop (i + 1) := by
        have := setB (mB k i) l[i] (decide (Int.tmod ((k + i : Nat) : Int) 3 = 0)) (l.drop (i + 1)); rw [mB_len] at this; exact this
      rw [e1, e2]
      rw [mB_app, List.append_assoc, List.singleton_append] at hn
      exact hn
  exact key
theorem heldBoolS_wp {k n : Nat} {K : Int → Prop} (hl : n ≤ 2 ^ 20) (hk : k ≤ 2 ^ 40) (h : K ((k + n : Nat) : Int)) : laws_heldBoolS.wp (mB k n) (k : Int) K := by
  intro X hX
  have hlen : (mB k n).length = n := mB_len _ _
  have key : X ((k + 0 : Nat) : Int) ((0 : Nat) : Int) := by
    refine up (Y := fun i => X ((k + i : Nat) : Int) (i : Int)) n ?_ fun i hi hn => ?_
    · exact hX _ _ ⟨fun c => absurd c (by omega), fun _ => h⟩
    · refine hX _ _ ⟨fun _ => ⟨⟨by omega, by omega⟩, ?_⟩, fun c => absurd (show (i : Int) < _ by omega) c⟩
      rw [nn, mB_at k n i hi]
      refine tB ?_
      rw [w1 (by omega), w1 (by omega)]; exact hn
  exact key

end Go.Proofs.Ytcplmcfnegphlaa.G

namespace Go.Proofs.Ytcplmcfnegphlaa.G
open Go Go.Ab
set_option maxRecDepth 100000
set_option linter.unusedVariables false
set_option linter.unusedSimpArgs false
set_option maxHeartbeats 1000000
def pFin (x : Nat) : Bool := fcmp .eql .f32 (fop .sub .f32 x x) (cz .f32 0)
def pAll (l : List Nat) : Bool := l.all pFin
theorem pAll_cons (x : Nat) (l : List Nat) : pAll (x :: l) = (pFin x && pAll l) := rfl
/-- A loop that ends early where something does not hold. -/
theorem all_loop {α : Type} (l : List α) (p : α → Bool) {X : Int → Prop} {T F : Prop} (hX : ∀ (i : Nat) (h : i < l.length), ((p l[i] = true → X ((i + 1 : Nat) : Int)) ∧ (p l[i] = false → F)) → X (i : Int))
    (hend : T → X (l.length : Int)) (ht : l.all p = true → T) (hf : l.all p = false → F) : X (0 : Int) := by
  have key := up (Y := fun i => ((l.drop i).all p = true → T) → ((l.drop i).all p = false → F) → X (i : Int)) l.length (fun h _ => hend (h (by rw [List.drop_length]; rfl))) fun i hi hn h1 h2 => ?_
  · exact key (by rw [List.drop_zero]; exact ht) (by rw [List.drop_zero]; exact hf)
  · rw [dropC hi, List.all_cons] at h1 h2
    refine hX i hi ⟨fun e => hn (fun a => h1 (by rw [e, a]; rfl)) (fun a => h2 (by rw [e, a]; rfl)), fun e => h2 (by rw [e]; rfl)⟩
/-- A loop that makes a list, and ends early where something does not hold. -/
theorem map_loop {α β : Type} (l : List α) (p : α → Bool) (f : α → β) {X : List β → Int → Prop} {T F : Prop} (hX : ∀ (i : Nat) (h : i < l.length) (o : List β), o.length = i → ((p l[i] = true → X (o ++ [f l[i]]) ((i + 1 : Nat) : Int)) ∧ (p l[i] = false → F)) → X o (i : Int))
    (hend : T → X (l.map f) (l.length : Int)) (ht : l.all p = true → T) (hf : l.all p = false → F) : X [] (0 : Int) := by
  have key := up (Y := fun i => ((l.drop i).all p = true → T) → ((l.drop i).all p = false → F) → X ((l.take i).map f) (i : Int)) l.length (fun h _ => by rw [List.take_length]; exact hend (h (by rw [List.drop_length]; rfl))) fun i hi hn h1 h2 => ?_
  · have := key (by rw [List.drop_zero]; exact ht) (by rw [List.drop_zero]; exact hf)
    rw [List.take_zero] at this; exact this
  · rw [dropC hi, List.all_cons] at h1 h2
    refine hX i hi _ (by rw [List.length_map, List.length_take]; omega) ⟨fun e => ?_, fun e => h2 (by rw [e]; rfl)⟩
    have := hn (fun a => h1 (by rw [e, a]; rfl)) (fun a => h2 (by rw [e, a]; rfl))
    rw [List.take_succ_eq_append_getElem hi, List.map_append] at this
    exact this
theorem impl_within_wp {a b c : Int} {K : Bool → Prop} (h : K (decide (b ≤ a ∧ a ≤ c))) : impl_within.wp a b c K := by
  refine ⟨fun h1 => ?_, fun h1 => ?_⟩
  · have : decide (b ≤ a ∧ a ≤ c) = decide (a ≤ c) := by simp [h1]
    rw [this] at h; exact h
  · have : decide (b ≤ a ∧ a ≤ c) = false := by simp [h1]
    rw [this] at h; exact h
theorem spec_l00In_wp {a b c : Int} {K : Bool → Prop} (h : K (decide (b ≤ a ∧ a ≤ c))) : spec_l00In.wp a b c K := by
  refine ⟨fun h1 => ?_, fun h1 => ?_⟩
  · have : decide (b ≤ a ∧ a ≤ c) = decide (a ≤ c) := by simp [h1]
    rw [this] at h; exact h
  · have : decide (b ≤ a ∧ a ≤ c) = false := by simp [h1]
    rw [this] at h; exact h
theorem bT {b : Bool} {A B : Prop} (h1 : b = true → A) (h2 : b = false → B) : (b = true → A) ∧ (b = false → B) := ⟨h1, h2⟩
def isL (l : List Nat) : Bool := decide (1 ≤ l.length ∧ l.length ≤ 128) && pAll l
def isOver (x : Nat) : Bool := pFin x && fcmp .gtr .f32 x (cz .f32 0)
def isLeast (x : Nat) : Bool := pFin x && fcmp .geq .f32 x (cz .f32 0)
def isShare (x : Nat) : Bool := fcmp .geq .f32 x (cz .f32 0) && fcmp .leq .f32 x (cz .f32 1065353216)
/-! ### integers -/
def bnd (m : Int) (l : List Int) : Bool := l.all fun n => decide (-m ≤ n ∧ n ≤ m)
def isI (l : List Int) : Bool := decide (1 ≤ l.length ∧ l.length ≤ 128) && bnd 1000000 l
theorem spec_l02Bound_wp {l : List Int} {m : Int} {K : Bool → Prop} (hl : l.length ≤ 2 ^ 20) (hm : 0 ≤ m ∧ m ≤ 2 ^ 40) (h : K (bnd m l)) : spec_l02Bound.wp l m K := by
  intro X hX
  refine all_loop l (fun n => decide (-m ≤ n ∧ n ≤ m)) (X := X) (T := K true) (F := K false) (fun i hi hh => ?_) (fun ht => hX _ ⟨fun c => absurd c (by omega), fun _ => ht⟩) (fun e => by rw [bnd, e] at h; exact h) (fun e => by rw [bnd, e] at h; exact h)
  refine hX _ ⟨fun _ => ⟨⟨by omega, by omega⟩, spec_l00In_wp ?_⟩, fun c => absurd (show (i : Int) < l.length by omega) c⟩
  rw [nn, gD hi, w1 (by omega), wI (show -9223372036854775808 ≤ (0 : Int) - m ∧ (0 : Int) - m < 9223372036854775808 by omega), Int.zero_sub]; exact hh
theorem impl_areWithin_wp {l : List Int} {m : Int} {K : Bool → Prop} (hl : l.length ≤ 2 ^ 20) (hm : 0 ≤ m ∧ m ≤ 2 ^ 40) (h : K (bnd m l)) : impl_areWithin.wp l m K := by
  intro X hX
  refine all_loop l (fun n => decide (-m ≤ n ∧ n ≤ m)) (X := X) (T := K true) (F := K false) (fun i hi hh => ?_) (fun ht => hX _ ⟨fun c => absurd c (by omega), fun _ => ht⟩) (fun e => by rw [bnd, e] at h; exact h) (fun e => by rw [bnd, e] at h; exact h)
  refine hX _ ⟨fun _ => ⟨⟨by omega, by omega⟩, impl_within_wp ?_⟩, fun c => absurd (show (i : Int) < l.length by omega) c⟩
  rw [nn, gD hi, w1 (by omega), wI (show -9223372036854775808 ≤ (0 : Int) - m ∧ (0 : Int) - m < 9223372036854775808 by omega), Int.zero_sub]; exact hh
theorem spec_l02Integers_wp {l : List Int} {K : Bool → Prop} (hl : l.length ≤ 2 ^ 20) (h : K (isI l)) : spec_l02Integers.wp l K := by
  refine ⟨fun h1 => ⟨fun h2 => spec_l02Bound_wp hl (by omega) ?_, fun h2 => ?_⟩, fun h1 => ?_⟩
  · rw [isI, decide_eq_true (show 1 ≤ l.length ∧ l.length ≤ 128 by omega), Bool.true_and] at h; exact h
  · rw [isI, decide_eq_false (show ¬(1 ≤ l.length ∧ l.length ≤ 128) by omega), Bool.false_and] at h; exact h
  · rw [isI, decide_eq_false (show ¬(1 ≤ l.length ∧ l.length ≤ 128) by omega), Bool.false_and] at h; exact h
theorem impl_AreIntegers_wp {l : List Int} {K : Bool → Prop} (hl : l.length ≤ 2 ^ 20) (h : K (isI l)) : impl_AreIntegers.wp l K := by
  refine impl_within_wp ⟨fun h1 => ?_, fun h1 => ?_⟩
  · have h1 := of_decide_eq_true h1
    refine impl_areWithin_wp hl (by omega) ?_
    rw [isI, decide_eq_true (show 1 ≤ l.length ∧ l.length ≤ 128 by omega), Bool.true_and] at h; exact h
  · have h1 := of_decide_eq_false h1
    rw [isI, decide_eq_false (show ¬(1 ≤ l.length ∧ l.length ≤ 128) by omega), Bool.false_and] at h; exact h

end Go.Proofs.Ytcplmcfnegphlaa.G

namespace Go.Proofs.Ytcplmcfnegphlaa.G
open Go Go.Ab
set_option maxRecDepth 100000
set_option linter.unusedVariables false
set_option linter.unusedSimpArgs false
set_option maxHeartbeats 1000000
def zagN (z : Nat) : Int := if z % 2 = 1 then -(((z + 1) / 2 : Nat) : Int) else ((z / 2 : Nat) : Int)
theorem zag_odd (z : Nat) (h : z < 2 ^ 40) (ho : z % 2 = 1) : IntKind.i64.wrap (Int.tdiv (IntKind.i64.wrap (0 - (IntKind.i64.wrap ((z : Int) + 1)))) 2) = zagN z := by
  rw [wI (n := (z : Int) + 1) (by omega), wI (n := 0 - ((z : Int) + 1)) (by omega), zagN, if_pos ho]
  have e : Int.tdiv (0 - ((z : Int) + 1)) 2 = -(((z + 1) / 2 : Nat) : Int) := by
    rw [Int.zero_sub, Int.neg_tdiv, show (z : Int) + 1 = ((z + 1 : Nat) : Int) by omega, Int.tdiv_eq_ediv_of_nonneg (by omega)]; rfl
  rw [e, wI (by omega)]
theorem zag_even (z : Nat) (h : z < 2 ^ 40) (he : ¬ z % 2 = 1) : IntKind.i64.wrap (Int.tdiv (z : Int) 2) = zagN z := by
  rw [zagN, if_neg he, Int.tdiv_eq_ediv_of_nonneg (by omega), wI (by omega)]; omega
theorem spec_l06Zag_wp {z : Nat} {K : Int → Prop} (h : z < 2 ^ 40) (hk : K (zagN z)) : spec_l06Zag.wp (z : Int) K := by
  have e : Int.tmod (z : Int) 2 = ((z % 2 : Nat) : Int) := by rw [Int.tmod_eq_emod_of_nonneg (by omega)]; rfl
  refine ⟨fun c => ?_, fun c => ?_⟩
  · rw [zag_odd z h (by omega)]; exact hk
  · rw [zag_even z h (by omega)]; exact hk
theorem impl_fromZigZag_wp {z : Nat} {K : Int → Prop} (h : z < 2 ^ 40) (hk : K (zagN z)) : impl_fromZigZag.wp (z : Int) K := by
  have e : Int.tmod (z : Int) 2 = ((z % 2 : Nat) : Int) := by rw [Int.tmod_eq_emod_of_nonneg (by omega)]; rfl
  refine ⟨fun c => ?_, fun c => ?_⟩
  · rw [zag_even z h (by omega)]; exact hk
  · rw [zag_odd z h (by omega)]; exact hk
/-- The ones from a place on: where they end, and how many. -/
def onesN (l : List Bool) : Nat → Nat → Nat → Nat × Nat
  | 0, i, z => (i, z)
  | f + 1, i, z => if i < l.length ∧ l.getD i false = true then onesN l f (i + 1) (z + 1) else (i, z)
def bitAt (l : List Bool) (i : Nat) : Nat := if i < l.length ∧ l.getD i false = true then 1 else 0
def lowsN (l : List Bool) : Nat → Nat → Nat → Nat × Nat
  | 0, i, z => (i, z)
  | k + 1, i, z => lowsN l k (i + 1) (2 * z + bitAt l i)
def oneN (l : List Bool) (k i : Nat) : Nat × Nat := lowsN l k ((onesN l (l.length + 1) i 0).1 + 1) (onesN l (l.length + 1) i 0).2
theorem onesN_bd (l : List Bool) : ∀ f i z, (onesN l f i z).1 ≤ max i l.length ∧ (onesN l f i z).2 ≤ z + f ∧ i ≤ (onesN l f i z).1
  | 0, i, z => ⟨by simp only [onesN]; omega, by simp only [onesN]; omega, by simp only [onesN]; omega⟩
  | f + 1, i, z => by
    rw [onesN]
    split
    · have := onesN_bd l f (i + 1) (z + 1); omega
    · simp only []; omega
theorem ones_loop (l : List Bool) {X : Int → Int → Prop} {E : Nat → Nat → Prop} (hX : ∀ i z : Nat, i ≤ l.length → z ≤ i → (i < l.length → l.getD i false = true → X ((i + 1 : Nat) : Int) ((z + 1 : Nat) : Int)) → (¬(i < l.length ∧ l.getD i false = true) → E i z) → X (i : Int) (z : Int)) (i0 : Nat) (hi0 : i0 ≤ l.length) (hend : E (onesN l (l.length + 1) i0 0).1 (onesN l (l.length + 1) i0 0).2) : X (i0 : Int) ((0 : Nat) : Int) := by
  have key : ∀ f i z, l.length < f + i → i ≤ l.length → z ≤ i → E (onesN l f i z).1 (onesN l f i z).2 → X (i : Int) (z : Int) := by
    intro f
    induction f with
    | zero => intro i z h1 h2; omega
    | succ f ih =>
      intro i z h1 h2 h3 h4
      refine hX i z h2 h3 (fun c1 c2 => ih (i + 1) (z + 1) (by omega) (by omega) (by omega) ?_) (fun c => ?_)
      · rw [onesN, if_pos ⟨c1, c2⟩] at h4; exact h4
      · rw [onesN, if_neg c] at h4; exact h4
  exact key (l.length + 1) i0 0 (by omega) hi0 (by omega) hend
theorem lows_loop (l : List Bool) (k : Nat) {X : Int → Int → Int → Prop} {E : Nat → Nat → Prop} (hX : ∀ i z j : Nat, j ≤ k → i ≤ 2 ^ 20 + j → z < 2 ^ 36 → (j < k → X ((i + 1 : Nat) : Int) ((2 * z + bitAt l i : Nat) : Int) ((j + 1 : Nat) : Int)) → (¬ j < k → E i z) → X (i : Int) (z : Int) (j : Int)) (hk : k ≤ 20) (i0 z0 : Nat) (hi0 : i0 ≤ 2 ^ 20) (hz0 : z0 ≤ 32768) (hend : E (lowsN l k i0 z0).1 (lowsN l k i0 z0).2) : X (i0 : Int) (z0 : Int) ((0 : Nat) : Int) := by
  have hp : 2 ^ k ≤ 2 ^ 20 := Nat.pow_le_pow_right (by decide) hk
  have key : ∀ m i z j, j + m = k → i ≤ 2 ^ 20 + j → (z + 1) * 2 ^ m ≤ 2 ^ 36 → E (lowsN l m i z).1 (lowsN l m i z).2 → X (i : Int) (z : Int) (j : Int) := by
    intro m
    induction m with
    | zero => intro i z j h1 h2 h3 h4
              rw [Nat.pow_zero] at h3
              exact hX i z j (by omega) h2 (by omega) (fun c => by omega) (fun _ => h4)
    | succ m ih =>
      intro i z j h1 h2 h3 h4
      rw [Nat.pow_succ, Nat.mul_comm (2 ^ m), ← Nat.mul_assoc] at h3
      have hb : bitAt l i ≤ 1 := by unfold bitAt; split <;> omega
      have h5 : (2 * z + bitAt l i + 1) * 2 ^ m ≤ (z + 1) * 2 * 2 ^ m := Nat.mul_le_mul_right _ (by omega)
      have h6 : (z + 1) * 2 * 1 ≤ (z + 1) * 2 * 2 ^ m := Nat.mul_le_mul_left _ (Nat.two_pow_pos m)
      refine hX i z j (by omega) h2 (by omega) (fun c => ih (i + 1) _ (j + 1) (by omega) (by omega) (by omega) ?_) (fun c => by omega)
      rw [lowsN] at h4; exact h4
  refine key k i0 z0 0 (by omega) (by omega) ?_ hend
  have h1 : (z0 + 1) * 2 ^ k ≤ 32769 * 2 ^ k := Nat.mul_le_mul_right _ (by omega)
  have h2 : 32769 * 2 ^ k ≤ 32769 * 2 ^ 20 := Nat.mul_le_mul_left _ hp
  omega
theorem lowsN_bd (l : List Bool) : ∀ k i z, (lowsN l k i z).1 = i + k ∧ ((lowsN l k i z).2 + 1) ≤ (z + 1) * 2 ^ k
  | 0, i, z => ⟨rfl, by simp only [lowsN]; omega⟩
  | k + 1, i, z => by
    have h := lowsN_bd l k (i + 1) (2 * z + bitAt l i)
    have hb : bitAt l i ≤ 1 := by unfold bitAt; split <;> omega
    rw [lowsN]
    refine ⟨by omega, ?_⟩
    have h5 : (2 * z + bitAt l i + 1) * 2 ^ k ≤ (z + 1) * 2 * 2 ^ k := Nat.mul_le_mul_right _ (by omega)
    rw [Nat.pow_succ, Nat.mul_comm (2 ^ k), ← Nat.mul_assoc]
    omega
theorem oneN_bd (l : List Bool) (hl : l.length ≤ 32768) (k i : Nat) (hk : k ≤ 20) (hi : i ≤ l.length) : i < (oneN l k i).1 ∧ (oneN l k i).2 < 2 ^ 36 := by
  have h1 := onesN_bd l (l.length + 1) i 0
  have h2 := lowsN_bd l k ((onesN l (l.length + 1) i 0).1 + 1) (onesN l (l.length + 1) i 0).2
  have h3 : (onesN l (l.length + 1) i 0).2 + 1 ≤ 32770 := by omega
  have h4 := Nat.mul_le_mul h3 (Nat.pow_le_pow_right (n := 2) (by decide) hk)
  unfold oneN
  omega
def riceF (l : List Bool) (k : Nat) : Nat → Nat → List Int → Option (List Int)
  | 0, i, o => if i = l.length then some o else none
  | n + 1, i, o => if l.length < (oneN l k i).1 then none else if 2000000 < (oneN l k i).2 then none else riceF l k n (oneN l k i).1 (o ++ [zagN (oneN l k i).2])
def endI (K : List Int → Bool → Prop) : Option (List Int) → Prop
  | some o => K o true
  | none => K [] false
theorem zagN_bd (z : Nat) : ¬ 2000000 < z ↔ (-1000000 ≤ zagN z ∧ zagN z ≤ 1000000) := by
  unfold zagN; split <;> omega
/-- The reading of one value, in both packages: what comes behind. -/
theorem one_loop (l : List Bool) (hl : l.length ≤ 32768) (k : Nat) (hk : k ≤ 20) {X : Int → Int → Prop} {E : Nat → Nat → Prop}
    (hX : ∀ i z : Nat, i ≤ l.length → z ≤ i → (i < l.length → l.getD i false = true → X ((i + 1 : Nat) : Int) ((z + 1 : Nat) : Int)) → (¬(i < l.length ∧ l.getD i false = true) → ∀ Y : Int → Int → Int → Prop, (∀ i z j : Nat, j ≤ k → i ≤ 2 ^ 20 + j → z < 2 ^ 36 → (j < k → Y ((i + 1 : Nat) : Int) ((2 * z + bitAt l i : Nat) : Int) ((j + 1 : Nat) : Int)) → (¬ j < k → E i z) → Y (i : Int) (z : Int) (j : Int)) → Y ((i + 1 : Nat) : Int) (z : Int) ((0 : Nat) : Int)) → X (i : Int) (z : Int)) (i0 : Nat) (hi0 : i0 ≤ l.length) (hend : E (oneN l k i0).1 (oneN l k i0).2) : X (i0 : Int) ((0 : Nat) : Int) := by
  refine ones_loop l (X := X) (E := fun i z => i ≤ l.length → z ≤ 32768 → ∀ Y : Int → Int → Int → Prop, (∀ i z j : Nat, j ≤ k → i ≤ 2 ^ 20 + j → z < 2 ^ 36 → (j < k → Y ((i + 1 : Nat) : Int) ((2 * z + bitAt l i : Nat) : Int) ((j + 1 : Nat) : Int)) → (¬ j < k → E i z) → Y (i : Int) (z : Int) (j : Int)) → Y ((i + 1 : Nat) : Int) (z : Int) ((0 : Nat) : Int)) (fun i z h1 h2 h3 h4 => hX i z h1 h2 h3 (fun c => h4 c h1 (by omega))) i0 hi0 ?_
  intro h1 h2 Y hY
  exact lows_loop l k hY hk _ _ (by omega) h2 hend
theorem w2z (z b : Nat) (h : z < 2 ^ 36) (hb : b ≤ 1) : 2 * z + b < 2 ^ 38 := by omega
theorem bit_yes {l : List Bool} {i : Nat} (c1 : i < l.length) (c2 : l.getD i false = true) : bitAt l i = 1 := if_pos ⟨c1, c2⟩
theorem bit_no {l : List Bool} {i : Nat} (c : ¬(i < l.length ∧ l.getD i false = true)) : bitAt l i = 0 := if_neg c
theorem p1 : (2 ^ (min (1 : Int).toNat IntKind.i64.bits) : Int) = 2 := by decide
theorem impl_FromRice_wp {l : List Bool} {a k : Int} {K : List Int → Bool → Prop} (h : if l.length ≤ 32768 ∧ (1 ≤ a ∧ a ≤ 128) ∧ 0 ≤ k ∧ k ≤ 20 then endI K (riceF l k.toNat a.toNat 0 []) else K [] false) : impl_FromRice.wp l a k K := by
  refine ⟨fun c => by rw [if_neg (by omega)] at h; exact h, fun c => impl_within_wp ⟨fun c2 => impl_within_wp ⟨fun c3 => ?_, fun c3 => ?_⟩, fun c2 => ?_⟩⟩
  rotate_left
  · have c3 := of_decide_eq_false c3
    rw [if_neg (by omega)] at h; exact h
  · have c2 := of_decide_eq_false c2
    rw [if_neg (by omega)] at h; exact h
  have c2 := of_decide_eq_true c2
  have c3 := of_decide_eq_true c3
  have hl : l.length ≤ 32768 := by omega
  rw [if_pos ⟨hl, c2, c3⟩] at h
  obtain ⟨kn, rfl⟩ : ∃ n : Nat, k = n := ⟨k.toNat, by omega⟩
  obtain ⟨an, rfl⟩ : ∃ n : Nat, a = n := ⟨a.toNat, by omega⟩
  rw [nn, nn] at h
  intro X hX
  have key : ∀ (m x i : Nat) (o : List Int), x + m = an → o.length = x → i ≤ l.length → endI K (riceF l kn m i o) → X o (i : Int) (x : Int) := by
    intro m
    induction m with
    | zero =>
      intro x i o h1 h2 h3 h4
      refine hX _ _ _ ⟨fun c => absurd c (by omega), fun _ => ⟨fun c4 => ?_, fun c4 => ?_⟩⟩
      · rw [riceF, if_pos (by omega)] at h4; exact h4
      · rw [riceF, if_neg (by omega)] at h4; exact h4
    | succ m ih =>
      intro x i o h1 h2 h3 h4
      refine hX _ _ _ ⟨fun _ => ?_, fun c4 => absurd (show (x : Int) < an by omega) c4⟩
      intro Z hZ
      have hbd := oneN_bd l hl kn i (by omega) h3
      have fin : ∀ i2 z2 : Nat, i2 = (oneN l kn i).1 → z2 = (oneN l kn i).2 → (((l.length : Int) < (i2 : Int) → K ([] : List (Int)) (false)) ∧ (¬((l.length : Int) < (i2 : Int)) → ((2000000 < (z2 : Int) → K ([] : List (Int)) (false)) ∧ (¬(2000000 < (z2 : Int)) → impl_fromZigZag.wp (z2 : Int) fun y188 => ((o.length + ([y188] : List (Int)).length) * 8 ≤ 2 ^ 40) ∧ X (o ++ ([y188] : List (Int))) (i2 : Int) (IntKind.i64.wrap ((x : Int) + 1)))))) := by
        rintro i2 z2 rfl rfl
        rw [riceF] at h4
        refine ⟨fun c5 => by rw [if_pos (by omega)] at h4; exact h4, fun c5 => ?_⟩
        rw [if_neg (by omega)] at h4
        refine ⟨fun c6 => by rw [if_pos (by omega)] at h4; exact h4, fun c6 => ?_⟩
        rw [if_neg (by omega)] at h4
        refine impl_fromZigZag_wp (by omega) ⟨by rw [len1]; omega, ?_⟩
        rw [w1 (by omega)]
        exact ih (x + 1) _ _ (by omega) (by rw [List.length_append, len1]; omega) (by omega) h4
      refine one_loop l hl kn (by omega) (X := Z) (E := fun i2 z2 => i2 = (oneN l kn i).1 ∧ z2 = (oneN l kn i).2) (fun i z hi hz hy hn => hZ _ _ ?_) i h3 ⟨rfl, rfl⟩
      rw [w1 (by omega), w1 (by omega), nn]
      refine ⟨fun c5 => ⟨⟨by omega, c5⟩, ⟨fun c6 => hy (by omega) c6, fun c6 => ?_⟩⟩, fun c5 => ?_⟩
      all_goals
        intro Y hY
        refine hn (fun c7 => by first | omega | (rw [c6] at c7; exact absurd c7.2 (by decide))) Y fun i z j hj hi hz h5 h6 => hY _ _ _ ?_
        have hb : bitAt l i ≤ 1 := by unfold bitAt; split <;> omega
        rw [w1 (by omega), w1 (by omega), nn, p1, wI (n := (z : Int) * 2) (by omega), wI (n := (z : Int) * 2 + 1) (by omega)]
        refine ⟨fun c7 => ⟨fun c8 => ⟨⟨by omega, c8⟩, ⟨fun c9 => ?_, fun c9 => ?_⟩⟩, fun c8 => ?_⟩, fun c7 => fin i z (h6 (by omega)).1 (h6 (by omega)).2⟩
        · have h5 := h5 (by omega)
          rw [bit_yes (by omega) c9, show ((2 * z + 1 : Nat) : Int) = (z : Int) * 2 + 1 by omega] at h5; exact h5
        · have h5 := h5 (by omega)
          rw [bit_no (fun c => by rw [c9] at c; exact absurd c.2 (by decide)), show ((2 * z + 0 : Nat) : Int) = (z : Int) * 2 by omega] at h5; exact h5
        · have h5 := h5 (by omega)
          rw [bit_no (fun c => by omega), show ((2 * z + 0 : Nat) : Int) = (z : Int) * 2 by omega] at h5; exact h5
  exact key an 0 0 [] (by omega) rfl (by omega) h
def goodI (o : List Int) : Prop := ∀ t ∈ o, -1000000 ≤ t ∧ t ≤ 1000000
theorem bnd_good {o : List Int} (h : goodI o) : bnd 1000000 o = true := by
  simp only [bnd, List.all_eq_true, decide_eq_true_eq]; exact h
theorem bnd_bad {o : List Int} (h : ∃ t ∈ o, ¬(-1000000 ≤ t ∧ t ≤ 1000000)) : bnd 1000000 o = false := by
  obtain ⟨t, ht, hn⟩ := h
  cases hb : bnd 1000000 o with
  | false => rfl
  | true =>
    simp only [bnd, List.all_eq_true, decide_eq_true_eq] at hb
    exact absurd (hb t ht) hn
theorem spec_FromRice_wp {l : List Bool} {a k : Int} {K : List Int → Bool → Prop} (h : if l.length ≤ 32768 ∧ (1 ≤ a ∧ a ≤ 128) ∧ 0 ≤ k ∧ k ≤ 20 then endI K (riceF l k.toNat a.toNat 0 []) else K [] false) : spec_FromRice.wp l a k K := by
  refine ⟨fun c => by rw [if_neg (by omega)] at h; exact h, fun c => spec_l00In_wp ⟨fun c2 => spec_l00In_wp ⟨fun c3 => ?_, fun c3 => ?_⟩, fun c2 => ?_⟩⟩
  rotate_left
  · have c3 := of_decide_eq_false c3
    rw [if_neg (by omega)] at h; exact h
  · have c2 := of_decide_eq_false c2
    rw [if_neg (by omega)] at h; exact h
  have c2 := of_decide_eq_true c2
  have c3 := of_decide_eq_true c3
  have hl : l.length ≤ 32768 := by omega
  rw [if_pos ⟨hl, c2, c3⟩] at h
  obtain ⟨kn, rfl⟩ : ∃ n : Nat, k = n := ⟨k.toNat, by omega⟩
  obtain ⟨an, rfl⟩ : ∃ n : Nat, a = n := ⟨a.toNat, by omega⟩
  rw [nn, nn] at h
  intro X hX
  have key : ∀ (m x i : Nat) (o : List Int), x + m = an → o.length = x → i ≤ l.length → (goodI o ∧ endI K (riceF l kn m i o)) ∨ ((∃ t ∈ o, ¬(-1000000 ≤ t ∧ t ≤ 1000000)) ∧ K [] false) → X o (i : Int) (x : Int) := by
    intro m
    induction m with
    | zero =>
      intro x i o h1 h2 h3 h4
      refine hX _ _ _ ⟨fun c => absurd c (by omega), fun _ => ⟨fun c4 => spec_l02Integers_wp (by omega) ?_, fun c4 => ?_⟩⟩
      · rcases h4 with ⟨hg, h4⟩ | ⟨hb, h4⟩
        · rw [riceF, if_pos (by omega)] at h4
          exact tE (by rw [isI, bnd_good hg, decide_eq_true (by omega)]; rfl) h4
        · exact tG (by rw [isI, bnd_bad hb, Bool.and_false]) h4
      · rcases h4 with ⟨hg, h4⟩ | ⟨hb, h4⟩
        · rw [riceF, if_neg (by omega)] at h4; exact h4
        · exact h4
    | succ m ih =>
      intro x i o h1 h2 h3 h4
      refine hX _ _ _ ⟨fun _ => ?_, fun c4 => absurd (show (x : Int) < an by omega) c4⟩
      intro Z hZ
      have hbd := oneN_bd l hl kn i (by omega) h3
      have fin : ∀ i2 z2 : Nat, i2 = (oneN l kn i).1 → z2 = (oneN l kn i).2 → (((l.length : Int) < (i2 : Int) → K ([] : List (Int)) (false)) ∧ (¬((l.length : Int) < (i2 : Int)) → spec_l06Zag.wp (z2 : Int) fun y188 => ((o.length + ([y188] : List (Int)).length) * 8 ≤ 2 ^ 40) ∧ X (o ++ ([y188] : List (Int))) (i2 : Int) (IntKind.i64.wrap ((x : Int) + 1)))) := by
        rintro i2 z2 rfl rfl
        refine ⟨fun c5 => ?_, fun c5 => ?_⟩
        · rcases h4 with ⟨hg, h4⟩ | ⟨hb, h4⟩
          · rw [riceF, if_pos (by omega)] at h4; exact h4
          · exact h4
        refine spec_l06Zag_wp (by omega) ⟨by rw [len1]; omega, ?_⟩
        rw [w1 (by omega)]
        refine ih (x + 1) _ _ (by omega) (by rw [List.length_append, len1]; omega) (by omega) ?_
        have hz := zagN_bd (oneN l kn i).2
        rcases h4 with ⟨hg, h4⟩ | ⟨⟨t, ht, hb⟩, h4⟩
        · rw [riceF, if_neg (by omega)] at h4
          by_cases c6 : 2000000 < (oneN l kn i).2
          · rw [if_pos c6] at h4
            exact .inr ⟨⟨_, List.mem_append_right _ (List.mem_singleton.2 rfl), fun c => absurd c6 (hz.2 c)⟩, h4⟩
          · rw [if_neg c6] at h4
            refine .inl ⟨fun t ht => ?_, h4⟩
            rcases List.mem_append.1 ht with ht | ht
            · exact hg t ht
            · rw [List.mem_singleton.1 ht]; exact hz.1 c6
        · exact .inr ⟨⟨t, List.mem_append_left _ ht, hb⟩, h4⟩
      refine one_loop l hl kn (by omega) (X := Z) (E := fun i2 z2 => i2 = (oneN l kn i).1 ∧ z2 = (oneN l kn i).2) (fun i z hi hz hy hn => hZ _ _ ?_) i h3 ⟨rfl, rfl⟩
      rw [w1 (by omega), w1 (by omega), nn]
      refine ⟨fun c5 => ⟨⟨by omega, c5⟩, ⟨fun c6 => hy (by omega) c6, fun c6 => ?_⟩⟩, fun c5 => ?_⟩
      all_goals
        intro Y hY
        refine hn (fun c7 => by first | omega | (rw [c6] at c7; exact absurd c7.2 (by decide))) Y fun i z j hj hi hz h5 h6 => hY _ _ _ ?_
        rw [w1 (by omega), w1 (by omega), nn, wI (n := 2 * (z : Int)) (by omega), wI (n := 2 * (z : Int) + 1) (by omega)]
        refine ⟨fun c7 => ⟨fun c8 => ⟨⟨by omega, c8⟩, ⟨fun c9 => ?_, fun c9 => ?_⟩⟩, fun c8 => ?_⟩, fun c7 => fin i z (h6 (by omega)).1 (h6 (by omega)).2⟩
        · have h5 := h5 (by omega)
          rw [bit_yes (by omega) c9, show ((2 * z + 1 : Nat) : Int) = 2 * (z : Int) + 1 by omega] at h5; exact h5
        · have h5 := h5 (by omega)
          rw [bit_no (fun c => by rw [c9] at c; exact absurd c.2 (by decide)), show ((2 * z + 0 : Nat) : Int) = 2 * (z : Int) by omega] at h5; exact h5
        · have h5 := h5 (by omega)
          rw [bit_no (fun c => by omega), show ((2 * z + 0 : Nat) : Int) = 2 * (z : Int) by omega] at h5; exact h5
  exact key an 0 0 [] (by omega) rfl (by omega) (.inl ⟨fun t ht => (by cases ht), h⟩)
theorem riceF_len (l : List Bool) (k : Nat) : ∀ n i o r, riceF l k n i o = some r → r.length = o.length + n
  | 0, i, o, r, h => by
    rw [riceF] at h; split at h
    · cases h; rfl
    · cases h
  | n + 1, i, o, r, h => by
    rw [riceF] at h
    split at h
    · cases h
    · split at h
      · cases h
      · have := riceF_len l k n _ _ r h
        rw [List.length_append, List.length_singleton] at this; omega
theorem fr_both (l : List Bool) (a k : Int) : ∃ out ok, (∀ K, K out ok → spec_FromRice.wp l a k K) ∧ (∀ K, K out ok → impl_FromRice.wp l a k K) ∧ out.length ≤ 2 ^ 20 := by
  by_cases hc : l.length ≤ 32768 ∧ (1 ≤ a ∧ a ≤ 128) ∧ 0 ≤ k ∧ k ≤ 20
  · cases hr : riceF l k.toNat a.toNat 0 [] with
    | some o => exact ⟨o, true, fun K hk => spec_FromRice_wp (by rw [if_pos hc, hr]; exact hk), fun K hk => impl_FromRice_wp (by rw [if_pos hc, hr]; exact hk), by have := riceF_len l _ _ _ _ o hr; simp only [List.length_nil] at this; omega⟩
    | none => exact ⟨[], false, fun K hk => spec_FromRice_wp (by rw [if_pos hc, hr]; exact hk), fun K hk => impl_FromRice_wp (by rw [if_pos hc, hr]; exact hk), by simp⟩
  · exact ⟨[], false, fun K hk => spec_FromRice_wp (by rw [if_neg hc]; exact hk), fun K hk => impl_FromRice_wp (by rw [if_neg hc]; exact hk), by simp⟩

end Go.Proofs.Ytcplmcfnegphlaa.G

namespace Go.Proofs.Ytcplmcfnegphlaa.G
open Go Go.Ab
set_option maxRecDepth 100000
set_option linter.unusedVariables false
set_option linter.unusedSimpArgs false
set_option maxHeartbeats 1000000
theorem pureExactFromRice (l0 : List Bool) (a1 a2 : Int) : laws_FnExactFromRice.wp l0 a1 a2 (fun b => b = true) := by
  refine ⟨fun _ => rfl, fun hb => ?_⟩
  have hl : l0.length ≤ 2 ^ 20 := by omega
  obtain ⟨out, ok, hs, hi, ho⟩ := fr_both l0 a1 a2
  repeat' (first
    | exact rfl
    | refine hs _ ?_
    | refine hi _ ?_
    | refine toInt64S_wp (by omega) ?_
    | refine eqInt64S_wp (by first | omega | simp) ?_
    | refine markInt64S_wp (k := 1) (by first | omega | simp) (by omega) ?_
    | refine markInt64S_wp (by first | omega | simp) (by omega) ?_
    | refine heldInt64S_wp (k := 1) (by first | omega | simp) (by omega) ?_
    | refine toBoolS_wp (by omega) ?_
    | refine szBoolS_wp (by omega) (by omega) ?_
    | refine eqBoolS_wp (by first | omega | simp) ?_
    | refine markBoolS_wp (k := 1) (by first | omega | simp) (by omega) ?_
    | refine markBoolS_wp (by first | omega | simp) (by omega) ?_
    | refine heldBoolS_wp (k := 1) (by first | omega | simp) (by omega) ?_
    | refine tT ?_
    | refine tB ?_
    | refine tN (by omega) ?_
    | refine tP (by first | rfl | omega) ?_)

end Go.Proofs.Ytcplmcfnegphlaa.G

