/-
  What the formulas say, over numbers and lists alone. Nothing here is trusted.
-/
import Derived.Test.YtcplmcfnegphlaaMExactRiceCodeWa
namespace Go.Proofs.Ytcplmcfnegphlaa.G
open Go Go.Ab
set_option maxRecDepth 100000
set_option linter.unusedVariables false
set_option linter.unusedSimpArgs false
set_option maxHeartbeats 1000000
/-! ### truth -/
theorem tT {A B : Prop} (h : A) : (true = true → A) ∧ (true = false → B) := ⟨fun _ => h, fun c => (by cases c)⟩
theorem tF {A B : Prop} (h : B) : (false = true → A) ∧ (false = false → B) := ⟨fun c => (by cases c), fun _ => h⟩
theorem tB {A B : Prop} {b : Bool} (h : A) : ((b == b) = true → A) ∧ ((b == b) = false → B) := ⟨fun _ => h, fun c => (by simp at c)⟩
theorem tE {A B : Prop} {b : Bool} (e : b = true) (h : A) : (b = true → A) ∧ (b = false → B) := ⟨fun _ => h, fun c => (by rw [e] at c; cases c)⟩
theorem tG {A B : Prop} {b : Bool} (e : b = false) (h : B) : (b = true → A) ∧ (b = false → B) := ⟨fun c => (by rw [e] at c; cases c), fun _ => h⟩
theorem tP {p A B : Prop} (e : p) (h : A) : (p → A) ∧ (¬p → B) := ⟨fun _ => h, fun c => absurd e c⟩
theorem tN {p A B : Prop} (e : ¬p) (h : B) : (p → A) ∧ (¬p → B) := ⟨fun c => absurd c e, fun _ => h⟩
theorem tI {b : Bool} {K : Bool → Prop} {A B : Prop} (h1 : b = true → A) (h2 : b = false → B) : (b = true → A) ∧ (b = false → B) := ⟨h1, h2⟩
/-! ### loops -/
theorem up {Y : Nat → Prop} (n : Nat) (last : Y n) (step : ∀ i, i < n → Y (i + 1) → Y i) : Y 0 := by
  have key : ∀ d i, i + d = n → Y i := by
    intro d
    induction d with
    | zero => intro i h; obtain rfl : i = n := by omega
              exact last
    | succ d ih => intro i h; exact step i (by omega) (ih (i + 1) (by omega))
  exact key n 0 (by omega)
theorem upFrom {Y : Nat → Prop} (k n : Nat) (hk : k ≤ n) (last : Y n) (step : ∀ i, k ≤ i → i < n → Y (i + 1) → Y i) : Y k := by
  have key : ∀ d i, k ≤ i → i + d = n → Y i := by
    intro d
    induction d with
    | zero => intro i _ h; obtain rfl : i = n := by omega
              exact last
    | succ d ih => intro i h0 h; exact step i h0 (by omega) (ih (i + 1) (by omega) (by omega))
  exact key (n - k) k (Nat.le_refl _) (by omega)
theorem w1 {i : Nat} (h : i < 4611686018427387904) : IntKind.i64.wrap ((i : Int) + (1 : Int)) = ((i + 1 : Nat) : Int) := wrap_succ (by omega)
theorem wI {n : Int} (h : -9223372036854775808 ≤ n ∧ n < 9223372036854775808) : IntKind.i64.wrap n = n := wrap_i64 h.1 h.2
theorem nn (i : Nat) : ((i : Int)).toNat = i := rfl
theorem gD {α : Type} {l : List α} {i : Nat} (h : i < l.length) (d : α) : l.getD i d = l[i] := by rw [List.getD_eq_getElem?_getD, List.getElem?_eq_getElem h]; rfl
theorem dropC {α : Type} {l : List α} {i : Nat} (h : i < l.length) : l.drop i = l[i] :: l.drop (i + 1) := List.drop_eq_getElem_cons h
theorem len1 {α : Type} (a : α) : ([a] : List α).length = 1 := rfl
theorem cz32 (n : Nat) (h : (FloatKind.f32.decode n).isNaN = false) : cz .f32 n = n := by simp [cz, h]
theorem c0_32 : cz .f32 0 = 0 := cz_zero32
theorem c0_64 : cz .f64 0 = 0 := cz_zero64
/-! ### copies, comparisons, marks -/
theorem toInt64S_wp {l : List Int} {K : List Int → Prop} (hl : l.length ≤ 2 ^ 20) (h : K l) : laws_toInt64S.wp l K := by
  refine ⟨⟨by omega, by omega, by omega, by omega⟩, fun X hX => ?_⟩
  have key : X (l.take 0 ++ List.replicate (l.length - 0) (0 : Int)) ((0 : Nat) : Int) := by
    refine up (Y := fun i => X (l.take i ++ List.replicate (l.length - i) (0 : Int)) (i : Int)) l.length ?_ fun i hi hn => ?_
    · refine hX _ _ ⟨fun c => absurd c (by omega), fun _ => ?_⟩
      rw [List.take_length, Nat.sub_self, List.replicate_zero, List.append_nil]; exact h
    · refine hX _ _ ⟨fun _ => ⟨⟨by omega, by omega⟩, ⟨by omega, ?_⟩, ?_⟩, fun c => absurd (show (i : Int) < l.length by omega) c⟩
      · rw [List.length_append, List.length_take, List.length_replicate]; omega
      · rw [nn, w1 (by omega), gD hi, set_fill (0 : Int) (by omega) hi]
        exact hn
  rw [List.take_zero, List.nil_append, Nat.sub_zero] at key; exact key
theorem toBoolS_wp {l : List Bool} {K : List Bool → Prop} (hl : l.length ≤ 2 ^ 20) (h : K l) : laws_toBoolS.wp l K := by
  refine ⟨⟨by omega, by omega, by omega, by omega⟩, fun X hX => ?_⟩
  have key : X (l.take 0 ++ List.replicate (l.length - 0) false) ((0 : Nat) : Int) := by
    refine up (Y := fun i => X (l.take i ++ List.replicate (l.length - i) false) (i : Int)) l.length ?_ fun i hi hn => ?_
    · refine hX _ _ ⟨fun c => absurd c (by omega), fun _ => ?_⟩
      rw [List.take_length, Nat.sub_self, List.replicate_zero, List.append_nil]; exact h
    · refine hX _ _ ⟨fun _ => ⟨⟨by omega, by omega⟩, ⟨by omega, ?_⟩, ?_⟩, fun c => absurd (show (i : Int) < l.length by omega) c⟩
      · rw [List.length_append, List.length_take, List.length_replicate]; omega
      · rw [nn, w1 (by omega), gD hi, set_fill false (by omega) hi]
        exact hn
  rw [List.take_zero, List.nil_append, Nat.sub_zero] at key; exact key
theorem eqInt64S_wp {l : List Int} {K : Bool → Prop} (hl : l.length ≤ 2 ^ 20) (h : K true) : laws_eqInt64S.wp l l K := by
  refine tP rfl fun X hX => ?_
  refine up (Y := fun i => X (i : Int)) l.length ?_ fun i hi hn => ?_
  · exact hX _ ⟨fun c => absurd c (by omega), fun _ => h⟩
  · refine hX _ ⟨fun _ => ⟨⟨by omega, by omega⟩, ⟨by omega, by omega⟩, tP rfl ?_⟩, fun c => absurd (show (i : Int) < l.length by omega) c⟩
    rw [w1 (by omega)]; exact hn
theorem eqBoolS_wp {l : List Bool} {K : Bool → Prop} (hl : l.length ≤ 2 ^ 20) (h : K true) : laws_eqBoolS.wp l l K := by
  refine tP rfl fun X hX => ?_
  refine up (Y := fun i => X (i : Int)) l.length ?_ fun i hi hn => ?_
  · exact hX _ ⟨fun c => absurd c (by omega), fun _ => h⟩
  · refine hX _ ⟨fun _ => ⟨⟨by omega, by omega⟩, ⟨by omega, by omega⟩, tB ?_⟩, fun c => absurd (show (i : Int) < l.length by omega) c⟩
    rw [w1 (by omega)]; exact hn
theorem markInt64S_wp {l : List Int} {k : Nat} {K : Int → List Int → Prop} (hl : l.length ≤ 2 ^ 20) (hk : k ≤ 2 ^ 40) (h : K ((k + l.length : Nat) : Int) (marksI k l.length)) : laws_markInt64S.wp l (k : Int) K := by
  intro X hX
  have key : X (marksI k 0 ++ l.drop 0) ((k + 0 : Nat) : Int) ((0 : Nat) : Int) := by
    refine up (Y := fun i => X (marksI k i ++ l.drop i) ((k + i : Nat) : Int) (i : Int)) l.length ?_ fun i hi hn => ?_
    · refine hX _ _ _ ⟨fun c => absurd c (by rw [List.length_append, marksI_length, List.length_drop]; omega), fun _ => ?_⟩
      rw [List.drop_length, List.append_nil]; exact h
    · have hlen : (marksI k i ++ l.drop i).length = l.length := by rw [List.length_append, marksI_length, List.length_drop]; omega
      refine hX _ _ _ ⟨fun _ => ⟨⟨by omega, by rw [hlen]; omega⟩, ?_⟩, fun c => absurd (show (i : Int) < _ by rw [hlen]; omega) c⟩
      rw [nn, w1 (by omega), w1 (by omega)]
      have e := marksI_step (l := l) (i := i) (m := l.length - i) k (by omega) hi
      rw [show (k : Int) + (i : Int) = ((k + i : Nat) : Int) by omega] at e
      
      rw [e]; exact hn
  exact key
theorem heldInt64S_wp {k n : Nat} {K : Int → Prop} (hl : n ≤ 2 ^ 20) (hk : k ≤ 2 ^ 40) (h : K ((k + n : Nat) : Int)) : laws_heldInt64S.wp (marksI k n) (k : Int) K := by
  intro X hX
  have hlen : (marksI k n).length = n := marksI_length _ _
  have key : X ((k + 0 : Nat) : Int) ((0 : Nat) : Int) := by
    refine up (Y := fun i => X ((k + i : Nat) : Int) (i : Int)) n ?_ fun i hi hn => ?_
    · exact hX _ _ ⟨fun c => absurd c (by omega), fun _ => h⟩
    · refine hX _ _ ⟨fun _ => ⟨⟨by omega, by omega⟩, ?_⟩, fun c => absurd (show (i : Int) < _ by omega) c⟩
      rw [nn, gD (by omega), marksI_at k n i (by omega), show (k : Int) + (i : Int) = ((k + i : Nat) : Int) by omega]
      refine tP rfl ?_
      rw [w1 (by omega), w1 (by omega)]; exact hn
  exact key

end Go.Proofs.Ytcplmcfnegphlaa.G

namespace Go.Proofs.Ytcplmcfnegphlaa.G
open Go Go.Ab
set_option maxRecDepth 100000
set_option linter.unusedVariables false
set_option linter.unusedSimpArgs false
set_option maxHeartbeats 1000000
def mB (k : Nat) : Nat → List Bool
  | 0 => []
  | n + 1 => decide (Int.tmod (k : Int) 3 = 0) :: mB (k + 1) n
theorem mB_len (k : Nat) : ∀ n, (mB k n).length = n
  | 0 => rfl
  | n + 1 => by rw [mB, List.length_cons, mB_len]
theorem mB_app (k : Nat) : ∀ n, mB k (n + 1) = mB k n ++ [decide (Int.tmod ((k + n : Nat) : Int) 3 = 0)] := by
  intro n
  induction n generalizing k with
  | zero => rfl
  | succ n ih => rw [mB, ih, show mB k (n + 1) = decide (Int.tmod (k : Int) 3 = 0) :: mB (k + 1) n from rfl, List.cons_append, show k + 1 + n = k + (n + 1) by omega]
theorem mB_at (k : Nat) : ∀ (n i : Nat), i < n → (mB k n).getD i false = decide (Int.tmod ((k + i : Nat) : Int) 3 = 0) := by
  intro n
  induction n generalizing k with
  | zero => intro i h; omega
  | succ n ih =>
    intro i h
    cases i with
    | zero => rfl
    | succ i => rw [mB, List.getD_cons_succ, ih (k + 1) i (by omega), show k + 1 + i = k + (i + 1) by omega]
theorem setB {α : Type} (p : List α) (a b : α) (q : List α) : ((p ++ a :: q).set p.length b) = p ++ b :: q := by
  rw [List.set_append_right _ _ (Nat.le_refl _), Nat.sub_self]; rfl
theorem markBoolS_wp {l : List Bool} {k : Nat} {K : Int → List Bool → Prop} (hl : l.length ≤ 2 ^ 20) (hk : k ≤ 2 ^ 40) (h : K ((k + l.length : Nat) : Int) (mB k l.length)) : laws_markBoolS.wp l (k : Int) K := by
  intro X hX
  have key : X (mB k 0 ++ l.drop 0) ((k + 0 : Nat) : Int) ((0 : Nat) : Int) := by
    refine up (Y := fun i => X (mB k i ++ l.drop i) ((k + i : Nat) : Int) (i : Int)) l.length ?_ fun i hi hn => ?_
    · refine hX _ _ _ ⟨fun c => absurd c (by rw [List.length_append, mB_len, List.length_drop]; omega), fun _ => ?_⟩
      rw [List.drop_length, List.append_nil]; exact h
    · have hlen : (mB k i ++ l.drop i).length = l.length := by rw [List.length_append, mB_len, List.length_drop]; omega
      refine hX _ _ _ ⟨fun _ => ⟨⟨by omega, by rw [hlen]; omega⟩, ?_⟩, fun c => absurd (show (i : Int) < _ by rw [hlen]; omega) c⟩
      rw [nn, w1 (by omega), w1 (by omega)]
      have e1 : (mB k i ++ l.drop i) = mB k i ++ l[i] :: l.drop (i + 1) := by rw [dropC hi]
      have e2 : (mB k i ++ l[i] :: l.drop (i + 1)).set i (decide (Int.tmod ((k + i : Nat) : Int) 3 = 0)) = mB k i ++ decide (Int.tmod ((k + i : Nat) : Int) 3 = 0) :: l.drop (i + 1) := by
        have := setB (mB k i) l[i] (decide (Int.tmod ((k + i : Nat) : Int) 3 = 0)) (l.drop (i + 1)); rw [mB_len] at this; exact this
      rw [e1, e2]
      rw [mB_app, List.append_assoc, List.singleton_append] at hn
      exact hn
  exact key
theorem heldBoolS_wp {k n : Nat} {K : Int → Prop} (hl : n ≤ 2 ^ 20) (hk : k ≤ 2 ^ 40) (h : K ((k + n : Nat) : Int)) : laws_heldBoolS.wp (mB k n) (k : Int) K := by
  intro X hX
  have hlen : (mB k n).length = n := mB_len _ _
  have key : X ((k + 0 : Nat) : Int) ((0 : Nat) : Int) := by
    refine up (Y := fun i => X ((k + i : Nat) : Int) (i : Int)) n ?_ fun i hi hn => ?_
    · exact hX _ _ ⟨fun c => absurd c (by omega), fun _ => h⟩
    · refine hX _ _ ⟨fun _ => ⟨⟨by omega, by omega⟩, ?_⟩, fun c => absurd (show (i : Int) < _ by omega) c⟩
      rw [nn, mB_at k n i hi]
      refine tB ?_
      rw [w1 (by omega), w1 (by omega)]; exact hn
  exact key

end Go.Proofs.Ytcplmcfnegphlaa.G

namespace Go.Proofs.Ytcplmcfnegphlaa.G
open Go Go.Ab
set_option maxRecDepth 100000
set_option linter.unusedVariables false
set_option linter.unusedSimpArgs false
set_option maxHeartbeats 1000000
def pFin (x : Nat) : Bool := fcmp .eql .f32 (fop .sub .f32 x x) (cz .f32 0)
def pAll (l : List Nat) : Bool := l.all pFin
theorem pAll_cons (x : Nat) (l : List Nat) : pAll (x :: l) = (pFin x && pAll l) := rfl
/-- A loop that ends early where something does not hold. -/
theorem all_loop {α : Type} (l : List α) (p : α → Bool) {X : Int → Prop} {T F : Prop} (hX : ∀ (i : Nat) (h : i < l.length), ((p l[i] = true → X ((i + 1 : Nat) : Int)) ∧ (p l[i] = false → F)) → X (i : Int))
    (hend : T → X (l.length : Int)) (ht : l.all p = true → T) (hf : l.all p = false → F) : X (0 : Int) := by
  have key := up (Y := fun i => ((l.drop i).all p = true → T) → ((l.drop i).all p = false → F) → X (i : Int)) l.length (fun h _ => hend (h (by rw [List.drop_length]; rfl))) fun i hi hn h1 h2 => ?_
  · exact key (by rw [List.drop_zero]; exact ht) (by rw [List.drop_zero]; exact hf)
  · rw [dropC hi, List.all_cons] at h1 h2
    refine hX i hi ⟨fun e => hn (fun a => h1 (by rw [e, a]; rfl)) (fun a => h2 (by rw [e, a]; rfl)), fun e => h2 (by rw [e]; rfl)⟩
/-- A loop that makes a list, and ends early where something does not hold. -/
theorem map_loop {α β : Type} (l : List α) (p : α → Bool) (f : α → β) {X : List β → Int → Prop} {T F : Prop} (hX : ∀ (i : Nat) (h : i < l.length) (o : List β), o.length = i → ((p l[i] = true → X (o ++ [f l[i]]) ((i + 1 : Nat) : Int)) ∧ (p l[i] = false → F)) → X o (i : Int))
    (hend : T → X (l.map f) (l.length : Int)) (ht : l.all p = true → T) (hf : l.all p = false → F) : X [] (0 : Int) := by
  have key := up (Y := fun i => ((l.drop i).all p = true → T) → ((l.drop i).all p = false → F) → X ((l.take i).map f) (i : Int)) l.length (fun h _ => by rw [List.take_length]; exact hend (h (by rw [List.drop_length]; rfl))) fun i hi hn h1 h2 => ?_
  · have := key (by rw [List.drop_zero]; exact ht) (by rw [List.drop_zero]; exact hf)
    rw [List.take_zero] at this; exact this
  · rw [dropC hi, List.all_cons] at h1 h2
    refine hX i hi _ (by rw [List.length_map, List.length_take]; omega) ⟨fun e => ?_, fun e => h2 (by rw [e]; rfl)⟩
    have := hn (fun a => h1 (by rw [e, a]; rfl)) (fun a => h2 (by rw [e, a]; rfl))
    rw [List.take_succ_eq_append_getElem hi, List.map_append] at this
    exact this
theorem impl_within_wp {a b c : Int} {K : Bool → Prop} (h : K (decide (b ≤ a ∧ a ≤ c))) : impl_within.wp a b c K := by
  refine ⟨fun h1 => ?_, fun h1 => ?_⟩
  · have : decide (b ≤ a ∧ a ≤ c) = decide (a ≤ c) := by simp [h1]
    rw [this] at h; exact h
  · have : decide (b ≤ a ∧ a ≤ c) = false := by simp [h1]
    rw [this] at h; exact h
theorem spec_l00In_wp {a b c : Int} {K : Bool → Prop} (h : K (decide (b ≤ a ∧ a ≤ c))) : spec_l00In.wp a b c K := by
  refine ⟨fun h1 => ?_, fun h1 => ?_⟩
  · have : decide (b ≤ a ∧ a ≤ c) = decide (a ≤ c) := by simp [h1]
    rw [this] at h; exact h
  · have : decide (b ≤ a ∧ a ≤ c) = false := by simp [h1]
    rw [this] at h; exact h
theorem bT {b : Bool} {A B : Prop} (h1 : b = true → A) (h2 : b = false → B) : (b = true → A) ∧ (b = false → B) := ⟨h1, h2⟩
def isL (l : List Nat) : Bool := decide (1 ≤ l.length ∧ l.length ≤ 128) && pAll l
def isOver (x : Nat) : Bool := pFin x && fcmp .gtr .f32 x (cz .f32 0)
def isLeast (x : Nat) : Bool := pFin x && fcmp .geq .f32 x (cz .f32 0)
def isShare (x : Nat) : Bool := fcmp .geq .f32 x (cz .f32 0) && fcmp .leq .f32 x (cz .f32 1065353216)
/-! ### integers -/
def bnd (m : Int) (l : List Int) : Bool := l.all fun n => decide (-m ≤ n ∧ n ≤ m)
def isI (l : List Int) : Bool := decide (1 ≤ l.length ∧ l.length ≤ 128) && bnd 1000000 l
theorem spec_l02Bound_wp {l : List Int} {m : Int} {K : Bool → Prop} (hl : l.length ≤ 2 ^ 20) (hm : 0 ≤ m ∧ m ≤ 2 ^ 40) (h : K (bnd m l)) : spec_l02Bound.wp l m K := by
  intro X hX
  refine all_loop l (fun n => decide (-m ≤ n ∧ n ≤ m)) (X := X) (T := K true) (F := K false) (fun i hi hh => ?_) (fun ht => hX _ ⟨fun c => absurd c (by omega), fun _ => ht⟩) (fun e => by rw [bnd, e] at h; exact h) (fun e => by rw [bnd, e] at h; exact h)
  refine hX _ ⟨fun _ => ⟨⟨by omega, by omega⟩, spec_l00In_wp ?_⟩, fun c => absurd (show (i : Int) < l.length by omega) c⟩
  rw [nn, gD hi, w1 (by omega), wI (show -9223372036854775808 ≤ (0 : Int) - m ∧ (0 : Int) - m < 9223372036854775808 by omega), Int.zero_sub]; exact hh
theorem impl_areWithin_wp {l : List Int} {m : Int} {K : Bool → Prop} (hl : l.length ≤ 2 ^ 20) (hm : 0 ≤ m ∧ m ≤ 2 ^ 40) (h : K (bnd m l)) : impl_areWithin.wp l m K := by
  intro X hX
  refine all_loop l (fun n => decide (-m ≤ n ∧ n ≤ m)) (X := X) (T := K true) (F := K false) (fun i hi hh => ?_) (fun ht => hX _ ⟨fun c => absurd c (by omega), fun _ => ht⟩) (fun e => by rw [bnd, e] at h; exact h) (fun e => by rw [bnd, e] at h; exact h)
  refine hX _ ⟨fun _ => ⟨⟨by omega, by omega⟩, impl_within_wp ?_⟩, fun c => absurd (show (i : Int) < l.length by omega) c⟩
  rw [nn, gD hi, w1 (by omega), wI (show -9223372036854775808 ≤ (0 : Int) - m ∧ (0 : Int) - m < 9223372036854775808 by omega), Int.zero_sub]; exact hh
theorem spec_l02Integers_wp {l : List Int} {K : Bool → Prop} (hl : l.length ≤ 2 ^ 20) (h : K (isI l)) : spec_l02Integers.wp l K := by
  refine ⟨fun h1 => ⟨fun h2 => spec_l02Bound_wp hl (by omega) ?_, fun h2 => ?_⟩, fun h1 => ?_⟩
  · rw [isI, decide_eq_true (show 1 ≤ l.length ∧ l.length ≤ 128 by omega), Bool.true_and] at h; exact h
  · rw [isI, decide_eq_false (show ¬(1 ≤ l.length ∧ l.length ≤ 128) by omega), Bool.false_and] at h; exact h
  · rw [isI, decide_eq_false (show ¬(1 ≤ l.length ∧ l.length ≤ 128) by omega), Bool.false_and] at h; exact h
theorem impl_AreIntegers_wp {l : List Int} {K : Bool → Prop} (hl : l.length ≤ 2 ^ 20) (h : K (isI l)) : impl_AreIntegers.wp l K := by
  refine impl_within_wp ⟨fun h1 => ?_, fun h1 => ?_⟩
  · have h1 := of_decide_eq_true h1
    refine impl_areWithin_wp hl (by omega) ?_
    rw [isI, decide_eq_true (show 1 ≤ l.length ∧ l.length ≤ 128 by omega), Bool.true_and] at h; exact h
  · have h1 := of_decide_eq_false h1
    rw [isI, decide_eq_false (show ¬(1 ≤ l.length ∧ l.length ≤ 128) by omega), Bool.false_and] at h; exact h

end Go.Proofs.Ytcplmcfnegphlaa.G

namespace Go.Proofs.Ytcplmcfnegphlaa.G
open Go Go.Ab
set_option maxRecDepth 100000
set_option linter.unusedVariables false
set_option linter.unusedSimpArgs false
set_option maxHeartbeats 1000000
def zigN (n : Int) : Nat := if n < 0 then (-2 * n - 1).toNat else (2 * n).toNat
def Sm (n : Int) : Prop := -1000000 ≤ n ∧ n ≤ 1000000
theorem zigN_bd {n : Int} (h : Sm n) : zigN n ≤ 2000000 := by unfold zigN; obtain ⟨h1, h2⟩ := h; split <;> omega
theorem spec_l06Zig_wp {n : Int} {K : Int → Prop} (h : Sm n) (hk : K (zigN n : Nat)) : spec_l06Zig.wp n K := by
  obtain ⟨h1, h2⟩ := h
  refine ⟨fun c => ?_, fun c => ?_⟩
  · rw [wI (n := (-2 : Int) * n) (by omega), wI (n := (-2 : Int) * n - 1) (by omega)]
    rw [zigN, if_pos c, Int.toNat_of_nonneg (by omega)] at hk; exact hk
  · rw [wI (n := 2 * n) (by omega)]
    rw [zigN, if_neg c, Int.toNat_of_nonneg (by omega)] at hk; exact hk
theorem impl_zigZag_wp {n : Int} {K : Int → Prop} (h : Sm n) (hk : K (zigN n : Nat)) : impl_zigZag.wp n K := by
  obtain ⟨h1, h2⟩ := h
  refine ⟨fun c => ?_, fun c => ?_⟩
  · rw [wI (n := 2 * n) (by omega)]
    rw [zigN, if_neg (by omega), Int.toNat_of_nonneg (by omega)] at hk; exact hk
  · rw [wI (n := (-2 : Int) * n) (by omega), wI (n := (-2 : Int) * n - 1) (by omega)]
    rw [zigN, if_pos (by omega), Int.toNat_of_nonneg (by omega)] at hk; exact hk
theorem u64w {k : Nat} (h : k < 2 ^ 40) : IntKind.u64.wrap (k : Int) = (k : Int) := by
  show (k : Int) % 18446744073709551616 = _; omega
theorem shr (y k : Nat) (hk : k ≤ 60) : Int.fdiv (y : Int) (2 ^ (min (k : Int).toNat IntKind.i64.bits)) = ((y / 2 ^ k : Nat) : Int) := by
  have e : min (k : Int).toNat IntKind.i64.bits = k := by
    rw [Int.toNat_natCast, show IntKind.i64.bits = 64 from rfl]; omega
  rw [e, Int.fdiv_eq_ediv_of_nonneg _ (by exact Int.le_of_lt (Int.pow_pos (by decide)))]
  rw [show (2 : Int) ^ k = ((2 ^ k : Nat) : Int) by rw [Int.natCast_pow]; rfl]
  rfl
def rlen (k : Nat) (n : Int) : Nat := zigN n / 2 ^ k + 1 + k
def rsum (k : Nat) : List Int → Nat
  | [] => 0
  | n :: l => rlen k n + rsum k l
theorem rlen_bd {k : Nat} {n : Int} (hk : k ≤ 20) (h : Sm n) : rlen k n ≤ 2000021 := by
  have := zigN_bd h
  have := Nat.div_le_self (zigN n) (2 ^ k)
  unfold rlen; omega
theorem sum_loop (l : List Int) (k : Nat) (hk : k ≤ 20) (hl : l.length ≤ 128) (hg : ∀ n ∈ l, Sm n) {X : Int → Int → Prop} (hX : ∀ (s i : Nat) (hi : i < l.length), s ≤ 2000021 * i → X ((s + rlen k l[i] : Nat) : Int) ((i + 1 : Nat) : Int) → X (s : Int) (i : Int)) (hend : X (rsum k l : Nat) (l.length : Int)) : X ((0 : Nat) : Int) ((0 : Nat) : Int) := by
  have key : ∀ m i s, m + i = l.length → s ≤ 2000021 * i → s + rsum k (l.drop i) = rsum k l → X (s : Int) (i : Int) := by
    intro m
    induction m with
    | zero => intro i s h1 h2 h3
              obtain rfl : i = l.length := by omega
              rw [List.drop_length, rsum] at h3
              obtain rfl : s = rsum k l := by omega
              exact hend
    | succ m ih =>
      intro i s h1 h2 h3
      have hi : i < l.length := by omega
      have := rlen_bd (k := k) hk (hg _ (List.getElem_mem hi))
      rw [dropC hi, rsum] at h3
      exact hX s i hi h2 (ih (i + 1) _ (by omega) (by omega) (by omega))
  exact key l.length 0 0 (by omega) (by omega) (by rw [List.drop_zero]; omega)
theorem add_step (s y k : Nat) (hs : s ≤ 2 ^ 30) (hy : y ≤ 2000000) (hk : k ≤ 20) : IntKind.i64.wrap ((s : Int) + (IntKind.i64.wrap ((IntKind.i64.wrap (((y / 2 ^ k : Nat) : Int) + 1)) + (k : Int)))) = ((s + (y / 2 ^ k + 1 + k) : Nat) : Int) := by
  have := Nat.div_le_self y (2 ^ k)
  generalize y / 2 ^ k = d at this
  rw [wI (n := (d : Int) + 1) (by omega), wI (n := (d : Int) + 1 + (k : Int)) (by omega), wI (n := (s : Int) + ((d : Int) + 1 + (k : Int))) (by omega)]
  omega
theorem spec_l06RiceLong_wp {l : List Int} {k : Nat} {K : Int → Prop} (hk : k ≤ 20) (hl : l.length ≤ 128) (hg : ∀ n ∈ l, Sm n) (h : K (rsum k l : Nat)) : spec_l06RiceLong.wp l (k : Int) K := by
  intro X hX
  refine sum_loop l k hk hl hg (X := X) (fun s i hi hs hn => hX _ _ ⟨fun _ => ⟨⟨by omega, by omega⟩, ?_⟩, fun c => absurd (show (i : Int) < l.length by omega) c⟩) (hX _ _ ⟨fun c => absurd c (by omega), fun _ => h⟩)
  have hz := hg _ (List.getElem_mem hi)
  rw [nn, gD hi, w1 (by omega), u64w (by omega)]
  refine spec_l06Zig_wp hz ⟨by omega, ?_⟩
  rw [shr _ _ (by omega), add_step _ _ _ (by omega) (zigN_bd hz) hk]
  exact hn
theorem impl_riceLong_wp {l : List Int} {k : Nat} {K : Int → Prop} (hk : k ≤ 20) (hl : l.length ≤ 128) (hg : ∀ n ∈ l, Sm n) (h : K (rsum k l : Nat)) : impl_riceLong.wp l (k : Int) K := by
  intro X hX
  refine sum_loop l k hk hl hg (X := X) (fun s i hi hs hn => hX _ _ ⟨fun _ => ⟨⟨by omega, by omega⟩, ?_⟩, fun c => absurd (show (i : Int) < l.length by omega) c⟩) (hX _ _ ⟨fun c => absurd c (by omega), fun _ => h⟩)
  have hz := hg _ (List.getElem_mem hi)
  rw [nn, gD hi, w1 (by omega)]
  refine impl_zigZag_wp hz ⟨by omega, ?_⟩
  rw [shr _ _ (by omega), add_step _ _ _ (by omega) (zigN_bd hz) hk]
  exact hn
def bitJ (y j : Nat) : Bool := decide (ibits .and .i64 ((y / 2 ^ j : Nat) : Int) 1 = 1)
def bitsL (y : Nat) : Nat → List Bool
  | 0 => []
  | j + 1 => bitJ y j :: bitsL y j
theorem bitsL_len (y : Nat) : ∀ j, (bitsL y j).length = j
  | 0 => rfl
  | j + 1 => by rw [bitsL, List.length_cons, bitsL_len]
def rcode1 (k : Nat) (n : Int) : List Bool := List.replicate (zigN n / 2 ^ k) true ++ ([false] ++ bitsL (zigN n) k)
def rcode (k : Nat) : List Int → List Bool
  | [] => []
  | n :: l => rcode1 k n ++ rcode k l
theorem rcode1_len (k : Nat) (n : Int) : (rcode1 k n).length = rlen k n := by
  simp only [rcode1, List.length_append, List.length_replicate, bitsL_len, rlen, List.length_cons, List.length_nil]; omega
theorem rcode_len (k : Nat) : ∀ l, (rcode k l).length = rsum k l
  | [] => rfl
  | n :: l => by rw [rcode, List.length_append, rcode1_len, rcode_len, rsum]
theorem code_loop (l : List Int) (k : Nat) (hs : rsum k l ≤ 32768) {X : List Bool → Int → Prop} (hX : ∀ (o : List Bool) (i : Nat) (hi : i < l.length), o.length + rlen k l[i] ≤ 32768 → X (o ++ rcode1 k l[i]) ((i + 1 : Nat) : Int) → X o (i : Int)) (hend : X (rcode k l) (l.length : Int)) : X [] ((0 : Nat) : Int) := by
  have key : ∀ m i o, m + i = l.length → o ++ rcode k (l.drop i) = rcode k l → X o (i : Int) := by
    intro m
    induction m with
    | zero => intro i o h1 h3
              obtain rfl : i = l.length := by omega
              rw [List.drop_length, rcode, List.append_nil] at h3
              rw [h3]; exact hend
    | succ m ih =>
      intro i o h1 h3
      have hi : i < l.length := by omega
      rw [dropC hi, rcode] at h3
      have h4 := congrArg List.length h3
      rw [rcode_len, List.length_append, List.length_append, rcode1_len] at h4
      exact hX o i hi (by omega) (ih (i + 1) _ (by omega) (by rw [List.append_assoc]; exact h3))
  exact key l.length 0 [] (by omega) rfl
theorem rep_snoc (o : List Bool) (n : Nat) : (o ++ [true]) ++ List.replicate n true = o ++ List.replicate (n + 1) true := by
  rw [List.append_assoc]; rfl
theorem spec_l06RiceCode_wp {l : List Int} {k : Nat} {K : List Bool → Prop} (hk : k ≤ 20) (hl : l.length ≤ 128) (hg : ∀ n ∈ l, Sm n) (hs : rsum k l ≤ 32768) (h : K (rcode k l)) : spec_l06RiceCode.wp l (k : Int) K := by
  intro X hX
  refine code_loop l k hs (X := X) (fun o i hi ho hn => hX _ _ ⟨fun _ => ⟨⟨by omega, by omega⟩, ?_⟩, fun c => absurd (show (i : Int) < l.length by omega) c⟩) (hX _ _ ⟨fun c => absurd c (by omega), fun _ => h⟩)
  have hz := hg _ (List.getElem_mem hi)
  have hz2 := zigN_bd hz
  rw [nn, gD hi, w1 (by omega), u64w (by omega)]
  refine spec_l06Zig_wp hz ⟨by omega, ?_⟩
  rw [shr _ _ (by omega)]
  have hd := Nat.div_le_self (zigN l[i]) (2 ^ k)
  have hle : o.length + (zigN l[i] / 2 ^ k + 1 + k) ≤ 32768 := ho
  intro Y hY
  have key : ∀ (n : Nat) (q : List Bool), n ≤ 2000000 → q.length + n + 1 + k ≤ 32768 → q ++ (List.replicate n true ++ ([false] ++ bitsL (zigN l[i]) k)) = o ++ rcode1 k l[i] → Y q (n : Int) := by
    intro n
    induction n with
    | zero =>
      intro q h1 h2 h3
      refine hY _ _ ⟨fun c => absurd c (by omega), fun _ => ⟨by rw [len1]; omega, fun Z hZ => ?_⟩⟩
      have key2 : ∀ (j : Nat) (q : List Bool), j ≤ k → q.length + j ≤ 32768 → q ++ bitsL (zigN l[i]) j = o ++ rcode1 k l[i] → Z q ((j : Int) - 1) := by
        intro j
        induction j with
        | zero =>
          intro q h1 h2 h3
          refine hZ _ _ ⟨fun c => absurd c (by omega), fun _ => ?_⟩
          rw [bitsL, List.append_nil] at h3
          rw [h3]; exact hn
        | succ j ih =>
          intro q h1 h2 h3
          refine hZ _ _ ⟨fun _ => ?_, fun c => absurd (show (0 : Int) ≤ ((j + 1 : Nat) : Int) - 1 by omega) c⟩
          have e : ((j + 1 : Nat) : Int) - 1 = (j : Int) := by omega
          rw [e, u64w (by omega), shr _ _ (by omega), wI (n := (j : Int) - 1) (by omega)]
          refine ⟨by omega, by rw [len1]; omega, ih _ (by omega) (by rw [List.length_append, len1]; omega) ?_⟩
          rw [List.append_assoc, List.singleton_append]; exact h3
      rw [wI (n := (k : Int) - 1) (by omega)]
      refine key2 k _ (Nat.le_refl _) (by rw [List.length_append, len1]; omega) ?_
      rw [List.append_assoc]; exact h3
    | succ n ih =>
      intro q h1 h2 h3
      refine hY _ _ ⟨fun _ => ⟨by rw [len1]; omega, ?_⟩, fun c => absurd (show (0 : Int) < ((n + 1 : Nat) : Int) by omega) c⟩
      rw [show IntKind.i64.wrap (((n + 1 : Nat) : Int) - 1) = ((n : Nat) : Int) by rw [wI (by omega)]; omega]
      refine ih _ (by omega) (by rw [List.length_append, len1]; omega) ?_
      rw [← List.append_assoc, rep_snoc, List.append_assoc]; exact h3
  exact key _ o (by omega) (by omega) rfl
theorem isI_sm {l : List Int} (h : isI l = true) : l.length ≤ 128 ∧ ∀ n ∈ l, Sm n := by
  simp only [isI, Bool.and_eq_true, decide_eq_true_eq, bnd, List.all_eq_true] at h
  exact ⟨h.1.2, h.2⟩
theorem impl_RiceCode_wp {l : List Int} {k : Int} {K : List Bool → Bool → Prop} (hl : l.length ≤ 2 ^ 20) (h : if isI l = true ∧ (0 ≤ k ∧ k ≤ 20) ∧ rsum k.toNat l ≤ 32768 then K (rcode k.toNat l) true else K [] false) : impl_RiceCode.wp l k K := by
  refine impl_AreIntegers_wp hl ⟨fun h1 => impl_within_wp ⟨fun h2 => ?_, fun h2 => ?_⟩, fun h1 => ?_⟩
  rotate_left
  · have h2 := of_decide_eq_false h2
    rw [if_neg (by omega)] at h; exact tF h
  · rw [if_neg (by rw [h1]; simp)] at h; exact tF h
  have h2 := of_decide_eq_true h2
  have hg := isI_sm h1
  obtain ⟨kn, rfl⟩ : ∃ n : Nat, k = n := ⟨k.toNat, by omega⟩
  rw [nn] at h
  refine impl_riceLong_wp (by omega) hg.1 hg.2 (tT ⟨fun c => ?_, fun c => ?_⟩)
  · rw [if_neg (by omega)] at h; exact h
  rw [if_pos ⟨h1, h2, by omega⟩] at h
  intro X hX
  refine code_loop l kn (by omega) (X := X) (fun o i hi ho hn => hX _ _ ⟨fun _ => ⟨⟨by omega, by omega⟩, ?_⟩, fun c => absurd (show (i : Int) < l.length by omega) c⟩) (hX _ _ ⟨fun c => absurd c (by omega), fun _ => h⟩)
  have hz := hg.2 _ (List.getElem_mem hi)
  have hz2 := zigN_bd hz
  rw [nn, gD hi, w1 (by omega)]
  refine impl_zigZag_wp hz ⟨by omega, ?_⟩
  rw [shr _ _ (by omega)]
  have hd := Nat.div_le_self (zigN l[i]) (2 ^ kn)
  have hle : o.length + (zigN l[i] / 2 ^ kn + 1 + kn) ≤ 32768 := ho
  intro Y hY
  have key : ∀ (n x : Nat) (q : List Bool), x + n = zigN l[i] / 2 ^ kn → q.length + n + 1 + kn ≤ 32768 → q ++ (List.replicate n true ++ ([false] ++ bitsL (zigN l[i]) kn)) = o ++ rcode1 kn l[i] → Y q (x : Int) := by
    intro n
    induction n with
    | zero =>
      intro x q h1 h2 h3
      refine hY _ _ ⟨fun c => absurd c (by rw [← h1]; omega), fun _ => ⟨by rw [len1]; omega, fun Z hZ => ?_⟩⟩
      have key2 : ∀ (j : Nat) (q : List Bool), j ≤ kn → q.length + j ≤ 32768 → q ++ bitsL (zigN l[i]) j = o ++ rcode1 kn l[i] → Z q ((j : Int) - 1) := by
        intro j
        induction j with
        | zero =>
          intro q h1 h2 h3
          refine hZ _ _ ⟨fun c => absurd c (by omega), fun _ => ?_⟩
          rw [bitsL, List.append_nil] at h3
          rw [h3]; exact hn
        | succ j ih =>
          intro q h1 h2 h3
          refine hZ _ _ ⟨fun _ => ?_, fun c => absurd (show (0 : Int) ≤ ((j + 1 : Nat) : Int) - 1 by omega) c⟩
          have e : ((j + 1 : Nat) : Int) - 1 = (j : Int) := by omega
          rw [e, shr _ _ (by omega), wI (n := (j : Int) - 1) (by omega)]
          refine ⟨by omega, by rw [len1]; omega, ih _ (by omega) (by rw [List.length_append, len1]; omega) ?_⟩
          rw [List.append_assoc, List.singleton_append]; exact h3
      rw [wI (n := (kn : Int) - 1) (by omega)]
      refine key2 kn _ (Nat.le_refl _) (by rw [List.length_append, len1]; omega) ?_
      rw [List.append_assoc]; exact h3
    | succ n ih =>
      intro x q h1 h2 h3
      refine hY _ _ ⟨fun _ => ⟨by rw [len1]; omega, ?_⟩, fun c => absurd (show (x : Int) < ((zigN l[i] / 2 ^ kn : Nat) : Int) by rw [← h1]; omega) c⟩
      rw [w1 (by omega)]
      refine ih (x + 1) _ (by omega) (by rw [List.length_append, len1]; omega) ?_
      rw [← List.append_assoc, rep_snoc, List.append_assoc]; exact h3
  exact key _ 0 o (by omega) (by omega) rfl
theorem rc_both (l : List Int) (k : Int) (hl : l.length ≤ 2 ^ 20) : ∃ out ok, (∀ K, K out ok → spec_RiceCode.wp l k K) ∧ (∀ K, K out ok → impl_RiceCode.wp l k K) ∧ out.length ≤ 2 ^ 20 := by
  by_cases hc : isI l = true ∧ (0 ≤ k ∧ k ≤ 20) ∧ rsum k.toNat l ≤ 32768
  · obtain ⟨h1, h2, h3⟩ := hc
    have hg := isI_sm h1
    refine ⟨rcode k.toNat l, true, fun K hk => ?_, fun K hk => impl_RiceCode_wp hl (by rw [if_pos ⟨h1, h2, h3⟩]; exact hk), by rw [rcode_len]; omega⟩
    obtain ⟨kn, rfl⟩ : ∃ n : Nat, k = n := ⟨k.toNat, by omega⟩
    rw [nn] at h3 hk
    refine spec_l02Integers_wp hl (tE h1 (spec_l00In_wp (tE (decide_eq_true h2) (spec_l06RiceLong_wp (by omega) hg.1 hg.2 (tN (by omega) (spec_l06RiceCode_wp (by omega) hg.1 hg.2 h3 hk))))))
  · refine ⟨[], false, fun K hk => ?_, fun K hk => impl_RiceCode_wp hl (by rw [if_neg hc]; exact hk), by simp⟩
    refine spec_l02Integers_wp hl ⟨fun h1 => spec_l00In_wp ⟨fun h2 => ?_, fun h2 => hk⟩, fun h1 => tF hk⟩
    have hg := isI_sm h1
    have h2' := of_decide_eq_true h2
    obtain ⟨kn, rfl⟩ : ∃ n : Nat, k = n := ⟨k.toNat, by omega⟩
    rw [nn] at hc
    exact spec_l06RiceLong_wp (by omega) hg.1 hg.2 (tP (by have : ¬ rsum kn l ≤ 32768 := fun c => hc ⟨h1, h2', c⟩; omega) hk)

end Go.Proofs.Ytcplmcfnegphlaa.G

namespace Go.Proofs.Ytcplmcfnegphlaa.G
open Go Go.Ab
set_option maxRecDepth 100000
set_option linter.unusedVariables false
set_option linter.unusedSimpArgs false
set_option maxHeartbeats 1000000
theorem pureExactRiceCode (l0 : List Int) (a1 : Int) : laws_FnExactRiceCode.wp l0 a1 (fun b => b = true) := by
  refine ⟨fun _ => rfl, fun hb => ?_⟩
  have hl : l0.length ≤ 2 ^ 20 := by omega
  obtain ⟨out, ok, hs, hi, ho⟩ := rc_both l0 a1 hl
  repeat' (first
    | exact rfl
    | refine hs _ ?_
    | refine hi _ ?_
    | refine toInt64S_wp (by omega) ?_
    | refine eqInt64S_wp (by first | omega | simp) ?_
    | refine markInt64S_wp (k := 1) (by first | omega | simp) (by omega) ?_
    | refine markInt64S_wp (by first | omega | simp) (by omega) ?_
    | refine heldInt64S_wp (k := 1) (by first | omega | simp) (by omega) ?_
    | refine toBoolS_wp (by omega) ?_
    | refine szBoolS_wp (by omega) (by omega) ?_
    | refine eqBoolS_wp (by first | omega | simp) ?_
    | refine markBoolS_wp (k := 1) (by first | omega | simp) (by omega) ?_
    | refine markBoolS_wp (by first | omega | simp) (by omega) ?_
    | refine heldBoolS_wp (k := 1) (by first | omega | simp) (by omega) ?_
    | refine tT ?_
    | refine tB ?_
    | refine tN (by omega) ?_
    | refine tP (by first | rfl | omega) ?_)

end Go.Proofs.Ytcplmcfnegphlaa.G

