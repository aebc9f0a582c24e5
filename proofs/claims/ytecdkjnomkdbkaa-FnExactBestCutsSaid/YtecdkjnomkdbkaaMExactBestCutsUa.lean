/-
  What the formulas say, over numbers and lists alone. Nothing here is trusted.
-/
import Derived.Test.YtecdkjnomkdbkaaMExactBestCutsWa
namespace Go.Proofs.Ytecdkjnomkdbkaa.G
open Go Go.Ab
set_option maxRecDepth 100000
set_option linter.unusedVariables false
set_option linter.unusedSimpArgs false
set_option maxHeartbeats 1000000
/-! ### truth -/
theorem tT {A B : Prop} (h : A) : (true = true → A) ∧ (true = false → B) := ⟨fun _ => h, fun c => (by cases c)⟩
theorem tF {A B : Prop} (h : B) : (false = true → A) ∧ (false = false → B) := ⟨fun c => (by cases c), fun _ => h⟩
theorem tB {A B : Prop} {b : Bool} (h : A) : ((b == b) = true → A) ∧ ((b == b) = false → B) := ⟨fun _ => h, fun c => (by simp at c)⟩
theorem tE {A B : Prop} {b : Bool} (e : b = true) (h : A) : (b = true → A) ∧ (b = false → B) := ⟨fun _ => h, fun c => (by rw [e] at c; cases c)⟩
theorem tG {A B : Prop} {b : Bool} (e : b = false) (h : B) : (b = true → A) ∧ (b = false → B) := ⟨fun c => (by rw [e] at c; cases c), fun _ => h⟩
theorem tP {p A B : Prop} (e : p) (h : A) : (p → A) ∧ (¬p → B) := ⟨fun _ => h, fun c => absurd e c⟩
theorem tN {p A B : Prop} (e : ¬p) (h : B) : (p → A) ∧ (¬p → B) := ⟨fun c => absurd c e, fun _ => h⟩
theorem tI {b : Bool} {K : Bool → Prop} {A B : Prop} (h1 : b = true → A) (h2 : b = false → B) : (b = true → A) ∧ (b = false → B) := ⟨h1, h2⟩
/-! ### loops -/
theorem up {Y : Nat → Prop} (n : Nat) (last : Y n) (step : ∀ i, i < n → Y (i + 1) → Y i) : Y 0 := by
  have key : ∀ d i, i + d = n → Y i := by
    intro d
    induction d with
    | zero => intro i h; obtain rfl : i = n := by omega
              exact last
    | succ d ih => intro i h; exact step i (by omega) (ih (i + 1) (by omega))
  exact key n 0 (by omega)
theorem upFrom {Y : Nat → Prop} (k n : Nat) (hk : k ≤ n) (last : Y n) (step : ∀ i, k ≤ i → i < n → Y (i + 1) → Y i) : Y k := by
  have key : ∀ d i, k ≤ i → i + d = n → Y i := by
    intro d
    induction d with
    | zero => intro i _ h; obtain rfl : i = n := by omega
              exact last
    | succ d ih => intro i h0 h; exact step i h0 (by omega) (ih (i + 1) (by omega) (by omega))
  exact key (n - k) k (Nat.le_refl _) (by omega)
theorem w1 {i : Nat} (h : i < 4611686018427387904) : IntKind.i64.wrap ((i : Int) + (1 : Int)) = ((i + 1 : Nat) : Int) := wrap_succ (by omega)
theorem wI {n : Int} (h : -9223372036854775808 ≤ n ∧ n < 9223372036854775808) : IntKind.i64.wrap n = n := wrap_i64 h.1 h.2
theorem nn (i : Nat) : ((i : Int)).toNat = i := rfl
theorem gD {α : Type} {l : List α} {i : Nat} (h : i < l.length) (d : α) : l.getD i d = l[i] := by rw [List.getD_eq_getElem?_getD, List.getElem?_eq_getElem h]; rfl
theorem dropC {α : Type} {l : List α} {i : Nat} (h : i < l.length) : l.drop i = l[i] :: l.drop (i + 1) := List.drop_eq_getElem_cons h
theorem len1 {α : Type} (a : α) : ([a] : List α).length = 1 := rfl
theorem cz32 (n : Nat) (h : (FloatKind.f32.decode n).isNaN = false) : cz .f32 n = n := by simp [cz, h]
theorem c0_32 : cz .f32 0 = 0 := cz_zero32
theorem c0_64 : cz .f64 0 = 0 := cz_zero64
/-! ### copies, comparisons, marks -/
theorem toInt64S_wp {l : List Int} {K : List Int → Prop} (hl : l.length ≤ 2 ^ 20) (h : K l) : laws_toInt64S.wp l K := by
  refine ⟨⟨by omega, by omega, by omega, by omega⟩, fun X hX => ?_⟩
  have key : X (l.take 0 ++ List.replicate (l.length - 0) (0 : Int)) ((0 : Nat) : Int) := by
    refine up (Y := fun i => X (l.take i ++ List.replicate (l.length - i) (0 : Int)) (i : Int)) l.length ?_ fun i hi hn => ?_
    · refine hX _ _ ⟨fun c => absurd c (by omega), fun _ => ?_⟩
      rw [List.take_length, Nat.sub_self, List.replicate_zero, List.append_nil]; exact h
    · refine hX _ _ ⟨fun _ => ⟨⟨by omega, by omega⟩, ⟨by omega, ?_⟩, ?_⟩, fun c => absurd (show (i : Int) < l.length by omega) c⟩
      · rw [List.length_append, List.length_take, List.length_replicate]; omega
      · rw [nn, w1 (by omega), gD hi, set_fill (0 : Int) (by omega) hi]
        exact hn
  rw [List.take_zero, List.nil_append, Nat.sub_zero] at key; exact key
theorem sameFloat_wp {a : Nat} {K : Bool → Prop} (h : K true) : laws_sameFloat.wp a a K := by
  rcases order_self Ieee.double a with ho | ho
  · have e : fcmp .neq .f64 a a = true := by simp [fcmp, FloatKind.format, ho]
    exact tE e (by rw [e]; exact h)
  · have e : fcmp .neq .f64 a a = false := by simp [fcmp, FloatKind.format, ho]
    have e2 : fcmp .eql .f64 a a = true := by simp [fcmp, FloatKind.format, ho]
    refine tG e (tG e ⟨fun c => ⟨fun _ => by rw [BEq.rfl]; exact h, fun c2 => (by rw [c] at c2; cases c2)⟩, fun _ => by rw [e2]; exact h⟩)
theorem eqInt64S_wp {l : List Int} {K : Bool → Prop} (hl : l.length ≤ 2 ^ 20) (h : K true) : laws_eqInt64S.wp l l K := by
  refine tP rfl fun X hX => ?_
  refine up (Y := fun i => X (i : Int)) l.length ?_ fun i hi hn => ?_
  · exact hX _ ⟨fun c => absurd c (by omega), fun _ => h⟩
  · refine hX _ ⟨fun _ => ⟨⟨by omega, by omega⟩, ⟨by omega, by omega⟩, tP rfl ?_⟩, fun c => absurd (show (i : Int) < l.length by omega) c⟩
    rw [w1 (by omega)]; exact hn
theorem markInt64S_wp {l : List Int} {k : Nat} {K : Int → List Int → Prop} (hl : l.length ≤ 2 ^ 20) (hk : k ≤ 2 ^ 40) (h : K ((k + l.length : Nat) : Int) (marksI k l.length)) : laws_markInt64S.wp l (k : Int) K := by
  intro X hX
  have key : X (marksI k 0 ++ l.drop 0) ((k + 0 : Nat) : Int) ((0 : Nat) : Int) := by
    refine up (Y := fun i => X (marksI k i ++ l.drop i) ((k + i : Nat) : Int) (i : Int)) l.length ?_ fun i hi hn => ?_
    · refine hX _ _ _ ⟨fun c => absurd c (by rw [List.length_append, marksI_length, List.length_drop]; omega), fun _ => ?_⟩
      rw [List.drop_length, List.append_nil]; exact h
    · have hlen : (marksI k i ++ l.drop i).length = l.length := by rw [List.length_append, marksI_length, List.length_drop]; omega
      refine hX _ _ _ ⟨fun _ => ⟨⟨by omega, by rw [hlen]; omega⟩, ?_⟩, fun c => absurd (show (i : Int) < _ by rw [hlen]; omega) c⟩
      rw [nn, w1 (by omega), w1 (by omega)]
      have e := marksI_step (l := l) (i := i) (m := l.length - i) k (by omega) hi
      rw [show (k : Int) + (i : Int) = ((k + i : Nat) : Int) by omega] at e
      
      rw [e]; exact hn
  exact key
theorem heldInt64S_wp {k n : Nat} {K : Int → Prop} (hl : n ≤ 2 ^ 20) (hk : k ≤ 2 ^ 40) (h : K ((k + n : Nat) : Int)) : laws_heldInt64S.wp (marksI k n) (k : Int) K := by
  intro X hX
  have hlen : (marksI k n).length = n := marksI_length _ _
  have key : X ((k + 0 : Nat) : Int) ((0 : Nat) : Int) := by
    refine up (Y := fun i => X ((k + i : Nat) : Int) (i : Int)) n ?_ fun i hi hn => ?_
    · exact hX _ _ ⟨fun c => absurd c (by omega), fun _ => h⟩
    · refine hX _ _ ⟨fun _ => ⟨⟨by omega, by omega⟩, ?_⟩, fun c => absurd (show (i : Int) < _ by omega) c⟩
      rw [nn, gD (by omega), marksI_at k n i (by omega), show (k : Int) + (i : Int) = ((k + i : Nat) : Int) by omega]
      refine tP rfl ?_
      rw [w1 (by omega), w1 (by omega)]; exact hn
  exact key

end Go.Proofs.Ytecdkjnomkdbkaa.G

namespace Go.Proofs.Ytecdkjnomkdbkaa.G
open Go Go.Ab
set_option maxRecDepth 100000
set_option linter.unusedVariables false
set_option linter.unusedSimpArgs false
set_option maxHeartbeats 1000000
def pFin (x : Nat) : Bool := fcmp .eql .f32 (fop .sub .f32 x x) (cz .f32 0)
def pAll (l : List Nat) : Bool := l.all pFin
theorem pAll_cons (x : Nat) (l : List Nat) : pAll (x :: l) = (pFin x && pAll l) := rfl
/-- A loop that ends early where something does not hold. -/
theorem all_loop {α : Type} (l : List α) (p : α → Bool) {X : Int → Prop} {T F : Prop} (hX : ∀ (i : Nat) (h : i < l.length), ((p l[i] = true → X ((i + 1 : Nat) : Int)) ∧ (p l[i] = false → F)) → X (i : Int))
    (hend : T → X (l.length : Int)) (ht : l.all p = true → T) (hf : l.all p = false → F) : X (0 : Int) := by
  have key := up (Y := fun i => ((l.drop i).all p = true → T) → ((l.drop i).all p = false → F) → X (i : Int)) l.length (fun h _ => hend (h (by rw [List.drop_length]; rfl))) fun i hi hn h1 h2 => ?_
  · exact key (by rw [List.drop_zero]; exact ht) (by rw [List.drop_zero]; exact hf)
  · rw [dropC hi, List.all_cons] at h1 h2
    refine hX i hi ⟨fun e => hn (fun a => h1 (by rw [e, a]; rfl)) (fun a => h2 (by rw [e, a]; rfl)), fun e => h2 (by rw [e]; rfl)⟩
/-- A loop that makes a list, and ends early where something does not hold. -/
theorem map_loop {α β : Type} (l : List α) (p : α → Bool) (f : α → β) {X : List β → Int → Prop} {T F : Prop} (hX : ∀ (i : Nat) (h : i < l.length) (o : List β), o.length = i → ((p l[i] = true → X (o ++ [f l[i]]) ((i + 1 : Nat) : Int)) ∧ (p l[i] = false → F)) → X o (i : Int))
    (hend : T → X (l.map f) (l.length : Int)) (ht : l.all p = true → T) (hf : l.all p = false → F) : X [] (0 : Int) := by
  have key := up (Y := fun i => ((l.drop i).all p = true → T) → ((l.drop i).all p = false → F) → X ((l.take i).map f) (i : Int)) l.length (fun h _ => by rw [List.take_length]; exact hend (h (by rw [List.drop_length]; rfl))) fun i hi hn h1 h2 => ?_
  · have := key (by rw [List.drop_zero]; exact ht) (by rw [List.drop_zero]; exact hf)
    rw [List.take_zero] at this; exact this
  · rw [dropC hi, List.all_cons] at h1 h2
    refine hX i hi _ (by rw [List.length_map, List.length_take]; omega) ⟨fun e => ?_, fun e => h2 (by rw [e]; rfl)⟩
    have := hn (fun a => h1 (by rw [e, a]; rfl)) (fun a => h2 (by rw [e, a]; rfl))
    rw [List.take_succ_eq_append_getElem hi, List.map_append] at this
    exact this
theorem spec_l01Finite_wp {a : Nat} {K : Bool → Prop} (h : K (pFin a)) : spec_l01Finite.wp a K := h
theorem impl_IsFinite_wp {a : Nat} {K : Bool → Prop} (h : K (pFin a)) : impl_IsFinite.wp a K := h
theorem spec_l02Finite_wp {l : List Nat} {K : Bool → Prop} (hl : l.length ≤ 2 ^ 20) (h : K (pAll l)) : spec_l02Finite.wp l K := by
  intro X hX
  refine all_loop l pFin (X := X) (T := K true) (F := K false) (fun i hi hh => ?_) (fun ht => hX _ ⟨fun c => absurd c (by omega), fun _ => ht⟩) (fun e => by rw [pAll, e] at h; exact h) (fun e => by rw [pAll, e] at h; exact h)
  refine hX _ ⟨fun _ => ⟨⟨by omega, by omega⟩, spec_l01Finite_wp ?_⟩, fun c => absurd (show (i : Int) < l.length by omega) c⟩
  rw [nn, gD hi, w1 (by omega)]; exact hh
theorem impl_areFinite_wp {ll : List (List Nat)} {K : Bool → Prop} (hll : ll.length ≤ 2 ^ 20) (hl : ∀ l ∈ ll, l.length ≤ 2 ^ 20) (h : K (ll.all pAll)) : impl_areFinite.wp ll K := by
  intro X hX
  refine all_loop ll pAll (X := X) (T := K true) (F := K false) (fun i hi hh => ?_) (fun ht => hX _ ⟨fun c => absurd c (by omega), fun _ => ht⟩) (fun e => by rw [e] at h; exact h) (fun e => by rw [e] at h; exact h)
  refine hX _ ⟨fun _ => ⟨⟨by omega, by omega⟩, fun Y hY => ?_⟩, fun c => absurd (show (i : Int) < ll.length by omega) c⟩
  have hlen := hl ll[i] (List.getElem_mem hi)
  rw [nn, gD hi, w1 (by omega)] at hY
  refine all_loop ll[i] pFin (X := Y) (T := X ((i + 1 : Nat) : Int)) (F := K false) (fun j hj h2 => ?_) (fun ht => hY _ ⟨fun c => absurd c (by omega), fun _ => ht⟩) (fun e => hh.1 e) (fun e => hh.2 e)
  refine hY _ ⟨fun _ => ⟨⟨by omega, by omega⟩, impl_IsFinite_wp ?_⟩, fun c => absurd (show (j : Int) < ll[i].length by omega) c⟩
  rw [nn, gD hj, w1 (by omega)]; exact h2
theorem impl_areFinite1_wp {l : List Nat} {K : Bool → Prop} (hl : l.length ≤ 2 ^ 20) (h : K (pAll l)) : impl_areFinite.wp [l] K := by
  refine impl_areFinite_wp (by simp) (fun x hx => by rw [List.mem_singleton] at hx; subst hx; exact hl) ?_
  rw [List.all_cons, List.all_nil, Bool.and_true]; exact h
theorem impl_within_wp {a b c : Int} {K : Bool → Prop} (h : K (decide (b ≤ a ∧ a ≤ c))) : impl_within.wp a b c K := by
  refine ⟨fun h1 => ?_, fun h1 => ?_⟩
  · have : decide (b ≤ a ∧ a ≤ c) = decide (a ≤ c) := by simp [h1]
    rw [this] at h; exact h
  · have : decide (b ≤ a ∧ a ≤ c) = false := by simp [h1]
    rw [this] at h; exact h
theorem spec_l00In_wp {a b c : Int} {K : Bool → Prop} (h : K (decide (b ≤ a ∧ a ≤ c))) : spec_l00In.wp a b c K := by
  refine ⟨fun h1 => ?_, fun h1 => ?_⟩
  · have : decide (b ≤ a ∧ a ≤ c) = decide (a ≤ c) := by simp [h1]
    rw [this] at h; exact h
  · have : decide (b ≤ a ∧ a ≤ c) = false := by simp [h1]
    rw [this] at h; exact h
theorem bT {b : Bool} {A B : Prop} (h1 : b = true → A) (h2 : b = false → B) : (b = true → A) ∧ (b = false → B) := ⟨h1, h2⟩
def isL (l : List Nat) : Bool := decide (1 ≤ l.length ∧ l.length ≤ 128) && pAll l
def isOver (x : Nat) : Bool := pFin x && fcmp .gtr .f32 x (cz .f32 0)
def isLeast (x : Nat) : Bool := pFin x && fcmp .geq .f32 x (cz .f32 0)
theorem spec_l02Least_wp {a : Nat} {K : Bool → Prop} (h : K (isLeast a)) : spec_l02Least.wp a K := by
  refine spec_l01Finite_wp ⟨fun h1 => ?_, fun h1 => ?_⟩ <;> (rw [isLeast, h1] at h; exact h)
theorem impl_isLeast_wp {a : Nat} {K : Bool → Prop} (h : K (isLeast a)) : impl_isLeast.wp a K := by
  refine impl_IsFinite_wp ⟨fun h1 => ?_, fun h1 => ?_⟩ <;> (rw [isLeast, h1] at h; exact h)
def isShare (x : Nat) : Bool := fcmp .geq .f32 x (cz .f32 0) && fcmp .leq .f32 x (cz .f32 1065353216)
theorem spec_l02Share_wp {a : Nat} {K : Bool → Prop} (h : K (isShare a)) : spec_l02Share.wp a K := by
  refine ⟨fun h1 => ?_, fun h1 => ?_⟩ <;> (rw [isShare, h1] at h; exact h)
theorem impl_isShare_wp {a : Nat} {K : Bool → Prop} (h : K (isShare a)) : impl_isShare.wp a K := by
  refine ⟨fun h1 => ?_, fun h1 => ?_⟩ <;> (rw [isShare, h1] at h; exact h)
/-! ### integers -/
def bnd (m : Int) (l : List Int) : Bool := l.all fun n => decide (-m ≤ n ∧ n ≤ m)
def isI (l : List Int) : Bool := decide (1 ≤ l.length ∧ l.length ≤ 128) && bnd 1000000 l
theorem spec_l02Bound_wp {l : List Int} {m : Int} {K : Bool → Prop} (hl : l.length ≤ 2 ^ 20) (hm : 0 ≤ m ∧ m ≤ 2 ^ 40) (h : K (bnd m l)) : spec_l02Bound.wp l m K := by
  intro X hX
  refine all_loop l (fun n => decide (-m ≤ n ∧ n ≤ m)) (X := X) (T := K true) (F := K false) (fun i hi hh => ?_) (fun ht => hX _ ⟨fun c => absurd c (by omega), fun _ => ht⟩) (fun e => by rw [bnd, e] at h; exact h) (fun e => by rw [bnd, e] at h; exact h)
  refine hX _ ⟨fun _ => ⟨⟨by omega, by omega⟩, spec_l00In_wp ?_⟩, fun c => absurd (show (i : Int) < l.length by omega) c⟩
  rw [nn, gD hi, w1 (by omega), wI (show -9223372036854775808 ≤ (0 : Int) - m ∧ (0 : Int) - m < 9223372036854775808 by omega), Int.zero_sub]; exact hh
theorem impl_areWithin_wp {l : List Int} {m : Int} {K : Bool → Prop} (hl : l.length ≤ 2 ^ 20) (hm : 0 ≤ m ∧ m ≤ 2 ^ 40) (h : K (bnd m l)) : impl_areWithin.wp l m K := by
  intro X hX
  refine all_loop l (fun n => decide (-m ≤ n ∧ n ≤ m)) (X := X) (T := K true) (F := K false) (fun i hi hh => ?_) (fun ht => hX _ ⟨fun c => absurd c (by omega), fun _ => ht⟩) (fun e => by rw [bnd, e] at h; exact h) (fun e => by rw [bnd, e] at h; exact h)
  refine hX _ ⟨fun _ => ⟨⟨by omega, by omega⟩, impl_within_wp ?_⟩, fun c => absurd (show (i : Int) < l.length by omega) c⟩
  rw [nn, gD hi, w1 (by omega), wI (show -9223372036854775808 ≤ (0 : Int) - m ∧ (0 : Int) - m < 9223372036854775808 by omega), Int.zero_sub]; exact hh
theorem spec_l02Integers_wp {l : List Int} {K : Bool → Prop} (hl : l.length ≤ 2 ^ 20) (h : K (isI l)) : spec_l02Integers.wp l K := by
  refine ⟨fun h1 => ⟨fun h2 => spec_l02Bound_wp hl (by omega) ?_, fun h2 => ?_⟩, fun h1 => ?_⟩
  · rw [isI, decide_eq_true (show 1 ≤ l.length ∧ l.length ≤ 128 by omega), Bool.true_and] at h; exact h
  · rw [isI, decide_eq_false (show ¬(1 ≤ l.length ∧ l.length ≤ 128) by omega), Bool.false_and] at h; exact h
  · rw [isI, decide_eq_false (show ¬(1 ≤ l.length ∧ l.length ≤ 128) by omega), Bool.false_and] at h; exact h
theorem impl_AreIntegers_wp {l : List Int} {K : Bool → Prop} (hl : l.length ≤ 2 ^ 20) (h : K (isI l)) : impl_AreIntegers.wp l K := by
  refine impl_within_wp ⟨fun h1 => ?_, fun h1 => ?_⟩
  · have h1 := of_decide_eq_true h1
    refine impl_areWithin_wp hl (by omega) ?_
    rw [isI, decide_eq_true (show 1 ≤ l.length ∧ l.length ≤ 128 by omega), Bool.true_and] at h; exact h
  · have h1 := of_decide_eq_false h1
    rw [isI, decide_eq_false (show ¬(1 ≤ l.length ∧ l.length ≤ 128) by omega), Bool.false_and] at h; exact h
theorem impl_finiteList_wp {l : List Nat} {K : Bool → Bool → Prop} (hl : l.length ≤ 2 ^ 20) (h : K (pAll l) (pAll l)) : impl_finiteList.wp l K := by
  refine impl_areFinite1_wp hl ⟨fun h1 => ?_, fun h1 => ?_⟩ <;> (rw [h1] at h; exact h)

end Go.Proofs.Ytecdkjnomkdbkaa.G

namespace Go.Proofs.Ytecdkjnomkdbkaa.G
open Go Go.Ab
set_option maxRecDepth 100000
set_option linter.unusedVariables false
set_option linter.unusedSimpArgs false
set_option maxHeartbeats 1000000
theorem toCostS_wp {l : List (Int × Nat)} {K : List (Int × Nat) → Prop} (hl : l.length ≤ 2 ^ 20) (h : K l) : laws_toCostS.wp l K := by
  refine ⟨⟨by omega, by omega, by omega, by omega⟩, fun X hX => ?_⟩
  have key : X (l.take 0 ++ List.replicate (l.length - 0) ((0 : Int), (0 : Nat))) ((0 : Nat) : Int) := by
    refine up (Y := fun i => X (l.take i ++ List.replicate (l.length - i) ((0 : Int), (0 : Nat))) (i : Int)) l.length ?_ fun i hi hn => ?_
    · refine hX _ _ ⟨fun c => absurd c (by omega), fun _ => ?_⟩
      rw [List.take_length, Nat.sub_self, List.replicate_zero, List.append_nil]; exact h
    · refine hX _ _ ⟨fun _ => ⟨⟨by omega, by omega⟩, ⟨by omega, ?_⟩, ?_⟩, fun c => absurd (show (i : Int) < l.length by omega) c⟩
      · rw [List.length_append, List.length_take, List.length_replicate]; omega
      · rw [nn, w1 (by omega), gD hi, set_fill ((0 : Int), (0 : Nat)) (by omega) hi]
        exact hn
  rw [List.take_zero, List.nil_append, Nat.sub_zero] at key; exact key
theorem eqCostS_wp {l : List (Int × Nat)} {K : Bool → Prop} (hl : l.length ≤ 2 ^ 20) (h : K true) : laws_eqCostS.wp l l K := by
  refine tP rfl fun X hX => ?_
  refine up (Y := fun i => X (i : Int)) l.length ?_ fun i hi hn => ?_
  · exact hX _ ⟨fun c => absurd c (by omega), fun _ => h⟩
  · refine hX _ ⟨fun _ => ⟨⟨by omega, by omega⟩, ⟨by omega, by omega⟩, tP rfl (sameFloat_wp (tT (tT ?_)))⟩, fun c => absurd (show (i : Int) < l.length by omega) c⟩
    rw [w1 (by omega)]; exact hn
theorem szCostS_wp {l : List (Int × Nat)} {n : Int} {K : Int → Prop} (hl : l.length ≤ 2 ^ 20) (hn : 2 ^ 20 ≤ n ∧ n ≤ 2 ^ 40) (h : K (n - (l.length : Int))) : laws_szCostS.wp l n K := by
  have e : IntKind.i64.wrap (n - (l.length : Int)) = n - (l.length : Int) := wI (by omega)
  refine ⟨fun c => absurd c (by rw [e]; omega), fun _ => ?_⟩
  rw [e]; exact h
theorem szCostS_law {l : List (Int × Nat)} {K : Int → Prop} (hl : l.length ≤ maxLen) (h0 : K (-1)) (h : l.length ≤ 2 ^ 20 → K (1048576 - (l.length : Int))) : laws_szCostS.wp l 1048576 K := by
  have hm : l.length < 2 ^ 63 := Nat.lt_of_le_of_lt hl (by decide)
  have e : IntKind.i64.wrap (1048576 - (l.length : Int)) = 1048576 - (l.length : Int) := wI (by omega)
  refine ⟨fun c => h0, fun c => ?_⟩
  rw [e] at c ⊢; exact h (by omega)
def mkC (k : Nat) : Nat → List (Int × Nat)
  | 0 => []
  | n + 1 => (((k : Int), itof .f32 ((k : Int) + 1))) :: mkC (k + 2) n
theorem mkC_append (k : Nat) : ∀ i, mkC k (i + 1) = mkC k i ++ [(((k + 2 * i : Nat) : Int), itof .f32 (((k + 2 * i : Nat) : Int) + 1))] := by
  intro i
  induction i generalizing k with
  | zero => rfl
  | succ i ih => rw [mkC, ih, show mkC k (i + 1) = ((k : Int), itof .f32 ((k : Int) + 1)) :: mkC (k + 2) i from rfl, List.cons_append, show k + 2 + 2 * i = k + 2 * (i + 1) by omega]
theorem mkC_len (k : Nat) : ∀ n, (mkC k n).length = n
  | 0 => rfl
  | n + 1 => by rw [mkC, List.length_cons, mkC_len]
theorem set2 {α : Type} (p : List α) (a b c : α) (q : List α) : ((p ++ a :: q).set p.length b) = p ++ b :: q := by
  rw [List.set_append_right _ _ (Nat.le_refl _), Nat.sub_self]; rfl
theorem markCostS_wp {l : List (Int × Nat)} {k : Nat} {K : Int → List (Int × Nat) → Prop} (hl : l.length ≤ 2 ^ 20) (hk : k ≤ 2 ^ 44) (h : ∀ o : List (Int × Nat), o.length = l.length → K ((k + 2 * l.length : Nat) : Int) o) : laws_markCostS.wp l (k : Int) K := by
  intro X hX
  have key : X (mkC k 0 ++ l.drop 0) ((k + 2 * 0 : Nat) : Int) ((0 : Nat) : Int) := by
    refine up (Y := fun i => X (mkC k i ++ l.drop i) ((k + 2 * i : Nat) : Int) (i : Int)) l.length ?_ fun i hi hn => ?_
    · refine hX _ _ _ ⟨fun c => absurd c (by rw [List.length_append, mkC_len, List.length_drop]; omega), fun _ => ?_⟩
      exact h _ (by rw [List.length_append, mkC_len, List.length_drop]; omega)
    · have hlen : (mkC k i ++ l.drop i).length = l.length := by rw [List.length_append, mkC_len, List.length_drop]; omega
      refine hX _ _ _ ⟨fun _ => ⟨⟨by omega, by rw [hlen]; omega⟩, ⟨by omega, by rw [List.length_set, hlen]; omega⟩, ?_⟩, fun c => absurd (show (i : Int) < _ by rw [hlen]; omega) c⟩
      rw [nn, w1 (i := i) (by omega), w1 (i := k + 2 * i) (by omega), w1 (i := k + 2 * i + 1) (by omega)]
      have e1 : (mkC k i ++ l.drop i) = mkC k i ++ l[i] :: l.drop (i + 1) := by rw [dropC hi]
      have e2 : ∀ x : Int × Nat, (mkC k i ++ l[i] :: l.drop (i + 1)).set i x = mkC k i ++ x :: l.drop (i + 1) := fun x => by
        have := set2 (mkC k i) l[i] x x (l.drop (i + 1)); rw [mkC_len] at this; exact this
      have e3 : ∀ x y : Int × Nat, (mkC k i ++ x :: l.drop (i + 1)).set i y = mkC k i ++ y :: l.drop (i + 1) := fun x y => by
        have := set2 (mkC k i) x y y (l.drop (i + 1)); rw [mkC_len] at this; exact this
      have e4 : ∀ x d : Int × Nat, (mkC k i ++ x :: l.drop (i + 1)).getD i d = x := fun x d => by
        rw [List.getD_eq_getElem?_getD, List.getElem?_append_right (by rw [mkC_len]; omega), mkC_len, Nat.sub_self]; rfl
      rw [e1, e2, e3, e4]
      rw [mkC_append, List.append_assoc, List.singleton_append] at hn
      exact hn
  exact key
def cAt (l : List (Int × Nat)) (i : Nat) : Bool := decide (0 ≤ (l.getD i (0, 0)).1 ∧ (l.getD i (0, 0)).1 ≤ 512) && isLeast (l.getD i (0, 0)).2 && (decide (i = 0) || (decide ((l.getD (i - 1) (0, 0)).1 < (l.getD i (0, 0)).1) && !(fcmp .geq .f32 (l.getD i (0, 0)).2 (l.getD (i - 1) (0, 0)).2)))
def isC (l : List (Int × Nat)) : Bool := decide (1 ≤ l.length ∧ l.length ≤ 16) && (List.range l.length).all (cAt l)
theorem wm (i : Nat) (h : i < 4611686018427387904) : IntKind.i64.wrap ((i : Int) - 1) = (i : Int) - 1 := wI (by omega)
theorem range_get {n i : Nat} (h : i < (List.range n).length) : (List.range n)[i] = i := List.getElem_range h
theorem spec_l07Costs_wp {l : List (Int × Nat)} {K : Bool → Prop} (hl : l.length ≤ 2 ^ 20) (h : K (isC l)) : spec_l07Costs.wp l K := by
  refine ⟨fun h1 => ?_, fun h1 => ⟨fun h2 => ?_, fun h2 => ?_⟩⟩
  · rw [isC, decide_eq_false (by omega)] at h; exact h
  · rw [isC, decide_eq_false (by omega)] at h; exact h
  rw [isC, decide_eq_true (by omega), Bool.true_and] at h
  intro X hX
  refine all_loop (List.range l.length) (cAt l) (X := X) (T := K true) (F := K false) (fun i hi hh => ?_) (fun ht => hX _ ⟨fun c => absurd c (by rw [List.length_range]; omega), fun _ => ht⟩) (fun e => by rw [e] at h; exact h) (fun e => by rw [e] at h; exact h)
  rw [range_get] at hh; rw [List.length_range] at hi
  refine hX _ ⟨fun _ => ⟨⟨by omega, by omega⟩, ?_⟩, fun c => absurd (show (i : Int) < l.length by omega) c⟩
  rw [nn, w1 (by omega), wm i (by omega), show ((i : Int) - 1).toNat = i - 1 by omega]
  refine spec_l00In_wp ⟨fun h3 => spec_l02Least_wp ⟨fun h4 => ⟨fun h5 => ⟨⟨by omega, by omega⟩, ⟨fun h6 => ?_, fun h6 => ⟨fun h7 => ?_, fun h7 => ?_⟩⟩⟩, fun h5 => ?_⟩, fun h4 => ?_⟩, fun h3 => ?_⟩
  · exact hh.2 (by rw [cAt, h3, h4, decide_eq_false (show ¬ i = 0 by omega), decide_eq_false (show ¬ (l.getD (i - 1) (0, 0)).1 < (l.getD i (0, 0)).1 by omega)]; rfl)
  · exact hh.2 (by rw [cAt, h7, decide_eq_false (show ¬ i = 0 by omega)]; simp)
  · exact hh.1 (by rw [cAt, h3, h4, h7, decide_eq_false (show ¬ i = 0 by omega), decide_eq_true (show (l.getD (i - 1) (0, 0)).1 < (l.getD i (0, 0)).1 by omega)]; rfl)
  · exact hh.1 (by rw [cAt, h3, h4, decide_eq_true (show i = 0 by omega)]; rfl)
  · exact hh.2 (by rw [cAt, h4]; simp)
  · exact hh.2 (by rw [cAt, h3]; rfl)
theorem impl_AreCosts_wp {l : List (Int × Nat)} {K : Bool → Prop} (hl : l.length ≤ 2 ^ 20) (h : K (isC l)) : impl_AreCosts.wp l K := by
  refine impl_within_wp ⟨fun h1 => ?_, fun h1 => ?_⟩
  rotate_left
  · have h1 := of_decide_eq_false h1
    rw [isC, decide_eq_false (by omega)] at h; exact h
  have h1 := of_decide_eq_true h1
  rw [isC, decide_eq_true (by omega), Bool.true_and] at h
  intro X hX
  refine all_loop (List.range l.length) (cAt l) (X := X) (T := K true) (F := K false) (fun i hi hh => ?_) (fun ht => hX _ ⟨fun c => absurd c (by rw [List.length_range]; omega), fun _ => ht⟩) (fun e => by rw [e] at h; exact h) (fun e => by rw [e] at h; exact h)
  rw [range_get] at hh; rw [List.length_range] at hi
  refine hX _ ⟨fun _ => ⟨⟨by omega, by omega⟩, ?_⟩, fun c => absurd (show (i : Int) < l.length by omega) c⟩
  rw [nn, w1 (by omega), wm i (by omega), show ((i : Int) - 1).toNat = i - 1 by omega]
  refine impl_within_wp ⟨fun h3 => impl_isLeast_wp ⟨fun h4 => ⟨fun h5 => ⟨⟨by omega, by omega⟩, ⟨fun h6 => ?_, fun h6 => ⟨fun h7 => ?_, fun h7 => ?_⟩⟩⟩, fun h5 => ?_⟩, fun h4 => ?_⟩, fun h3 => ?_⟩
  · exact hh.2 (by rw [cAt, h3, h4, decide_eq_false (show ¬ i = 0 by omega), decide_eq_false (show ¬ (l.getD (i - 1) (0, 0)).1 < (l.getD i (0, 0)).1 by omega)]; rfl)
  · exact hh.2 (by rw [cAt, h7, decide_eq_false (show ¬ i = 0 by omega)]; simp)
  · exact hh.1 (by rw [cAt, h3, h4, h7, decide_eq_false (show ¬ i = 0 by omega), decide_eq_true (show (l.getD (i - 1) (0, 0)).1 < (l.getD i (0, 0)).1 by omega)]; rfl)
  · exact hh.1 (by rw [cAt, h3, h4, decide_eq_true (show i = 0 by omega)]; rfl)
  · exact hh.2 (by rw [cAt, h4]; simp)
  · exact hh.2 (by rw [cAt, h3]; rfl)
theorem isC_len {l : List (Int × Nat)} (h : isC l = true) : 1 ≤ l.length ∧ l.length ≤ 16 := by
  simp only [isC, Bool.and_eq_true, decide_eq_true_eq] at h; exact h.1
theorem isC_bits {l : List (Int × Nat)} (h : isC l = true) (i : Nat) (hi : i < l.length) : 0 ≤ (l.getD i (0, 0)).1 ∧ (l.getD i (0, 0)).1 ≤ 512 := by
  simp only [isC, Bool.and_eq_true, List.all_eq_true] at h
  have := h.2 i (List.mem_range.mpr hi)
  simp only [cAt, Bool.and_eq_true, decide_eq_true_eq] at this
  exact this.1.1

end Go.Proofs.Ytecdkjnomkdbkaa.G

namespace Go.Proofs.Ytecdkjnomkdbkaa.G
open Go Go.Ab
set_option maxRecDepth 100000
set_option linter.unusedVariables false
set_option linter.unusedSimpArgs false
set_option maxHeartbeats 1000000
abbrev Cs := List (List (Int × Nat))
def csN : List (Int × Nat) := ([] : List ((Int) × (Nat)))
/-- What a law is handed. -/
def CsIn (l : Cs) : Prop := ∀ z ∈ l, z.length ≤ maxLen ∧ True
/-- What is small. -/
def CsOk (l : Cs) : Prop := l.length ≤ 2 ^ 20 ∧ ∀ z ∈ l, z.length ≤ 2 ^ 20
theorem CsOk.at {l : Cs} (h : CsOk l) (i : Nat) : (l.getD i csN).length ≤ 2 ^ 20 := by
  by_cases c : i < l.length
  · rw [gD c]; exact h.2 _ (List.getElem_mem c)
  · rw [List.getD_eq_getElem?_getD, List.getElem?_eq_none (by omega)]; exact Nat.zero_le _
theorem szCostSS_wp {l : Cs} {K : Int → Prop} (hl : l.length ≤ maxLen) (hin : CsIn l) (h0 : K (-1)) (h : CsOk l → ∀ m, 0 ≤ m → K m) : laws_szCostSS.wp l 1048576 K := by
  have hm : l.length < 2 ^ 63 := Nat.lt_of_le_of_lt hl (by decide)
  have e : IntKind.i64.wrap (1048576 - (l.length : Int)) = 1048576 - (l.length : Int) := wI (by omega)
  refine ⟨fun c => h0, fun c => ?_⟩
  rw [e] at c ⊢
  intro X hX
  have key : ∀ (m i : Nat) (r : Int), m + i = l.length → 0 ≤ r → r ≤ 1048576 → (∀ z ∈ l.take i, z.length ≤ 2 ^ 20) → X r (i : Int) := by
    intro m
    induction m with
    | zero => intro i r h1 h2 h2' h3
              obtain rfl : i = l.length := by omega
              rw [List.take_length] at h3
              exact hX _ _ ⟨fun c => absurd c (by omega), fun _ => h ⟨by omega, h3⟩ r h2⟩
    | succ m ih =>
      intro i r h1 h2 h2' h3
      have hi : i < l.length := by omega
      have hz := (hin _ (List.getElem_mem hi)).1
      have hz2 : l[i].length < 2 ^ 63 := Nat.lt_of_le_of_lt hz (by decide)
      refine hX _ _ ⟨fun _ => ⟨⟨by omega, by omega⟩, ?_⟩, fun c => absurd (show (i : Int) < l.length by omega) c⟩
      rw [nn, gD hi, w1 (by omega)]
      have e2 : IntKind.i64.wrap (r - (l[i].length : Int)) = r - (l[i].length : Int) := wI (by omega)
      refine ⟨fun _ => tP (by omega) h0, fun c2 => ?_⟩
      rw [e2] at c2 ⊢
      refine tN (by omega) (ih (i + 1) _ (by omega) (by omega) (by omega) fun z hzz => ?_)
      rw [List.take_succ_eq_append_getElem hi, List.mem_append, List.mem_singleton] at hzz
      rcases hzz with hzz | rfl
      · exact h3 z hzz
      · omega
  exact key l.length 0 _ (by omega) (by omega) (by omega) (fun z hz => by cases hz)
theorem toCostSS_wp {l : Cs} {K : Cs → Prop} (hl : CsOk l) (h : K l) : laws_toCostSS.wp l K := by
  obtain ⟨hl, hz⟩ := hl
  refine ⟨⟨by omega, by omega, by omega, by omega⟩, fun X hX => ?_⟩
  have key : X (l.take 0 ++ List.replicate (l.length - 0) csN) ((0 : Nat) : Int) := by
    refine up (Y := fun i => X (l.take i ++ List.replicate (l.length - i) csN) (i : Int)) l.length ?_ fun i hi hn => ?_
    · refine hX _ _ ⟨fun c => absurd c (by omega), fun _ => ?_⟩
      rw [List.take_length, Nat.sub_self, List.replicate_zero, List.append_nil]; exact h
    · refine hX _ _ ⟨fun _ => ⟨⟨by omega, by omega⟩, ?_⟩, fun c => absurd (show (i : Int) < l.length by omega) c⟩
      rw [nn, w1 (by omega), gD hi]
      refine toCostS_wp (hz _ (List.getElem_mem hi)) ⟨⟨by omega, ?_⟩, ?_⟩
      · rw [List.length_append, List.length_take, List.length_replicate]; omega
      · rw [set_fill csN (by omega) hi]
        exact hn
  rw [List.take_zero, List.nil_append, Nat.sub_zero] at key; exact key
theorem eqCostSS_wp {l : Cs} {K : Bool → Prop} (hl : CsOk l) (h : K true) : laws_eqCostSS.wp l l K := by
  obtain ⟨hl, hz⟩ := hl
  refine tP rfl fun X hX => ?_
  refine up (Y := fun i => X (i : Int)) l.length ?_ fun i hi hn => ?_
  · exact hX _ ⟨fun c => absurd c (by omega), fun _ => h⟩
  · refine hX _ ⟨fun _ => ⟨⟨by omega, by omega⟩, ⟨by omega, by omega⟩, ?_⟩, fun c => absurd (show (i : Int) < l.length by omega) c⟩
    rw [nn, gD hi, w1 (by omega)]
    exact eqCostS_wp (hz _ (List.getElem_mem hi)) (tT hn)
theorem markCostSS_wp {l : Cs} {K : Int → Cs → Prop} (hl : CsOk l) (h : ∀ (m : Nat) (o : Cs), K (m : Int) o) : laws_markCostSS.wp l 1 K := by
  intro X hX
  have key : ∀ (m i : Nat) (o : Cs) (k : Nat), m + i = l.length → CsOk o → o.length = l.length → k ≤ 1 + 2 ^ 21 * i → X o (k : Int) (i : Int) := by
    intro m
    induction m with
    | zero =>
      intro i o k h1 h2 h3 h4
      exact hX _ _ _ ⟨fun c => absurd c (by omega), fun _ => h k o⟩
    | succ m ih =>
      intro i o k h1 h2 h3 h4
      have hi : i < o.length := by omega
      have hlen := hl.1
      refine hX _ _ _ ⟨fun _ => ⟨⟨by omega, by omega⟩, ?_⟩, fun c => absurd (show (i : Int) < o.length by omega) c⟩
      rw [nn, gD hi, w1 (by omega)]
      have hoi := h2.2 _ (List.getElem_mem hi)
      refine markCostS_wp hoi (by omega) fun p hp => ?_
      refine ih (i + 1) _ _ (by omega) ⟨by rw [List.length_set]; exact h2.1, fun z hz => ?_⟩ (by rw [List.length_set]; exact h3) (by omega)
      rcases List.mem_or_eq_of_mem_set hz with hz | rfl
      · exact h2.2 z hz
      · omega
  exact key l.length 0 l 1 (by omega) hl rfl (by omega)
def isB (l : Cs) : Bool := decide (1 ≤ l.length ∧ l.length ≤ 8) && l.all isC
theorem isB_len {l : Cs} (h : isB l = true) : 1 ≤ l.length ∧ l.length ≤ 8 := by
  unfold isB at h; rw [Bool.and_eq_true, decide_eq_true_eq] at h; exact h.1
theorem isB_at {l : Cs} (h : isB l = true) {i : Nat} (hi : i < l.length) : isC (l.getD i csN) = true := by
  unfold isB at h; rw [Bool.and_eq_true, List.all_eq_true] at h
  rw [gD hi]; exact h.2 _ (List.getElem_mem hi)
theorem spec_l07Blocks_wp {l : Cs} {K : Bool → Prop} (hl : CsOk l) (h : K (isB l)) : spec_l07Blocks.wp l K := by
  have h20 := hl.1
  by_cases c : 1 ≤ l.length ∧ l.length ≤ 8
  · refine tN (by omega) (tN (by omega) fun X hX => ?_)
    have e : isB l = l.all isC := by rw [isB, decide_eq_true c, Bool.true_and]
    rw [e] at h
    refine all_loop l isC (X := X) (T := K true) (F := K false) (fun i hi hh => ?_) (fun ht => hX _ ⟨fun c => absurd c (by omega), fun _ => ht⟩) (fun e => by rw [e] at h; exact h) (fun e => by rw [e] at h; exact h)
    refine hX _ ⟨fun _ => ⟨⟨by omega, by omega⟩, ?_⟩, fun c => absurd (show (i : Int) < l.length by omega) c⟩
    rw [nn, gD hi, w1 (by omega)]
    exact spec_l07Costs_wp (hl.2 _ (List.getElem_mem hi)) hh
  · have e : isB l = false := by rw [isB, decide_eq_false c, Bool.false_and]
    rw [e] at h
    exact ⟨fun _ => h, fun c1 => ⟨fun _ => h, fun c2 => absurd (⟨by omega, by omega⟩ : 1 ≤ l.length ∧ l.length ≤ 8) c⟩⟩
theorem impl_areBlocks_wp {l : Cs} {K : Bool → Prop} (hl : CsOk l) (h : K (isB l)) : impl_areBlocks.wp l K := by
  have h20 := hl.1
  refine impl_within_wp ?_
  by_cases c : 1 ≤ l.length ∧ l.length ≤ 8
  · refine tE (decide_eq_true (by omega)) fun X hX => ?_
    have e : isB l = l.all isC := by rw [isB, decide_eq_true c, Bool.true_and]
    rw [e] at h
    refine all_loop l isC (X := X) (T := K true) (F := K false) (fun i hi hh => ?_) (fun ht => hX _ ⟨fun c => absurd c (by omega), fun _ => ht⟩) (fun e => by rw [e] at h; exact h) (fun e => by rw [e] at h; exact h)
    refine hX _ ⟨fun _ => ⟨⟨by omega, by omega⟩, ?_⟩, fun c => absurd (show (i : Int) < l.length by omega) c⟩
    rw [nn, gD hi, w1 (by omega)]
    exact impl_AreCosts_wp (hl.2 _ (List.getElem_mem hi)) hh
  · have e : isB l = false := by rw [isB, decide_eq_false c, Bool.false_and]
    rw [e] at h
    exact tG (decide_eq_false (by omega)) h

end Go.Proofs.Ytecdkjnomkdbkaa.G

namespace Go.Proofs.Ytecdkjnomkdbkaa.G
open Go Go.Ab
set_option maxRecDepth 100000
set_option linter.unusedVariables false
set_option linter.unusedSimpArgs false
set_option maxHeartbeats 1000000
abbrev Cell := (Bool) × (Nat) × (Int)
abbrev Rw := List ((Bool) × (Nat) × (Int))
def Z : Cell := (false, (0 : Nat), (0 : Int))
def ZC : Int × Nat := ((0 : Int), (0 : Nat))
/-- One cost is tried at place b. -/
def cellU (bf : Rw) (bl : List (Int × Nat)) (b : Nat) (R : Rw) (i : Nat) : Rw :=
  if (b : Int) < (bl.getD i ZC).1 then R
  else if (bf.getD ((b : Int) - (bl.getD i ZC).1).toNat Z).1 = true then
    (if (R.getD b Z).1 = true then
      (if fcmp .lss .f32 (fop .add .f32 (bf.getD ((b : Int) - (bl.getD i ZC).1).toNat Z).2.1 (bl.getD i ZC).2) (R.getD b Z).2.1 = true then R.set b (true, fop .add .f32 (bf.getD ((b : Int) - (bl.getD i ZC).1).toNat Z).2.1 (bl.getD i ZC).2, (i : Int)) else R)
     else R.set b (true, fop .add .f32 (bf.getD ((b : Int) - (bl.getD i ZC).1).toNat Z).2.1 (bl.getD i ZC).2, (i : Int)))
  else R
def cellR (bf : Rw) (bl : List (Int × Nat)) (b : Nat) (R : Rw) : Nat → Rw
  | 0 => R
  | i + 1 => cellU bf bl b (cellR bf bl b R i) i
def rowR (bf : Rw) (bl : List (Int × Nat)) (B : Nat) : Nat → Rw
  | 0 => List.replicate (B + 1) Z
  | b + 1 => cellR bf bl b (rowR bf bl B b) bl.length
def begR (B : Nat) : Nat → Rw
  | 0 => List.replicate (B + 1) Z
  | b + 1 => (begR B b).set b (true, ((begR B b).getD b Z).2.1, ((begR B b).getD b Z).2.2)
def befR (l : Cs) (B : Nat) : Nat → Rw
  | 0 => begR B (B + 1)
  | k + 1 => rowR (befR l B k) (l.getD k csN) B (B + 1)
def tabR (l : Cs) (B : Nat) (k : Nat) : List Rw := (List.range k).map fun j => befR l B (j + 1)
theorem cellU_len (bf : Rw) (bl : List (Int × Nat)) (b : Nat) (R : Rw) (i : Nat) : (cellU bf bl b R i).length = R.length := by
  unfold cellU
  repeat' split
  all_goals first | rfl | exact List.length_set
theorem cellR_len (bf : Rw) (bl : List (Int × Nat)) (b : Nat) (R : Rw) : ∀ i, (cellR bf bl b R i).length = R.length
  | 0 => rfl
  | i + 1 => by rw [cellR, cellU_len, cellR_len]
theorem rowR_len (bf : Rw) (bl : List (Int × Nat)) (B : Nat) : ∀ b, (rowR bf bl B b).length = B + 1
  | 0 => List.length_replicate
  | b + 1 => by rw [rowR, cellR_len, rowR_len]
theorem begR_len (B : Nat) : ∀ b, (begR B b).length = B + 1
  | 0 => List.length_replicate
  | b + 1 => by rw [begR, List.length_set, begR_len]
theorem befR_len (l : Cs) (B : Nat) : ∀ k, (befR l B k).length = B + 1
  | 0 => begR_len B _
  | k + 1 => rowR_len _ _ B _
theorem tabR_len (l : Cs) (B k : Nat) : (tabR l B k).length = k := by rw [tabR, List.length_map, List.length_range]
theorem tabR_s (l : Cs) (B k : Nat) : tabR l B (k + 1) = tabR l B k ++ [befR l B (k + 1)] := by
  unfold tabR; rw [List.range_succ, List.map_append]; rfl
theorem tabR_at (l : Cs) (B : Nat) {k n : Nat} (h : k < n) (d : Rw) : (tabR l B n).getD k d = befR l B (k + 1) := by
  rw [gD (by rw [tabR_len]; exact h)]
  unfold tabR
  rw [List.getElem_map, List.getElem_range]
/-! ### what stands in a row -/
/-- The entry r at place j leads to a cost and to an entry of the row before. -/
def okE (bf : Rw) (bl : List (Int × Nat)) (j : Nat) (r : Cell) : Prop := r.1 = true → ∃ i : Nat, r.2.2 = (i : Int) ∧ i < bl.length ∧ (bl.getD i ZC).1 ≤ (j : Int) ∧ (bf.getD ((j : Int) - (bl.getD i ZC).1).toNat Z).1 = true
def okR (bf : Rw) (bl : List (Int × Nat)) (R : Rw) : Prop := ∀ j, okE bf bl j (R.getD j Z)
theorem set_get {α : Type} (l : List α) (b j : Nat) (x d : α) : (l.set b x).getD j d = if b = j ∧ b < l.length then x else l.getD j d := by
  rw [List.getD_eq_getElem?_getD, List.getD_eq_getElem?_getD, List.getElem?_set]
  by_cases e : b = j
  · subst e
    by_cases c : b < l.length
    · rw [if_pos rfl, if_pos c, if_pos ⟨rfl, c⟩]; rfl
    · rw [if_pos rfl, if_neg c, if_neg (fun h => c h.2), List.getElem?_eq_none (by omega)]
  · rw [if_neg e, if_neg (fun h => e h.1)]
theorem okR_set {bf : Rw} {bl : List (Int × Nat)} {R : Rw} (h : okR bf bl R) {b : Nat} {x : Cell} (hx : okE bf bl b x) : okR bf bl (R.set b x) := by
  intro j
  rw [set_get]
  split
  · rename_i c; rw [← c.1]; exact hx
  · exact h j
theorem okR_cellU {bf : Rw} {bl : List (Int × Nat)} {R : Rw} {b i : Nat} (h : okR bf bl R) (hi : i < bl.length) : okR bf bl (cellU bf bl b R i) := by
  unfold cellU
  split
  · exact h
  · rename_i c1
    split
    · rename_i c2
      have hx : ∀ s, okE bf bl b (true, s, (i : Int)) := fun s _ => ⟨i, rfl, hi, by omega, c2⟩
      split
      · split
        · exact okR_set h (hx _)
        · exact h
      · exact okR_set h (hx _)
    · exact h
theorem okR_cellR {bf : Rw} {bl : List (Int × Nat)} {R : Rw} {b : Nat} (h : okR bf bl R) : ∀ i, i ≤ bl.length → okR bf bl (cellR bf bl b R i)
  | 0, _ => h
  | i + 1, hi => okR_cellU (okR_cellR h i (by omega)) (by omega)
theorem rep_get {α : Type} (n j : Nat) (d : α) : (List.replicate n d).getD j d = d := by
  rw [List.getD_eq_getElem?_getD, List.getElem?_replicate]
  split <;> rfl
theorem okR_row (bf : Rw) (bl : List (Int × Nat)) (B : Nat) : ∀ b, okR bf bl (rowR bf bl B b)
  | 0 => fun j => by
      unfold okE
      rw [rowR, rep_get]
      intro c; cases c
  | b + 1 => okR_cellR (okR_row bf bl B b) _ (Nat.le_refl _)
/-! ### the way back -/
def lfA (l : Cs) (B n : Nat) : Nat → Int
  | 0 => (B : Int)
  | d + 1 => lfA l B n d - ((l.getD (n - 1 - d) csN).getD (((befR l B (n - d)).getD (lfA l B n d).toNat Z).2.2).toNat ZC).1
def ouA (l : Cs) (B n : Nat) : Nat → List Int
  | 0 => List.replicate n 0
  | d + 1 => (ouA l B n d).set (n - 1 - d) ((befR l B (n - d)).getD (lfA l B n d).toNat Z).2.2
theorem ouA_len (l : Cs) (B n : Nat) : ∀ d, (ouA l B n d).length = n
  | 0 => List.length_replicate
  | d + 1 => by rw [ouA, List.length_set, ouA_len]
theorem lf_ok {l : Cs} {B n : Nat} (hB : isB l = true) (hn : n = l.length) (h0 : ((befR l B n).getD B Z).1 = true) : ∀ d, d ≤ n → 0 ≤ lfA l B n d ∧ lfA l B n d ≤ (B : Int) ∧ ((befR l B (n - d)).getD (lfA l B n d).toNat Z).1 = true
  | 0, _ => ⟨by rw [lfA]; omega, by rw [lfA]; omega, h0⟩
  | d + 1, hd => by
    obtain ⟨i1, i2, i3⟩ := lf_ok hB hn h0 d (by omega)
    have hk : n - d = (n - 1 - d) + 1 := by omega
    have hr : okR (befR l B (n - 1 - d)) (l.getD (n - 1 - d) csN) (befR l B (n - d)) := by rw [hk]; exact okR_row _ _ _ _
    obtain ⟨i, e1, e2, e3, e4⟩ := hr _ i3
    have hbits := isC_bits (isB_at hB (i := n - 1 - d) (by omega)) i e2
    rw [lfA, e1]
    rw [show ((i : Int)).toNat = i from rfl]
    have hb : ((l.getD (n - 1 - d) csN).getD i ZC).1 = ((l.getD (n - 1 - d) csN).getD i (0, 0)).1 := rfl
    rw [show ((lfA l B n d).toNat : Int) = lfA l B n d by omega] at e3 e4
    exact ⟨by omega, by omega, by rw [show n - (d + 1) = n - 1 - d by omega]; exact e4⟩
theorem lf_at {l : Cs} {B n : Nat} (hB : isB l = true) (hn : n = l.length) (h0 : ((befR l B n).getD B Z).1 = true) {d : Nat} (hd : d < n) : ∃ i : Nat, ((befR l B (n - d)).getD (lfA l B n d).toNat Z).2.2 = (i : Int) ∧ i < (l.getD (n - 1 - d) csN).length ∧ 0 ≤ ((l.getD (n - 1 - d) csN).getD i ZC).1 ∧ ((l.getD (n - 1 - d) csN).getD i ZC).1 ≤ 512 := by
  obtain ⟨i1, i2, i3⟩ := lf_ok hB hn h0 d (by omega)
  have hk : n - d = (n - 1 - d) + 1 := by omega
  have hr : okR (befR l B (n - 1 - d)) (l.getD (n - 1 - d) csN) (befR l B (n - d)) := by rw [hk]; exact okR_row _ _ _ _
  obtain ⟨i, e1, e2, e3, e4⟩ := hr _ i3
  exact ⟨i, e1, e2, isC_bits (isB_at hB (i := n - 1 - d) (by omega)) i e2⟩
/-! ### both programs -/
def bcOk (l : Cs) (B : Nat) : Bool := ((befR l B l.length).getD B Z).1 && pFin ((befR l B l.length).getD B Z).2.1
def bcA (l : Cs) (a : Int) : Bool := isB l && decide (0 ≤ a ∧ a ≤ 512) && bcOk l a.toNat
def bcL (l : Cs) (a : Int) : List Int := if bcA l a = true then ouA l a.toNat l.length l.length else []
def bcS (l : Cs) (a : Int) : Nat := if bcA l a = true then ((befR l a.toNat l.length).getD a.toNat Z).2.1 else cz .f32 0
theorem wB {n : Int} (h : -600 ≤ n ∧ n ≤ 2000) : IntKind.i64.wrap n = n := wI (by omega)
theorem bits_at {l : Cs} (hB : isB l = true) {x i : Nat} (hx : x < l.length) (hi : i < (l.getD x csN).length) : 0 ≤ ((l.getD x csN).getD i ZC).1 ∧ ((l.getD x csN).getD i ZC).1 ≤ 512 := isC_bits (isB_at hB hx) i hi
theorem impl_bc {l : Cs} {a : Int} {K : List Int → Nat → Bool → Prop} (hl : CsOk l) (h : K (bcL l a) (bcS l a) (bcA l a)) : impl_BestCuts.wp l a K := by
  refine impl_areBlocks_wp hl ?_
  unfold bcL bcS at h
  by_cases hB : isB l = true
  · refine tE hB (impl_within_wp ?_)
    by_cases ha : 0 ≤ a ∧ a ≤ 512
    · refine tE (decide_eq_true ha) ?_
      obtain ⟨B, rfl⟩ : ∃ B : Nat, a = (B : Int) := ⟨a.toNat, by omega⟩
      have hBl := isB_len hB
      have e1 : IntKind.i64.wrap ((B : Int) + 1) = ((B + 1 : Nat) : Int) := w1 (by omega)
      rw [e1]
      have ea : bcA l (B : Int) = bcOk l B := by rw [bcA, hB, decide_eq_true ha, Bool.true_and, Bool.true_and]; rfl
      rw [ea] at h
      refine ⟨by omega, fun X hX => ?_⟩
      have hz : (List.replicate (((B + 1 : Nat) : Int)).toNat (false, (0 : Nat), (0 : Int))).length = B + 1 := List.length_replicate
      refine up (Y := fun i => X (begR B i) (i : Int)) (B + 1) ?_ ?_
      · refine hX _ _ (tN (by rw [hz]; omega) ?_)
        intro X2 hX2
        refine up (Y := fun k => X2 (tabR l B k) (befR l B k) (k : Int)) l.length ?_ ?_
        · refine hX2 _ _ _ (tN (by omega) ⟨⟨by omega, by rw [befR_len]; omega⟩, ?_⟩)
          rw [nn]
          have hend : bcOk l B = false → K [] (cz .f32 0) false := fun c => by rw [c] at h; exact h
          refine ⟨fun c1 => ?_, fun c1 => hend (by rw [bcOk]; exact Bool.and_eq_false_imp.2 fun c => absurd (c1.symm.trans c) (by decide))⟩
          refine impl_IsFinite_wp ⟨fun c2 => ?_, fun c2 => hend (by rw [bcOk]; exact Bool.and_eq_false_imp.2 fun _ => c2)⟩
          have hok : bcOk l B = true := by rw [bcOk]; exact Bool.and_eq_true_iff.2 ⟨c1, c2⟩
          rw [hok] at h
          refine ⟨by omega, fun X3 hX3 => ?_⟩
          have key : X3 (ouA l B l.length 0) (lfA l B l.length 0) ((l.length : Int) - 1 - ((0 : Nat) : Int)) := by
            refine up (Y := fun d => X3 (ouA l B l.length d) (lfA l B l.length d) ((l.length : Int) - 1 - (d : Int))) l.length ?_ ?_
            · exact hX3 _ _ _ (tN (by omega) h)
            · intro d hd hh
              have e2 : (l.length : Int) - 1 - (d : Int) = ((l.length - 1 - d : Nat) : Int) := by omega
              obtain ⟨i1, i2, i3⟩ := lf_ok hB rfl c1 d (by omega)
              obtain ⟨i, j1, j2, j3, j4⟩ := lf_at hB rfl c1 hd
              have e3 : l.length - 1 - d + 1 = l.length - d := by omega
              refine hX3 _ _ _ (tP (by omega) ?_)
              rw [e2, nn, tabR_at l B (by omega), e3, befR_len]
              refine ⟨⟨by omega, by rw [tabR_len]; omega⟩, ⟨by omega, by omega⟩, ⟨by omega, by rw [ouA_len]; omega⟩, ⟨by omega, by omega⟩, ?_⟩
              have j1' : ((befR l B (l.length - d)).getD (lfA l B l.length d).toNat (false, (0 : Nat), (0 : Int))).2.2 = (i : Int) := j1
              rw [j1']
              refine ⟨⟨by omega, Int.ofNat_lt.2 j2⟩, ?_⟩
              rw [ouA, lfA, j1] at hh
              have j3' : 0 ≤ ((l.getD (l.length - 1 - d) ([] : List ((Int) × (Nat)))).getD i ((0 : Int), (0 : Nat))).1 := j3
              have j4' : ((l.getD (l.length - 1 - d) ([] : List ((Int) × (Nat)))).getD i ((0 : Int), (0 : Nat))).1 ≤ 512 := j4
              rw [nn] at hh ⊢
              rw [wB (by omega), wB (n := ((l.length - 1 - d : Nat) : Int) - 1) (by omega), show ((l.length - 1 - d : Nat) : Int) - 1 = (l.length : Int) - 1 - ((d + 1 : Nat) : Int) by omega]
              exact hh
          rw [show IntKind.i64.wrap ((l.length : Int) - 1) = (l.length : Int) - 1 - ((0 : Nat) : Int) by rw [wB (by omega)]; simp]
          exact key
        · intro x hx hh
          refine hX2 _ _ _ (tP (by omega) ⟨by omega, fun X3 hX3 => ?_⟩)
          refine up (Y := fun b => X3 (rowR (befR l B x) (l.getD x csN) B b) (b : Int)) (B + 1) ?_ ?_
          · refine hX3 _ _ (tN (by rw [hz]; omega) ⟨by rw [tabR_len, len1]; omega, ?_⟩)
            rw [w1 (by omega)]
            rw [tabR_s, befR] at hh
            exact hh
          · intro b hb hh3
            refine hX3 _ _ (tP (by rw [hz]; omega) ?_)
            intro X4 hX4
            refine up (Y := fun i => X4 (cellR (befR l B x) (l.getD x csN) b (rowR (befR l B x) (l.getD x csN) B b) i) (i : Int)) (l.getD x csN).length ?_ ?_
            · refine hX4 _ _ (tN ?_ ?_)
              · rw [nn]; exact Int.lt_irrefl _
              · rw [w1 (by omega)]; exact hh3
            · intro i hi hh4
              have hbits := bits_at hB hx hi
              have hi16 := (isC_len (isB_at hB hx)).2
              have hi2 : i < (l.getD ((x : Int)).toNat ([] : List ((Int) × (Nat)))).length := hi
              have hlen4 : (cellR (befR l B x) (l.getD x csN) b (rowR (befR l B x) (l.getD x csN) B b) i).length = B + 1 := by rw [cellR_len, rowR_len]
              refine hX4 _ _ (tP (Int.ofNat_lt.2 hi2) ⟨⟨by omega, Int.ofNat_lt.2 hi2⟩, ?_⟩)
              have e5 : ((l.getD ((x : Int)).toNat ([] : List ((Int) × (Nat)))).getD ((i : Int)).toNat ((0 : Int), (0 : Nat))) = (l.getD x csN).getD i ZC := rfl
              rw [e5, w1 (by omega)]
              rw [cellR] at hh4
              generalize hRdef : cellR (befR l B x) (l.getD x csN) b (rowR (befR l B x) (l.getD x csN) B b) i = R at *
              unfold cellU at hh4
              refine ⟨fun c => ?_, fun c => ?_⟩
              · rw [if_pos c] at hh4; exact hh4
              · rw [if_neg c] at hh4
                rw [wB (by omega)]
                refine ⟨⟨by omega, by rw [befR_len]; omega⟩, fun c2 => ⟨⟨by omega, by rw [hlen4]; omega⟩, ?_⟩, fun c2 => ?_⟩
                · rw [if_pos (show ((befR l B x).getD ((b : Int) - ((l.getD x csN).getD i ZC).1).toNat Z).1 = true from c2)] at hh4
                  refine ⟨fun c3 => ?_, fun c3 => ?_⟩
                  · rw [if_pos (show (R.getD b Z).1 = true from c3)] at hh4
                    refine ⟨fun c4 => ?_, fun c4 => ?_⟩
                    · rw [if_pos (show fcmp .lss .f32 (fop .add .f32 ((befR l B x).getD ((b : Int) - ((l.getD x csN).getD i ZC).1).toNat Z).2.1 ((l.getD x csN).getD i ZC).2) (R.getD b Z).2.1 = true from c4)] at hh4; exact hh4
                    · rw [if_neg (by rw [show fcmp .lss .f32 (fop .add .f32 ((befR l B x).getD ((b : Int) - ((l.getD x csN).getD i ZC).1).toNat Z).2.1 ((l.getD x csN).getD i ZC).2) (R.getD b Z).2.1 = false from c4]; decide)] at hh4; exact hh4
                  · rw [if_neg (by rw [show (R.getD b Z).1 = false from c3]; decide)] at hh4; exact hh4
                · rw [if_neg (by rw [show ((befR l B x).getD ((b : Int) - ((l.getD x csN).getD i ZC).1).toNat Z).1 = false from c2]; decide)] at hh4; exact hh4
      · intro i hi hh
        refine hX _ _ (tP (by rw [hz]; omega) ⟨⟨by omega, by rw [begR_len]; omega⟩, ?_⟩)
        rw [w1 (by omega)]
        exact hh
    · refine tG (decide_eq_false ha) ?_
      have ea : bcA l a = false := by rw [bcA, decide_eq_false ha, Bool.and_false, Bool.false_and]
      rw [ea] at h; exact h
  · have hB : isB l = false := by simpa using hB
    have ea : bcA l a = false := by rw [bcA, hB, Bool.false_and, Bool.false_and]
    rw [ea] at h
    exact tG hB h
/-! ### the other program: three lists for one -/
def m1 (R : Rw) : List Bool := R.map fun r => r.1
def m2 (R : Rw) : List Nat := R.map fun r => r.2.1
def m3 (R : Rw) : List Int := R.map fun r => r.2.2
theorem map_get {α β : Type} (f : α → β) (l : List α) (j : Nat) (d : α) : (l.map f).getD j (f d) = f (l.getD j d) := by
  rw [List.getD_eq_getElem?_getD, List.getD_eq_getElem?_getD, List.getElem?_map]
  cases l[j]? <;> rfl
theorem m1_at (R : Rw) (j : Nat) : (m1 R).getD j false = (R.getD j Z).1 := map_get (fun r : Cell => r.1) R j Z
theorem m2_at (R : Rw) (j : Nat) : (m2 R).getD j (0 : Nat) = (R.getD j Z).2.1 := map_get (fun r : Cell => r.2.1) R j Z
theorem m3_at (R : Rw) (j : Nat) : (m3 R).getD j (0 : Int) = (R.getD j Z).2.2 := map_get (fun r : Cell => r.2.2) R j Z
theorem m1_len (R : Rw) : (m1 R).length = R.length := List.length_map ..
theorem m2_len (R : Rw) : (m2 R).length = R.length := List.length_map ..
theorem m3_len (R : Rw) : (m3 R).length = R.length := List.length_map ..
theorem m1_set (R : Rw) (b : Nat) (x : Cell) : m1 (R.set b x) = (m1 R).set b x.1 := List.map_set
theorem m2_set (R : Rw) (b : Nat) (x : Cell) : m2 (R.set b x) = (m2 R).set b x.2.1 := List.map_set
theorem m3_set (R : Rw) (b : Nat) (x : Cell) : m3 (R.set b x) = (m3 R).set b x.2.2 := List.map_set
theorem m1_rep (n : Nat) : m1 (List.replicate n Z) = List.replicate n false := List.map_replicate
theorem m2_rep (n : Nat) : m2 (List.replicate n Z) = List.replicate n 0 := List.map_replicate
theorem m3_rep (n : Nat) : m3 (List.replicate n Z) = List.replicate n 0 := List.map_replicate
theorem beg_sum (B : Nat) : ∀ b, m2 (begR B b) = List.replicate (B + 1) 0
  | 0 => m2_rep _
  | b + 1 => by
    rw [begR, m2_set, ← m2_at, beg_sum B b, rep_get]
    apply List.ext_getElem
    · rw [List.length_set]
    · intro j h1 h2
      rw [List.getElem_set]
      split
      · rw [List.getElem_replicate]
      · rfl
theorem beg_can (B b : Nat) : m1 (begR B (b + 1)) = (m1 (begR B b)).set b true := by rw [begR, m1_set]
theorem set_at {l : List Int} {i : Nat} {v : Int} (h : i < l.length) : (l.set i v).getD i 0 = v := by rw [set_get, if_pos ⟨rfl, h⟩]
def tab3 (l : Cs) (B k : Nat) : List (List Int) := (tabR l B k).map m3
theorem tab3_len (l : Cs) (B k : Nat) : (tab3 l B k).length = k := by rw [tab3, List.length_map, tabR_len]
theorem tab3_s (l : Cs) (B k : Nat) : tab3 l B (k + 1) = tab3 l B k ++ [m3 (befR l B (k + 1))] := by
  unfold tab3; rw [tabR_s, List.map_append]; rfl
theorem tab3_at (l : Cs) (B : Nat) {k n : Nat} (h : k < n) : (tab3 l B n).getD k ([] : List Int) = m3 (befR l B (k + 1)) := by
  rw [← tabR_at l B h ([] : Rw)]
  exact map_get m3 (tabR l B n) k ([] : Rw)
theorem spec_bc {l : Cs} {a : Int} {K : List Int → Nat → Bool → Prop} (hl : CsOk l) (h : K (bcL l a) (bcS l a) (bcA l a)) : spec_BestCuts.wp l a K := by
  refine spec_l07Blocks_wp hl ?_
  unfold bcL bcS at h
  by_cases hB : isB l = true
  · refine tE hB (spec_l00In_wp ?_)
    by_cases ha : 0 ≤ a ∧ a ≤ 512
    · refine tE (decide_eq_true ha) ?_
      obtain ⟨B, rfl⟩ : ∃ B : Nat, a = (B : Int) := ⟨a.toNat, by omega⟩
      have hBl := isB_len hB
      have e1 : IntKind.i64.wrap ((B : Int) + 1) = ((B + 1 : Nat) : Int) := w1 (by omega)
      rw [e1]
      have ea : bcA l (B : Int) = bcOk l B := by rw [bcA, hB, decide_eq_true ha, Bool.true_and, Bool.true_and]; rfl
      rw [ea] at h
      refine ⟨by omega, by omega, fun X hX => ?_⟩
      have hz : (List.replicate (((B + 1 : Nat) : Int)).toNat false).length = B + 1 := List.length_replicate
      have h0 : m1 (begR B 0) = List.replicate (((B + 1 : Nat) : Int)).toNat false := m1_rep _
      rw [← h0] at hX ⊢
      have hz : (m1 (begR B 0)).length = B + 1 := by rw [m1_len, begR_len]
      refine up (Y := fun i => X (m1 (begR B i)) (i : Int)) (B + 1) ?_ ?_
      · refine hX _ _ (tN (by rw [hz]; omega) ?_)
        intro X2 hX2
        have key2 : X2 (tab3 l B 0) (m1 (befR l B 0)) (m2 (befR l B 0)) ((0 : Nat) : Int) := by
          refine up (Y := fun k => X2 (tab3 l B k) (m1 (befR l B k)) (m2 (befR l B k)) (k : Int)) l.length ?_ ?_
          · refine hX2 _ _ _ _ (tN (by omega) ⟨⟨by omega, by rw [m1_len, befR_len]; omega⟩, ?_⟩)
            rw [nn, m1_at, m2_at]
            have hend : bcOk l B = false → K [] (cz .f32 0) false := fun c => by rw [c] at h; exact h
            refine ⟨fun c1 => ⟨⟨by omega, by rw [m2_len, befR_len]; omega⟩, ?_⟩, fun c1 => hend (by rw [bcOk]; exact Bool.and_eq_false_imp.2 fun c => absurd (c1.symm.trans c) (by decide))⟩
            refine spec_l01Finite_wp ⟨fun c2 => ?_, fun c2 => hend (by rw [bcOk]; exact Bool.and_eq_false_imp.2 fun _ => c2)⟩
            have hok : bcOk l B = true := by rw [bcOk]; exact Bool.and_eq_true_iff.2 ⟨c1, c2⟩
            rw [hok] at h
            refine ⟨by omega, fun X3 hX3 => ?_⟩
            have key : X3 (ouA l B l.length 0) (lfA l B l.length 0) ((l.length : Int) - 1 - ((0 : Nat) : Int)) := by
              refine up (Y := fun d => X3 (ouA l B l.length d) (lfA l B l.length d) ((l.length : Int) - 1 - (d : Int))) l.length ?_ ?_
              · exact hX3 _ _ _ (tN (by omega) h)
              · intro d hd hh
                have e2 : (l.length : Int) - 1 - (d : Int) = ((l.length - 1 - d : Nat) : Int) := by omega
                obtain ⟨i1, i2, i3⟩ := lf_ok hB rfl c1 d (by omega)
                obtain ⟨i, j1, j2, j3, j4⟩ := lf_at hB rfl c1 hd
                have e3 : l.length - 1 - d + 1 = l.length - d := by omega
                refine hX3 _ _ _ (tP (by omega) ?_)
                rw [e2, nn, tab3_at l B (by omega), e3, m3_len, befR_len, m3_at, j1, set_at (by rw [ouA_len]; omega)]
                refine ⟨⟨by omega, by rw [tab3_len]; omega⟩, ⟨by omega, by omega⟩, ⟨by omega, by rw [ouA_len]; omega⟩, ⟨by omega, by omega⟩, ⟨by omega, by rw [List.length_set, ouA_len]; omega⟩, ⟨by omega, Int.ofNat_lt.2 j2⟩, ?_⟩
                rw [ouA, lfA, j1] at hh
                have j3' : 0 ≤ ((l.getD (l.length - 1 - d) ([] : List ((Int) × (Nat)))).getD i ((0 : Int), (0 : Nat))).1 := j3
                have j4' : ((l.getD (l.length - 1 - d) ([] : List ((Int) × (Nat)))).getD i ((0 : Int), (0 : Nat))).1 ≤ 512 := j4
                rw [nn] at hh ⊢
                rw [wB (by omega), wB (n := ((l.length - 1 - d : Nat) : Int) - 1) (by omega), show ((l.length - 1 - d : Nat) : Int) - 1 = (l.length : Int) - 1 - ((d + 1 : Nat) : Int) by omega]
                exact hh
            rw [show IntKind.i64.wrap ((l.length : Int) - 1) = (l.length : Int) - 1 - ((0 : Nat) : Int) by rw [wB (by omega)]; simp]
            exact key
          · intro x hx hh
            refine hX2 _ _ _ _ (tP (by omega) ⟨by omega, fun X3 hX3 => ?_⟩)
            have key3 : X3 (m3 (rowR (befR l B x) (l.getD x csN) B 0)) (m1 (rowR (befR l B x) (l.getD x csN) B 0)) (m2 (rowR (befR l B x) (l.getD x csN) B 0)) ((0 : Nat) : Int) := by
              refine up (Y := fun b => X3 (m3 (rowR (befR l B x) (l.getD x csN) B b)) (m1 (rowR (befR l B x) (l.getD x csN) B b)) (m2 (rowR (befR l B x) (l.getD x csN) B b)) (b : Int)) (B + 1) ?_ ?_
              · refine hX3 _ _ _ _ (tN (by omega) ⟨by rw [tab3_len, len1]; omega, ?_⟩)
                rw [w1 (by omega)]
                rw [tab3_s, befR] at hh
                exact hh
              · intro b hb hh3
                refine hX3 _ _ _ _ (tP (by omega) ⟨by omega, ?_⟩)
                intro X4 hX4
                refine up (Y := fun i => X4 (m3 (cellR (befR l B x) (l.getD x csN) b (rowR (befR l B x) (l.getD x csN) B b) i)) (m1 (cellR (befR l B x) (l.getD x csN) b (rowR (befR l B x) (l.getD x csN) B b) i)) (m2 (cellR (befR l B x) (l.getD x csN) b (rowR (befR l B x) (l.getD x csN) B b) i)) (i : Int)) (l.getD x csN).length ?_ ?_
                · refine hX4 _ _ _ _ (tN ?_ ?_)
                  · rw [nn]; exact Int.lt_irrefl _
                  · rw [w1 (by omega)]; exact hh3
                · intro i hi hh4
                  have hbits := bits_at hB hx hi
                  have hi16 := (isC_len (isB_at hB hx)).2
                  have hi2 : i < (l.getD ((x : Int)).toNat ([] : List ((Int) × (Nat)))).length := hi
                  have hlen4 : (cellR (befR l B x) (l.getD x csN) b (rowR (befR l B x) (l.getD x csN) B b) i).length = B + 1 := by rw [cellR_len, rowR_len]
                  refine hX4 _ _ _ _ (tP (Int.ofNat_lt.2 hi2) ⟨⟨by omega, Int.ofNat_lt.2 hi2⟩, ?_⟩)
                  have e5 : ((l.getD ((x : Int)).toNat ([] : List ((Int) × (Nat)))).getD ((i : Int)).toNat ((0 : Int), (0 : Nat))) = (l.getD x csN).getD i ZC := rfl
                  rw [e5, w1 (by omega)]
                  rw [cellR] at hh4
                  generalize hRdef : cellR (befR l B x) (l.getD x csN) b (rowR (befR l B x) (l.getD x csN) B b) i = R at *
                  unfold cellU at hh4
                  rw [wB (by omega), m1_at, m2_at, m1_at, m2_at, nn, m1_len, m1_len, m2_len, m2_len, m3_len, hlen4, befR_len]
                  refine ⟨fun c => ?_, fun c => ?_⟩
                  · rw [if_pos (by omega)] at hh4; exact hh4
                  · rw [if_neg (by omega)] at hh4
                    refine ⟨⟨by omega, by omega⟩, fun c2 => ⟨⟨by omega, by omega⟩, ⟨by omega, by omega⟩, ?_⟩, fun c2 => ?_⟩
                    · rw [if_pos c2] at hh4
                      refine ⟨fun c3 => ⟨⟨by omega, by omega⟩, ?_⟩, fun c3 => ⟨⟨by omega, by omega⟩, ⟨by omega, by omega⟩, ?_⟩⟩
                      · rw [if_pos c3] at hh4
                        refine ⟨fun c4 => ⟨⟨by omega, by omega⟩, ?_⟩, fun c4 => ?_⟩
                        · rw [if_pos c4, m1_set, m2_set, m3_set] at hh4; exact hh4
                        · rw [if_neg (by rw [c4]; decide)] at hh4; exact hh4
                      · rw [if_neg (by rw [c3]; decide), m1_set, m2_set, m3_set] at hh4; exact hh4
                    · rw [if_neg (by rw [c2]; decide)] at hh4; exact hh4
            rw [rowR, m2_rep, m3_rep] at key3
            exact key3
        rw [befR, beg_sum] at key2
        exact key2
      · intro i hi hh
        refine hX _ _ (tP (by rw [hz]; omega) ⟨⟨by omega, by rw [m1_len, begR_len]; omega⟩, ?_⟩)
        rw [w1 (by omega), nn, ← beg_can]
        exact hh
    · refine tG (decide_eq_false ha) ?_
      have ea : bcA l a = false := by rw [bcA, decide_eq_false ha, Bool.and_false, Bool.false_and]
      rw [ea] at h; exact h
  · have hB : isB l = false := by simpa using hB
    have ea : bcA l a = false := by rw [bcA, hB, Bool.false_and, Bool.false_and]
    rw [ea] at h
    exact tG hB h
theorem bcL_len {l : Cs} {a : Int} (hl : CsOk l) : (bcL l a).length ≤ 2 ^ 20 := by
  unfold bcL
  split
  · rw [ouA_len]; exact hl.1
  · exact Nat.zero_le _

end Go.Proofs.Ytecdkjnomkdbkaa.G

namespace Go.Proofs.Ytecdkjnomkdbkaa.G
open Go Go.Ab
set_option maxRecDepth 100000
set_option linter.unusedVariables false
set_option linter.unusedSimpArgs false
set_option maxHeartbeats 1000000
-- HYPS: 0
-- HYPE: 0
theorem pureExactBestCuts (l0 : List (List (Int × Nat))) (a1 : Int) (hm : l0.length ≤ maxLen) (hin : CsIn l0) : laws_FnExactBestCuts.wp l0 a1 (fun b => b = true) := by
  refine szCostSS_wp hm hin (tP (by omega) rfl) fun hl m hm => tN (by omega) ?_
  have hb := bcL_len (a := a1) hl
  refine toCostSS_wp hl (spec_bc hl (toCostSS_wp hl (impl_bc hl (eqInt64S_wp hb (tT (sameFloat_wp (tT (tB (toCostSS_wp hl (eqCostSS_wp hl (tT (markCostSS_wp hl fun p o => tN (by omega) ?_))))))))))))
  refine eqInt64S_wp hb (tT (sameFloat_wp (tT (markInt64S_wp (k := 1) hb (by decide) (heldInt64S_wp (k := 1) hb (by decide) (tN (by omega) (tP rfl (toCostSS_wp hl (impl_bc hl (eqInt64S_wp hb (tT (sameFloat_wp (tT (tB (heldInt64S_wp (k := 1) hb (by decide) (tN (by omega) (tP rfl rfl)))))))))))))))))

end Go.Proofs.Ytecdkjnomkdbkaa.G

