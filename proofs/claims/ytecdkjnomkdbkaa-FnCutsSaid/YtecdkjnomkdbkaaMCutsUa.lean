/-
  What the formulas say, over numbers and lists alone. Nothing here is trusted.
-/
import Derived.Test.YtecdkjnomkdbkaaMCutsWa
namespace Go.Proofs.Ytecdkjnomkdbkaa.G
open Go Go.Ab
set_option maxRecDepth 100000
set_option linter.unusedVariables false
set_option linter.unusedSimpArgs false
set_option maxHeartbeats 1000000
/-! ### truth -/
theorem tT {A B : Prop} (h : A) : (true = true → A) ∧ (true = false → B) := ⟨fun _ => h, fun c => (by cases c)⟩
theorem tF {A B : Prop} (h : B) : (false = true → A) ∧ (false = false → B) := ⟨fun c => (by cases c), fun _ => h⟩
theorem tB {A B : Prop} {b : Bool} (h : A) : ((b == b) = true → A) ∧ ((b == b) = false → B) := ⟨fun _ => h, fun c => (by simp at c)⟩
theorem tE {A B : Prop} {b : Bool} (e : b = true) (h : A) : (b = true → A) ∧ (b = false → B) := ⟨fun _ => h, fun c => (by rw [e] at c; cases c)⟩
theorem tG {A B : Prop} {b : Bool} (e : b = false) (h : B) : (b = true → A) ∧ (b = false → B) := ⟨fun c => (by rw [e] at c; cases c), fun _ => h⟩
theorem tP {p A B : Prop} (e : p) (h : A) : (p → A) ∧ (¬p → B) := ⟨fun _ => h, fun c => absurd e c⟩
theorem tN {p A B : Prop} (e : ¬p) (h : B) : (p → A) ∧ (¬p → B) := ⟨fun c => absurd c e, fun _ => h⟩
theorem tI {b : Bool} {K : Bool → Prop} {A B : Prop} (h1 : b = true → A) (h2 : b = false → B) : (b = true → A) ∧ (b = false → B) := ⟨h1, h2⟩
/-! ### loops -/
theorem up {Y : Nat → Prop} (n : Nat) (last : Y n) (step : ∀ i, i < n → Y (i + 1) → Y i) : Y 0 := by
  have key : ∀ d i, i + d = n → Y i := by
    intro d
    induction d with
    | zero => intro i h; obtain rfl : i = n := by omega
              exact last
    | succ d ih => intro i h; exact step i (by omega) (ih (i + 1) (by omega))
  exact key n 0 (by omega)
theorem upFrom {Y : Nat → Prop} (k n : Nat) (hk : k ≤ n) (last : Y n) (step : ∀ i, k ≤ i → i < n → Y (i + 1) → Y i) : Y k := by
  have key : ∀ d i, k ≤ i → i + d = n → Y i := by
    intro d
    induction d with
    | zero => intro i _ h; obtain rfl : i = n := by omega
              exact last
    | succ d ih => intro i h0 h; exact step i h0 (by omega) (ih (i + 1) (by omega) (by omega))
  exact key (n - k) k (Nat.le_refl _) (by omega)
theorem w1 {i : Nat} (h : i < 4611686018427387904) : IntKind.i64.wrap ((i : Int) + (1 : Int)) = ((i + 1 : Nat) : Int) := wrap_succ (by omega)
theorem wI {n : Int} (h : -9223372036854775808 ≤ n ∧ n < 9223372036854775808) : IntKind.i64.wrap n = n := wrap_i64 h.1 h.2
theorem nn (i : Nat) : ((i : Int)).toNat = i := rfl
theorem gD {α : Type} {l : List α} {i : Nat} (h : i < l.length) (d : α) : l.getD i d = l[i] := by rw [List.getD_eq_getElem?_getD, List.getElem?_eq_getElem h]; rfl
theorem dropC {α : Type} {l : List α} {i : Nat} (h : i < l.length) : l.drop i = l[i] :: l.drop (i + 1) := List.drop_eq_getElem_cons h
theorem len1 {α : Type} (a : α) : ([a] : List α).length = 1 := rfl
theorem cz32 (n : Nat) (h : (FloatKind.f32.decode n).isNaN = false) : cz .f32 n = n := by simp [cz, h]
theorem c0_32 : cz .f32 0 = 0 := cz_zero32
theorem c0_64 : cz .f64 0 = 0 := cz_zero64
/-! ### copies, comparisons, marks -/
theorem toInt64S_wp {l : List Int} {K : List Int → Prop} (hl : l.length ≤ 2 ^ 20) (h : K l) : laws_toInt64S.wp l K := by
  refine ⟨⟨by omega, by omega, by omega, by omega⟩, fun X hX => ?_⟩
  have key : X (l.take 0 ++ List.replicate (l.length - 0) (0 : Int)) ((0 : Nat) : Int) := by
    refine up (Y := fun i => X (l.take i ++ List.replicate (l.length - i) (0 : Int)) (i : Int)) l.length ?_ fun i hi hn => ?_
    · refine hX _ _ ⟨fun c => absurd c (by omega), fun _ => ?_⟩
      rw [List.take_length, Nat.sub_self, List.replicate_zero, List.append_nil]; exact h
    · refine hX _ _ ⟨fun _ => ⟨⟨by omega, by omega⟩, ⟨by omega, ?_⟩, ?_⟩, fun c => absurd (show (i : Int) < l.length by omega) c⟩
      · rw [List.length_append, List.length_take, List.length_replicate]; omega
      · rw [nn, w1 (by omega), gD hi, set_fill (0 : Int) (by omega) hi]
        exact hn
  rw [List.take_zero, List.nil_append, Nat.sub_zero] at key; exact key
theorem sameFloat_wp {a : Nat} {K : Bool → Prop} (h : K true) : laws_sameFloat.wp a a K := by
  rcases order_self Ieee.double a with ho | ho
  · have e : fcmp .neq .f64 a a = true := by simp [fcmp, FloatKind.format, ho]
    exact tE e (by rw [e]; exact h)
  · have e : fcmp .neq .f64 a a = false := by simp [fcmp, FloatKind.format, ho]
    have e2 : fcmp .eql .f64 a a = true := by simp [fcmp, FloatKind.format, ho]
    refine tG e (tG e ⟨fun c => ⟨fun _ => by rw [BEq.rfl]; exact h, fun c2 => (by rw [c] at c2; cases c2)⟩, fun _ => by rw [e2]; exact h⟩)
theorem eqInt64S_wp {l : List Int} {K : Bool → Prop} (hl : l.length ≤ 2 ^ 20) (h : K true) : laws_eqInt64S.wp l l K := by
  refine tP rfl fun X hX => ?_
  refine up (Y := fun i => X (i : Int)) l.length ?_ fun i hi hn => ?_
  · exact hX _ ⟨fun c => absurd c (by omega), fun _ => h⟩
  · refine hX _ ⟨fun _ => ⟨⟨by omega, by omega⟩, ⟨by omega, by omega⟩, tP rfl ?_⟩, fun c => absurd (show (i : Int) < l.length by omega) c⟩
    rw [w1 (by omega)]; exact hn
theorem markInt64S_wp {l : List Int} {k : Nat} {K : Int → List Int → Prop} (hl : l.length ≤ 2 ^ 20) (hk : k ≤ 2 ^ 40) (h : K ((k + l.length : Nat) : Int) (marksI k l.length)) : laws_markInt64S.wp l (k : Int) K := by
  intro X hX
  have key : X (marksI k 0 ++ l.drop 0) ((k + 0 : Nat) : Int) ((0 : Nat) : Int) := by
    refine up (Y := fun i => X (marksI k i ++ l.drop i) ((k + i : Nat) : Int) (i : Int)) l.length ?_ fun i hi hn => ?_
    · refine hX _ _ _ ⟨fun c => absurd c (by rw [List.length_append, marksI_length, List.length_drop]; omega), fun _ => ?_⟩
      rw [List.drop_length, List.append_nil]; exact h
    · have hlen : (marksI k i ++ l.drop i).length = l.length := by rw [List.length_append, marksI_length, List.length_drop]; omega
      refine hX _ _ _ ⟨fun _ => ⟨⟨by omega, by rw [hlen]; omega⟩, ?_⟩, fun c => absurd (show (i : Int) < _ by rw [hlen]; omega) c⟩
      rw [nn, w1 (by omega), w1 (by omega)]
      have e := marksI_step (l := l) (i := i) (m := l.length - i) k (by omega) hi
      rw [show (k : Int) + (i : Int) = ((k + i : Nat) : Int) by omega] at e
      
      rw [e]; exact hn
  exact key
theorem heldInt64S_wp {k n : Nat} {K : Int → Prop} (hl : n ≤ 2 ^ 20) (hk : k ≤ 2 ^ 40) (h : K ((k + n : Nat) : Int)) : laws_heldInt64S.wp (marksI k n) (k : Int) K := by
  intro X hX
  have hlen : (marksI k n).length = n := marksI_length _ _
  have key : X ((k + 0 : Nat) : Int) ((0 : Nat) : Int) := by
    refine up (Y := fun i => X ((k + i : Nat) : Int) (i : Int)) n ?_ fun i hi hn => ?_
    · exact hX _ _ ⟨fun c => absurd c (by omega), fun _ => h⟩
    · refine hX _ _ ⟨fun _ => ⟨⟨by omega, by omega⟩, ?_⟩, fun c => absurd (show (i : Int) < _ by omega) c⟩
      rw [nn, gD (by omega), marksI_at k n i (by omega), show (k : Int) + (i : Int) = ((k + i : Nat) : Int) by omega]
      refine tP rfl ?_
      rw [w1 (by omega), w1 (by omega)]; exact hn
  exact key

end Go.Proofs.Ytecdkjnomkdbkaa.G

namespace Go.Proofs.Ytecdkjnomkdbkaa.G
open Go Go.Ab
set_option maxRecDepth 100000
set_option linter.unusedVariables false
set_option linter.unusedSimpArgs false
set_option maxHeartbeats 1000000
def pFin (x : Nat) : Bool := fcmp .eql .f32 (fop .sub .f32 x x) (cz .f32 0)
def pAll (l : List Nat) : Bool := l.all pFin
theorem pAll_cons (x : Nat) (l : List Nat) : pAll (x :: l) = (pFin x && pAll l) := rfl
/-- A loop that ends early where something does not hold. -/
theorem all_loop {α : Type} (l : List α) (p : α → Bool) {X : Int → Prop} {T F : Prop} (hX : ∀ (i : Nat) (h : i < l.length), ((p l[i] = true → X ((i + 1 : Nat) : Int)) ∧ (p l[i] = false → F)) → X (i : Int))
    (hend : T → X (l.length : Int)) (ht : l.all p = true → T) (hf : l.all p = false → F) : X (0 : Int) := by
  have key := up (Y := fun i => ((l.drop i).all p = true → T) → ((l.drop i).all p = false → F) → X (i : Int)) l.length (fun h _ => hend (h (by rw [List.drop_length]; rfl))) fun i hi hn h1 h2 => ?_
  · exact key (by rw [List.drop_zero]; exact ht) (by rw [List.drop_zero]; exact hf)
  · rw [dropC hi, List.all_cons] at h1 h2
    refine hX i hi ⟨fun e => hn (fun a => h1 (by rw [e, a]; rfl)) (fun a => h2 (by rw [e, a]; rfl)), fun e => h2 (by rw [e]; rfl)⟩
/-- A loop that makes a list, and ends early where something does not hold. -/
theorem map_loop {α β : Type} (l : List α) (p : α → Bool) (f : α → β) {X : List β → Int → Prop} {T F : Prop} (hX : ∀ (i : Nat) (h : i < l.length) (o : List β), o.length = i → ((p l[i] = true → X (o ++ [f l[i]]) ((i + 1 : Nat) : Int)) ∧ (p l[i] = false → F)) → X o (i : Int))
    (hend : T → X (l.map f) (l.length : Int)) (ht : l.all p = true → T) (hf : l.all p = false → F) : X [] (0 : Int) := by
  have key := up (Y := fun i => ((l.drop i).all p = true → T) → ((l.drop i).all p = false → F) → X ((l.take i).map f) (i : Int)) l.length (fun h _ => by rw [List.take_length]; exact hend (h (by rw [List.drop_length]; rfl))) fun i hi hn h1 h2 => ?_
  · have := key (by rw [List.drop_zero]; exact ht) (by rw [List.drop_zero]; exact hf)
    rw [List.take_zero] at this; exact this
  · rw [dropC hi, List.all_cons] at h1 h2
    refine hX i hi _ (by rw [List.length_map, List.length_take]; omega) ⟨fun e => ?_, fun e => h2 (by rw [e]; rfl)⟩
    have := hn (fun a => h1 (by rw [e, a]; rfl)) (fun a => h2 (by rw [e, a]; rfl))
    rw [List.take_succ_eq_append_getElem hi, List.map_append] at this
    exact this
theorem spec_l01Finite_wp {a : Nat} {K : Bool → Prop} (h : K (pFin a)) : spec_l01Finite.wp a K := h
theorem impl_IsFinite_wp {a : Nat} {K : Bool → Prop} (h : K (pFin a)) : impl_IsFinite.wp a K := h
theorem spec_l02Finite_wp {l : List Nat} {K : Bool → Prop} (hl : l.length ≤ 2 ^ 20) (h : K (pAll l)) : spec_l02Finite.wp l K := by
  intro X hX
  refine all_loop l pFin (X := X) (T := K true) (F := K false) (fun i hi hh => ?_) (fun ht => hX _ ⟨fun c => absurd c (by omega), fun _ => ht⟩) (fun e => by rw [pAll, e] at h; exact h) (fun e => by rw [pAll, e] at h; exact h)
  refine hX _ ⟨fun _ => ⟨⟨by omega, by omega⟩, spec_l01Finite_wp ?_⟩, fun c => absurd (show (i : Int) < l.length by omega) c⟩
  rw [nn, gD hi, w1 (by omega)]; exact hh
theorem impl_areFinite_wp {ll : List (List Nat)} {K : Bool → Prop} (hll : ll.length ≤ 2 ^ 20) (hl : ∀ l ∈ ll, l.length ≤ 2 ^ 20) (h : K (ll.all pAll)) : impl_areFinite.wp ll K := by
  intro X hX
  refine all_loop ll pAll (X := X) (T := K true) (F := K false) (fun i hi hh => ?_) (fun ht => hX _ ⟨fun c => absurd c (by omega), fun _ => ht⟩) (fun e => by rw [e] at h; exact h) (fun e => by rw [e] at h; exact h)
  refine hX _ ⟨fun _ => ⟨⟨by omega, by omega⟩, fun Y hY => ?_⟩, fun c => absurd (show (i : Int) < ll.length by omega) c⟩
  have hlen := hl ll[i] (List.getElem_mem hi)
  rw [nn, gD hi, w1 (by omega)] at hY
  refine all_loop ll[i] pFin (X := Y) (T := X ((i + 1 : Nat) : Int)) (F := K false) (fun j hj h2 => ?_) (fun ht => hY _ ⟨fun c => absurd c (by omega), fun _ => ht⟩) (fun e => hh.1 e) (fun e => hh.2 e)
  refine hY _ ⟨fun _ => ⟨⟨by omega, by omega⟩, impl_IsFinite_wp ?_⟩, fun c => absurd (show (j : Int) < ll[i].length by omega) c⟩
  rw [nn, gD hj, w1 (by omega)]; exact h2
theorem impl_areFinite1_wp {l : List Nat} {K : Bool → Prop} (hl : l.length ≤ 2 ^ 20) (h : K (pAll l)) : impl_areFinite.wp [l] K := by
  refine impl_areFinite_wp (by simp) (fun x hx => by rw [List.mem_singleton] at hx; subst hx; exact hl) ?_
  rw [List.all_cons, List.all_nil, Bool.and_true]; exact h
theorem impl_within_wp {a b c : Int} {K : Bool → Prop} (h : K (decide (b ≤ a ∧ a ≤ c))) : impl_within.wp a b c K := by
  refine ⟨fun h1 => ?_, fun h1 => ?_⟩
  · have : decide (b ≤ a ∧ a ≤ c) = decide (a ≤ c) := by simp [h1]
    rw [this] at h; exact h
  · have : decide (b ≤ a ∧ a ≤ c) = false := by simp [h1]
    rw [this] at h; exact h
theorem spec_l00In_wp {a b c : Int} {K : Bool → Prop} (h : K (decide (b ≤ a ∧ a ≤ c))) : spec_l00In.wp a b c K := by
  refine ⟨fun h1 => ?_, fun h1 => ?_⟩
  · have : decide (b ≤ a ∧ a ≤ c) = decide (a ≤ c) := by simp [h1]
    rw [this] at h; exact h
  · have : decide (b ≤ a ∧ a ≤ c) = false := by simp [h1]
    rw [this] at h; exact h
theorem bT {b : Bool} {A B : Prop} (h1 : b = true → A) (h2 : b = false → B) : (b = true → A) ∧ (b = false → B) := ⟨h1, h2⟩
def isL (l : List Nat) : Bool := decide (1 ≤ l.length ∧ l.length ≤ 128) && pAll l
def isOver (x : Nat) : Bool := pFin x && fcmp .gtr .f32 x (cz .f32 0)
def isLeast (x : Nat) : Bool := pFin x && fcmp .geq .f32 x (cz .f32 0)
theorem spec_l02Least_wp {a : Nat} {K : Bool → Prop} (h : K (isLeast a)) : spec_l02Least.wp a K := by
  refine spec_l01Finite_wp ⟨fun h1 => ?_, fun h1 => ?_⟩ <;> (rw [isLeast, h1] at h; exact h)
theorem impl_isLeast_wp {a : Nat} {K : Bool → Prop} (h : K (isLeast a)) : impl_isLeast.wp a K := by
  refine impl_IsFinite_wp ⟨fun h1 => ?_, fun h1 => ?_⟩ <;> (rw [isLeast, h1] at h; exact h)
def isShare (x : Nat) : Bool := fcmp .geq .f32 x (cz .f32 0) && fcmp .leq .f32 x (cz .f32 1065353216)
theorem spec_l02Share_wp {a : Nat} {K : Bool → Prop} (h : K (isShare a)) : spec_l02Share.wp a K := by
  refine ⟨fun h1 => ?_, fun h1 => ?_⟩ <;> (rw [isShare, h1] at h; exact h)
theorem impl_isShare_wp {a : Nat} {K : Bool → Prop} (h : K (isShare a)) : impl_isShare.wp a K := by
  refine ⟨fun h1 => ?_, fun h1 => ?_⟩ <;> (rw [isShare, h1] at h; exact h)
/-! ### integers -/
def bnd (m : Int) (l : List Int) : Bool := l.all fun n => decide (-m ≤ n ∧ n ≤ m)
def isI (l : List Int) : Bool := decide (1 ≤ l.length ∧ l.length ≤ 128) && bnd 1000000 l
theorem spec_l02Bound_wp {l : List Int} {m : Int} {K : Bool → Prop} (hl : l.length ≤ 2 ^ 20) (hm : 0 ≤ m ∧ m ≤ 2 ^ 40) (h : K (bnd m l)) : spec_l02Bound.wp l m K := by
  intro X hX
  refine all_loop l (fun n => decide (-m ≤ n ∧ n ≤ m)) (X := X) (T := K true) (F := K false) (fun i hi hh => ?_) (fun ht => hX _ ⟨fun c => absurd c (by omega), fun _ => ht⟩) (fun e => by rw [bnd, e] at h; exact h) (fun e => by rw [bnd, e] at h; exact h)
  refine hX _ ⟨fun _ => ⟨⟨by omega, by omega⟩, spec_l00In_wp ?_⟩, fun c => absurd (show (i : Int) < l.length by omega) c⟩
  rw [nn, gD hi, w1 (by omega), wI (show -9223372036854775808 ≤ (0 : Int) - m ∧ (0 : Int) - m < 9223372036854775808 by omega), Int.zero_sub]; exact hh
theorem impl_areWithin_wp {l : List Int} {m : Int} {K : Bool → Prop} (hl : l.length ≤ 2 ^ 20) (hm : 0 ≤ m ∧ m ≤ 2 ^ 40) (h : K (bnd m l)) : impl_areWithin.wp l m K := by
  intro X hX
  refine all_loop l (fun n => decide (-m ≤ n ∧ n ≤ m)) (X := X) (T := K true) (F := K false) (fun i hi hh => ?_) (fun ht => hX _ ⟨fun c => absurd c (by omega), fun _ => ht⟩) (fun e => by rw [bnd, e] at h; exact h) (fun e => by rw [bnd, e] at h; exact h)
  refine hX _ ⟨fun _ => ⟨⟨by omega, by omega⟩, impl_within_wp ?_⟩, fun c => absurd (show (i : Int) < l.length by omega) c⟩
  rw [nn, gD hi, w1 (by omega), wI (show -9223372036854775808 ≤ (0 : Int) - m ∧ (0 : Int) - m < 9223372036854775808 by omega), Int.zero_sub]; exact hh
theorem spec_l02Integers_wp {l : List Int} {K : Bool → Prop} (hl : l.length ≤ 2 ^ 20) (h : K (isI l)) : spec_l02Integers.wp l K := by
  refine ⟨fun h1 => ⟨fun h2 => spec_l02Bound_wp hl (by omega) ?_, fun h2 => ?_⟩, fun h1 => ?_⟩
  · rw [isI, decide_eq_true (show 1 ≤ l.length ∧ l.length ≤ 128 by omega), Bool.true_and] at h; exact h
  · rw [isI, decide_eq_false (show ¬(1 ≤ l.length ∧ l.length ≤ 128) by omega), Bool.false_and] at h; exact h
  · rw [isI, decide_eq_false (show ¬(1 ≤ l.length ∧ l.length ≤ 128) by omega), Bool.false_and] at h; exact h
theorem impl_AreIntegers_wp {l : List Int} {K : Bool → Prop} (hl : l.length ≤ 2 ^ 20) (h : K (isI l)) : impl_AreIntegers.wp l K := by
  refine impl_within_wp ⟨fun h1 => ?_, fun h1 => ?_⟩
  · have h1 := of_decide_eq_true h1
    refine impl_areWithin_wp hl (by omega) ?_
    rw [isI, decide_eq_true (show 1 ≤ l.length ∧ l.length ≤ 128 by omega), Bool.true_and] at h; exact h
  · have h1 := of_decide_eq_false h1
    rw [isI, decide_eq_false (show ¬(1 ≤ l.length ∧ l.length ≤ 128) by omega), Bool.false_and] at h; exact h
theorem impl_finiteList_wp {l : List Nat} {K : Bool → Bool → Prop} (hl : l.length ≤ 2 ^ 20) (h : K (pAll l) (pAll l)) : impl_finiteList.wp l K := by
  refine impl_areFinite1_wp hl ⟨fun h1 => ?_, fun h1 => ?_⟩ <;> (rw [h1] at h; exact h)

end Go.Proofs.Ytecdkjnomkdbkaa.G

namespace Go.Proofs.Ytecdkjnomkdbkaa.G
open Go Go.Ab
set_option maxRecDepth 100000
set_option linter.unusedVariables false
set_option linter.unusedSimpArgs false
set_option maxHeartbeats 1000000
theorem toCostS_wp {l : List (Int × Nat)} {K : List (Int × Nat) → Prop} (hl : l.length ≤ 2 ^ 20) (h : K l) : laws_toCostS.wp l K := by
  refine ⟨⟨by omega, by omega, by omega, by omega⟩, fun X hX => ?_⟩
  have key : X (l.take 0 ++ List.replicate (l.length - 0) ((0 : Int), (0 : Nat))) ((0 : Nat) : Int) := by
    refine up (Y := fun i => X (l.take i ++ List.replicate (l.length - i) ((0 : Int), (0 : Nat))) (i : Int)) l.length ?_ fun i hi hn => ?_
    · refine hX _ _ ⟨fun c => absurd c (by omega), fun _ => ?_⟩
      rw [List.take_length, Nat.sub_self, List.replicate_zero, List.append_nil]; exact h
    · refine hX _ _ ⟨fun _ => ⟨⟨by omega, by omega⟩, ⟨by omega, ?_⟩, ?_⟩, fun c => absurd (show (i : Int) < l.length by omega) c⟩
      · rw [List.length_append, List.length_take, List.length_replicate]; omega
      · rw [nn, w1 (by omega), gD hi, set_fill ((0 : Int), (0 : Nat)) (by omega) hi]
        exact hn
  rw [List.take_zero, List.nil_append, Nat.sub_zero] at key; exact key
theorem eqCostS_wp {l : List (Int × Nat)} {K : Bool → Prop} (hl : l.length ≤ 2 ^ 20) (h : K true) : laws_eqCostS.wp l l K := by
  refine tP rfl fun X hX => ?_
  refine up (Y := fun i => X (i : Int)) l.length ?_ fun i hi hn => ?_
  · exact hX _ ⟨fun c => absurd c (by omega), fun _ => h⟩
  · refine hX _ ⟨fun _ => ⟨⟨by omega, by omega⟩, ⟨by omega, by omega⟩, tP rfl (sameFloat_wp (tT (tT ?_)))⟩, fun c => absurd (show (i : Int) < l.length by omega) c⟩
    rw [w1 (by omega)]; exact hn
theorem szCostS_wp {l : List (Int × Nat)} {n : Int} {K : Int → Prop} (hl : l.length ≤ 2 ^ 20) (hn : 2 ^ 20 ≤ n ∧ n ≤ 2 ^ 40) (h : K (n - (l.length : Int))) : laws_szCostS.wp l n K := by
  have e : IntKind.i64.wrap (n - (l.length : Int)) = n - (l.length : Int) := wI (by omega)
  refine ⟨fun c => absurd c (by rw [e]; omega), fun _ => ?_⟩
  rw [e]; exact h
theorem szCostS_law {l : List (Int × Nat)} {K : Int → Prop} (hl : l.length ≤ maxLen) (h0 : K (-1)) (h : l.length ≤ 2 ^ 20 → K (1048576 - (l.length : Int))) : laws_szCostS.wp l 1048576 K := by
  have hm : l.length < 2 ^ 63 := Nat.lt_of_le_of_lt hl (by decide)
  have e : IntKind.i64.wrap (1048576 - (l.length : Int)) = 1048576 - (l.length : Int) := wI (by omega)
  refine ⟨fun c => h0, fun c => ?_⟩
  rw [e] at c ⊢; exact h (by omega)
def mkC (k : Nat) : Nat → List (Int × Nat)
  | 0 => []
  | n + 1 => (((k : Int), itof .f32 ((k : Int) + 1))) :: mkC (k + 2) n
theorem mkC_append (k : Nat) : ∀ i, mkC k (i + 1) = mkC k i ++ [(((k + 2 * i : Nat) : Int), itof .f32 (((k + 2 * i : Nat) : Int) + 1))] := by
  intro i
  induction i generalizing k with
  | zero => rfl
  | succ i ih => rw [mkC, ih, show mkC k (i + 1) = ((k : Int), itof .f32 ((k : Int) + 1)) :: mkC (k + 2) i from rfl, List.cons_append, show k + 2 + 2 * i = k + 2 * (i + 1) by omega]
theorem mkC_len (k : Nat) : ∀ n, (mkC k n).length = n
  | 0 => rfl
  | n + 1 => by rw [mkC, List.length_cons, mkC_len]
theorem set2 {α : Type} (p : List α) (a b c : α) (q : List α) : ((p ++ a :: q).set p.length b) = p ++ b :: q := by
  rw [List.set_append_right _ _ (Nat.le_refl _), Nat.sub_self]; rfl
theorem markCostS_wp {l : List (Int × Nat)} {k : Nat} {K : Int → List (Int × Nat) → Prop} (hl : l.length ≤ 2 ^ 20) (hk : k ≤ 2 ^ 44) (h : ∀ o : List (Int × Nat), o.length = l.length → K ((k + 2 * l.length : Nat) : Int) o) : laws_markCostS.wp l (k : Int) K := by
  intro X hX
  have key : X (mkC k 0 ++ l.drop 0) ((k + 2 * 0 : Nat) : Int) ((0 : Nat) : Int) := by
    refine up (Y := fun i => X (mkC k i ++ l.drop i) ((k + 2 * i : Nat) : Int) (i : Int)) l.length ?_ fun i hi hn => ?_
    · refine hX _ _ _ ⟨fun c => absurd c (by rw [List.length_append, mkC_len, List.length_drop]; omega), fun _ => ?_⟩
      exact h _ (by rw [List.length_append, mkC_len, List.length_drop]; omega)
    · have hlen : (mkC k i ++ l.drop i).length = l.length := by rw [List.length_append, mkC_len, List.length_drop]; omega
      refine hX _ _ _ ⟨fun _ => ⟨⟨by omega, by rw [hlen]; omega⟩, ⟨by omega, by rw [List.length_set, hlen]; omega⟩, ?_⟩, fun c => absurd (show (i : Int) < _ by rw [hlen]; omega) c⟩
      rw [nn, w1 (i := i) (by omega), w1 (i := k + 2 * i) (by omega), w1 (i := k + 2 * i + 1) (by omega)]
      have e1 : (mkC k i ++ l.drop i) = mkC k i ++ l[i] :: l.drop (i + 1) := by rw [dropC hi]
      have e2 : ∀ x : Int × Nat, (mkC k i ++ l[i] :: l.drop (i + 1)).set i x = mkC k i ++ x :: l.drop (i + 1) := fun x => by
        have := set2 (mkC k i) l[i] x x (l.drop (i + 1)); rw [mkC_len] at this; exact this
      have e3 : ∀ x y : Int × Nat, (mkC k i ++ x :: l.drop (i + 1)).set i y = mkC k i ++ y :: l.drop (i + 1) := fun x y => by
        have := set2 (mkC k i) x y y (l.drop (i + 1)); rw [mkC_len] at this; exact this
      have e4 : ∀ x d : Int × Nat, (mkC k i ++ x :: l.drop (i + 1)).getD i d = x := fun x d => by
        rw [List.getD_eq_getElem?_getD, List.getElem?_append_right (by rw [mkC_len]; omega), mkC_len, Nat.sub_self]; rfl
      rw [e1, e2, e3, e4]
      rw [mkC_append, List.append_assoc, List.singleton_append] at hn
      exact hn
  exact key
def cAt (l : List (Int × Nat)) (i : Nat) : Bool := decide (0 ≤ (l.getD i (0, 0)).1 ∧ (l.getD i (0, 0)).1 ≤ 512) && isLeast (l.getD i (0, 0)).2 && (decide (i = 0) || (decide ((l.getD (i - 1) (0, 0)).1 < (l.getD i (0, 0)).1) && !(fcmp .geq .f32 (l.getD i (0, 0)).2 (l.getD (i - 1) (0, 0)).2)))
def isC (l : List (Int × Nat)) : Bool := decide (1 ≤ l.length ∧ l.length ≤ 16) && (List.range l.length).all (cAt l)
theorem wm (i : Nat) (h : i < 4611686018427387904) : IntKind.i64.wrap ((i : Int) - 1) = (i : Int) - 1 := wI (by omega)
theorem range_get {n i : Nat} (h : i < (List.range n).length) : (List.range n)[i] = i := List.getElem_range h
theorem spec_l07Costs_wp {l : List (Int × Nat)} {K : Bool → Prop} (hl : l.length ≤ 2 ^ 20) (h : K (isC l)) : spec_l07Costs.wp l K := by
  refine ⟨fun h1 => ?_, fun h1 => ⟨fun h2 => ?_, fun h2 => ?_⟩⟩
  · rw [isC, decide_eq_false (by omega)] at h; exact h
  · rw [isC, decide_eq_false (by omega)] at h; exact h
  rw [isC, decide_eq_true (by omega), Bool.true_and] at h
  intro X hX
  refine all_loop (List.range l.length) (cAt l) (X := X) (T := K true) (F := K false) (fun i hi hh => ?_) (fun ht => hX _ ⟨fun c => absurd c (by rw [List.length_range]; omega), fun _ => ht⟩) (fun e => by rw [e] at h; exact h) (fun e => by rw [e] at h; exact h)
  rw [range_get] at hh; rw [List.length_range] at hi
  refine hX _ ⟨fun _ => ⟨⟨by omega, by omega⟩, ?_⟩, fun c => absurd (show (i : Int) < l.length by omega) c⟩
  rw [nn, w1 (by omega), wm i (by omega), show ((i : Int) - 1).toNat = i - 1 by omega]
  refine spec_l00In_wp ⟨fun h3 => spec_l02Least_wp ⟨fun h4 => ⟨fun h5 => ⟨⟨by omega, by omega⟩, ⟨fun h6 => ?_, fun h6 => ⟨fun h7 => ?_, fun h7 => ?_⟩⟩⟩, fun h5 => ?_⟩, fun h4 => ?_⟩, fun h3 => ?_⟩
  · exact hh.2 (by rw [cAt, h3, h4, decide_eq_false (show ¬ i = 0 by omega), decide_eq_false (show ¬ (l.getD (i - 1) (0, 0)).1 < (l.getD i (0, 0)).1 by omega)]; rfl)
  · exact hh.2 (by rw [cAt, h7, decide_eq_false (show ¬ i = 0 by omega)]; simp)
  · exact hh.1 (by rw [cAt, h3, h4, h7, decide_eq_false (show ¬ i = 0 by omega), decide_eq_true (show (l.getD (i - 1) (0, 0)).1 < (l.getD i (0, 0)).1 by omega)]; rfl)
  · exact hh.1 (by rw [cAt, h3, h4, decide_eq_true (show i = 0 by omega)]; rfl)
  · exact hh.2 (by rw [cAt, h4]; simp)
  · exact hh.2 (by rw [cAt, h3]; rfl)
theorem impl_AreCosts_wp {l : List (Int × Nat)} {K : Bool → Prop} (hl : l.length ≤ 2 ^ 20) (h : K (isC l)) : impl_AreCosts.wp l K := by
  refine impl_within_wp ⟨fun h1 => ?_, fun h1 => ?_⟩
  rotate_left
  · have h1 := of_decide_eq_false h1
    rw [isC, decide_eq_false (by omega)] at h; exact h
  have h1 := of_decide_eq_true h1
  rw [isC, decide_eq_true (by omega), Bool.true_and] at h
  intro X hX
  refine all_loop (List.range l.length) (cAt l) (X := X) (T := K true) (F := K false) (fun i hi hh => ?_) (fun ht => hX _ ⟨fun c => absurd c (by rw [List.length_range]; omega), fun _ => ht⟩) (fun e => by rw [e] at h; exact h) (fun e => by rw [e] at h; exact h)
  rw [range_get] at hh; rw [List.length_range] at hi
  refine hX _ ⟨fun _ => ⟨⟨by omega, by omega⟩, ?_⟩, fun c => absurd (show (i : Int) < l.length by omega) c⟩
  rw [nn, w1 (by omega), wm i (by omega), show ((i : Int) - 1).toNat = i - 1 by omega]
  refine impl_within_wp ⟨fun h3 => impl_isLeast_wp ⟨fun h4 => ⟨fun h5 => ⟨⟨by omega, by omega⟩, ⟨fun h6 => ?_, fun h6 => ⟨fun h7 => ?_, fun h7 => ?_⟩⟩⟩, fun h5 => ?_⟩, fun h4 => ?_⟩, fun h3 => ?_⟩
  · exact hh.2 (by rw [cAt, h3, h4, decide_eq_false (show ¬ i = 0 by omega), decide_eq_false (show ¬ (l.getD (i - 1) (0, 0)).1 < (l.getD i (0, 0)).1 by omega)]; rfl)
  · exact hh.2 (by rw [cAt, h7, decide_eq_false (show ¬ i = 0 by omega)]; simp)
  · exact hh.1 (by rw [cAt, h3, h4, h7, decide_eq_false (show ¬ i = 0 by omega), decide_eq_true (show (l.getD (i - 1) (0, 0)).1 < (l.getD i (0, 0)).1 by omega)]; rfl)
  · exact hh.1 (by rw [cAt, h3, h4, decide_eq_true (show i = 0 by omega)]; rfl)
  · exact hh.2 (by rw [cAt, h4]; simp)
  · exact hh.2 (by rw [cAt, h3]; rfl)
theorem isC_len {l : List (Int × Nat)} (h : isC l = true) : 1 ≤ l.length ∧ l.length ≤ 16 := by
  simp only [isC, Bool.and_eq_true, decide_eq_true_eq] at h; exact h.1
theorem isC_bits {l : List (Int × Nat)} (h : isC l = true) (i : Nat) (hi : i < l.length) : 0 ≤ (l.getD i (0, 0)).1 ∧ (l.getD i (0, 0)).1 ≤ 512 := by
  simp only [isC, Bool.and_eq_true, List.all_eq_true] at h
  have := h.2 i (List.mem_range.mpr hi)
  simp only [cAt, Bool.and_eq_true, decide_eq_true_eq] at this
  exact this.1.1

end Go.Proofs.Ytecdkjnomkdbkaa.G

namespace Go.Proofs.Ytecdkjnomkdbkaa.G
open Go Go.Ab
set_option maxRecDepth 100000
set_option linter.unusedVariables false
set_option linter.unusedSimpArgs false
set_option maxHeartbeats 1000000
abbrev Cs := List (List (Int × Nat))
def csN : List (Int × Nat) := ([] : List ((Int) × (Nat)))
/-- What a law is handed. -/
def CsIn (l : Cs) : Prop := ∀ z ∈ l, z.length ≤ maxLen ∧ True
/-- What is small. -/
def CsOk (l : Cs) : Prop := l.length ≤ 2 ^ 20 ∧ ∀ z ∈ l, z.length ≤ 2 ^ 20
theorem CsOk.at {l : Cs} (h : CsOk l) (i : Nat) : (l.getD i csN).length ≤ 2 ^ 20 := by
  by_cases c : i < l.length
  · rw [gD c]; exact h.2 _ (List.getElem_mem c)
  · rw [List.getD_eq_getElem?_getD, List.getElem?_eq_none (by omega)]; exact Nat.zero_le _
theorem szCostSS_wp {l : Cs} {K : Int → Prop} (hl : l.length ≤ maxLen) (hin : CsIn l) (h0 : K (-1)) (h : CsOk l → ∀ m, 0 ≤ m → K m) : laws_szCostSS.wp l 1048576 K := by
  have hm : l.length < 2 ^ 63 := Nat.lt_of_le_of_lt hl (by decide)
  have e : IntKind.i64.wrap (1048576 - (l.length : Int)) = 1048576 - (l.length : Int) := wI (by omega)
  refine ⟨fun c => h0, fun c => ?_⟩
  rw [e] at c ⊢
  intro X hX
  have key : ∀ (m i : Nat) (r : Int), m + i = l.length → 0 ≤ r → r ≤ 1048576 → (∀ z ∈ l.take i, z.length ≤ 2 ^ 20) → X r (i : Int) := by
    intro m
    induction m with
    | zero => intro i r h1 h2 h2' h3
              obtain rfl : i = l.length := by omega
              rw [List.take_length] at h3
              exact hX _ _ ⟨fun c => absurd c (by omega), fun _ => h ⟨by omega, h3⟩ r h2⟩
    | succ m ih =>
      intro i r h1 h2 h2' h3
      have hi : i < l.length := by omega
      have hz := (hin _ (List.getElem_mem hi)).1
      have hz2 : l[i].length < 2 ^ 63 := Nat.lt_of_le_of_lt hz (by decide)
      refine hX _ _ ⟨fun _ => ⟨⟨by omega, by omega⟩, ?_⟩, fun c => absurd (show (i : Int) < l.length by omega) c⟩
      rw [nn, gD hi, w1 (by omega)]
      have e2 : IntKind.i64.wrap (r - (l[i].length : Int)) = r - (l[i].length : Int) := wI (by omega)
      refine ⟨fun _ => tP (by omega) h0, fun c2 => ?_⟩
      rw [e2] at c2 ⊢
      refine tN (by omega) (ih (i + 1) _ (by omega) (by omega) (by omega) fun z hzz => ?_)
      rw [List.take_succ_eq_append_getElem hi, List.mem_append, List.mem_singleton] at hzz
      rcases hzz with hzz | rfl
      · exact h3 z hzz
      · omega
  exact key l.length 0 _ (by omega) (by omega) (by omega) (fun z hz => by cases hz)
theorem toCostSS_wp {l : Cs} {K : Cs → Prop} (hl : CsOk l) (h : K l) : laws_toCostSS.wp l K := by
  obtain ⟨hl, hz⟩ := hl
  refine ⟨⟨by omega, by omega, by omega, by omega⟩, fun X hX => ?_⟩
  have key : X (l.take 0 ++ List.replicate (l.length - 0) csN) ((0 : Nat) : Int) := by
    refine up (Y := fun i => X (l.take i ++ List.replicate (l.length - i) csN) (i : Int)) l.length ?_ fun i hi hn => ?_
    · refine hX _ _ ⟨fun c => absurd c (by omega), fun _ => ?_⟩
      rw [List.take_length, Nat.sub_self, List.replicate_zero, List.append_nil]; exact h
    · refine hX _ _ ⟨fun _ => ⟨⟨by omega, by omega⟩, ?_⟩, fun c => absurd (show (i : Int) < l.length by omega) c⟩
      rw [nn, w1 (by omega), gD hi]
      refine toCostS_wp (hz _ (List.getElem_mem hi)) ⟨⟨by omega, ?_⟩, ?_⟩
      · rw [List.length_append, List.length_take, List.length_replicate]; omega
      · rw [set_fill csN (by omega) hi]
        exact hn
  rw [List.take_zero, List.nil_append, Nat.sub_zero] at key; exact key
theorem eqCostSS_wp {l : Cs} {K : Bool → Prop} (hl : CsOk l) (h : K true) : laws_eqCostSS.wp l l K := by
  obtain ⟨hl, hz⟩ := hl
  refine tP rfl fun X hX => ?_
  refine up (Y := fun i => X (i : Int)) l.length ?_ fun i hi hn => ?_
  · exact hX _ ⟨fun c => absurd c (by omega), fun _ => h⟩
  · refine hX _ ⟨fun _ => ⟨⟨by omega, by omega⟩, ⟨by omega, by omega⟩, ?_⟩, fun c => absurd (show (i : Int) < l.length by omega) c⟩
    rw [nn, gD hi, w1 (by omega)]
    exact eqCostS_wp (hz _ (List.getElem_mem hi)) (tT hn)
theorem markCostSS_wp {l : Cs} {K : Int → Cs → Prop} (hl : CsOk l) (h : ∀ (m : Nat) (o : Cs), K (m : Int) o) : laws_markCostSS.wp l 1 K := by
  intro X hX
  have key : ∀ (m i : Nat) (o : Cs) (k : Nat), m + i = l.length → CsOk o → o.length = l.length → k ≤ 1 + 2 ^ 21 * i → X o (k : Int) (i : Int) := by
    intro m
    induction m with
    | zero =>
      intro i o k h1 h2 h3 h4
      exact hX _ _ _ ⟨fun c => absurd c (by omega), fun _ => h k o⟩
    | succ m ih =>
      intro i o k h1 h2 h3 h4
      have hi : i < o.length := by omega
      have hlen := hl.1
      refine hX _ _ _ ⟨fun _ => ⟨⟨by omega, by omega⟩, ?_⟩, fun c => absurd (show (i : Int) < o.length by omega) c⟩
      rw [nn, gD hi, w1 (by omega)]
      have hoi := h2.2 _ (List.getElem_mem hi)
      refine markCostS_wp hoi (by omega) fun p hp => ?_
      refine ih (i + 1) _ _ (by omega) ⟨by rw [List.length_set]; exact h2.1, fun z hz => ?_⟩ (by rw [List.length_set]; exact h3) (by omega)
      rcases List.mem_or_eq_of_mem_set hz with hz | rfl
      · exact h2.2 z hz
      · omega
  exact key l.length 0 l 1 (by omega) hl rfl (by omega)
def isB (l : Cs) : Bool := decide (1 ≤ l.length ∧ l.length ≤ 8) && l.all isC
theorem isB_len {l : Cs} (h : isB l = true) : 1 ≤ l.length ∧ l.length ≤ 8 := by
  unfold isB at h; rw [Bool.and_eq_true, decide_eq_true_eq] at h; exact h.1
theorem isB_at {l : Cs} (h : isB l = true) {i : Nat} (hi : i < l.length) : isC (l.getD i csN) = true := by
  unfold isB at h; rw [Bool.and_eq_true, List.all_eq_true] at h
  rw [gD hi]; exact h.2 _ (List.getElem_mem hi)
theorem spec_l07Blocks_wp {l : Cs} {K : Bool → Prop} (hl : CsOk l) (h : K (isB l)) : spec_l07Blocks.wp l K := by
  have h20 := hl.1
  by_cases c : 1 ≤ l.length ∧ l.length ≤ 8
  · refine tN (by omega) (tN (by omega) fun X hX => ?_)
    have e : isB l = l.all isC := by rw [isB, decide_eq_true c, Bool.true_and]
    rw [e] at h
    refine all_loop l isC (X := X) (T := K true) (F := K false) (fun i hi hh => ?_) (fun ht => hX _ ⟨fun c => absurd c (by omega), fun _ => ht⟩) (fun e => by rw [e] at h; exact h) (fun e => by rw [e] at h; exact h)
    refine hX _ ⟨fun _ => ⟨⟨by omega, by omega⟩, ?_⟩, fun c => absurd (show (i : Int) < l.length by omega) c⟩
    rw [nn, gD hi, w1 (by omega)]
    exact spec_l07Costs_wp (hl.2 _ (List.getElem_mem hi)) hh
  · have e : isB l = false := by rw [isB, decide_eq_false c, Bool.false_and]
    rw [e] at h
    exact ⟨fun _ => h, fun c1 => ⟨fun _ => h, fun c2 => absurd (⟨by omega, by omega⟩ : 1 ≤ l.length ∧ l.length ≤ 8) c⟩⟩
theorem impl_areBlocks_wp {l : Cs} {K : Bool → Prop} (hl : CsOk l) (h : K (isB l)) : impl_areBlocks.wp l K := by
  have h20 := hl.1
  refine impl_within_wp ?_
  by_cases c : 1 ≤ l.length ∧ l.length ≤ 8
  · refine tE (decide_eq_true (by omega)) fun X hX => ?_
    have e : isB l = l.all isC := by rw [isB, decide_eq_true c, Bool.true_and]
    rw [e] at h
    refine all_loop l isC (X := X) (T := K true) (F := K false) (fun i hi hh => ?_) (fun ht => hX _ ⟨fun c => absurd c (by omega), fun _ => ht⟩) (fun e => by rw [e] at h; exact h) (fun e => by rw [e] at h; exact h)
    refine hX _ ⟨fun _ => ⟨⟨by omega, by omega⟩, ?_⟩, fun c => absurd (show (i : Int) < l.length by omega) c⟩
    rw [nn, gD hi, w1 (by omega)]
    exact impl_AreCosts_wp (hl.2 _ (List.getElem_mem hi)) hh
  · have e : isB l = false := by rw [isB, decide_eq_false c, Bool.false_and]
    rw [e] at h
    exact tG (decide_eq_false (by omega)) h

end Go.Proofs.Ytecdkjnomkdbkaa.G

namespace Go.Proofs.Ytecdkjnomkdbkaa.G
open Go Go.Ab
set_option maxRecDepth 100000
set_option linter.unusedVariables false
set_option linter.unusedSimpArgs false
set_option maxHeartbeats 1000000
abbrev Cell := (Bool) × (Nat) × (Int)
abbrev Rw := List ((Bool) × (Nat) × (Int))
def Z : Cell := (false, (0 : Nat), (0 : Int))
def ZC : Int × Nat := ((0 : Int), (0 : Nat))
/-- One cost is tried at place b. -/
def cellU (bf : Rw) (bl : List (Int × Nat)) (b : Nat) (R : Rw) (i : Nat) : Rw :=
  if (b : Int) < (bl.getD i ZC).1 then R
  else if (bf.getD ((b : Int) - (bl.getD i ZC).1).toNat Z).1 = true then
    (if (R.getD b Z).1 = true then
      (if fcmp .lss .f32 (fop .add .f32 (bf.getD ((b : Int) - (bl.getD i ZC).1).toNat Z).2.1 (bl.getD i ZC).2) (R.getD b Z).2.1 = true then R.set b (true, fop .add .f32 (bf.getD ((b : Int) - (bl.getD i ZC).1).toNat Z).2.1 (bl.getD i ZC).2, (i : Int)) else R)
     else R.set b (true, fop .add .f32 (bf.getD ((b : Int) - (bl.getD i ZC).1).toNat Z).2.1 (bl.getD i ZC).2, (i : Int)))
  else R
def cellR (bf : Rw) (bl : List (Int × Nat)) (b : Nat) (R : Rw) : Nat → Rw
  | 0 => R
  | i + 1 => cellU bf bl b (cellR bf bl b R i) i
def rowR (bf : Rw) (bl : List (Int × Nat)) (B : Nat) : Nat → Rw
  | 0 => List.replicate (B + 1) Z
  | b + 1 => cellR bf bl b (rowR bf bl B b) bl.length
def begR (B : Nat) : Nat → Rw
  | 0 => List.replicate (B + 1) Z
  | b + 1 => (begR B b).set b (true, ((begR B b).getD b Z).2.1, ((begR B b).getD b Z).2.2)
def befR (l : Cs) (B : Nat) : Nat → Rw
  | 0 => begR B (B + 1)
  | k + 1 => rowR (befR l B k) (l.getD k csN) B (B + 1)
def tabR (l : Cs) (B : Nat) (k : Nat) : List Rw := (List.range k).map fun j => befR l B (j + 1)
theorem cellU_len (bf : Rw) (bl : List (Int × Nat)) (b : Nat) (R : Rw) (i : Nat) : (cellU bf bl b R i).length = R.length := by
  unfold cellU
  repeat' split
  all_goals first | rfl | exact List.length_set
theorem cellR_len (bf : Rw) (bl : List (Int × Nat)) (b : Nat) (R : Rw) : ∀ i, (cellR bf bl b R i).length = R.length
  | 0 => rfl
  | i + 1 => by rw [cellR, cellU_len, cellR_len]
theorem rowR_len (bf : Rw) (bl : List (Int × Nat)) (B : Nat) : ∀ b, (rowR bf bl B b).length = B + 1
  | 0 => List.length_replicate
  | b + 1 => by rw [rowR, cellR_len, rowR_len]
theorem begR_len (B : Nat) : ∀ b, (begR B b).length = B + 1
  | 0 => List.length_replicate
  | b + 1 => by rw [begR, List.length_set, begR_len]
theorem befR_len (l : Cs) (B : Nat) : ∀ k, (befR l B k).length = B + 1
  | 0 => begR_len B _
  | k + 1 => rowR_len _ _ B _
theorem tabR_len (l : Cs) (B k : Nat) : (tabR l B k).length = k := by rw [tabR, List.length_map, List.length_range]
theorem tabR_s (l : Cs) (B k : Nat) : tabR l B (k + 1) = tabR l B k ++ [befR l B (k + 1)] := by
  unfold tabR; rw [List.range_succ, List.map_append]; rfl
theorem tabR_at (l : Cs) (B : Nat) {k n : Nat} (h : k < n) (d : Rw) : (tabR l B n).getD k d = befR l B (k + 1) := by
  rw [gD (by rw [tabR_len]; exact h)]
  unfold tabR
  rw [List.getElem_map, List.getElem_range]
/-! ### what stands in a row -/
/-- The entry r at place j leads to a cost and to an entry of the row before. -/
def okE (bf : Rw) (bl : List (Int × Nat)) (j : Nat) (r : Cell) : Prop := r.1 = true → ∃ i : Nat, r.2.2 = (i : Int) ∧ i < bl.length ∧ (bl.getD i ZC).1 ≤ (j : Int) ∧ (bf.getD ((j : Int) - (bl.getD i ZC).1).toNat Z).1 = true
def okR (bf : Rw) (bl : List (Int × Nat)) (R : Rw) : Prop := ∀ j, okE bf bl j (R.getD j Z)
theorem set_get {α : Type} (l : List α) (b j : Nat) (x d : α) : (l.set b x).getD j d = if b = j ∧ b < l.length then x else l.getD j d := by
  rw [List.getD_eq_getElem?_getD, List.getD_eq_getElem?_getD, List.getElem?_set]
  by_cases e : b = j
  · subst e
    by_cases c : b < l.length
    · rw [if_pos rfl, if_pos c, if_pos ⟨rfl, c⟩]; rfl
    · rw [if_pos rfl, if_neg c, if_neg (fun h => c h.2), List.getElem?_eq_none (by omega)]
  · rw [if_neg e, if_neg (fun h => e h.1)]
theorem okR_set {bf : Rw} {bl : List (Int × Nat)} {R : Rw} (h : okR bf bl R) {b : Nat} {x : Cell} (hx : okE bf bl b x) : okR bf bl (R.set b x) := by
  intro j
  rw [set_get]
  split
  · rename_i c; rw [← c.1]; exact hx
  · exact h j
theorem okR_cellU {bf : Rw} {bl : List (Int × Nat)} {R : Rw} {b i : Nat} (h : okR bf bl R) (hi : i < bl.length) : okR bf bl (cellU bf bl b R i) := by
  unfold cellU
  split
  · exact h
  · rename_i c1
    split
    · rename_i c2
      have hx : ∀ s, okE bf bl b (true, s, (i : Int)) := fun s _ => ⟨i, rfl, hi, by omega, c2⟩
      split
      · split
        · exact okR_set h (hx _)
        · exact h
      · exact okR_set h (hx _)
    · exact h
theorem okR_cellR {bf : Rw} {bl : List (Int × Nat)} {R : Rw} {b : Nat} (h : okR bf bl R) : ∀ i, i ≤ bl.length → okR bf bl (cellR bf bl b R i)
  | 0, _ => h
  | i + 1, hi => okR_cellU (okR_cellR h i (by omega)) (by omega)
theorem rep_get {α : Type} (n j : Nat) (d : α) : (List.replicate n d).getD j d = d := by
  rw [List.getD_eq_getElem?_getD, List.getElem?_replicate]
  split <;> rfl
theorem okR_row (bf : Rw) (bl : List (Int × Nat)) (B : Nat) : ∀ b, okR bf bl (rowR bf bl B b)
  | 0 => fun j => by
      unfold okE
      rw [rowR, rep_get]
      intro c; cases c
  | b + 1 => okR_cellR (okR_row bf bl B b) _ (Nat.le_refl _)
/-! ### the way back -/
def lfA (l : Cs) (B n : Nat) : Nat → Int
  | 0 => (B : Int)
  | d + 1 => lfA l B n d - ((l.getD (n - 1 - d) csN).getD (((befR l B (n - d)).getD (lfA l B n d).toNat Z).2.2).toNat ZC).1
def ouA (l : Cs) (B n : Nat) : Nat → List Int
  | 0 => List.replicate n 0
  | d + 1 => (ouA l B n d).set (n - 1 - d) ((befR l B (n - d)).getD (lfA l B n d).toNat Z).2.2
theorem ouA_len (l : Cs) (B n : Nat) : ∀ d, (ouA l B n d).length = n
  | 0 => List.length_replicate
  | d + 1 => by rw [ouA, List.length_set, ouA_len]
theorem lf_ok {l : Cs} {B n : Nat} (hB : isB l = true) (hn : n = l.length) (h0 : ((befR l B n).getD B Z).1 = true) : ∀ d, d ≤ n → 0 ≤ lfA l B n d ∧ lfA l B n d ≤ (B : Int) ∧ ((befR l B (n - d)).getD (lfA l B n d).toNat Z).1 = true
  | 0, _ => ⟨by rw [lfA]; omega, by rw [lfA]; omega, h0⟩
  | d + 1, hd => by
    obtain ⟨i1, i2, i3⟩ := lf_ok hB hn h0 d (by omega)
    have hk : n - d = (n - 1 - d) + 1 := by omega
    have hr : okR (befR l B (n - 1 - d)) (l.getD (n - 1 - d) csN) (befR l B (n - d)) := by rw [hk]; exact okR_row _ _ _ _
    obtain ⟨i, e1, e2, e3, e4⟩ := hr _ i3
    have hbits := isC_bits (isB_at hB (i := n - 1 - d) (by omega)) i e2
    rw [lfA, e1]
    rw [show ((i : Int)).toNat = i from rfl]
    have hb : ((l.getD (n - 1 - d) csN).getD i ZC).1 = ((l.getD (n - 1 - d) csN).getD i (0, 0)).1 := rfl
    rw [show ((lfA l B n d).toNat : Int) = lfA l B n d by omega] at e3 e4
    exact ⟨by omega, by omega, by rw [show n - (d + 1) = n - 1 - d by omega]; exact e4⟩
theorem lf_at {l : Cs} {B n : Nat} (hB : isB l = true) (hn : n = l.length) (h0 : ((befR l B n).getD B Z).1 = true) {d : Nat} (hd : d < n) : ∃ i : Nat, ((befR l B (n - d)).getD (lfA l B n d).toNat Z).2.2 = (i : Int) ∧ i < (l.getD (n - 1 - d) csN).length ∧ 0 ≤ ((l.getD (n - 1 - d) csN).getD i ZC).1 ∧ ((l.getD (n - 1 - d) csN).getD i ZC).1 ≤ 512 := by
  obtain ⟨i1, i2, i3⟩ := lf_ok hB hn h0 d (by omega)
  have hk : n - d = (n - 1 - d) + 1 := by omega
  have hr : okR (befR l B (n - 1 - d)) (l.getD (n - 1 - d) csN) (befR l B (n - d)) := by rw [hk]; exact okR_row _ _ _ _
  obtain ⟨i, e1, e2, e3, e4⟩ := hr _ i3
  exact ⟨i, e1, e2, isC_bits (isB_at hB (i := n - 1 - d) (by omega)) i e2⟩
/-! ### both programs -/
def bcOk (l : Cs) (B : Nat) : Bool := ((befR l B l.length).getD B Z).1 && pFin ((befR l B l.length).getD B Z).2.1
def bcA (l : Cs) (a : Int) : Bool := isB l && decide (0 ≤ a ∧ a ≤ 512) && bcOk l a.toNat
def bcL (l : Cs) (a : Int) : List Int := if bcA l a = true then ouA l a.toNat l.length l.length else []
def bcS (l : Cs) (a : Int) : Nat := if bcA l a = true then ((befR l a.toNat l.length).getD a.toNat Z).2.1 else cz .f32 0
theorem wB {n : Int} (h : -600 ≤ n ∧ n ≤ 2000) : IntKind.i64.wrap n = n := wI (by omega)
theorem bits_at {l : Cs} (hB : isB l = true) {x i : Nat} (hx : x < l.length) (hi : i < (l.getD x csN).length) : 0 ≤ ((l.getD x csN).getD i ZC).1 ∧ ((l.getD x csN).getD i ZC).1 ≤ 512 := isC_bits (isB_at hB hx) i hi
theorem impl_bc {l : Cs} {a : Int} {K : List Int → Nat → Bool → Prop} (hl : CsOk l) (h : K (bcL l a) (bcS l a) (bcA l a)) : impl_BestCuts.wp l a K := by
  refine impl_areBlocks_wp hl ?_
  unfold bcL bcS at h
  by_cases hB : isB l = true
  · refine tE hB (impl_within_wp ?_)
    by_cases ha : 0 ≤ a ∧ a ≤ 512
    · refine tE (decide_eq_true ha) ?_
      obtain ⟨B, rfl⟩ : ∃ B : Nat, a = (B : Int) := ⟨a.toNat, by omega⟩
      have hBl := isB_len hB
      have e1 : IntKind.i64.wrap ((B : Int) + 1) = ((B + 1 : Nat) : Int) := w1 (by omega)
      rw [e1]
      have ea : bcA l (B : Int) = bcOk l B := by rw [bcA, hB, decide_eq_true ha, Bool.true_and, Bool.true_and]; rfl
      rw [ea] at h
      refine ⟨by omega, fun X hX => ?_⟩
      have hz : (List.replicate (((B + 1 : Nat) : Int)).toNat (false, (0 : Nat), (0 : Int))).length = B + 1 := List.length_replicate
      refine up (Y := fun i => X (begR B i) (i : Int)) (B + 1) ?_ ?_
      · refine hX _ _ (tN (by rw [hz]; omega) ?_)
        intro X2 hX2
        refine up (Y := fun k => X2 (tabR l B k) (befR l B k) (k : Int)) l.length ?_ ?_
        · refine hX2 _ _ _ (tN (by omega) ⟨⟨by omega, by rw [befR_len]; omega⟩, ?_⟩)
          rw [nn]
          have hend : bcOk l B = false → K [] (cz .f32 0) false := fun c => by rw [c] at h; exact h
          refine ⟨fun c1 => ?_, fun c1 => hend (by rw [bcOk]; exact Bool.and_eq_false_imp.2 fun c => absurd (c1.symm.trans c) (by decide))⟩
          refine impl_IsFinite_wp ⟨fun c2 => ?_, fun c2 => hend (by rw [bcOk]; exact Bool.and_eq_false_imp.2 fun _ => c2)⟩
          have hok : bcOk l B = true := by rw [bcOk]; exact Bool.and_eq_true_iff.2 ⟨c1, c2⟩
          rw [hok] at h
          refine ⟨by omega, fun X3 hX3 => ?_⟩
          have key : X3 (ouA l B l.length 0) (lfA l B l.length 0) ((l.length : Int) - 1 - ((0 : Nat) : Int)) := by
            refine up (Y := fun d => X3 (ouA l B l.length d) (lfA l B l.length d) ((l.length : Int) - 1 - (d : Int))) l.length ?_ ?_
            · exact hX3 _ _ _ (tN (by omega) h)
            · intro d hd hh
              have e2 : (l.length : Int) - 1 - (d : Int) = ((l.length - 1 - d : Nat) : Int) := by omega
              obtain ⟨i1, i2, i3⟩ := lf_ok hB rfl c1 d (by omega)
              obtain ⟨i, j1, j2, j3, j4⟩ := lf_at hB rfl c1 hd
              have e3 : l.length - 1 - d + 1 = l.length - d := by omega
              refine hX3 _ _ _ (tP (by omega) ?_)
              rw [e2, nn, tabR_at l B (by omega), e3, befR_len]
              refine ⟨⟨by omega, by rw [tabR_len]; omega⟩, ⟨by omega, by omega⟩, ⟨by omega, by rw [ouA_len]; omega⟩, ⟨by omega, by omega⟩, ?_⟩
              have j1' : ((befR l B (l.length - d)).getD (lfA l B l.length d).toNat (false, (0 : Nat), (0 : Int))).2.2 = (i : Int) := j1
              rw [j1']
              refine ⟨⟨by omega, Int.ofNat_lt.2 j2⟩, ?_⟩
              rw [ouA, lfA, j1] at hh
              have j3' : 0 ≤ ((l.getD (l.length - 1 - d) ([] : List ((Int) × (Nat)))).getD i ((0 : Int), (0 : Nat))).1 := j3
              have j4' : ((l.getD (l.length - 1 - d) ([] : List ((Int) × (Nat)))).getD i ((0 : Int), (0 : Nat))).1 ≤ 512 := j4
              rw [nn] at hh ⊢
              rw [wB (by omega), wB (n := ((l.length - 1 - d : Nat) : Int) - 1) (by omega), show ((l.length - 1 - d : Nat) : Int) - 1 = (l.length : Int) - 1 - ((d + 1 : Nat) : Int) by omega]
              exact hh
          rw [show IntKind.i64.wrap ((l.length : Int) - 1) = (l.length : Int) - 1 - ((0 : Nat) : Int) by rw [wB (by omega)]; simp]
          exact key
        · intro x hx hh
          refine hX2 _ _ _ (tP (by omega) ⟨by omega, fun X3 hX3 => ?_⟩)
          refine up (Y := fun b => X3 (rowR (befR l B x) (l.getD x csN) B b) (b : Int)) (B + 1) ?_ ?_
          · refine hX3 _ _ (tN (by rw [hz]; omega) ⟨by rw [tabR_len, len1]; omega, ?_⟩)
            rw [w1 (by omega)]
            rw [tabR_s, befR] at hh
            exact hh
          · intro b hb hh3
            refine hX3 _ _ (tP (by rw [hz]; omega) ?_)
            intro X4 hX4
            refine up (Y := fun i => X4 (cellR (befR l B x) (l.getD x csN) b (rowR (befR l B x) (l.getD x csN) B b) i) (i : Int)) (l.getD x csN).length ?_ ?_
            · refine hX4 _ _ (tN ?_ ?_)
              · rw [nn]; exact Int.lt_irrefl _
              · rw [w1 (by omega)]; exact hh3
            · intro i hi hh4
              have hbits := bits_at hB hx hi
              have hi16 := (isC_len (isB_at hB hx)).2
              have hi2 : i < (l.getD ((x : Int)).toNat ([] : List ((Int) × (Nat)))).length := hi
              have hlen4 : (cellR (befR l B x) (l.getD x csN) b (rowR (befR l B x) (l.getD x csN) B b) i).length = B + 1 := by rw [cellR_len, rowR_len]
              refine hX4 _ _ (tP (Int.ofNat_lt.2 hi2) ⟨⟨by omega, Int.ofNat_lt.2 hi2⟩, ?_⟩)
              have e5 : ((l.getD ((x : Int)).toNat ([] : List ((Int) × (Nat)))).getD ((i : Int)).toNat ((0 : Int), (0 : Nat))) = (l.getD x csN).getD i ZC := rfl
              rw [e5, w1 (by omega)]
              rw [cellR] at hh4
              generalize hRdef : cellR (befR l B x) (l.getD x csN) b (rowR (befR l B x) (l.getD x csN) B b) i = R at *
              unfold cellU at hh4
              refine ⟨fun c => ?_, fun c => ?_⟩
              · rw [if_pos c] at hh4; exact hh4
              · rw [if_neg c] at hh4
                rw [wB (by omega)]
                refine ⟨⟨by omega, by rw [befR_len]; omega⟩, fun c2 => ⟨⟨by omega, by rw [hlen4]; omega⟩, ?_⟩, fun c2 => ?_⟩
                · rw [if_pos (show ((befR l B x).getD ((b : Int) - ((l.getD x csN).getD i ZC).1).toNat Z).1 = true from c2)] at hh4
                  refine ⟨fun c3 => ?_, fun c3 => ?_⟩
                  · rw [if_pos (show (R.getD b Z).1 = true from c3)] at hh4
                    refine ⟨fun c4 => ?_, fun c4 => ?_⟩
                    · rw [if_pos (show fcmp .lss .f32 (fop .add .f32 ((befR l B x).getD ((b : Int) - ((l.getD x csN).getD i ZC).1).toNat Z).2.1 ((l.getD x csN).getD i ZC).2) (R.getD b Z).2.1 = true from c4)] at hh4; exact hh4
                    · rw [if_neg (by rw [show fcmp .lss .f32 (fop .add .f32 ((befR l B x).getD ((b : Int) - ((l.getD x csN).getD i ZC).1).toNat Z).2.1 ((l.getD x csN).getD i ZC).2) (R.getD b Z).2.1 = false from c4]; decide)] at hh4; exact hh4
                  · rw [if_neg (by rw [show (R.getD b Z).1 = false from c3]; decide)] at hh4; exact hh4
                · rw [if_neg (by rw [show ((befR l B x).getD ((b : Int) - ((l.getD x csN).getD i ZC).1).toNat Z).1 = false from c2]; decide)] at hh4; exact hh4
      · intro i hi hh
        refine hX _ _ (tP (by rw [hz]; omega) ⟨⟨by omega, by rw [begR_len]; omega⟩, ?_⟩)
        rw [w1 (by omega)]
        exact hh
    · refine tG (decide_eq_false ha) ?_
      have ea : bcA l a = false := by rw [bcA, decide_eq_false ha, Bool.and_false, Bool.false_and]
      rw [ea] at h; exact h
  · have hB : isB l = false := by simpa using hB
    have ea : bcA l a = false := by rw [bcA, hB, Bool.false_and, Bool.false_and]
    rw [ea] at h
    exact tG hB h
/-! ### the other program: three lists for one -/
def m1 (R : Rw) : List Bool := R.map fun r => r.1
def m2 (R : Rw) : List Nat := R.map fun r => r.2.1
def m3 (R : Rw) : List Int := R.map fun r => r.2.2
theorem map_get {α β : Type} (f : α → β) (l : List α) (j : Nat) (d : α) : (l.map f).getD j (f d) = f (l.getD j d) := by
  rw [List.getD_eq_getElem?_getD, List.getD_eq_getElem?_getD, List.getElem?_map]
  cases l[j]? <;> rfl
theorem m1_at (R : Rw) (j : Nat) : (m1 R).getD j false = (R.getD j Z).1 := map_get (fun r : Cell => r.1) R j Z
theorem m2_at (R : Rw) (j : Nat) : (m2 R).getD j (0 : Nat) = (R.getD j Z).2.1 := map_get (fun r : Cell => r.2.1) R j Z
theorem m3_at (R : Rw) (j : Nat) : (m3 R).getD j (0 : Int) = (R.getD j Z).2.2 := map_get (fun r : Cell => r.2.2) R j Z
theorem m1_len (R : Rw) : (m1 R).length = R.length := List.length_map ..
theorem m2_len (R : Rw) : (m2 R).length = R.length := List.length_map ..
theorem m3_len (R : Rw) : (m3 R).length = R.length := List.length_map ..
theorem m1_set (R : Rw) (b : Nat) (x : Cell) : m1 (R.set b x) = (m1 R).set b x.1 := List.map_set
theorem m2_set (R : Rw) (b : Nat) (x : Cell) : m2 (R.set b x) = (m2 R).set b x.2.1 := List.map_set
theorem m3_set (R : Rw) (b : Nat) (x : Cell) : m3 (R.set b x) = (m3 R).set b x.2.2 := List.map_set
theorem m1_rep (n : Nat) : m1 (List.replicate n Z) = List.replicate n false := List.map_replicate
theorem m2_rep (n : Nat) : m2 (List.replicate n Z) = List.replicate n 0 := List.map_replicate
theorem m3_rep (n : Nat) : m3 (List.replicate n Z) = List.replicate n 0 := List.map_replicate
theorem beg_sum (B : Nat) : ∀ b, m2 (begR B b) = List.replicate (B + 1) 0
  | 0 => m2_rep _
  | b + 1 => by
    rw [begR, m2_set, ← m2_at, beg_sum B b, rep_get]
    apply List.ext_getElem
    · rw [List.length_set]
    · intro j h1 h2
      rw [List.getElem_set]
      split
      · rw [List.getElem_replicate]
      · rfl
theorem beg_can (B b : Nat) : m1 (begR B (b + 1)) = (m1 (begR B b)).set b true := by rw [begR, m1_set]
theorem set_at {l : List Int} {i : Nat} {v : Int} (h : i < l.length) : (l.set i v).getD i 0 = v := by rw [set_get, if_pos ⟨rfl, h⟩]
def tab3 (l : Cs) (B k : Nat) : List (List Int) := (tabR l B k).map m3
theorem tab3_len (l : Cs) (B k : Nat) : (tab3 l B k).length = k := by rw [tab3, List.length_map, tabR_len]
theorem tab3_s (l : Cs) (B k : Nat) : tab3 l B (k + 1) = tab3 l B k ++ [m3 (befR l B (k + 1))] := by
  unfold tab3; rw [tabR_s, List.map_append]; rfl
theorem tab3_at (l : Cs) (B : Nat) {k n : Nat} (h : k < n) : (tab3 l B n).getD k ([] : List Int) = m3 (befR l B (k + 1)) := by
  rw [← tabR_at l B h ([] : Rw)]
  exact map_get m3 (tabR l B n) k ([] : Rw)
theorem spec_bc {l : Cs} {a : Int} {K : List Int → Nat → Bool → Prop} (hl : CsOk l) (h : K (bcL l a) (bcS l a) (bcA l a)) : spec_BestCuts.wp l a K := by
  refine spec_l07Blocks_wp hl ?_
  unfold bcL bcS at h
  by_cases hB : isB l = true
  · refine tE hB (spec_l00In_wp ?_)
    by_cases ha : 0 ≤ a ∧ a ≤ 512
    · refine tE (decide_eq_true ha) ?_
      obtain ⟨B, rfl⟩ : ∃ B : Nat, a = (B : Int) := ⟨a.toNat, by omega⟩
      have hBl := isB_len hB
      have e1 : IntKind.i64.wrap ((B : Int) + 1) = ((B + 1 : Nat) : Int) := w1 (by omega)
      rw [e1]
      have ea : bcA l (B : Int) = bcOk l B := by rw [bcA, hB, decide_eq_true ha, Bool.true_and, Bool.true_and]; rfl
      rw [ea] at h
      refine ⟨by omega, by omega, fun X hX => ?_⟩
      have hz : (List.replicate (((B + 1 : Nat) : Int)).toNat false).length = B + 1 := List.length_replicate
      have h0 : m1 (begR B 0) = List.replicate (((B + 1 : Nat) : Int)).toNat false := m1_rep _
      rw [← h0] at hX ⊢
      have hz : (m1 (begR B 0)).length = B + 1 := by rw [m1_len, begR_len]
      refine up (Y := fun i => X (m1 (begR B i)) (i : Int)) (B + 1) ?_ ?_
      · refine hX _ _ (tN (by rw [hz]; omega) ?_)
        intro X2 hX2
        have key2 : X2 (tab3 l B 0) (m1 (befR l B 0)) (m2 (befR l B 0)) ((0 : Nat) : Int) := by
          refine up (Y := fun k => X2 (tab3 l B k) (m1 (befR l B k)) (m2 (befR l B k)) (k : Int)) l.length ?_ ?_
          · refine hX2 _ _ _ _ (tN (by omega) ⟨⟨by omega, by rw [m1_len, befR_len]; omega⟩, ?_⟩)
            rw [nn, m1_at, m2_at]
            have hend : bcOk l B = false → K [] (cz .f32 0) false := fun c => by rw [c] at h; exact h
            refine ⟨fun c1 => ⟨⟨by omega, by rw [m2_len, befR_len]; omega⟩, ?_⟩, fun c1 => hend (by rw [bcOk]; exact Bool.and_eq_false_imp.2 fun c => absurd (c1.symm.trans c) (by decide))⟩
            refine spec_l01Finite_wp ⟨fun c2 => ?_, fun c2 => hend (by rw [bcOk]; exact Bool.and_eq_false_imp.2 fun _ => c2)⟩
            have hok : bcOk l B = true := by rw [bcOk]; exact Bool.and_eq_true_iff.2 ⟨c1, c2⟩
            rw [hok] at h
            refine ⟨by omega, fun X3 hX3 => ?_⟩
            have key : X3 (ouA l B l.length 0) (lfA l B l.length 0) ((l.length : Int) - 1 - ((0 : Nat) : Int)) := by
              refine up (Y := fun d => X3 (ouA l B l.length d) (lfA l B l.length d) ((l.length : Int) - 1 - (d : Int))) l.length ?_ ?_
              · exact hX3 _ _ _ (tN (by omega) h)
              · intro d hd hh
                have e2 : (l.length : Int) - 1 - (d : Int) = ((l.length - 1 - d : Nat) : Int) := by omega
                obtain ⟨i1, i2, i3⟩ := lf_ok hB rfl c1 d (by omega)
                obtain ⟨i, j1, j2, j3, j4⟩ := lf_at hB rfl c1 hd
                have e3 : l.length - 1 - d + 1 = l.length - d := by omega
                refine hX3 _ _ _ (tP (by omega) ?_)
                rw [e2, nn, tab3_at l B (by omega), e3, m3_len, befR_len, m3_at, j1, set_at (by rw [ouA_len]; omega)]
                refine ⟨⟨by omega, by rw [tab3_len]; omega⟩, ⟨by omega, by omega⟩, ⟨by omega, by rw [ouA_len]; omega⟩, ⟨by omega, by omega⟩, ⟨by omega, by rw [List.length_set, ouA_len]; omega⟩, ⟨by omega, Int.ofNat_lt.2 j2⟩, ?_⟩
                rw [ouA, lfA, j1] at hh
                have j3' : 0 ≤ ((l.getD (l.length - 1 - d) ([] : List ((Int) × (Nat)))).getD i ((0 : Int), (0 : Nat))).1 := j3
                have j4' : ((l.getD (l.length - 1 - d) ([] : List ((Int) × (Nat)))).getD i ((0 : Int), (0 : Nat))).1 ≤ 512 := j4
                rw [nn] at hh ⊢
                rw [wB (by omega), wB (n := ((l.length - 1 - d : Nat) : Int) - 1) (by omega), show ((l.length - 1 - d : Nat) : Int) - 1 = (l.length : Int) - 1 - ((d + 1 : Nat) : Int) by omega]
                exact hh
            rw [show IntKind.i64.wrap ((l.length : Int) - 1) = (l.length : Int) - 1 - ((0 : Nat) : Int) by rw [wB (by omega)]; simp]
            exact key
          · intro x hx hh
            refine hX2 _ _ _ _ (tP (by omega) ⟨by omega, fun X3 hX3 => ?_⟩)
            have key3 : X3 (m3 (rowR (befR l B x) (l.getD x csN) B 0)) (m1 (rowR (befR l B x) (l.getD x csN) B 0)) (m2 (rowR (befR l B x) (l.getD x csN) B 0)) ((0 : Nat) : Int) := by
              refine up (Y := fun b => X3 (m3 (rowR (befR l B x) (l.getD x csN) B b)) (m1 (rowR (befR l B x) (l.getD x csN) B b)) (m2 (rowR (befR l B x) (l.getD x csN) B b)) (b : Int)) (B + 1) ?_ ?_
              · refine hX3 _ _ _ _ (tN (by omega) ⟨by rw [tab3_len, len1]; omega, ?_⟩)
                rw [w1 (by omega)]
                rw [tab3_s, befR] at hh
                exact hh
              · intro b hb hh3
                refine hX3 _ _ _ _ (tP (by omega) ⟨by omega, ?_⟩)
                intro X4 hX4
                refine up (Y := fun i => X4 (m3 (cellR (befR l B x) (l.getD x csN) b (rowR (befR l B x) (l.getD x csN) B b) i)) (m1 (cellR (befR l B x) (l.getD x csN) b (rowR (befR l B x) (l.getD x csN) B b) i)) (m2 (cellR (befR l B x) (l.getD x csN) b (rowR (befR l B x) (l.getD x csN) B b) i)) (i : Int)) (l.getD x csN).length ?_ ?_
                · refine hX4 _ _ _ _ (tN ?_ ?_)
                  · rw [nn]; exact Int.lt_irrefl _
                  · rw [w1 (by omega)]; exact hh3
                · intro i hi hh4
                  have hbits := bits_at hB hx hi
                  have hi16 := (isC_len (isB_at hB hx)).2
                  have hi2 : i < (l.getD ((x : Int)).toNat ([] : List ((Int) × (Nat)))).length := hi
                  have hlen4 : (cellR (befR l B x) (l.getD x csN) b (rowR (befR l B x) (l.getD x csN) B b) i).length = B + 1 := by rw [cellR_len, rowR_len]
                  refine hX4 _ _ _ _ (tP (Int.ofNat_lt.2 hi2) ⟨⟨by omega, Int.ofNat_lt.2 hi2⟩, ?_⟩)
                  have e5 : ((l.getD ((x : Int)).toNat ([] : List ((Int) × (Nat)))).getD ((i : Int)).toNat ((0 : Int), (0 : Nat))) = (l.getD x csN).getD i ZC := rfl
                  rw [e5, w1 (by omega)]
                  rw [cellR] at hh4
                  generalize hRdef : cellR (befR l B x) (l.getD x csN) b (rowR (befR l B x) (l.getD x csN) B b) i = R at *
                  unfold cellU at hh4
                  rw [wB (by omega), m1_at, m2_at, m1_at, m2_at, nn, m1_len, m1_len, m2_len, m2_len, m3_len, hlen4, befR_len]
                  refine ⟨fun c => ?_, fun c => ?_⟩
                  · rw [if_pos (by omega)] at hh4; exact hh4
                  · rw [if_neg (by omega)] at hh4
                    refine ⟨⟨by omega, by omega⟩, fun c2 => ⟨⟨by omega, by omega⟩, ⟨by omega, by omega⟩, ?_⟩, fun c2 => ?_⟩
                    · rw [if_pos c2] at hh4
                      refine ⟨fun c3 => ⟨⟨by omega, by omega⟩, ?_⟩, fun c3 => ⟨⟨by omega, by omega⟩, ⟨by omega, by omega⟩, ?_⟩⟩
                      · rw [if_pos c3] at hh4
                        refine ⟨fun c4 => ⟨⟨by omega, by omega⟩, ?_⟩, fun c4 => ?_⟩
                        · rw [if_pos c4, m1_set, m2_set, m3_set] at hh4; exact hh4
                        · rw [if_neg (by rw [c4]; decide)] at hh4; exact hh4
                      · rw [if_neg (by rw [c3]; decide), m1_set, m2_set, m3_set] at hh4; exact hh4
                    · rw [if_neg (by rw [c2]; decide)] at hh4; exact hh4
            rw [rowR, m2_rep, m3_rep] at key3
            exact key3
        rw [befR, beg_sum] at key2
        exact key2
      · intro i hi hh
        refine hX _ _ (tP (by rw [hz]; omega) ⟨⟨by omega, by rw [m1_len, begR_len]; omega⟩, ?_⟩)
        rw [w1 (by omega), nn, ← beg_can]
        exact hh
    · refine tG (decide_eq_false ha) ?_
      have ea : bcA l a = false := by rw [bcA, decide_eq_false ha, Bool.and_false, Bool.false_and]
      rw [ea] at h; exact h
  · have hB : isB l = false := by simpa using hB
    have ea : bcA l a = false := by rw [bcA, hB, Bool.false_and, Bool.false_and]
    rw [ea] at h
    exact tG hB h
theorem bcL_len {l : Cs} {a : Int} (hl : CsOk l) : (bcL l a).length ≤ 2 ^ 20 := by
  unfold bcL
  split
  · rw [ouA_len]; exact hl.1
  · exact Nat.zero_le _

end Go.Proofs.Ytecdkjnomkdbkaa.G

namespace Go.Proofs.Ytecdkjnomkdbkaa.G
open Go Go.Ab
set_option maxRecDepth 100000
set_option linter.unusedVariables false
set_option linter.unusedSimpArgs false
set_option maxHeartbeats 1000000
open Ieee in
theorem neg_read (b : Nat) : single.read (Op.negFloat .f32 b) = (single.read b).opposite := by
  have hs : single.signWeight = 2 ^ 31 := rfl
  have h2 : Op.negFloat .f32 b % 2 ^ 31 = b % 2 ^ 31 := by
    show (b ^^^ 2 ^ 31) % 2 ^ 31 = _
    rw [Nat.xor_mod_two_pow]; simp
  have h3 : Op.negFloat .f32 b / 2 ^ 31 % 2 = (b / 2 ^ 31 + 1) % 2 := by
    show (b ^^^ 2 ^ 31) / 2 ^ 31 % 2 = _
    rw [Nat.xor_div_two_pow, Nat.div_self (by decide)]
    have := Nat.xor_mod_two_pow (a := b / 2 ^ 31) (b := 1) (n := 1)
    rw [Nat.pow_one] at this; rw [this]
    rcases Nat.mod_two_eq_zero_or_one (b / 2 ^ 31) with h | h
    · rw [h, show (b / 2 ^ 31 + 1) % 2 = 1 by omega]; decide
    · rw [h, show (b / 2 ^ 31 + 1) % 2 = 0 by omega]; decide
  have h4 : (Op.negFloat .f32 b / 2 ^ 31 % 2 == 1) = !(b / 2 ^ 31 % 2 == 1) := by
    rw [h3]
    rcases Nat.mod_two_eq_zero_or_one (b / 2 ^ 31) with h | h
    · rw [h, show (b / 2 ^ 31 + 1) % 2 = 1 by omega]; rfl
    · rw [h, show (b / 2 ^ 31 + 1) % 2 = 0 by omega]; rfl
  unfold Format.read
  rw [hs, h2, h4]
  dsimp only
  split
  · rfl
  · split
    · rfl
    · split <;> rfl
open Ieee in
theorem fneg_read {b : Nat} (h : (single.read b).isNaN = false) : single.read (fneg .f32 b) = (single.read b).opposite := by
  have e : (FloatKind.f32.decode (Op.negFloat .f32 b)).isNaN = false := by
    show (single.read _).isNaN = false
    rw [neg_read]; cases hr : single.read b with
    | nan s t => rw [hr] at h; cases h
    | _ => rfl
  rw [fneg, cz32 _ e, neg_read]
/-! ### values, in units of the last place -/
open Ieee in
def val : Datum → Int
  | .number s m e => signed s m (e + 149).toNat
  | _ => 0
open Ieee in
theorem signed_up (s : Bool) (m a b : Nat) : signed s m (a + b) = signed s m a * (2 ^ b : Nat) := by
  unfold signed
  cases s <;> simp [Nat.shiftLeft_eq, Nat.pow_add, Int.mul_assoc, Int.neg_mul]
open Ieee in
theorem order_val {s t : Bool} {m n : Nat} {i j : Int} (hi : -149 ≤ i) (hj : -149 ≤ j) : (Datum.number s m i).order (.number t n j) = some (compare (val (.number s m i)) (val (.number t n j))) := by
  have e1 : val (.number s m i) = signed s m (i - min i j).toNat * (2 ^ (min i j + 149).toNat : Nat) := by
    show signed s m _ = _
    rw [← signed_up]; congr 1; omega
  have e2 : val (.number t n j) = signed t n (j - min i j).toNat * (2 ^ (min i j + 149).toNat : Nat) := by
    show signed t n _ = _
    rw [← signed_up]; congr 1; omega
  rw [e1, e2]
  show some (compare (signed s m (i - min i j).toNat) (signed t n (j - min i j).toNat)) = _
  congr 1
  have hp : (0 : Int) < ((2 ^ (min i j + 149).toNat : Nat) : Int) := by have := Nat.two_pow_pos (min i j + 149).toNat; omega
  generalize signed s m (i - min i j).toNat = a
  generalize signed t n (j - min i j).toNat = b
  generalize ((2 ^ (min i j + 149).toNat : Nat) : Int) = p at hp
  rw [show compare a b = compareOfLessAndEq a b from rfl, show compare (a * p) (b * p) = compareOfLessAndEq (a * p) (b * p) from rfl]
  unfold compareOfLessAndEq
  have h1 : (a * p < b * p) = (a < b) := propext ⟨fun h => Int.lt_of_mul_lt_mul_right h (Int.le_of_lt hp), fun h => Int.mul_lt_mul_of_pos_right h hp⟩
  have h2 : (a * p = b * p) = (a = b) := propext ⟨fun h => Int.eq_of_mul_eq_mul_right (Int.ne_of_gt hp) h, fun h => by rw [h]⟩
  simp only [h1, h2]
/-- A word of single precision: no number, or how it stands to others. -/
theorem cmp_lt {a b : Int} : (compare a b == Ordering.lt) = decide (a < b) := by
  rw [show compare a b = compareOfLessAndEq a b from rfl]; unfold compareOfLessAndEq
  split
  · simp [*]
  · split <;> simp [*]
theorem cmp_eq {a b : Int} : (compare a b == Ordering.eq) = decide (a = b) := by
  rw [show compare a b = compareOfLessAndEq a b from rfl]; unfold compareOfLessAndEq
  split
  · simp; omega
  · split <;> simp [*]
theorem cmp_gt {a b : Int} : (compare a b == Ordering.gt) = decide (b < a) := by
  rw [show compare a b = compareOfLessAndEq a b from rfl]; unfold compareOfLessAndEq
  split
  · simp; omega
  · split
    · simp; omega
    · simp; omega
/-! ### from nought -/
open Ieee in
theorem read_f32 (x : Nat) : single.read x = if x % 2147483648 < 8388608 then .number (x / 2147483648 % 2 == 1) (x % 2147483648) (-149) else if x % 2147483648 < 2139095040 then .number (x / 2147483648 % 2 == 1) (8388608 + x % 2147483648 % 8388608) (-149 + ((x % 2147483648 / 8388608 - 1 : Nat) : Int)) else if x % 2147483648 = 2139095040 then .infinity (x / 2147483648 % 2 == 1) else .nan (x / 2147483648 % 2 == 1) (x % 2147483648 - 2139095040) := by
  unfold Format.read
  rw [show single.binade = 8388608 from rfl, show single.infRung = 2139095040 by decide, show single.signWeight = 2147483648 from rfl, show single.leastPlace = -149 by decide]
open Ieee in
theorem read_rung {r : Nat} (h : r < 2147483648) : single.read r = if r < 8388608 then .number false r (-149) else if r < 2139095040 then .number false (8388608 + r % 8388608) (-149 + ((r / 8388608 - 1 : Nat) : Int)) else if r = 2139095040 then .infinity false else .nan false (r - 2139095040) := by
  rw [read_f32, Nat.mod_eq_of_lt h, Nat.div_eq_of_lt h]; rfl
open Ieee in
theorem word_rung (r : Nat) : single.word false r = r := rfl
open Ieee in
theorem log2_full {a : Nat} (h : a < 8388608) : (8388608 + a).log2 = 23 := by
  apply Nat.le_antisymm
  · have : (8388608 + a).log2 < 24 := (Nat.log2_lt (by omega)).2 (by omega)
    omega
  · have : ¬ (8388608 + a).log2 < 23 := fun hh => by
      have := (Nat.log2_lt (by omega)).1 hh; omega
    omega
open Ieee in
theorem near_low {r : Nat} (h0 : r ≠ 0) (h : r < 8388608) : single.nearest false r (-149) = r := by
  unfold Format.nearest
  rw [if_neg h0, show single.infRung = 2139095040 by decide, show single.binade = 8388608 from rfl, show single.leastPlace = -149 by decide, show single.fractionBits = 23 from rfl]
  have hlog : r.log2 < 23 := (Nat.log2_lt h0).2 h
  have hmax : max (-149 + (r.log2 : Int) - ((23 : Nat) : Int)) (-149) = -149 := by omega
  simp only [hmax, Int.sub_self, Int.toNat_zero, Nat.shiftLeft_zero, cut_zero, Nat.zero_mul, Nat.zero_add, word_rung]
  omega
open Ieee in
theorem near_gen (f : Format) {m : Nat} {e : Int} (h0 : m ≠ 0) (hl : m.log2 = f.fractionBits) (he : f.leastPlace ≤ e) : f.nearest false m e = min ((e - f.leastPlace).toNat * f.binade + m) f.infRung := by
  have hmax : max (e + ((f.fractionBits : Nat) : Int) - ((f.fractionBits : Nat) : Int)) f.leastPlace = e := by omega
  have hw : ∀ a : Nat, f.word false a = a := fun a => if_neg (by decide)
  unfold Format.nearest
  rw [if_neg h0, hl]
  dsimp only
  rw [hmax, Int.sub_self, Int.toNat_zero, Nat.shiftLeft_zero, cut_zero, hw]
open Ieee in
theorem near_full {r : Nat} (h0 : ¬ r < 8388608) (h : r < 2139095040) : single.nearest false (8388608 + r % 8388608) (-149 + ((r / 8388608 - 1 : Nat) : Int)) = r := by
  have hmd : r % 8388608 < 8388608 := Nat.mod_lt _ (by decide)
  have hl : single.leastPlace = -149 := by decide
  have hb : single.binade = 8388608 := rfl
  have hi : single.infRung = 2139095040 := by decide
  rw [near_gen single (by omega) (log2_full hmd) (by rw [hl]; omega), hl, hb, hi]
  have ht : (-149 + ((r / 8388608 - 1 : Nat) : Int) - -149).toNat = r / 8388608 - 1 := by omega
  rw [ht]
  have := Nat.div_add_mod r 8388608
  have h1 : 1 ≤ r / 8388608 := by omega
  have h2 : (r / 8388608 - 1) * 8388608 + (8388608 + r % 8388608) = r := by omega
  rw [h2]
  exact Nat.min_eq_left (Nat.le_of_lt h)
open Ieee in
theorem sub0_near {x m : Nat} {e : Int} (h : single.read x = .number true m e) (hm : m ≠ 0) (he : -149 ≤ e) : single.sub 0 x = some (single.nearest false m e) := by
  have h0 : single.read 0 = .number false 0 (-149) := by decide +kernel
  unfold Format.sub
  rw [h0, h]
  simp only [Datum.opposite, Datum.sum, Bool.not_true]
  have hmin : min (-149 : Int) e = -149 := by omega
  rw [hmin]
  have ht : signed false 0 (-149 - -149 : Int).toNat + signed false m (e - -149).toNat = ((m * 2 ^ (e + 149).toNat : Nat) : Int) := by
    simp [signed, Nat.shiftLeft_eq]
  rw [ht]
  have hp := Nat.two_pow_pos (e + 149).toNat
  have hne : m * 2 ^ (e + 149).toNat ≠ 0 := Nat.mul_ne_zero hm (by omega)
  rw [if_neg (by omega), Option.map_some]
  have hd : decide (((m * 2 ^ (e + 149).toNat : Nat) : Int) < 0) = false := decide_eq_false (by omega)
  rw [hd, Int.natAbs_natCast]
  show some (single.nearest false (m * 2 ^ (e + 149).toNat) (-149)) = _
  rw [nearest_shift]
  congr 2; omega
open Ieee in
theorem sub0_num {x m : Nat} {e : Int} (h : single.read x = .number true m e) (hm : m ≠ 0) : ∃ y, single.sub 0 x = some y ∧ single.read y = .number false m e := by
  refine ⟨x % 2147483648, ?_⟩
  have hr : x % 2147483648 < 2147483648 := Nat.mod_lt _ (by decide)
  have h' := h
  rw [read_f32] at h'
  rw [read_rung hr]
  by_cases h1 : x % 2147483648 < 8388608
  · rw [if_pos h1] at h' ⊢
    simp only [Datum.number.injEq] at h'
    obtain ⟨_, rfl, rfl⟩ := h'
    exact ⟨by rw [sub0_near h hm (by omega), near_low hm h1], rfl⟩
  · rw [if_neg h1] at h' ⊢
    by_cases h2 : x % 2147483648 < 2139095040
    · rw [if_pos h2] at h' ⊢
      simp only [Datum.number.injEq] at h'
      obtain ⟨_, rfl, rfl⟩ := h'
      exact ⟨by rw [sub0_near h hm (by omega), near_full h1 h2], rfl⟩
    · rw [if_neg h2] at h'
      split at h' <;> cases h'
open Ieee in
theorem sub0_inf {x : Nat} (h : single.read x = .infinity true) : ∃ y, single.sub 0 x = some y ∧ single.read y = .infinity false := by
  have h0 : single.read 0 = .number false 0 (-149) := by decide +kernel
  refine ⟨single.word false single.infRung, ?_, by decide +kernel⟩
  unfold Format.sub
  rw [h0, h]; rfl
/-! ### sizes -/
def sizI (x : Nat) : Nat := if fcmp .lss .f32 x (cz .f32 0) = true then fneg .f32 x else if fcmp .eql .f32 x (cz .f32 0) = true then cz .f32 0 else x
def sizS (x : Nat) : Nat := if fcmp .leq .f32 x (cz .f32 0) = true then fop .sub .f32 (cz .f32 0) x else x
theorem fc_lss {x y : Nat} {c : Option Ordering} (h : Ieee.single.order x y = c) : fcmp .lss .f32 x y = (c == some .lt) := by subst h; rfl
theorem fc_leq {x y : Nat} {c : Option Ordering} (h : Ieee.single.order x y = c) : fcmp .leq .f32 x y = (c == some .lt || c == some .eq) := by subst h; rfl
theorem fc_eql {x y : Nat} {c : Option Ordering} (h : Ieee.single.order x y = c) : fcmp .eql .f32 x y = (c == some .eq) := by subst h; rfl
theorem fc_gtr {x y : Nat} {c : Option Ordering} (h : Ieee.single.order x y = c) : fcmp .gtr .f32 x y = (c == some .gt) := by subst h; rfl
open Ieee in
theorem fop_sub0 {x y : Nat} (hy : single.sub 0 x = some y) (hn : (single.read y).isNaN = false) : single.read (fop .sub .f32 0 x) = single.read y := by
  have : fop .sub .f32 0 x = cz .f32 y := by
    show ((single.sub 0 x).map (cz .f32)).getD _ = _
    rw [hy]; rfl
  rw [this, cz32 _ hn]
theorem siz_not {x : Nat} {c : Option Ordering} (h : Ieee.single.order x 0 = c) (h1 : (c == some .lt) = false) (h2 : (c == some .eq) = false) : sizS x = x ∧ sizI x = x := by
  unfold sizS sizI
  rw [c0_32]
  have e1 := fc_leq h
  rw [h1, h2] at e1
  have e2 := fc_lss h
  rw [h1] at e2
  have e3 := fc_eql h
  rw [h2] at e3
  rw [if_neg (by rw [e1]; decide), if_neg (by rw [e2]; decide), if_neg (by rw [e3]; decide)]
  exact ⟨rfl, rfl⟩
theorem siz_lt {x : Nat} (h : Ieee.single.order x 0 = some .lt) : sizS x = fop .sub .f32 0 x ∧ sizI x = fneg .f32 x := by
  unfold sizS sizI
  rw [c0_32]
  have e1 := fc_leq h
  have e2 := fc_lss h
  exact ⟨if_pos (by rw [e1]; rfl), if_pos (by rw [e2]; rfl)⟩
theorem siz_0 {x : Nat} (h : Ieee.single.order x 0 = some .eq) : sizS x = fop .sub .f32 0 x ∧ sizI x = 0 := by
  unfold sizS sizI
  rw [c0_32]
  have e1 := fc_leq h
  have e2 := fc_lss h
  have e3 := fc_eql h
  refine ⟨if_pos (by rw [e1]; rfl), ?_⟩
  rw [if_neg (by rw [e2]; decide)]
  exact if_pos (by rw [e3]; rfl)
open Ieee in
theorem val_pos {m : Nat} {e : Int} (hm : m ≠ 0) : (0 : Int) < val (.number false m e) := by
  have hp := Nat.two_pow_pos (e + 149).toNat
  have hne : m * 2 ^ (e + 149).toNat ≠ 0 := Nat.mul_ne_zero hm (by omega)
  simp only [val, signed, Bool.false_eq_true, if_false, Nat.shiftLeft_eq]; omega
open Ieee in
theorem val_neg {m : Nat} {e : Int} : val (.number true m e) = - val (.number false m e) := by
  simp only [val, signed, Bool.false_eq_true, if_false, if_true]
open Ieee in
theorem read_0 : single.read 0 = .number false 0 (-149) := by decide +kernel
open Ieee in
/-- Both sizes read alike. -/
theorem siz_read (x : Nat) : single.read (sizS x) = single.read (sizI x) := by
  rcases read_single x with ⟨s, t, h⟩ | ⟨s, h⟩ | ⟨s, m, e, h, hm, he, _⟩
  · have ho : single.order x 0 = none := by unfold Format.order; rw [h]; rfl
    have := siz_not ho rfl rfl
    rw [this.1, this.2]
  · cases s
    · have ho : single.order x 0 = some .gt := by unfold Format.order; rw [h, read_0]; rfl
      have := siz_not ho rfl rfl
      rw [this.1, this.2]
    · have ho : single.order x 0 = some .lt := by unfold Format.order; rw [h, read_0]; rfl
      have := siz_lt ho
      obtain ⟨y, h1, h2⟩ := sub0_inf h
      rw [this.1, this.2, fop_sub0 h1 (by rw [h2]; rfl), h2, fneg_read (by rw [h]; rfl), h]; rfl
  · have ho : single.order x 0 = some (compare (val (.number s m e)) 0) := by
      unfold Format.order; rw [h, read_0, order_val he (by omega), show val (.number false 0 (-149)) = 0 by decide]
    by_cases hz : m = 0
    · subst hz
      have hv : val (.number s 0 e) = 0 := by cases s <;> simp [val, signed]
      rw [hv] at ho
      have := siz_0 ho
      have h1 : single.sub 0 x = some 0 := by
        unfold Format.sub
        rw [read_0, h]
        cases s <;> simp [Datum.opposite, Datum.sum, signed, Format.write, Format.nearest, Format.word]
      rw [this.1, this.2, fop_sub0 h1 (by rw [read_0]; rfl)]
    · have hv := val_pos (e := e) hz
      cases s
      · have hc : compare (val (.number false m e)) 0 = Ordering.gt := by
          have := cmp_gt (a := val (.number false m e)) (b := 0); rw [decide_eq_true hv] at this; exact eq_of_beq this
        rw [hc] at ho
        have := siz_not ho rfl rfl
        rw [this.1, this.2]
      · have hc : compare (val (.number true m e)) 0 = Ordering.lt := by
          have := cmp_lt (a := val (.number true m e)) (b := 0); rw [decide_eq_true (by rw [val_neg]; omega)] at this; exact eq_of_beq this
        rw [hc] at ho
        have := siz_lt ho
        obtain ⟨y, h1, h2⟩ := sub0_num h hz
        rw [this.1, this.2, fop_sub0 h1 (by rw [h2]; rfl), h2, fneg_read (by rw [h]; rfl), h]; rfl
theorem siz_cmp (op : BinOp) (x y : Nat) : fcmp op .f32 (sizS x) y = fcmp op .f32 (sizI x) y := by
  have h : Ieee.single.order (sizS x) y = Ieee.single.order (sizI x) y := by unfold Ieee.Format.order; rw [siz_read]
  unfold fcmp
  rw [show FloatKind.f32.format = Ieee.single from rfl, h]
theorem spec_l03Size_wp {a : Nat} {K : Nat → Prop} (h : K (sizS a)) : spec_l03Size.wp a K := by
  refine ⟨fun c => ?_, fun c => ?_⟩
  · rw [sizS, if_pos c] at h; exact h
  · rw [sizS, if_neg (by rw [c]; decide)] at h; exact h
theorem impl_size_wp {a : Nat} {K : Nat → Prop} (h : K (sizI a)) : impl_size.wp a K := by
  refine ⟨fun c => ?_, fun c => ⟨fun c2 => ?_, fun c2 => ?_⟩⟩
  · rw [sizI, if_pos c] at h; exact h
  · rw [sizI, if_neg (by rw [c]; decide), if_pos c2] at h; exact h
  · rw [sizI, if_neg (by rw [c]; decide), if_neg (by rw [c2]; decide)] at h; exact h

end Go.Proofs.Ytecdkjnomkdbkaa.G

namespace Go.Proofs.Ytecdkjnomkdbkaa.G
open Go Go.Ab
set_option maxRecDepth 100000
set_option linter.unusedVariables false
set_option linter.unusedSimpArgs false
set_option maxHeartbeats 1000000
open Ieee in
structure Fmt (f : Format) : Prop where
  b : f.binade = 2 ^ f.fractionBits
  i : f.infRung < f.signWeight
  r : f.infRung = (2 ^ f.exponentBits - 1) * f.binade
  x : 2 ≤ f.exponentBits
theorem fmt1 : Fmt Ieee.single := ⟨rfl, by decide, rfl, by decide⟩
theorem fmt2 : Fmt Ieee.double := ⟨rfl, by decide, rfl, by decide⟩
open Ieee in
theorem read_word {f : Format} (h : Fmt f) (s : Bool) {r : Nat} (hr : r ≤ f.infRung) : f.read (f.word s r) = if r < f.binade then .number s r f.leastPlace else if r < f.infRung then .number s (f.binade + r % f.binade) (f.leastPlace + (r / f.binade - 1 : Nat)) else .infinity s := by
  have hi := h.i
  have hl : r < f.signWeight := by omega
  have e1 : f.word s r % f.signWeight = r := by
    unfold Format.word
    split
    · rw [Nat.add_mod_left, Nat.mod_eq_of_lt hl]
    · exact Nat.mod_eq_of_lt hl
  have e2 : (f.word s r / f.signWeight % 2 == 1) = s := by
    unfold Format.word
    cases s with
    | true => rw [if_pos rfl, Nat.add_div_left _ (by omega), Nat.div_eq_of_lt hl]; rfl
    | false => rw [if_neg (by decide), Nat.div_eq_of_lt hl]; rfl
  unfold Format.read
  dsimp only
  rw [e1, e2]
  split
  · rfl
  · split
    · rfl
    · rw [if_pos (by omega)]
open Ieee in
theorem near_exact {f : Format} (h : Fmt f) (s : Bool) {M M0 k : Nat} {e : Int} (hM : M = M0 * 2 ^ k) (h0 : M0 < 2 ^ (f.fractionBits + 1)) (hL : f.leastPlace ≤ e + k) (hI : (e + k - f.leastPlace).toNat + 2 ≤ 2 ^ f.exponentBits - 1) : ∃ m e', f.read (f.nearest s M e) = .number s m e' ∧ f.leastPlace ≤ e' ∧ m * 2 ^ (e' - f.leastPlace).toNat = M0 * 2 ^ (e + k - f.leastPlace).toNat := by
  have hB := h.b
  have hBp : 0 < f.binade := by rw [hB]; exact Nat.two_pow_pos _
  generalize hp : f.fractionBits = p at *
  generalize hLL : f.leastPlace = L at *
  by_cases hz : M0 = 0
  · subst hz
    rw [Nat.zero_mul] at hM
    refine ⟨0, L, ?_, Int.le_refl _, by simp⟩
    unfold Format.nearest
    rw [if_pos hM, read_word h s (Nat.zero_le _), if_pos hBp, hLL]
  have hMz : M ≠ 0 := by rw [hM]; exact Nat.mul_ne_zero hz (by have := Nat.two_pow_pos k; omega)
  have hlog : M.log2 = M0.log2 + k := by
    refine (Nat.log2_eq_iff hMz).2 ⟨?_, ?_⟩
    · rw [hM, Nat.pow_add]; exact Nat.mul_le_mul_right _ (Nat.log2_self_le hz)
    · rw [hM, show M0.log2 + k + 1 = (M0.log2 + 1) + k by omega, Nat.pow_add]; exact Nat.mul_lt_mul_of_pos_right Nat.lt_log2_self (Nat.two_pow_pos k)
  have hg1 : M0 < 2 ^ (M0.log2 + 1) := Nat.lt_log2_self
  have hg2 : 2 ^ M0.log2 ≤ M0 := Nat.log2_self_le hz
  have hgp : M0.log2 ≤ p := by
    have := (Nat.pow_lt_pow_iff_right (a := 2) (by decide)).1 (Nat.lt_of_le_of_lt hg2 h0); omega
  generalize hg : M0.log2 = g at *
  unfold Format.nearest
  rw [if_neg hMz]
  dsimp only
  rw [hlog, hLL, hp, hB]
  generalize hla : max (e + ((g + k : Nat) : Int) - p) L = last
  have hlast : last ≤ e + k ∧ L ≤ last ∧ (last = L ∨ last = e + g + k - p) ∧ e + g + k - p ≤ last := by omega
  have hkept : Toward.even.cut s (M <<< (e - last).toNat) (last - e).toNat = M0 * 2 ^ (e + k - last).toNat := by
    unfold Toward.cut
    by_cases c : last ≤ e
    · have : (last - e).toNat = 0 := by omega
      rw [this]
      dsimp only
      rw [Nat.zero_min, Nat.shiftLeft_zero, Nat.div_one, Nat.mod_one, Nat.shiftLeft_eq, hM, Nat.mul_assoc, ← Nat.pow_add, show k + (e - last).toNat = (e + k - last).toNat by omega]
      rfl
    · have : (e - last).toNat = 0 := by omega
      rw [this, Nat.shiftLeft_zero]
      have hd : min (last - e).toNat (M.log2 + 2) = (last - e).toNat := by omega
      dsimp only
      rw [hd, Nat.shiftLeft_eq, Nat.one_mul]
      have hMe : M = M0 * 2 ^ (e + k - last).toNat * 2 ^ (last - e).toNat := by rw [hM, Nat.mul_assoc, ← Nat.pow_add]; congr 2; omega
      have hpp := Nat.two_pow_pos (last - e).toNat
      rw [hMe, Nat.mul_div_cancel _ hpp, Nat.mul_mod_left, Nat.mul_zero]
      have e1 : decide (2 ^ (last - e).toNat < 0) = false := by simp
      have e2 : (2 ^ (last - e).toNat == 0) = false := by simp
      rw [e1, e2]; rfl
  rw [hkept]
  have hkl : M0 * 2 ^ (e + k - last).toNat < 2 ^ (p + 1) := by
    have : M0 * 2 ^ (e + k - last).toNat < 2 ^ (g + 1) * 2 ^ (e + k - last).toNat := Nat.mul_lt_mul_of_pos_right hg1 (Nat.two_pow_pos _)
    refine Nat.lt_of_lt_of_le this ?_
    rw [← Nat.pow_add]
    exact Nat.pow_le_pow_right (by decide) (by omega)
  have hkb : last ≠ L → 2 ^ p ≤ M0 * 2 ^ (e + k - last).toNat := by
    intro c
    have : 2 ^ g * 2 ^ (e + k - last).toNat ≤ M0 * 2 ^ (e + k - last).toNat := Nat.mul_le_mul_right _ hg2
    refine Nat.le_trans ?_ this
    rw [← Nat.pow_add]
    exact Nat.pow_le_pow_right (by decide) (by omega)
  have hfin : M0 * 2 ^ (e + k - L).toNat = M0 * 2 ^ (e + k - last).toNat * 2 ^ (last - L).toNat := by
    rw [Nat.mul_assoc, ← Nat.pow_add]; congr 2; omega
  rw [hfin]
  generalize M0 * 2 ^ (e + k - last).toNat = q at *
  rw [Nat.pow_succ] at hkl
  rw [hB] at hBp
  have hinf : (last - L).toNat * 2 ^ p + q < f.infRung := by
    rw [h.r, hB]
    generalize hE : 2 ^ f.exponentBits - 1 = E at *
    have h1 : ((last - L).toNat + 2) * 2 ^ p ≤ E * 2 ^ p := Nat.mul_le_mul_right _ (by omega)
    rw [Nat.add_mul] at h1
    omega
  rw [Nat.min_eq_left (by omega), read_word h s (by omega), hB]
  by_cases c : q < 2 ^ p
  · have hl : last = L := by
      by_cases c2 : last = L
      · exact c2
      · have := hkb c2; omega
    subst hl
    refine ⟨q, last, ?_, Int.le_refl _, rfl⟩
    rw [show (last - last).toNat = 0 by omega, Nat.zero_mul, Nat.zero_add, if_pos c, hLL]
  · refine ⟨q, last, ?_, hlast.2.1, rfl⟩
    generalize ha : (last - L).toNat = a at *
    have h1 : (a * 2 ^ p + q) / 2 ^ p = a + 1 := by
      rw [Nat.mul_comm, Nat.mul_add_div hBp]
      congr 1
      rw [show q = (q - 2 ^ p) + 2 ^ p by omega, Nat.add_div_right _ hBp, Nat.div_eq_of_lt (by omega)]
    have h2 : (a * 2 ^ p + q) % 2 ^ p = q - 2 ^ p := by
      rw [Nat.mul_comm, Nat.mul_add_mod, Nat.mod_eq_sub_mod (by omega), Nat.mod_eq_of_lt (by omega)]
    have h3 : ¬ a * 2 ^ p + q < 2 ^ p := by omega
    rw [if_neg h3, if_pos hinf, h1, h2, hLL]
    congr 1
    · omega
    · omega
open Ieee in
theorem near_units {f : Format} (h : Fmt f) (hU : (-10 - f.leastPlace).toNat + f.fractionBits + 3 ≤ 2 ^ f.exponentBits - 1) (hL : f.leastPlace ≤ -10) (s : Bool) {M v : Nat} {e : Int} (hLe : M = 0 ∨ f.leastPlace ≤ e ∧ M * 2 ^ (e - f.leastPlace).toNat = v * 2 ^ (-10 - f.leastPlace).toNat) (hv : M = 0 → v = 0) (hb : v < 2 ^ (f.fractionBits + 1)) : ∃ m e', f.read (f.nearest s M e) = .number s m e' ∧ f.leastPlace ≤ e' ∧ m * 2 ^ (e' - f.leastPlace).toNat = v * 2 ^ (-10 - f.leastPlace).toNat := by
  by_cases hM : M = 0
  · refine ⟨0, f.leastPlace, ?_, Int.le_refl _, by rw [hv hM]; simp⟩
    unfold Format.nearest
    have hBp : 0 < f.binade := by rw [h.b]; exact Nat.two_pow_pos _
    rw [if_pos hM, read_word h s (Nat.zero_le _), if_pos hBp]
  have hLe : f.leastPlace ≤ e ∧ M * 2 ^ (e - f.leastPlace).toNat = v * 2 ^ (-10 - f.leastPlace).toNat := by
    rcases hLe with c | c
    · exact absurd c hM
    · exact c
  obtain ⟨hLe, hE⟩ := hLe
  by_cases c : e ≤ -10
  · have h1 : (-10 - f.leastPlace).toNat = (-10 - e).toNat + (e - f.leastPlace).toNat := by omega
    have h2 : M = v * 2 ^ (-10 - e).toNat := by
      rw [h1, Nat.pow_add, ← Nat.mul_assoc] at hE
      exact Nat.eq_of_mul_eq_mul_right (Nat.two_pow_pos _) hE
    have h3 : e + ((-10 - e).toNat : Nat) = -10 := by omega
    obtain ⟨m, e', r1, r2, r3⟩ := near_exact h s (e := e) h2 hb (by rw [h3]; exact hL) (by rw [h3]; omega)
    rw [h3] at r3
    exact ⟨m, e', r1, r2, r3⟩
  · have h1 : (e - f.leastPlace).toNat = (e + 10).toNat + (-10 - f.leastPlace).toNat := by omega
    have h2 : M * 2 ^ (e + 10).toNat = v := by
      rw [h1, Nat.pow_add, ← Nat.mul_assoc] at hE
      exact Nat.eq_of_mul_eq_mul_right (Nat.two_pow_pos _) hE
    have hM1 : M ≤ v := by
      rw [← h2]; exact Nat.le_mul_of_pos_right _ (Nat.two_pow_pos _)
    have h3 : 2 ^ (e + 10).toNat < 2 ^ (f.fractionBits + 1) := by
      refine Nat.lt_of_le_of_lt ?_ hb
      rw [← h2]; exact Nat.le_mul_of_pos_left _ (by omega)
    have h4 := (Nat.pow_lt_pow_iff_right (a := 2) (by decide)).1 h3
    obtain ⟨m, e', r1, r2, r3⟩ := near_exact h s (M := M) (M0 := M) (k := 0) (e := e) (by simp) (by omega) (by omega) (by omega)
    refine ⟨m, e', r1, r2, ?_⟩
    rw [r3, ← hE]; congr 2; omega
open Ieee in
def vD (L : Int) (s : Bool) (m : Nat) (e : Int) : Int := signed s m (e - L).toNat
theorem vD_abs (L : Int) (s : Bool) (m : Nat) (e : Int) : (vD L s m e).natAbs = m * 2 ^ (e - L).toNat := by
  unfold vD Ieee.signed
  rw [Nat.shiftLeft_eq]
  cases s
  · simp only [Bool.false_eq_true, if_false]; exact Int.natAbs_natCast _
  · simp only [if_true, Int.natAbs_neg]; exact Int.natAbs_natCast _
theorem vD_sign (L : Int) (s : Bool) (m : Nat) (e : Int) : (s = true → vD L s m e ≤ 0) ∧ (s = false → 0 ≤ vD L s m e) := by
  unfold vD Ieee.signed
  cases s
  · refine ⟨fun c => (by cases c), fun _ => ?_⟩; simp only [Bool.false_eq_true, if_false]; exact Int.natCast_nonneg _
  · refine ⟨fun _ => ?_, fun c => (by cases c)⟩; simp only [if_true]; exact Int.neg_nonpos_of_nonneg (Int.natCast_nonneg _)
/-- A word that stands for v / 1024. -/
def Dv (k : FloatKind) (x : Nat) (v : Int) : Prop := ∃ s m e, k.format.read x = .number s m e ∧ k.format.leastPlace ≤ e ∧ vD k.format.leastPlace s m e = v * (2 ^ (-10 - k.format.leastPlace).toNat : Nat)
def isFk (k : FloatKind) : Prop := Fmt k.format ∧ (-10 - k.format.leastPlace).toNat + k.format.fractionBits + 3 ≤ 2 ^ k.format.exponentBits - 1 ∧ k.format.leastPlace ≤ -10
theorem fk1 : isFk .f32 := ⟨fmt1, by decide, by decide⟩
theorem fk2 : isFk .f64 := ⟨fmt2, by decide, by decide⟩
theorem unit_pos (n : Nat) : (0 : Int) < ((2 ^ n : Nat) : Int) := by have := Nat.two_pow_pos n; omega
theorem dv_near {k : FloatKind} (hk : isFk k) {s : Bool} {M : Nat} {v e : Int} (hLe : M = 0 ∨ k.format.leastPlace ≤ e ∧ M * 2 ^ (e - k.format.leastPlace).toNat = v.natAbs * 2 ^ (-10 - k.format.leastPlace).toNat) (hv : M = 0 → v = 0) (hb : v.natAbs < 2 ^ (k.format.fractionBits + 1)) (hs : (s = true → v ≤ 0) ∧ (s = false → 0 ≤ v)) : Dv k (k.format.nearest s M e) v := by
  obtain ⟨m, e', r1, r2, r3⟩ := near_units hk.1 hk.2.1 hk.2.2 s (v := v.natAbs) hLe (fun c => by rw [hv c]; rfl) hb
  refine ⟨s, m, e', r1, r2, ?_⟩
  have h1 := vD_abs k.format.leastPlace s m e'
  have h2 := vD_sign k.format.leastPlace s m e'
  rw [r3] at h1
  generalize vD k.format.leastPlace s m e' = V at *
  have h3 : (v * ((2 ^ (-10 - k.format.leastPlace).toNat : Nat) : Int)).natAbs = v.natAbs * 2 ^ (-10 - k.format.leastPlace).toNat := by rw [Int.natAbs_mul]; rfl
  have hp := unit_pos (-10 - k.format.leastPlace).toNat
  rw [← h3] at h1
  cases s with
  | true =>
    have h4 : v * ((2 ^ (-10 - k.format.leastPlace).toNat : Nat) : Int) ≤ 0 := Int.mul_nonpos_of_nonpos_of_nonneg (hs.1 rfl) (Int.le_of_lt hp)
    have := h2.1 rfl; omega
  | false =>
    have h4 : 0 ≤ v * ((2 ^ (-10 - k.format.leastPlace).toNat : Nat) : Int) := Int.mul_nonneg (hs.2 rfl) (Int.le_of_lt hp)
    have := h2.2 rfl; omega
theorem dv_cz {k : FloatKind} {x : Nat} {v : Int} (h : Dv k x v) : cz k x = x := by
  obtain ⟨s, m, e, r, _⟩ := h
  unfold cz
  rw [show k.decode x = k.format.read x from rfl, r]; rfl
open Ieee in
theorem sum_num {L : Int} {s t : Bool} {m n : Nat} {i j : Int} (hi : L ≤ i) (hj : L ≤ j) : ∃ u M b, (Datum.number s m i).sum (.number t n j) = some (.number u M b) ∧ L ≤ b ∧ M * 2 ^ (b - L).toNat = (vD L s m i + vD L t n j).natAbs ∧ (u = true → vD L s m i + vD L t n j ≤ 0) ∧ (u = false → 0 ≤ vD L s m i + vD L t n j) := by
  have e1 : vD L s m i = signed s m (i - min i j).toNat * (2 ^ (min i j - L).toNat : Nat) := by
    unfold vD; rw [← signed_up]; congr 1; omega
  have e2 : vD L t n j = signed t n (j - min i j).toNat * (2 ^ (min i j - L).toNat : Nat) := by
    unfold vD; rw [← signed_up]; congr 1; omega
  rw [e1, e2]
  have hp := unit_pos (min i j - L).toNat
  refine ⟨_, _, _, rfl, by omega, ?_, ?_, ?_⟩
  · rw [← Int.add_mul, Int.natAbs_mul]; rfl
  · intro c
    rw [← Int.add_mul]
    refine Int.mul_nonpos_of_nonpos_of_nonneg ?_ (Int.le_of_lt hp)
    by_cases hz : signed s m (i - min i j).toNat + signed t n (j - min i j).toNat = 0
    · omega
    · rw [if_neg hz] at c; have := of_decide_eq_true c; omega
  · intro c
    rw [← Int.add_mul]
    refine Int.mul_nonneg ?_ (Int.le_of_lt hp)
    by_cases hz : signed s m (i - min i j).toNat + signed t n (j - min i j).toNat = 0
    · omega
    · rw [if_neg hz] at c; have := of_decide_eq_false c; omega
theorem dv_sumw {k : FloatKind} (hk : isFk k) {s t : Bool} {m n : Nat} {i j : Int} {a b : Int} (hi : k.format.leastPlace ≤ i) (hj : k.format.leastPlace ≤ j) (ha : vD k.format.leastPlace s m i = a * (2 ^ (-10 - k.format.leastPlace).toNat : Nat)) (hb : vD k.format.leastPlace t n j = b * (2 ^ (-10 - k.format.leastPlace).toNat : Nat)) (hab : (a + b).natAbs < 2 ^ (k.format.fractionBits + 1)) : ∃ z, ((Ieee.Datum.number s m i).sum (.number t n j)).map k.format.write = some z ∧ Dv k z (a + b) := by
  obtain ⟨u, M, c, h1, h2, h3, h4, h5⟩ := sum_num (s := s) (t := t) (m := m) (n := n) hi hj
  have hp := unit_pos (-10 - k.format.leastPlace).toNat
  rw [ha, hb, ← Int.add_mul] at h3 h4 h5
  refine ⟨_, by rw [h1]; rfl, ?_⟩
  rw [Int.natAbs_mul] at h3
  have h3' : M * 2 ^ (c - k.format.leastPlace).toNat = (a + b).natAbs * 2 ^ (-10 - k.format.leastPlace).toNat := h3
  refine dv_near hk (.inr ⟨h2, h3'⟩) (fun c => ?_) hab ⟨fun c => ?_, fun c => ?_⟩
  · rw [c, Nat.zero_mul] at h3'
    have := Nat.two_pow_pos (-10 - k.format.leastPlace).toNat
    rcases Nat.mul_eq_zero.1 h3'.symm with d | d
    · omega
    · omega
  · exact Int.not_lt.1 fun d => by have := Int.mul_pos d hp; have := h4 c; omega
  · exact Int.not_lt.1 fun d => by have := Int.mul_neg_of_neg_of_pos d hp; have := h5 c; omega
theorem fop_some {op : BinOp} {k : FloatKind} {x y z : Nat} {v : Int} (h : floatBits op k x y = some z) (hz : Dv k z v) : Dv k (fop op k x y) v := by
  unfold fop
  rw [h]
  show Dv k (cz k z) v
  rw [dv_cz hz]; exact hz
theorem dv_add {k : FloatKind} (hk : isFk k) {x y : Nat} {a b : Int} (hx : Dv k x a) (hy : Dv k y b) (hab : (a + b).natAbs < 2 ^ (k.format.fractionBits + 1)) : Dv k (fop .add k x y) (a + b) := by
  obtain ⟨s, m, i, r1, l1, v1⟩ := hx
  obtain ⟨t, n, j, r2, l2, v2⟩ := hy
  obtain ⟨z, h1, h2⟩ := dv_sumw hk l1 l2 v1 v2 hab
  refine fop_some (z := z) ?_ h2
  show k.format.add x y = some z
  unfold Ieee.Format.add
  rw [r1, r2]; exact h1
theorem vD_not (L : Int) (s : Bool) (m : Nat) (e : Int) : vD L (!s) m e = - vD L s m e := by
  unfold vD Ieee.signed; cases s <;> simp
theorem dv_sub {k : FloatKind} (hk : isFk k) {x y : Nat} {a b : Int} (hx : Dv k x a) (hy : Dv k y b) (hab : (a - b).natAbs < 2 ^ (k.format.fractionBits + 1)) : Dv k (fop .sub k x y) (a - b) := by
  obtain ⟨s, m, i, r1, l1, v1⟩ := hx
  obtain ⟨t, n, j, r2, l2, v2⟩ := hy
  obtain ⟨z, h1, h2⟩ := dv_sumw hk (t := !t) (b := -b) l1 l2 v1 (by rw [vD_not, v2, Int.neg_mul]) hab
  refine fop_some (z := z) ?_ h2
  show k.format.sub x y = some z
  unfold Ieee.Format.sub
  rw [r1, r2]; exact h1
/-! ### how they stand to others -/
open Ieee in
theorem order_vD {L : Int} {s t : Bool} {m n : Nat} {i j : Int} (hi : L ≤ i) (hj : L ≤ j) : (Datum.number s m i).order (.number t n j) = some (compare (vD L s m i) (vD L t n j)) := by
  have e1 : vD L s m i = signed s m (i - min i j).toNat * (2 ^ (min i j - L).toNat : Nat) := by
    unfold vD; rw [← signed_up]; congr 1; omega
  have e2 : vD L t n j = signed t n (j - min i j).toNat * (2 ^ (min i j - L).toNat : Nat) := by
    unfold vD; rw [← signed_up]; congr 1; omega
  rw [e1, e2]
  show some (compare (signed s m (i - min i j).toNat) (signed t n (j - min i j).toNat)) = _
  congr 1
  have hp := unit_pos (min i j - L).toNat
  generalize signed s m (i - min i j).toNat = a
  generalize signed t n (j - min i j).toNat = b
  generalize ((2 ^ (min i j - L).toNat : Nat) : Int) = p at hp
  rw [show compare a b = compareOfLessAndEq a b from rfl, show compare (a * p) (b * p) = compareOfLessAndEq (a * p) (b * p) from rfl]
  unfold compareOfLessAndEq
  have h1 : (a * p < b * p) = (a < b) := propext ⟨fun h => Int.lt_of_mul_lt_mul_right h (Int.le_of_lt hp), fun h => Int.mul_lt_mul_of_pos_right h hp⟩
  have h2 : (a * p = b * p) = (a = b) := propext ⟨fun h => Int.eq_of_mul_eq_mul_right (Int.ne_of_gt hp) h, fun h => by rw [h]⟩
  simp only [h1, h2]
theorem dv_order {k : FloatKind} {x y : Nat} {a b : Int} (hx : Dv k x a) (hy : Dv k y b) : k.format.order x y = some (compare a b) := by
  obtain ⟨s, m, i, r1, l1, v1⟩ := hx
  obtain ⟨t, n, j, r2, l2, v2⟩ := hy
  unfold Ieee.Format.order
  rw [r1, r2, order_vD l1 l2, v1, v2]
  congr 1
  have hp := unit_pos (-10 - k.format.leastPlace).toNat
  generalize ((2 ^ (-10 - k.format.leastPlace).toNat : Nat) : Int) = p at hp
  rw [show compare a b = compareOfLessAndEq a b from rfl, show compare (a * p) (b * p) = compareOfLessAndEq (a * p) (b * p) from rfl]
  unfold compareOfLessAndEq
  have h1 : (a * p < b * p) = (a < b) := propext ⟨fun h => Int.lt_of_mul_lt_mul_right h (Int.le_of_lt hp), fun h => Int.mul_lt_mul_of_pos_right h hp⟩
  have h2 : (a * p = b * p) = (a = b) := propext ⟨fun h => Int.eq_of_mul_eq_mul_right (Int.ne_of_gt hp) h, fun h => by rw [h]⟩
  simp only [h1, h2]
theorem cmp_le' {a b : Int} : (some (compare a b) == some Ordering.lt || some (compare a b) == some Ordering.eq) = decide (a ≤ b) := by
  have h1 := cmp_lt (a := a) (b := b); have h2 := cmp_eq (a := a) (b := b)
  show (compare a b == Ordering.lt || compare a b == Ordering.eq) = _
  rw [h1, h2, ← Bool.decide_or]
  exact decide_eq_decide.2 ⟨fun c => by omega, fun c => by omega⟩
theorem dv_lss {k : FloatKind} {x y : Nat} {a b : Int} (hx : Dv k x a) (hy : Dv k y b) : fcmp .lss k x y = decide (a < b) := by
  unfold fcmp; dsimp only; rw [dv_order hx hy]; exact cmp_lt
theorem dv_gtr {k : FloatKind} {x y : Nat} {a b : Int} (hx : Dv k x a) (hy : Dv k y b) : fcmp .gtr k x y = decide (b < a) := by
  unfold fcmp; dsimp only; rw [dv_order hx hy]; exact cmp_gt
theorem dv_eql {k : FloatKind} {x y : Nat} {a b : Int} (hx : Dv k x a) (hy : Dv k y b) : fcmp .eql k x y = decide (a = b) := by
  unfold fcmp; dsimp only; rw [dv_order hx hy]; exact cmp_eq
theorem dv_leq {k : FloatKind} {x y : Nat} {a b : Int} (hx : Dv k x a) (hy : Dv k y b) : fcmp .leq k x y = decide (a ≤ b) := by
  unfold fcmp; dsimp only; rw [dv_order hx hy]; exact cmp_le'
theorem dv_neq {k : FloatKind} {x y : Nat} {a b : Int} (hx : Dv k x a) (hy : Dv k y b) : fcmp .neq k x y = !decide (a = b) := by
  unfold fcmp; dsimp only; rw [dv_order hx hy]; show (!(compare a b == Ordering.eq)) = _; rw [cmp_eq]
/-- Against a word that is no such number. -/
theorem dv_order2 {k : FloatKind} {x y : Nat} {a : Int} {t : Bool} {n : Nat} {j : Int} (hx : Dv k x a) (hy : k.format.read y = .number t n j) (hj : k.format.leastPlace ≤ j) : k.format.order x y = some (compare (a * (2 ^ (-10 - k.format.leastPlace).toNat : Nat)) (vD k.format.leastPlace t n j)) := by
  obtain ⟨s, m, i, r1, l1, v1⟩ := hx
  unfold Ieee.Format.order
  rw [r1, hy, order_vD l1 hj, v1]
theorem dv_gtr2 {k : FloatKind} {x y : Nat} {a : Int} {t : Bool} {n : Nat} {j : Int} (hx : Dv k x a) (hy : k.format.read y = .number t n j) (hj : k.format.leastPlace ≤ j) : fcmp .gtr k x y = decide (vD k.format.leastPlace t n j < a * (2 ^ (-10 - k.format.leastPlace).toNat : Nat)) := by
  unfold fcmp; dsimp only; rw [dv_order2 hx hy hj]; exact cmp_gt
theorem dv_leq2 {k : FloatKind} {x y : Nat} {a : Int} {t : Bool} {n : Nat} {j : Int} (hx : Dv k x a) (hy : k.format.read y = .number t n j) (hj : k.format.leastPlace ≤ j) : fcmp .leq k x y = decide (a * (2 ^ (-10 - k.format.leastPlace).toNat : Nat) ≤ vD k.format.leastPlace t n j) := by
  unfold fcmp; dsimp only; rw [dv_order2 hx hy hj]; exact cmp_le'
/-! ### halves, and wider words -/
theorem dv_half {x : Nat} {a : Int} (hx : Dv .f32 x (2 * a)) (ha : a.natAbs < 2 ^ 24) : Dv .f32 (fop .mul .f32 1056964608 x) a := by
  obtain ⟨s, m, e, r, l, v⟩ := hx
  have hl : (FloatKind.f32.format).leastPlace = -149 := by decide
  have hr : (FloatKind.f32.format).read 1056964608 = .number false 8388608 (-24) := by decide +kernel
  have hm : m < 2 ^ 24 := by
    rcases read_single x with ⟨s', t, h⟩ | ⟨s', h⟩ | ⟨s', m', e', h, h1, h2, h3⟩
    · rw [show (FloatKind.f32.format).read x = Ieee.single.read x from rfl, h] at r; cases r
    · rw [show (FloatKind.f32.format).read x = Ieee.single.read x from rfl, h] at r; cases r
    · rw [show (FloatKind.f32.format).read x = Ieee.single.read x from rfl, h] at r; cases r; exact h1
  have h1 := vD_abs (-149) s m e
  have h2 := vD_sign (-149) s m e
  rw [hl] at l v
  rw [v] at h1 h2
  have hp := unit_pos (-10 - -149 : Int).toNat
  rw [Int.natAbs_mul] at h1
  have h1 : (2 * a).natAbs * 2 ^ 139 = m * 2 ^ (e - -149).toNat := h1
  have hz : m = 0 → a = 0 := by
    intro c; rw [c, Nat.zero_mul] at h1
    have := Nat.two_pow_pos 139
    rcases Nat.mul_eq_zero.1 h1 with d | d <;> omega
  refine fop_some (z := (FloatKind.f32.format).nearest s (8388608 * m) (-24 + e)) ?_ (dv_near fk1 ?_ (fun c => hz (by omega)) ha ⟨fun c => ?_, fun c => ?_⟩)
  · show (FloatKind.f32.format).mul 1056964608 x = _
    unfold Ieee.Format.mul
    rw [hr, r]
    show some ((FloatKind.f32.format).nearest (false ^^ s) _ _) = _
    rw [Bool.false_xor]
  · by_cases c : m = 0
    · left; rw [c]
    right
    have hbig : 115 < (e - -149).toNat := by
      have ha0 : a ≠ 0 := by
        intro d
        rw [d] at h1
        have h1 : 0 = m * 2 ^ (e - -149).toNat := by rw [← h1]; rfl
        have := Nat.two_pow_pos (e - -149).toNat
        rcases Nat.mul_eq_zero.1 h1.symm with d | d <;> omega
      have h3 : 2 ^ 139 ≤ m * 2 ^ (e - -149).toNat := by rw [← h1]; exact Nat.le_mul_of_pos_left _ (by omega)
      have h4 : m * 2 ^ (e - -149).toNat < 2 ^ 24 * 2 ^ (e - -149).toNat := Nat.mul_lt_mul_of_pos_right hm (Nat.two_pow_pos _)
      rw [← Nat.pow_add] at h4
      have := (Nat.pow_lt_pow_iff_right (a := 2) (by decide)).1 (Nat.lt_of_le_of_lt h3 h4); omega
    rw [hl]
    refine ⟨by omega, ?_⟩
    have h5 : (e - -149).toNat = (-24 + e - -149).toNat + 24 := by omega
    rw [h5, Nat.pow_add] at h1
    show 8388608 * m * 2 ^ (-24 + e - -149).toNat = a.natAbs * 2 ^ 139
    generalize 2 ^ (-24 + e - -149).toNat = q at *
    have h6 : (2 * a).natAbs = 2 * a.natAbs := by omega
    rw [h6] at h1
    have h7 : m * (q * 2 ^ 24) = 2 * (8388608 * m * q) := by
      rw [show (2 : Nat) ^ 24 = 2 * 8388608 by decide, ← Nat.mul_assoc, ← Nat.mul_assoc, Nat.mul_comm (m * q) 2, Nat.mul_assoc, Nat.mul_assoc 8388608 m q, Nat.mul_comm (m * q)]
    rw [h7, Nat.mul_assoc] at h1
    omega
  · exact Int.not_lt.1 fun d => by have := Int.mul_pos (show (0 : Int) < 2 * a by omega) hp; have := h2.1 c; omega
  · exact Int.not_lt.1 fun d => by have := Int.mul_neg_of_neg_of_pos (show 2 * a < 0 by omega) hp; have := h2.2 c; omega
theorem dv_widen {x : Nat} {a : Int} (hx : Dv .f32 x a) (ha : a.natAbs < 2 ^ 53) : Dv .f64 (widen x) a := by
  obtain ⟨s, m, e, r, l, v⟩ := hx
  have hl : (FloatKind.f32.format).leastPlace = -149 := by decide
  have hl2 : (FloatKind.f64.format).leastPlace = -1074 := by decide
  have h1 := vD_abs (-149) s m e
  have h2 := vD_sign (-149) s m e
  rw [hl] at l v
  rw [v] at h1 h2
  have hp := unit_pos (-10 - -149 : Int).toNat
  rw [Int.natAbs_mul] at h1
  have h1 : a.natAbs * 2 ^ 139 = m * 2 ^ (e - -149).toNat := h1
  have hn : Dv .f64 ((FloatKind.f64.format).nearest s m e) a := by
    refine dv_near fk2 (.inr ?_) (fun c => ?_) ha ⟨fun c => ?_, fun c => ?_⟩
    · rw [hl2]
      refine ⟨by omega, ?_⟩
      obtain ⟨w, hw⟩ : ∃ w : Nat, w = 925 := ⟨_, rfl⟩
      rw [show (e - -1074).toNat = (e - -149).toNat + w by omega, Nat.pow_add, ← Nat.mul_assoc, ← h1, Nat.mul_assoc, ← Nat.pow_add]
      congr 2
      omega
    · rw [c, Nat.zero_mul] at h1
      have := Nat.two_pow_pos 139
      rcases Nat.mul_eq_zero.1 h1 with d | d <;> omega
    · exact Int.not_lt.1 fun d => by have := Int.mul_pos d hp; have := h2.1 c; omega
    · exact Int.not_lt.1 fun d => by have := Int.mul_neg_of_neg_of_pos d hp; have := h2.2 c; omega
  have hw : fconv .f32 x .f64 = some ((FloatKind.f64.format).nearest s m e) := by
    unfold fconv
    rw [if_neg (by decide), show FloatKind.f32.decode x = (FloatKind.f32.format).read x from rfl, r]
    dsimp only
    have he : FloatKind.f64.encode (.number s m e) = (FloatKind.f64.format).nearest s m e := rfl
    rw [he, dv_cz hn]
    obtain ⟨s', m', e', r', _⟩ := hn
    rw [show FloatKind.f64.decode _ = (FloatKind.f64.format).read _ from rfl, r']; rfl
  unfold widen
  rw [hw]; exact hn

end Go.Proofs.Ytecdkjnomkdbkaa.G

namespace Go.Proofs.Ytecdkjnomkdbkaa.G
open Go Go.Ab
set_option maxRecDepth 100000
set_option linter.unusedVariables false
set_option linter.unusedSimpArgs false
set_option maxHeartbeats 1000000
/-- What is like itself is a number. -/
theorem num_of_eq {x : Nat} (h : fcmp .neq .f32 x x = false) : num .f32 x = true := by
  unfold num
  cases hd : (FloatKind.f32.decode x).isNaN with
  | false => rfl
  | true =>
    exfalso
    have h2 : Ieee.single.order x x = none := by
      unfold Ieee.Format.order
      have hd' : (Ieee.single.read x).isNaN = true := hd
      cases hr : Ieee.single.read x with
      | nan s t => rfl
      | _ => rw [hr] at hd'; cases hd'
    unfold fcmp at h
    rw [show FloatKind.f32.format = Ieee.single from rfl, h2] at h
    cases h
theorem ixor {a b : Nat} (ha : a < 2 ^ 32) (hb : b < 2 ^ 32) : ibits .xor .i64 (a : Int) (b : Int) = ((a ^^^ b : Nat) : Int) := by
  have hx : a ^^^ b < 2 ^ 32 := Nat.xor_lt_two_pow ha hb
  have ea : (BitVec.ofInt 64 (a : Int)).toNat = a := by rw [BitVec.ofInt_natCast, BitVec.toNat_ofNat]; omega
  have eb : (BitVec.ofInt 64 (b : Int)).toNat = b := by rw [BitVec.ofInt_natCast, BitVec.toNat_ofNat]; omega
  show IntKind.i64.wrap ((BitVec.ofInt 64 (a : Int) ^^^ BitVec.ofInt 64 (b : Int)).toNat : Int) = _
  rw [BitVec.toNat_xor, ea, eb]
  exact wI (by omega)
theorem ior {a b : Nat} (ha : a < 2 ^ 32) (hb : b < 2 ^ 32) : ibits .or .i64 (a : Int) (b : Int) = ((a ||| b : Nat) : Int) := by
  have hx : a ||| b < 2 ^ 32 := Nat.or_lt_two_pow ha hb
  have ea : (BitVec.ofInt 64 (a : Int)).toNat = a := by rw [BitVec.ofInt_natCast, BitVec.toNat_ofNat]; omega
  have eb : (BitVec.ofInt 64 (b : Int)).toNat = b := by rw [BitVec.ofInt_natCast, BitVec.toNat_ofNat]; omega
  show IntKind.i64.wrap ((BitVec.ofInt 64 (a : Int) ||| BitVec.ofInt 64 (b : Int)).toNat : Int) = _
  rw [BitVec.toNat_or, ea, eb]
  exact wI (by omega)
theorem p8 : (2 ^ (min (8 : Int).toNat IntKind.i64.bits) : Int) = 256 := by decide
theorem fdiv8 (m : Nat) : Int.fdiv (m : Int) (2 ^ (min (8 : Int).toNat IntKind.i64.bits)) = ((m / 256 : Nat) : Int) := by
  rw [p8, Int.fdiv_eq_ediv_of_nonneg _ (by decide)]; omega
theorem tdivN (m k : Nat) (h : m < 2 ^ 40) : IntKind.i64.wrap (Int.tdiv (m : Int) (k : Int)) = ((m / k : Nat) : Int) := by
  rw [show (m : Int).tdiv (k : Int) = ((m / k : Nat) : Int) by rw [Int.tdiv_eq_ediv_of_nonneg (by omega)]; rfl]
  have := Nat.div_le_self m k
  generalize m / k = d at this
  exact wI (by omega)
theorem u8wrap (m : Nat) : IntKind.u8.wrap (m : Int) = ((m % 256 : Nat) : Int) := by
  show (m : Int) % 256 = _
  omega
theorem tmod8 (m : Nat) : Int.tmod (m : Int) 256 = ((m % 256 : Nat) : Int) := by
  rw [Int.tmod_eq_emod_of_nonneg (by omega)]; rfl
/-- How many bytes a number fills. -/
def nb (x : Nat) : Nat := if x = 0 then 0 else if x < 256 then 1 else if x < 65536 then 2 else if x < 16777216 then 3 else 4
theorem nb_le (x : Nat) : nb x ≤ 4 := by unfold nb; repeat' split
                                         all_goals omega
theorem nb_div {m : Nat} (h : 0 < m) (h32 : m < 2 ^ 32) : nb (m / 256) + 1 = nb m := by
  unfold nb; repeat' split
  all_goals omega
def lowB : Nat → Nat → List Int
  | 0, _ => []
  | n + 1, x => ((x % 256 : Nat) : Int) :: lowB n (x / 256)
theorem lowB_len : ∀ n x, (lowB n x).length = n
  | 0, _ => rfl
  | n + 1, x => by rw [lowB, List.length_cons, lowB_len]
def bitsN (x : Nat) : Nat := if fcmp .neq .f32 x x = true then 2143289344 else x
theorem bitsN_lt {x : Nat} (h : x < 2 ^ 32) : bitsN x < 2 ^ 32 := by unfold bitsN; split <;> omega
def oneB (y : Nat) : List Int := ((4 - nb y : Nat) : Int) :: lowB (nb y) y
theorem oneB_len (y : Nat) : (oneB y).length ≤ 5 := by rw [oneB, List.length_cons, lowB_len]; have := nb_le y; omega
def packTo : List Nat → Nat → List Int
  | [], _ => []
  | x :: l, b => oneB (bitsN x ^^^ b) ++ packTo l (bitsN x)
def packL (l : List Nat) : List UInt8 := byts (packTo l 0)
/-- The loop over the values. -/
theorem pack_loop (l : List Nat) (hl : l.length ≤ 2 ^ 20) (hw : ∀ x ∈ l, x < 2 ^ 32) {X : List Int → Int → Int → Prop} (hX : ∀ (o : List Int) (b i : Nat) (hi : i < l.length), b < 2 ^ 32 → o.length ≤ 5 * i → X (o ++ oneB (bitsN l[i] ^^^ b)) (bitsN l[i] : Nat) ((i + 1 : Nat) : Int) → X o (b : Int) (i : Int)) (hend : ∀ b : Int, X (packTo l 0) b (l.length : Int)) : X [] ((0 : Nat) : Int) ((0 : Nat) : Int) := by
  have key : ∀ (m i : Nat) (o : List Int) (b : Nat), m + i = l.length → b < 2 ^ 32 → o.length ≤ 5 * i → o ++ packTo (l.drop i) b = packTo l 0 → X o (b : Int) (i : Int) := by
    intro m
    induction m with
    | zero => intro i o b h1 h2 h3 h4
              obtain rfl : i = l.length := by omega
              rw [List.drop_length, packTo, List.append_nil] at h4
              rw [h4]; exact hend _
    | succ m ih =>
      intro i o b h1 h2 h3 h4
      have hi : i < l.length := by omega
      refine hX o b i hi h2 h3 (ih (i + 1) _ _ (by omega) (bitsN_lt (hw _ (List.getElem_mem hi))) (by rw [List.length_append]; have := oneB_len (bitsN l[i] ^^^ b); omega) ?_)
      rw [dropC hi, packTo] at h4
      rw [List.append_assoc]; exact h4
  exact key l.length 0 [] 0 (by omega) (by decide) (by simp) rfl
/-- The loop over a number's bytes. -/
theorem bytes_loop (M : Nat) {X : List Int → Int → Int → Prop} {N : Nat} (hX : ∀ (o : List Int) (x k : Nat), k < N → x < 2 ^ 32 → o.length < M → X (o ++ [((x % 256 : Nat) : Int)]) ((x / 256 : Nat) : Int) ((k + 1 : Nat) : Int) → X o (x : Int) (k : Int)) : ∀ (n k x : Nat) (o : List Int), k + n = N → x < 2 ^ 32 → o.length + n ≤ M → (∀ x, X (o ++ lowB n x) x (N : Int) → True) → (∀ y : Int, X (o ++ lowB n x) y (N : Int)) → X o (x : Int) (k : Int) := by
  intro n
  induction n with
  | zero => intro k x o h1 h2 h3 _ h4
            obtain rfl : k = N := by omega
            have := h4 x
            rw [lowB, List.append_nil] at this; exact this
  | succ n ih =>
    intro k x o h1 h2 h3 _ h4
    refine hX o x k (by omega) h2 (by omega) (ih (k + 1) (x / 256) _ (by omega) (by omega) (by rw [List.length_append, List.length_singleton]; omega) (fun _ _ => trivial) fun y => ?_)
    have := h4 y
    rw [lowB] at this
    rw [List.append_assoc]; exact this
theorem spec_l01Bits_wp {x : Nat} {K : Int → Prop} (hx : x < 2 ^ 32) (h : K (bitsN x : Nat)) : spec_l01Bits.wp x K := by
  refine ⟨fun c => ?_, fun c => ⟨?_, ?_⟩⟩
  · rw [bitsN, if_pos c] at h; exact h
  · exact num_of_eq c
  · rw [bitsN, if_neg (by rw [c]; decide)] at h
    rw [wI (by omega)]; exact h

end Go.Proofs.Ytecdkjnomkdbkaa.G

namespace Go.Proofs.Ytecdkjnomkdbkaa.G
open Go Go.Ab
set_option maxRecDepth 100000
set_option linter.unusedVariables false
set_option linter.unusedSimpArgs false
set_option maxHeartbeats 1000000
open Ieee in
theorem sgn_read {x : Nat} (h : (single.read x).isNaN = false) : (single.read x).neg = (x / 2147483648 % 2 == 1) := by
  rw [read_f32] at h ⊢
  split
  · rfl
  · split
    · rfl
    · split
      · rfl
      · rename_i h1 h2 h3; rw [if_neg h1, if_neg h2, if_neg h3] at h; cases h
open Ieee in
/-- A number made longer: its sign, and a rung. -/
theorem widen_word {x : Nat} (h : (single.read x).isNaN = false) : ∃ r, r ≤ double.infRung ∧ widen x = double.word (single.read x).neg r ∧ (double.read (widen x)).isNaN = false := by
  have hs : double.infRung < double.signWeight := by decide +kernel
  have hd : FloatKind.f32.decode x = single.read x := rfl
  have hcz : ∀ s r, r ≤ double.infRung → cz .f64 (double.word s r) = double.word s r := fun s r hr => by
    have : (FloatKind.f64.decode (double.word s r)).isNaN = false := word_num double s r hr hs
    unfold cz; rw [if_neg (by rw [this]; decide)]
  have hw := widen_eq x
  unfold fconv at hw
  rw [if_neg (by decide), hd] at hw
  cases hr : single.read x with
  | nan s t => rw [hr] at h; cases h
  | infinity s =>
    rw [hr] at hw
    have e : widen x = double.word s double.infRung := by
      have h1 : some (cz .f64 (double.word s double.infRung)) = some (widen x) := hw
      rw [hcz s _ (Nat.le_refl _)] at h1
      exact (Option.some.inj h1).symm
    exact ⟨double.infRung, Nat.le_refl _, e, by rw [e]; exact word_num double s _ (Nat.le_refl _) hs⟩
  | number s m e =>
    rw [hr] at hw
    dsimp only at hw
    split at hw
    · cases hw
    · have h1 : some (cz .f64 (double.nearest s m e)) = some (widen x) := hw
      have hn : ∃ r, r ≤ double.infRung ∧ double.nearest s m e = double.word s r := by
        unfold Format.nearest
        split
        · exact ⟨0, Nat.zero_le _, rfl⟩
        · exact ⟨_, Nat.min_le_right _ _, rfl⟩
      obtain ⟨r, hr1, hr2⟩ := hn
      rw [hr2, hcz s r hr1] at h1
      have e2 := (Option.some.inj h1).symm
      exact ⟨r, hr1, e2, by rw [e2]; exact word_num double s r hr1 hs⟩
def sgn (x : Nat) : Bool := (x / 2147483648 % 2 == 1)
open Ieee in
/-- The canonical form: which rung it is. -/
theorem rung_of {x : Nat} {s : Bool} {m : Nat} {e : Int} (h : single.read x = .number s m e) : s = sgn x ∧ -149 ≤ e ∧ (e = -149 ∧ m < 16777216 ∧ x % 2147483648 = m ∨ -149 < e ∧ 8388608 ≤ m ∧ m < 16777216 ∧ x % 2147483648 = (e + 150).toNat * 8388608 + (m - 8388608)) := by
  rw [read_f32] at h
  have hr : x % 2147483648 < 2147483648 := Nat.mod_lt _ (by decide)
  generalize x % 2147483648 = r at h hr
  by_cases h1 : r < 8388608
  · rw [if_pos h1] at h
    simp only [Datum.number.injEq] at h
    obtain ⟨rfl, rfl, rfl⟩ := h
    exact ⟨rfl, by omega, .inl ⟨rfl, by omega, rfl⟩⟩
  · rw [if_neg h1] at h
    by_cases h2 : r < 2139095040
    · rw [if_pos h2] at h
      simp only [Datum.number.injEq] at h
      obtain ⟨rfl, rfl, rfl⟩ := h
      have hmd : r % 8388608 < 8388608 := Nat.mod_lt _ (by decide)
      have hdm := Nat.div_add_mod r 8388608
      refine ⟨rfl, by omega, ?_⟩
      by_cases h3 : r / 8388608 = 1
      · left; refine ⟨by omega, by omega, by omega⟩
      · right
        refine ⟨by omega, by omega, by omega, ?_⟩
        rw [show (-149 + ((r / 8388608 - 1 : Nat) : Int) + 150).toNat = r / 8388608 by omega]
        omega
    · rw [if_neg h2] at h; split at h <;> cases h
open Ieee in
theorem val_inj {s : Bool} {m n : Nat} {e k : Int} (he : -149 ≤ e) (hk : -149 ≤ k) (hm : m < 16777216) (hn : n < 16777216) (hke : e < k → 8388608 ≤ n) (h : val (.number s m e) = val (.number s n k)) : ¬ e < k := by
  intro hlt
  have h8 := hke hlt
  have h1 : m * 2 ^ (e + 149).toNat = n * 2 ^ (k + 149).toNat := by
    cases s
    · simp only [val, signed, Bool.false_eq_true, if_false, Nat.shiftLeft_eq] at h; exact Int.ofNat_inj.1 h
    · simp only [val, signed, if_true, Nat.shiftLeft_eq] at h; exact Int.ofNat_inj.1 (by omega)
  have h2 : (k + 149).toNat = (k - e).toNat + (e + 149).toNat := by omega
  rw [h2, Nat.pow_add, ← Nat.mul_assoc] at h1
  have h3 := Nat.eq_of_mul_eq_mul_right (Nat.two_pow_pos _) h1
  have h4 : 2 ^ 1 ≤ 2 ^ (k - e).toNat := Nat.pow_le_pow_right (by decide) (by omega)
  have h5 : n * 2 ≤ n * 2 ^ (k - e).toNat := Nat.mul_le_mul_left _ h4
  omega
open Ieee in
theorem val_mag {s : Bool} {m n : Nat} {e : Int} (h : val (.number s m e) = val (.number s n e)) : m = n := by
  have h1 : m * 2 ^ (e + 149).toNat = n * 2 ^ (e + 149).toNat := by
    cases s
    · simp only [val, signed, Bool.false_eq_true, if_false, Nat.shiftLeft_eq] at h; exact Int.ofNat_inj.1 h
    · simp only [val, signed, if_true, Nat.shiftLeft_eq] at h; exact Int.ofNat_inj.1 (by omega)
  exact Nat.eq_of_mul_eq_mul_right (Nat.two_pow_pos _) h1
theorem word_ext {a b : Nat} (ha : a < 2 ^ 32) (hb : b < 2 ^ 32) (h1 : sgn a = sgn b) (h2 : a % 2147483648 = b % 2147483648) : a = b := by
  unfold sgn at h1
  have d1 := Nat.div_add_mod a 2147483648
  have d2 := Nat.div_add_mod b 2147483648
  have e1 : a / 2147483648 < 2 := by omega
  have e2 : b / 2147483648 < 2 := by omega
  have : a / 2147483648 = b / 2147483648 := by
    rw [Nat.mod_eq_of_lt e1, Nat.mod_eq_of_lt e2] at h1
    rcases Nat.lt_or_ge (a / 2147483648) 1 with h | h <;> rcases Nat.lt_or_ge (b / 2147483648) 1 with h' | h'
    · omega
    · rw [show a / 2147483648 = 0 by omega, show b / 2147483648 = 1 by omega] at h1; cases h1
    · rw [show a / 2147483648 = 1 by omega, show b / 2147483648 = 0 by omega] at h1; cases h1
    · omega
  omega
theorem inf_rung {x : Nat} {s : Bool} (h : Ieee.single.read x = .infinity s) : s = sgn x ∧ x % 2147483648 = 2139095040 := by
  rw [read_f32] at h
  split at h
  · cases h
  · split at h
    · cases h
    · split at h
      · rename_i h3
        simp only [Ieee.Datum.infinity.injEq] at h
        exact ⟨h.symm, h3⟩
      · cases h
open Ieee in
/-- Equal, and of one sign: the same word. -/
theorem same_word {a b : Nat} (ha : a < 2 ^ 32) (hb : b < 2 ^ 32) (ho : single.order a b = some .eq) (hs : sgn a = sgn b) : a = b := by
  unfold Format.order at ho
  rcases read_single a with ⟨s, t, h⟩ | ⟨s, h⟩ | ⟨s, m, e, h, hm, he, _⟩
  · rw [h] at ho; cases ho
  · rcases read_single b with ⟨s', t', h'⟩ | ⟨s', h'⟩ | ⟨s', m', e', h', hm', he', _⟩
    · rw [h, h'] at ho; cases ho
    · exact word_ext ha hb hs (by rw [(inf_rung h).2, (inf_rung h').2])
    · rw [h, h'] at ho; cases s <;> cases ho
  · rcases read_single b with ⟨s', t', h'⟩ | ⟨s', h'⟩ | ⟨s', m', e', h', hm', he', _⟩
    · rw [h, h'] at ho; cases ho
    · rw [h, h'] at ho; cases s' <;> cases ho
    · rw [h, h', order_val he he'] at ho
      have hv : val (.number s m e) = val (.number s' m' e') := by
        have := cmp_eq (a := val (.number s m e)) (b := val (.number s' m' e'))
        rw [Option.some.inj ho] at this
        exact of_decide_eq_true this.symm
      obtain ⟨rs, _, r1⟩ := rung_of h
      obtain ⟨rs', _, r2⟩ := rung_of h'
      rw [rs, rs', ← hs] at hv
      have l1 := val_inj he he' (by omega) (by omega) (fun c => by omega) hv
      have l2 := val_inj he' he (by omega) (by omega) (fun c => by omega) hv.symm
      obtain rfl : e = e' := by omega
      have hmm := val_mag hv
      subst hmm
      exact word_ext ha hb hs (by omega)
def sameN (a b : Nat) : Bool := decide (bitsN a = bitsN b)
theorem nan_neq {x : Nat} (h : fcmp .neq .f32 x x = false) : (Ieee.single.read x).isNaN = false := by
  have := num_of_eq h
  unfold num at this
  cases hc : (FloatKind.f32.decode x).isNaN with
  | false => exact hc
  | true => rw [hc] at this; cases this
theorem canon_nan : fcmp .neq .f32 2143289344 2143289344 = true := by decide +kernel
theorem spec_l01Same_wp {a b : Nat} {K : Bool → Prop} (ha : a < 2 ^ 32) (hb : b < 2 ^ 32) (h : K (sameN a b)) : spec_l01Same.wp a b K := by
  refine spec_l01Bits_wp ha (spec_l01Bits_wp hb ?_)
  have e : decide (((bitsN a : Nat) : Int) = ((bitsN b : Nat) : Int)) = sameN a b := by
    unfold sameN
    rw [Bool.eq_iff_iff, decide_eq_true_eq, decide_eq_true_eq]; omega
  rw [e]; exact h
def sameAt (l m : List Nat) (i : Nat) : Bool := sameN (l.getD i 0) (m.getD i 0)
def sameNs (l m : List Nat) : Bool := decide (l.length = m.length) && (List.range l.length).all (sameAt l m)
theorem range_get3 {n i : Nat} (h : i < (List.range n).length) : (List.range n)[i] = i := List.getElem_range h
theorem getD_lt2 {l : List Nat} {i : Nat} (h : ∀ x ∈ l, x < 2 ^ 32) : l.getD i 0 < 2 ^ 32 := by
  rw [List.getD_eq_getElem?_getD]
  cases he : l[i]? with
  | none => exact Nat.two_pow_pos 32
  | some x => exact h x (List.mem_of_getElem? he)

end Go.Proofs.Ytecdkjnomkdbkaa.G

namespace Go.Proofs.Ytecdkjnomkdbkaa.G
open Go Go.Ab
set_option maxRecDepth 100000
set_option linter.unusedVariables false
set_option linter.unusedSimpArgs false
set_option maxHeartbeats 1000000
theorem fkb1 : (FloatKind.f32.format).fractionBits + 1 = 24 := rfl
theorem fkb2 : (FloatKind.f64.format).fractionBits + 1 = 53 := rfl
/-- What can be tested. -/
def dvb (k : FloatKind) (x : Nat) (v : Int) : Bool := match k.format.read x with
  | .number s m e => decide (k.format.leastPlace ≤ e) && decide (vD k.format.leastPlace s m e = v * (2 ^ (-10 - k.format.leastPlace).toNat : Nat))
  | _ => false
theorem dvb_ok {k : FloatKind} {x : Nat} {v : Int} (h : dvb k x v = true) : Dv k x v := by
  unfold dvb at h
  split at h
  · rename_i s m e hr
    simp only [Bool.and_eq_true, decide_eq_true_eq] at h
    exact ⟨s, m, e, hr, h.1, h.2⟩
  · cases h
theorem dv_0 : Dv .f32 (cz .f32 0) 0 := dvb_ok (by decide +kernel)
theorem dv_00 : Dv .f64 (cz .f64 0) 0 := dvb_ok (by decide +kernel)
theorem dv_fin {x : Nat} {v : Int} (h : Dv .f32 x v) : pFin x = true := by
  unfold pFin
  have h1 := dv_sub fk1 h h (by rw [Int.sub_self]; decide)
  rw [Int.sub_self] at h1
  rw [dv_eql h1 dv_0]; rfl
theorem dv_geq {k : FloatKind} {x y : Nat} {a b : Int} (hx : Dv k x a) (hy : Dv k y b) : fcmp .geq k x y = decide (b ≤ a) := by
  unfold fcmp; dsimp only; rw [dv_order hx hy]
  show (compare a b == Ordering.gt || compare a b == Ordering.eq) = _
  rw [cmp_gt, cmp_eq, ← Bool.decide_or]
  exact decide_eq_decide.2 ⟨fun c => by omega, fun c => by omega⟩
theorem dv_least {x : Nat} {v : Int} (h : Dv .f32 x v) (hv : 0 ≤ v) : isLeast x = true := by
  unfold isLeast
  rw [dv_fin h, dv_geq h dv_0, decide_eq_true hv]; rfl
def atLeast (x : Nat) (v : Int) : Bool := match (FloatKind.f64.format).read x with
  | .number s m e => decide ((FloatKind.f64.format).leastPlace ≤ e) && decide (v * (2 ^ (-10 - (FloatKind.f64.format).leastPlace).toNat : Nat) ≤ vD (FloatKind.f64.format).leastPlace s m e)
  | _ => false
theorem al_gtr {g x : Nat} {a v : Int} (h : atLeast x v = true) (hg : Dv .f64 g a) (hav : a ≤ v) : fcmp .gtr .f64 g x = false := by
  unfold atLeast at h
  split at h
  · rename_i s m e hr
    simp only [Bool.and_eq_true, decide_eq_true_eq] at h
    rw [dv_gtr2 hg hr h.1]
    have hp := unit_pos (-10 - (FloatKind.f64.format).leastPlace).toNat
    have h2 := Int.mul_le_mul_of_nonneg_right hav (Int.le_of_lt hp)
    exact decide_eq_false (by omega)
  · cases h
theorem czl {n : Nat} (h : n < 2 ^ 32) : cz .f32 n < 2 ^ 32 := by
  unfold cz; split
  · decide
  · exact h
theorem fop_lt (op : BinOp) (x y : Nat) : fop op .f32 x y < 2 ^ 32 := by
  unfold fop
  cases h : floatBits op .f32 x y with
  | none => decide
  | some r =>
    refine czl ?_
    unfold floatBits at h
    cases op
    case add => exact Ieee.Format.add_lt _ h
    case sub => exact Ieee.Format.sub_lt _ h
    case mul => exact Ieee.Format.mul_lt _ h
    case quo => exact Ieee.Format.div_lt _ h
    all_goals cases h
open Ieee in
/-- A positive number has one word. -/
theorem dv_word {x y : Nat} {v : Int} (hx : Dv .f32 x v) (hy : Dv .f32 y v) (hv : 0 < v) (h1 : x < 2 ^ 32) (h2 : y < 2 ^ 32) : x = y := by
  have hs : ∀ z, Dv .f32 z v → sgn z = false := by
    intro z hz
    obtain ⟨s, m, e, r, l, w⟩ := hz
    have hr := (rung_of (x := z) r).1
    rw [← hr]
    cases s with
    | false => rfl
    | true =>
      have h3 := (vD_sign (FloatKind.f32.format).leastPlace true m e).1 rfl
      have h4 := Int.mul_pos hv (unit_pos (-10 - (FloatKind.f32.format).leastPlace).toNat)
      omega
  refine same_word h1 h2 ?_ (by rw [hs x hx, hs y hy])
  have := dv_order hx hy
  rw [show Ieee.single.order x y = (FloatKind.f32.format).order x y from rfl, this]
  show some (compareOfLessAndEq v v) = _
  unfold compareOfLessAndEq
  rw [if_neg (Int.lt_irrefl _), if_pos rfl]
theorem b10Gap_wp {x y : Nat} {a b : Int} {K : Nat → Prop} (hx : Dv .f64 x a) (hy : Dv .f64 y b) (hab : (a - b).natAbs < 2 ^ 53) (h : ∀ g, Dv .f64 g ((a - b).natAbs : Int) → K g) : laws_b10Gap.wp x y K := by
  refine ⟨fun c => h _ ?_, fun c => h _ ?_⟩
  · rw [dv_lss hx hy] at c
    have c := of_decide_eq_true c
    rw [show ((a - b).natAbs : Int) = b - a by omega]
    exact dv_sub fk2 hy hx (by rw [fkb2]; omega)
  · rw [dv_lss hx hy] at c
    have c := of_decide_eq_false c
    rw [show ((a - b).natAbs : Int) = a - b by omega]
    exact dv_sub fk2 hx hy (by rw [fkb2]; omega)
theorem b10At_wp {l : List Int} {i n : Int} {K : Int → Prop} (hl : ∀ x ∈ l, 0 ≤ x ∧ x < 256) (hi : 0 ≤ i ∧ i ≤ 1000) (hn : 2 ≤ n ∧ n ≤ 2 ^ 30) (h : ∀ v, 0 ≤ v → v < n → K v) : laws_b10At.wp l i n K := by
  have key : ∀ x : Int, 0 ≤ x → 0 ≤ Int.tmod x n ∧ Int.tmod x n < n := by
    intro x hx
    rw [Int.tmod_eq_emod_of_nonneg hx]
    exact ⟨Int.emod_nonneg _ (by omega), Int.emod_lt_of_pos _ (by omega)⟩
  refine ⟨fun c => absurd c (by omega), fun _ => ⟨fun c => ⟨⟨hi.1, c⟩, by omega, ?_⟩, fun c => ⟨by omega, ?_⟩⟩⟩
  · have hi2 : i.toNat < l.length := by omega
    rw [gD hi2]
    have hb := hl _ (List.getElem_mem hi2)
    rw [wI (by omega)]
    have := key _ hb.1
    exact h _ this.1 this.2
  · rw [wI (n := i * 37) (by omega), wI (by omega)]
    have := key (i * 37 + 11) (by omega)
    exact h _ this.1 this.2

end Go.Proofs.Ytecdkjnomkdbkaa.G

namespace Go.Proofs.Ytecdkjnomkdbkaa.G
open Go Go.Ab
set_option maxRecDepth 100000
set_option linter.unusedVariables false
set_option linter.unusedSimpArgs false
set_option maxHeartbeats 1000000
/-- Blocks of exact numbers: miss M, bits as they stand. -/
structure Bk (l : Cs) (M : Nat → Nat → Int) : Prop where
  len : ∀ j, j < l.length → 1 ≤ (l.getD j csN).length ∧ (l.getD j csN).length ≤ 5
  num : l.length ≤ 4
  bit : ∀ j i, j < l.length → i < (l.getD j csN).length → 0 ≤ ((l.getD j csN).getD i ZC).1 ∧ ((l.getD j csN).getD i ZC).1 ≤ 24
  bit0 : ∀ j, j < l.length → ((l.getD j csN).getD 0 ZC).1 = 0
  mis : ∀ j i, j < l.length → i < (l.getD j csN).length → Dv .f32 ((l.getD j csN).getD i ZC).2 (M j i) ∧ 8192 ≤ M j i ∧ M j i ≤ 32768 ∧ (256 : Int) ∣ M j i
  up : ∀ j i, j < l.length → i + 1 < (l.getD j csN).length → ((l.getD j csN).getD i ZC).1 < ((l.getD j csN).getD (i + 1) ZC).1 ∧ M j (i + 1) < M j i
abbrev bitA (l : Cs) (j i : Nat) : Int := ((l.getD j csN).getD i ZC).1
def sB (l : Cs) (c : Nat → Nat) : Nat → Int
  | 0 => 0
  | k + 1 => sB l c k + bitA l k (c k)
def sM (M : Nat → Nat → Int) (c : Nat → Nat) : Nat → Int
  | 0 => 0
  | k + 1 => sM M c k + M k (c k)
def okC (l : Cs) (c : Nat → Nat) (k : Nat) : Prop := ∀ j, j < k → c j < (l.getD j csN).length
theorem sB_congr {l : Cs} {c d : Nat → Nat} : ∀ k, (∀ j, j < k → c j = d j) → sB l c k = sB l d k
  | 0, _ => rfl
  | k + 1, h => by rw [sB, sB, sB_congr k fun j hj => h j (by omega), h k (by omega)]
theorem sM_congr {M : Nat → Nat → Int} {c d : Nat → Nat} : ∀ k, (∀ j, j < k → c j = d j) → sM M c k = sM M d k
  | 0, _ => rfl
  | k + 1, h => by rw [sM, sM, sM_congr k fun j hj => h j (by omega), h k (by omega)]
section
variable {l : Cs} {M : Nat → Nat → Int}
theorem sB_nn (hb : Bk l M) {c : Nat → Nat} : ∀ k, k ≤ l.length → okC l c k → 0 ≤ sB l c k ∧ sB l c k ≤ 24 * k
  | 0, _, _ => by rw [sB]; omega
  | k + 1, hk, h => by
    have h1 := sB_nn hb k (by omega) fun j hj => h j (by omega)
    have h2 := hb.bit k (c k) (by omega) (h k (by omega))
    rw [sB]
    show 0 ≤ sB l c k + ((l.getD k csN).getD (c k) ZC).1 ∧ sB l c k + ((l.getD k csN).getD (c k) ZC).1 ≤ _
    omega
theorem sM_nn (hb : Bk l M) {c : Nat → Nat} : ∀ k, k ≤ l.length → okC l c k → 8192 * k ≤ sM M c k ∧ sM M c k ≤ 32768 * k ∧ (256 : Int) ∣ sM M c k
  | 0, _, _ => by rw [sM]; omega
  | k + 1, hk, h => by
    have h1 := sM_nn hb k (by omega) fun j hj => h j (by omega)
    have h2 := (hb.mis k (c k) (by omega) (h k (by omega))).2
    rw [sM]; omega
/-- v is the least sum for b. -/
def opt (l : Cs) (M : Nat → Nat → Int) (k : Nat) (b v : Int) : Prop := (∃ c, okC l c k ∧ sB l c k ≤ b ∧ sM M c k = v) ∧ ∀ c, okC l c k → sB l c k ≤ b → v ≤ sM M c k
theorem opt_uniq {k : Nat} {b v w : Int} (h1 : opt l M k b v) (h2 : opt l M k b w) : v = w := by
  obtain ⟨⟨c, a1, a2, a3⟩, a4⟩ := h1
  obtain ⟨⟨d, b1, b2, b3⟩, b4⟩ := h2
  have := a4 d b1 b2
  have := b4 c a1 a2
  omega
/-- What an entry says. -/
def ent (l : Cs) (M : Nat → Nat → Int) (k : Nat) (b : Int) (r : Cell) : Prop := r.1 = true ∧ r.2.1 < 2 ^ 32 ∧ ∃ v, Dv .f32 r.2.1 v ∧ opt l M k b v
theorem beg_at (B : Nat) : ∀ b j, j < b → j ≤ B → ((begR B b).getD j Z) = (true, 0, 0)
  | 0, j, h, _ => absurd h (Nat.not_lt_zero _)
  | b + 1, j, h, hj => by
    rw [begR, set_get]
    by_cases c : b = j ∧ b < (begR B b).length
    · rw [if_pos c]
      have : ∀ b, ((begR B b).getD b Z) = Z := by
        have key : ∀ b j, b ≤ j → (begR B b).getD j Z = Z := by
          intro b
          induction b with
          | zero => intro j _; rw [begR, rep_get]
          | succ b ih => intro j hj; rw [begR, set_get, if_neg (fun h => by omega)]; exact ih j (by omega)
        exact fun b => key b b (Nat.le_refl _)
      rw [this]; rfl
    · rw [if_neg c]
      exact beg_at B b j (by rw [begR_len] at c; omega) hj
theorem cellU_other (bf : Rw) (bl : List (Int × Nat)) (b : Nat) (R : Rw) (i j : Nat) (h : b ≠ j) : (cellU bf bl b R i).getD j Z = R.getD j Z := by
  have hs : ∀ x, (R.set b x).getD j Z = R.getD j Z := fun x => by rw [set_get, if_neg (fun c => h c.1)]
  unfold cellU
  split
  · rfl
  · split
    · split
      · split
        · exact hs _
        · rfl
      · exact hs _
    · rfl
theorem cellR_other (bf : Rw) (bl : List (Int × Nat)) (b : Nat) (R : Rw) (j : Nat) (h : b ≠ j) : ∀ i, (cellR bf bl b R i).getD j Z = R.getD j Z
  | 0 => rfl
  | i + 1 => by rw [cellR, cellU_other _ _ _ _ _ _ h, cellR_other bf bl b R j h i]
theorem rowR_new (bf : Rw) (bl : List (Int × Nat)) (B : Nat) : ∀ b j, b ≤ j → (rowR bf bl B b).getD j Z = Z
  | 0, j, _ => by rw [rowR, rep_get]
  | b + 1, j, h => by rw [rowR, cellR_other _ _ _ _ _ (by omega), rowR_new bf bl B b j (by omega)]
theorem rowR_old (bf : Rw) (bl : List (Int × Nat)) (B : Nat) : ∀ b j, j < b → (rowR bf bl B b).getD j Z = (cellR bf bl j (rowR bf bl B j) bl.length).getD j Z
  | 0, j, h => absurd h (Nat.not_lt_zero _)
  | b + 1, j, h => by
    rw [rowR]
    by_cases c : j = b
    · rw [c]
    · rw [cellR_other _ _ _ _ _ (by omega)]; exact rowR_old bf bl B b j (by omega)
/-- After i costs at place b. -/
def part (l : Cs) (M : Nat → Nat → Int) (k b i : Nat) (r : Cell) : Prop := (i = 0 → r.1 = false) ∧ (0 < i → r.1 = true ∧ r.2.1 < 2 ^ 32 ∧ ∃ v, Dv .f32 r.2.1 v ∧ (∃ i', i' < i ∧ bitA l k i' ≤ b ∧ ∃ v', opt l M k (b - bitA l k i') v' ∧ v = v' + M k i') ∧ ∀ i', i' < i → bitA l k i' ≤ b → ∀ v', opt l M k (b - bitA l k i') v' → v ≤ v' + M k i')
theorem opt_le (hb : Bk l M) {k : Nat} (hk : k ≤ l.length) {b v : Int} (h : opt l M k b v) : 8192 * k ≤ v ∧ v ≤ 32768 * k ∧ (256 : Int) ∣ v := by
  obtain ⟨⟨c, h1, _, rfl⟩, _⟩ := h
  exact sM_nn hb k hk h1
theorem part_step (hb : Bk l M) {k B b i : Nat} (hk : k < l.length) (hbB : b ≤ B) (hB : ∀ j : Nat, j ≤ B → ent l M k (j : Int) ((befR l B k).getD j Z)) {R : Rw} (hR : R.length = B + 1) (hi : i < (l.getD k csN).length) (h : part l M k b i (R.getD b Z)) :
    part l M k b (i + 1) ((cellU (befR l B k) (l.getD k csN) b R i).getD b Z) := by
  obtain ⟨p0, p1⟩ := h
  have hbit := hb.bit k i hk hi
  obtain ⟨m1, m2, m3, m4⟩ := hb.mis k i hk hi
  refine ⟨fun c => absurd c (by omega), fun _ => ?_⟩
  have hset : ∀ x, (R.set b x).getD b Z = x := fun x => by rw [set_get, if_pos ⟨rfl, by omega⟩]
  unfold cellU
  by_cases c1 : (b : Int) < ((l.getD k csN).getD i ZC).1
  · rw [if_pos c1]
    have hi0 : 0 < i := by
      refine Nat.pos_of_ne_zero fun c => ?_
      rw [c, hb.bit0 k hk] at c1; omega
    obtain ⟨q1, q2, v, q3, ⟨i', a1, a2, a3⟩, q5⟩ := p1 hi0
    refine ⟨q1, q2, v, q3, ⟨i', by omega, a2, a3⟩, fun i2 h2 h3 => ?_⟩
    by_cases c : i2 = i
    · subst c; exact absurd h3 (by show ¬ ((l.getD k csN).getD i2 ZC).1 ≤ (b : Int); omega)
    · exact q5 i2 (by omega) h3
  · rw [if_neg c1]
    have he := hB ((b : Int) - ((l.getD k csN).getD i ZC).1).toNat (by omega)
    rw [show (((((b : Int) - ((l.getD k csN).getD i ZC).1).toNat : Nat)) : Int) = (b : Int) - ((l.getD k csN).getD i ZC).1 by omega] at he
    obtain ⟨e1, e2, w, e3, e4⟩ := he
    rw [if_pos e1]
    have hw := opt_le hb (by omega) e4
    have hsum := dv_add fk1 e3 m1 (by rw [fkb1]; have := hb.num; omega)
    have hlt := fop_lt .add ((befR l B k).getD ((b : Int) - ((l.getD k csN).getD i ZC).1).toNat Z).2.1 ((l.getD k csN).getD i ZC).2
    have hnew : (∃ i', i' < i + 1 ∧ bitA l k i' ≤ b ∧ ∃ v', opt l M k (b - bitA l k i') v' ∧ w + M k i = v' + M k i') := ⟨i, by omega, Int.not_lt.1 c1, w, e4, rfl⟩
    by_cases hi0 : 0 < i
    · obtain ⟨q1, q2, v, q3, ⟨i', a1, a2, v', a3, a4⟩, q5⟩ := p1 hi0
      rw [if_pos q1, dv_lss hsum q3]
      by_cases c2 : w + M k i < v
      · rw [if_pos (decide_eq_true c2), hset]
        refine ⟨rfl, hlt, w + M k i, hsum, hnew, fun i2 h2 h3 v2 h4 => ?_⟩
        by_cases c : i2 = i
        · subst c; rw [opt_uniq e4 h4]; omega
        · have := q5 i2 (by omega) h3 v2 h4; omega
      · rw [if_neg (by simp; omega)]
        refine ⟨q1, q2, v, q3, ⟨i', by omega, a2, v', a3, a4⟩, fun i2 h2 h3 v2 h4 => ?_⟩
        by_cases c : i2 = i
        · subst c; rw [← opt_uniq e4 h4]; omega
        · exact q5 i2 (by omega) h3 v2 h4
    · have hi00 : i = 0 := by omega
      rw [if_neg (by rw [p0 hi00]; decide), hset]
      refine ⟨rfl, hlt, w + M k i, hsum, hnew, fun i2 h2 h3 v2 h4 => ?_⟩
      have : i2 = i := by omega
      subst this
      rw [opt_uniq e4 h4]; omega
theorem ent_all (hb : Bk l M) (B : Nat) : ∀ k, k ≤ l.length → ∀ j : Nat, j ≤ B → ent l M k (j : Int) ((befR l B k).getD j Z)
  | 0, _, j, hj => by
    rw [befR, beg_at B (B + 1) j (by omega) hj]
    refine ⟨rfl, by decide, 0, ?_, ⟨fun _ => 0, fun j h => absurd h (Nat.not_lt_zero _), by rw [sB]; omega, rfl⟩, fun c _ _ => by rw [sM]; omega⟩
    have := dv_0
    rw [c0_32] at this; exact this
  | k + 1, hk, j, hj => by
    have hB := ent_all hb B k (by omega)
    have hlen := hb.len k (by omega)
    have key : ∀ i, i ≤ (l.getD k csN).length → part l M k j i ((cellR (befR l B k) (l.getD k csN) j (rowR (befR l B k) (l.getD k csN) B j) i).getD j Z) := by
      intro i
      induction i with
      | zero =>
        intro _
        rw [cellR, rowR_new _ _ _ _ _ (Nat.le_refl _)]
        exact ⟨fun _ => rfl, fun c => absurd c (Nat.lt_irrefl _)⟩
      | succ i ih =>
        intro hi
        rw [cellR]
        exact part_step hb (by omega) hj hB (by rw [cellR_len, rowR_len]) (by omega) (ih (by omega))
    rw [befR, rowR_old _ _ _ _ _ (by omega)]
    obtain ⟨q1, q2, v, q3, ⟨i', a1, a2, v', a3, a4⟩, q5⟩ := (key _ (Nat.le_refl _)).2 (by omega)
    refine ⟨q1, q2, v, q3, ?_, fun c hc hs => ?_⟩
    · obtain ⟨⟨c, b1, b2, b3⟩, _⟩ := a3
      refine ⟨fun x => if x = k then i' else c x, fun x hx => ?_, ?_, ?_⟩
      · dsimp only
        split
        · rename_i e; rw [e]; exact a1
        · exact b1 x (by omega)
      · rw [sB, sB_congr (d := c) k fun x hx => by rw [if_neg (by omega)], if_pos rfl]; omega
      · rw [sM, sM_congr (d := c) k fun x hx => by rw [if_neg (by omega)], if_pos rfl, b3, a4]
    · rw [sB] at hs
      have hc1 : okC l c k := fun x hx => hc x (by omega)
      have hck := hc k (by omega)
      have h0 := sB_nn hb k (by omega) hc1
      have hbit := hb.bit k (c k) (by omega) hck
      have hbe : bitA l k (c k) = ((l.getD k csN).getD (c k) ZC).1 := rfl
      have hle : bitA l k (c k) ≤ (j : Int) := by omega
      have he := hB ((j : Int) - bitA l k (c k)).toNat (by omega)
      rw [show ((((j : Int) - bitA l k (c k)).toNat : Nat) : Int) = (j : Int) - bitA l k (c k) by omega] at he
      obtain ⟨_, _, w, _, e4⟩ := he
      have h1 := q5 (c k) hck hle w e4
      have h2 := e4.2 c hc1 (by omega)
      rw [sM]; omega
/-- More bits never tell less. -/
theorem opt_mono {k : Nat} {b b' v v' : Int} (h1 : opt l M k b v) (h2 : opt l M k b' v') (hbb : b ≤ b') : v' ≤ v := by
  obtain ⟨⟨c, a1, a2, a3⟩, _⟩ := h1
  have := h2.2 c a1 (by omega)
  omega
theorem bk_isB (hb : Bk l M) (h1 : 1 ≤ l.length) : isB l = true := by
  unfold isB
  rw [Bool.and_eq_true, decide_eq_true_eq, List.all_eq_true]
  refine ⟨by have := hb.num; omega, fun z hz => ?_⟩
  obtain ⟨j, hj, rfl⟩ := List.mem_iff_getElem.1 hz
  rw [← gD hj csN]
  have hl := hb.len j hj
  unfold isC
  rw [Bool.and_eq_true, decide_eq_true_eq, List.all_eq_true]
  refine ⟨by omega, fun i hi => ?_⟩
  have hi := List.mem_range.1 hi
  have e1 := hb.bit j i hj hi
  obtain ⟨e2, e3, e4, e5⟩ := hb.mis j i hj hi
  have hz : ((0 : Int), (0 : Nat)) = ZC := rfl
  unfold cAt
  rw [hz]
  rw [Bool.and_eq_true, Bool.and_eq_true, decide_eq_true_eq]
  refine ⟨⟨by omega, dv_least e2 (by omega)⟩, ?_⟩
  by_cases c : i = 0
  · rw [decide_eq_true c, Bool.true_or]
  · obtain ⟨f2, f3, f4, f5⟩ := hb.mis j (i - 1) hj (by omega)
    have hu := hb.up j (i - 1) hj (by omega)
    rw [show i - 1 + 1 = i by omega] at hu
    rw [dv_geq e2 f2, decide_eq_false (show ¬ M j (i - 1) ≤ M j i by omega), decide_eq_true hu.1]
    simp
/-- What the best cuts tell of such blocks. -/
theorem bc_bk (hb : Bk l M) (h1 : 1 ≤ l.length) {a : Int} (ha : 0 ≤ a ∧ a ≤ 512) : bcA l a = true ∧ bcS l a < 2 ^ 32 ∧ ∃ v, Dv .f32 (bcS l a) v ∧ opt l M l.length a v := by
  obtain ⟨e1, e2, v, e3, e4⟩ := ent_all hb a.toNat l.length (Nat.le_refl _) a.toNat (Nat.le_refl _)
  rw [show ((a.toNat : Nat) : Int) = a by omega] at e4
  have hA : bcA l a = true := by
    unfold bcA bcOk
    rw [bk_isB hb h1, decide_eq_true ha, e1, dv_fin e3]; rfl
  refine ⟨hA, ?_, v, ?_, e4⟩
  · unfold bcS; rw [if_pos hA]; exact e2
  · unfold bcS; rw [if_pos hA]; exact e3
end
/-! ### the way back -/
def chA (l : Cs) (B n x : Nat) : Int := ((befR l B (x + 1)).getD (lfA l B n (n - 1 - x)).toNat Z).2.2
theorem ou_at (l : Cs) (B n : Nat) : ∀ d, d ≤ n → ∀ x, n - d ≤ x → x < n → (ouA l B n d).getD x 0 = chA l B n x
  | 0, _, x, h1, h2 => by omega
  | d + 1, hd, x, h1, h2 => by
    rw [ouA, set_get]
    by_cases c : n - 1 - d = x ∧ n - 1 - d < (ouA l B n d).length
    · rw [if_pos c, chA, ← c.1]
      rw [show n - 1 - d + 1 = n - d by omega, show n - 1 - (n - 1 - d) = d by omega]
    · rw [if_neg c]
      rw [ouA_len] at c
      exact ou_at l B n d (by omega) x (by omega) h2
def usA (l : Cs) (B n : Nat) : Nat → Int
  | 0 => 0
  | x + 1 => usA l B n x + ((l.getD x csN).getD (chA l B n x).toNat ZC).1
theorem us_lf (l : Cs) (B n : Nat) : ∀ d, d ≤ n → usA l B n n = usA l B n (n - d) + ((B : Int) - lfA l B n d)
  | 0, _ => by rw [lfA, Nat.sub_zero]; omega
  | d + 1, hd => by
    rw [us_lf l B n d (by omega), lfA]
    have e : n - d = (n - (d + 1)) + 1 := by omega
    rw [e, usA, chA]
    rw [show n - (d + 1) + 1 = n - d by omega, show n - 1 - (n - (d + 1)) = d by omega, show n - (d + 1) = n - 1 - d by omega]
    omega

end Go.Proofs.Ytecdkjnomkdbkaa.G

namespace Go.Proofs.Ytecdkjnomkdbkaa.G
open Go Go.Ab
set_option maxRecDepth 100000
set_option linter.unusedVariables false
set_option linter.unusedSimpArgs false
set_option maxHeartbeats 1000000
def Byt (l : List Int) : Prop := l.length ≤ 2 ^ 30 ∧ ∀ x ∈ l, 0 ≤ x ∧ x < 256
theorem iand255 (x : Int) : 0 ≤ IntKind.i64.wrap (ibits .and .u64 x 255) ∧ IntKind.i64.wrap (ibits .and .u64 x 255) < 256 := by
  have h : (BitVec.ofInt 64 x &&& BitVec.ofInt 64 255).toNat < 256 := by
    rw [BitVec.toNat_and]
    exact Nat.lt_of_le_of_lt Nat.and_le_right (by decide)
  have e : ibits .and .u64 x 255 = ((BitVec.ofInt 64 x &&& BitVec.ofInt 64 255).toNat : Int) := by
    show IntKind.u64.wrap ((BitVec.ofInt 64 x &&& BitVec.ofInt 64 255).toNat : Int) = _
    show _ % 18446744073709551616 = _
    omega
  rw [e, wI (by omega)]; omega
theorem spec_next_wp {l : List Int} {a s : Int} {K : Int → Int → Int → Prop} (hl : Byt l) (ha : 0 ≤ a ∧ a ≤ 2 ^ 40) (h : ∀ v t, 0 ≤ v ∧ v < 256 → K v (a + 1) t) : spec_l00Src_next.wp l a s K := by
  have ea : IntKind.i64.wrap (a + 1) = a + 1 := wI (by omega)
  refine ⟨fun c => ⟨⟨ha.1, c⟩, fun c2 => ?_, fun c2 => ?_⟩, fun c => ⟨fun c2 => ?_, fun c2 => ?_⟩⟩
  · rw [ea]
    have hi : a.toNat < l.length := by omega
    rw [gD hi]
    have hb := hl.2 _ (List.getElem_mem hi)
    rw [wI (by omega)]
    exact h _ _ hb
  · rw [ea]; exact h _ _ (iand255 _)
  · rw [ea]; exact h _ _ ⟨by decide, by decide⟩
  · rw [ea]; exact h _ _ (iand255 _)
theorem spec_pick_wp {l : List Int} {a s n : Int} {K : Int → Int → Int → Prop} (hl : Byt l) (ha : 0 ≤ a ∧ a ≤ 2 ^ 39) (hn : 1 ≤ n ∧ n ≤ 2 ^ 40) (h : ∀ v b t, 0 ≤ v ∧ v < n → a ≤ b ∧ b ≤ a + 2 → K v b t) : spec_l00Src_pick.wp l a s n K := by
  refine ⟨fun c => h _ _ _ (by omega) (by omega), fun c => ?_⟩
  refine spec_next_wp hl (by omega) fun v t hv => ⟨fun c2 => ?_, fun c2 => ⟨by omega, ?_⟩⟩
  · refine spec_next_wp hl (by omega) fun w u hw => ⟨by omega, ?_⟩
    rw [wI (n := v * 256) (by omega), wI (n := v * 256 + w) (by omega)]
    have e := Int.tmod_eq_emod_of_nonneg (a := v * 256 + w) (b := n) (by omega)
    have h1 := Int.emod_nonneg (v * 256 + w) (show n ≠ 0 by omega)
    have h2 := Int.emod_lt_of_pos (v * 256 + w) (show 0 < n by omega)
    exact h _ _ _ (by omega) (by omega)
  · have e := Int.tmod_eq_emod_of_nonneg (a := v) (b := n) (by omega)
    have h1 := Int.emod_nonneg v (show n ≠ 0 by omega)
    have h2 := Int.emod_lt_of_pos v (show 0 < n by omega)
    exact h _ _ _ (by omega) (by omega)

end Go.Proofs.Ytecdkjnomkdbkaa.G

namespace Go.Proofs.Ytecdkjnomkdbkaa.G
open Go Go.Ab
set_option maxRecDepth 100000
set_option linter.unusedVariables false
set_option linter.unusedSimpArgs false
set_option maxHeartbeats 1000000
def slope (l : List (Int × Nat)) (a k : Nat) : Nat := fop .quo .f32 (fop .sub .f32 (l.getD a ((0 : Int), (0 : Nat))).2 (l.getD k ((0 : Int), (0 : Nat))).2) (itof .f32 (IntKind.i64.wrap ((l.getD k ((0 : Int), (0 : Nat))).1 - (l.getD a ((0 : Int), (0 : Nat))).1)))
def egIn (l : List (Int × Nat)) (a : Nat) : Nat → Nat → Nat → Nat → Nat
  | 0, _, best, _ => best
  | m + 1, k, best, top => if k = a + 1 ∨ fcmp .geq .f32 (slope l a k) top = true then egIn l a m (k + 1) k (slope l a k) else egIn l a m (k + 1) best top
def nxt (l : List (Int × Nat)) (a : Nat) : Nat := egIn l a (l.length - (a + 1)) (a + 1) (a + 1) 0
def egOut (l : List (Int × Nat)) : Nat → Nat → List Int → List Int
  | 0, _, acc => acc
  | m + 1, a, acc => if a + 1 < l.length then egOut l m (nxt l a) (acc ++ [((nxt l a : Nat) : Int)]) else acc
theorem egIn_bound (l : List (Int × Nat)) (a n : Nat) : ∀ (m k best top : Nat), k + m = n → (a < best ∧ best < n) → a < k → a < egIn l a m k best top ∧ egIn l a m k best top < n
  | 0, k, best, top, _, h, _ => h
  | m + 1, k, best, top, hk, h, ha => by
    rw [egIn]
    split
    · exact egIn_bound l a n m (k + 1) k _ (by omega) ⟨ha, by omega⟩ (by omega)
    · exact egIn_bound l a n m (k + 1) best top (by omega) h (by omega)
theorem nxt_bound {l : List (Int × Nat)} {a : Nat} (h : a + 1 < l.length) : a < nxt l a ∧ nxt l a < l.length := egIn_bound l a l.length _ _ _ _ (by omega) ⟨by omega, h⟩ (by omega)
theorem egOut_len (l : List (Int × Nat)) : ∀ (m a : Nat) (acc : List Int), (egOut l m a acc).length ≤ acc.length + m
  | 0, _, acc => Nat.le_refl _
  | m + 1, a, acc => by
    rw [egOut]
    split
    · have := egOut_len l m (nxt l a) (acc ++ [((nxt l a : Nat) : Int)])
      rw [List.length_append, List.length_singleton] at this
      omega
    · omega
/-- The inner loop, with the best so far or (none yet) what stands for none. -/
theorem eg_in (l : List (Int × Nat)) (a : Nat) (z : Int) {X : Int → Nat → Int → Prop} (hX : ∀ (k : Nat) (best : Int) (top : Nat), a < k → k < l.length → (k ≠ a + 1 → (a : Int) < best) → (k = a + 1 → best = z ∧ top = cz .f32 0) → ((k = a + 1 ∨ fcmp .geq .f32 (slope l a k) top = true) → X k (slope l a k) ((k + 1 : Nat) : Int)) → (¬(k = a + 1 ∨ fcmp .geq .f32 (slope l a k) top = true) → X best top ((k + 1 : Nat) : Int)) → X best top k)
    (h : a + 1 < l.length) (hend : ∀ top, X (nxt l a : Nat) top l.length) : X z (cz .f32 0) ((a + 1 : Nat) : Int) := by
  have key : ∀ (m k best top : Nat), k + m = l.length → a + 1 < k → a < best → (∀ t, X (egIn l a m k best top : Nat) t l.length) → X (best : Int) top (k : Int) := by
    intro m
    induction m with
    | zero => intro k best top hk _ _ h0; obtain rfl : k = l.length := by omega
              exact h0 top
    | succ m ih =>
      intro k best top hk ha hb h0
      refine hX k _ _ (by omega) (by omega) (fun _ => by omega) (fun c => absurd c (by omega)) (fun c => ?_) (fun c => ?_)
      · refine ih (k + 1) k _ (by omega) (by omega) (by omega) ?_
        rw [egIn, if_pos c] at h0; exact h0
      · refine ih (k + 1) best top (by omega) (by omega) (by omega) ?_
        rw [egIn, if_neg c] at h0; exact h0
  refine hX _ _ _ (by omega) (by omega) (fun c => absurd rfl c) (fun _ => ⟨rfl, rfl⟩) (fun _ => ?_) (fun c => absurd (Or.inl rfl) c)
  refine key (l.length - (a + 2)) (a + 2) (a + 1) _ (by omega) (by omega) (by omega) ?_
  rw [nxt, show l.length - (a + 1) = l.length - (a + 2) + 1 by omega, egIn, if_pos (Or.inl rfl)] at hend
  exact hend
/-- The outer loop. -/
theorem eg_out (l : List (Int × Nat)) {X : List Int → Int → Prop} {E : List Int → Prop} (hl : 1 ≤ l.length) (hX : ∀ (o : List Int) (a : Nat), a < l.length → o.length ≤ a + 1 → (a + 1 < l.length → X (o ++ [((nxt l a : Nat) : Int)]) ((nxt l a : Nat) : Int)) → (¬ a + 1 < l.length → E o) → X o (a : Int)) (hend : E (egOut l l.length 0 [0])) : X [(0 : Int)] (0 : Int) := by
  have key : ∀ (m a : Nat) (o : List Int), l.length ≤ a + m → a < l.length → o.length ≤ a + 1 → E (egOut l m a o) → X o (a : Int) := by
    intro m
    induction m with
    | zero => intro a o h1 h2; omega
    | succ m ih =>
      intro a o h1 h2 h3 h4
      refine hX o a h2 h3 (fun c => ?_) (fun c => ?_)
      · have := nxt_bound c
        refine ih _ _ (by omega) this.2 (by rw [List.length_append, len1]; omega) ?_
        rw [egOut, if_pos c] at h4; exact h4
      · rw [egOut, if_neg c] at h4; exact h4
  exact key l.length 0 [0] (by omega) (by omega) (by simp) hend
theorem impl_edge_wp {l : List (Int × Nat)} {K : List Int → Bool → Prop} (hl : l.length ≤ 2 ^ 20) (h1 : isC l = true) (hk : K (egOut l l.length 0 [0]) true) : impl_EdgeCosts.wp l K := by
  refine impl_AreCosts_wp hl (tE h1 ?_)
  have := isC_len h1
  intro X hX
  refine eg_out l this.1 (E := fun o => K o true) (fun o a ha ho h2 h3 => ?_) hk
  refine hX _ _ ?_
  rw [w1 (by omega), wI (show -9223372036854775808 ≤ (l.length : Int) - 1 ∧ (l.length : Int) - 1 < 9223372036854775808 by omega)]
  refine ⟨fun c => ?_, fun c => h3 (by omega)⟩
  intro Y hY
  refine eg_in l a _ (fun k best top h4 h5 h6 h7 h8 h9 => hY _ _ _ ⟨fun _ => ?_, fun c2 => absurd (show (k : Int) < l.length by omega) c2⟩) (by omega) (fun t => hY _ _ _ ⟨fun c2 => absurd c2 (by omega), fun _ => ⟨by rw [len1]; omega, h2 (by omega)⟩⟩)
  refine ⟨⟨by omega, by omega⟩, ⟨by omega, by omega⟩, ?_⟩
  rw [nn, nn, w1 (by omega)]
  refine ⟨fun c2 => h8 (.inl (Classical.byContradiction fun c3 => absurd (h6 c3) (by omega))), fun c2 => ⟨fun c3 => h8 (.inr c3), fun c3 => h9 (fun c4 => c4.elim (fun c5 => c2 (h7 c5).1) (fun c5 => by rw [slope, c3] at c5; cases c5))⟩⟩

end Go.Proofs.Ytecdkjnomkdbkaa.G

namespace Go.Proofs.Ytecdkjnomkdbkaa.G
open Go Go.Ab
set_option maxRecDepth 100000
set_option linter.unusedVariables false
set_option linter.unusedSimpArgs false
set_option maxHeartbeats 1000000
def slB (g : Nat) : Nat := fop .quo .f32 (itof .f32 (g : Int)) (cz .f32 1098907648)
theorem sl_mul : ∀ g : Nat, g < 17 → ∀ b : Nat, b < 25 → dvb .f32 (fop .mul .f32 (slB g) (itof .f32 (b : Int))) (64 * (g : Int) * b) = true := by decide +kernel
theorem sl_least : ∀ g : Nat, g < 17 → isLeast (slB g) = true := by decide +kernel
def sbA (A : Nat → Int) : Nat → Nat
  | 0 => 0
  | i + 1 => if A i < A (sbA A i) then i else sbA A i
theorem sbA_ok (A : Nat → Int) : ∀ i, (0 < i → sbA A i < i) ∧ (sbA A i ≤ i) ∧ ∀ i', i' < i → A (sbA A i) ≤ A i'
  | 0 => ⟨fun h => absurd h (Nat.lt_irrefl _), Nat.le_refl _, fun i' h => absurd h (Nat.not_lt_zero _)⟩
  | i + 1 => by
    obtain ⟨h1, h2, h3⟩ := sbA_ok A i
    rw [sbA]
    split
    · refine ⟨fun _ => Nat.lt_succ_self _, Nat.le_succ _, fun i' hi => ?_⟩
      by_cases c : i' = i
      · rw [c]; exact Int.le_refl _
      · have := h3 i' (by omega); omega
    · refine ⟨fun _ => by omega, by omega, fun i' hi => ?_⟩
      by_cases c : i' = i
      · rw [c]; omega
      · exact h3 i' (by omega)
def atZ (l : Cs) (M : Nat → Nat → Int) (g : Nat) (j i : Nat) : Int := M j i + 64 * (g : Int) * bitA l j i
def slC (l : Cs) (M : Nat → Nat → Int) (g : Nat) (j : Nat) : Nat := sbA (atZ l M g j) (l.getD j csN).length
section
variable {l : Cs} {M : Nat → Nat → Int}
theorem slC_ok (hb : Bk l M) (g : Nat) : okC l (slC l M g) l.length := fun j hj => (sbA_ok _ _).1 (by have := hb.len j hj; omega)
theorem slC_least (hb : Bk l M) (g : Nat) {c : Nat → Nat} : ∀ k, k ≤ l.length → okC l c k → sM M (slC l M g) k + 64 * (g : Int) * sB l (slC l M g) k ≤ sM M c k + 64 * (g : Int) * sB l c k
  | 0, _, _ => by rw [sM, sB, sM, sB]; exact Int.le_refl _
  | k + 1, hk, h => by
    have i1 := slC_least hb g (c := c) k (by omega) fun j hj => h j (by omega)
    have i2 := (sbA_ok (atZ l M g k) (l.getD k csN).length).2.2 (c k) (h k (by omega))
    rw [sM, sB, sM, sB, Int.mul_add, Int.mul_add]
    have e1 : atZ l M g k (sbA (atZ l M g k) (l.getD k csN).length) = M k (slC l M g k) + 64 * (g : Int) * bitA l k (slC l M g k) := rfl
    have e2 : atZ l M g k (c k) = M k (c k) + 64 * (g : Int) * bitA l k (c k) := rfl
    rw [e1, e2] at i2
    omega
theorem sl_opt (hb : Bk l M) (g : Nat) : opt l M l.length (sB l (slC l M g) l.length) (sM M (slC l M g) l.length) := by
  refine ⟨⟨_, slC_ok hb g, Int.le_refl _, rfl⟩, fun c hc hs => ?_⟩
  have h1 := slC_least hb g l.length (Nat.le_refl _) hc
  have h2 : 64 * (g : Int) * sB l c l.length ≤ 64 * (g : Int) * sB l (slC l M g) l.length := Int.mul_le_mul_of_nonneg_left hs (by omega)
  omega
theorem bk_ok (hb : Bk l M) : CsOk l := by
  refine ⟨by have := hb.num; omega, fun z hz => ?_⟩
  obtain ⟨j, hj, rfl⟩ := List.mem_iff_getElem.1 hz
  have := hb.len j hj
  rw [gD hj] at this; omega
theorem at_dv (hb : Bk l M) {g : Nat} (hg : g < 17) {j i : Nat} (hj : j < l.length) (hi : i < (l.getD j csN).length) : Dv .f32 (fop .add .f32 ((l.getD j csN).getD i ZC).2 (fop .mul .f32 (slB g) (itof .f32 ((l.getD j csN).getD i ZC).1))) (atZ l M g j i) := by
  obtain ⟨m1, m2, m3, _⟩ := hb.mis j i hj hi
  have hbit := hb.bit j i hj hi
  have h1 := dvb_ok (sl_mul g hg ((l.getD j csN).getD i ZC).1.toNat (by omega))
  rw [show ((((l.getD j csN).getD i ZC).1.toNat : Nat) : Int) = ((l.getD j csN).getD i ZC).1 by omega] at h1
  have h3 : 0 ≤ (g : Int) * ((l.getD j csN).getD i ZC).1 := Int.mul_nonneg (by omega) hbit.1
  have h4 : (g : Int) * ((l.getD j csN).getD i ZC).1 ≤ 16 * 24 := Int.mul_le_mul (by omega) hbit.2 hbit.1 (by omega)
  rw [Int.mul_assoc] at h1
  unfold atZ
  rw [Int.mul_assoc]
  show Dv .f32 _ (M j i + 64 * ((g : Int) * ((l.getD j csN).getD i ZC).1))
  exact dv_add fk1 m1 h1 (by rw [fkb1]; omega)
theorem impl_slope_bk (hb : Bk l M) (h1 : 1 ≤ l.length) {g : Nat} (hg : g < 17) {K : List Int → Int → Nat → Bool → Prop} (h : ∀ s, Dv .f32 s (sM M (slC l M g) l.length) → (s < 2 ^ 32) → K ((List.range l.length).map fun j => (slC l M g j : Int)) (sB l (slC l M g) l.length) s true) : impl_SlopeCuts.wp l (slB g) K := by
  refine impl_areBlocks_wp (bk_ok hb) (tE (bk_isB hb h1) (impl_isLeast_wp (tE (sl_least g hg) ?_)))
  have hn := hb.num
  intro X hX
  have key : ∀ s, Dv .f32 s (sM M (slC l M g) 0) → s < 2 ^ 32 → X ((List.range 0).map fun j => (slC l M g j : Int)) (sB l (slC l M g) 0) s ((0 : Nat) : Int) := by
    refine up (Y := fun k => ∀ s, Dv .f32 s (sM M (slC l M g) k) → s < 2 ^ 32 → X ((List.range k).map fun j => (slC l M g j : Int)) (sB l (slC l M g) k) s (k : Int)) l.length ?_ ?_
    · intro s hs hs2
      refine hX _ _ _ _ (tN (by omega) (impl_IsFinite_wp (tE (dv_fin hs) (h s hs hs2))))
    · intro j hj hh s hs hs2
      have hlen := hb.len j hj
      have hok := slC_ok hb g
      refine hX _ _ _ _ (tP (by omega) ⟨by omega, ?_⟩)
      intro Y hY
      refine up (Y := fun i => Y (sbA (atZ l M g j) i : Int) (i : Int)) (l.getD j csN).length ?_ ?_
      · have hbst := hok j hj
        have hbit := hb.bit j (slC l M g j) hj hbst
        have hmis := hb.mis j (slC l M g j) hj hbst
        have hsB := sB_nn hb j (by omega) (c := slC l M g) fun x hx => hok x (by omega)
        have hsM := sM_nn hb j (by omega) (c := slC l M g) fun x hx => hok x (by omega)
        refine hY _ _ (tN (by rw [nn]; exact Int.lt_irrefl _) ⟨by rw [List.length_map, List.length_range, len1]; omega, ⟨by omega, Int.ofNat_lt.2 hbst⟩, ?_⟩)
        have e1 : ((l.getD ((j : Int)).toNat ([] : List ((Int) × (Nat)))).getD (((sbA (atZ l M g j) (l.getD j csN).length : Nat) : Int)).toNat ((0 : Int), (0 : Nat))) = (l.getD j csN).getD (slC l M g j) ZC := rfl
        rw [e1, w1 (by omega), wI (by omega)]
        have e2 : ((List.range j).map fun j => (slC l M g j : Int)) ++ ([((sbA (atZ l M g j) (l.getD j csN).length : Nat) : Int)] : List Int) = (List.range (j + 1)).map fun j => (slC l M g j : Int) := by
          rw [List.range_succ, List.map_append]; rfl
        rw [e2]
        refine hh _ ?_ (fop_lt _ _ _)
        exact dv_add fk1 hs hmis.1 (by rw [fkb1]; omega)
      · intro i hi hh2
        have hs1 := sbA_ok (atZ l M g j) i
        have hsb : sbA (atZ l M g j) i < (l.getD j csN).length := by omega
        have hi2 : i < (l.getD ((j : Int)).toNat ([] : List ((Int) × (Nat)))).length := hi
        refine hY _ _ (tP (Int.ofNat_lt.2 hi2) ⟨⟨by omega, Int.ofNat_lt.2 hi2⟩, ⟨by omega, Int.ofNat_lt.2 hsb⟩, ?_⟩)
        have d1 := at_dv hb hg hj hi
        have d2 := at_dv hb hg hj hsb
        rw [w1 (by omega)]
        rw [sbA] at hh2
        refine ⟨fun c => ?_, fun c => ?_⟩
        · have c' := (dv_lss d1 d2).symm.trans c
          rw [if_pos (of_decide_eq_true c')] at hh2; exact hh2
        · have c' := (dv_lss d1 d2).symm.trans c
          rw [if_neg (of_decide_eq_false c')] at hh2; exact hh2
  exact key _ dv_0 (by decide)
end
/-! ### drawn blocks -/
theorem dr_16 : ∀ y : Nat, y < 17 → dvb .f32 (itof .f32 (16 + (y : Int))) (1024 * (16 + (y : Int))) = true := by decide +kernel
theorem dr_4 : ∀ y : Nat, y < 8 → dvb .f32 (fop .quo .f32 (itof .f32 (1 + (y : Int))) (cz .f32 1082130432)) (256 * (1 + (y : Int))) = true := by decide +kernel
/-- A block under way: its bits and misses, and those that come next. -/
structure Bw (bl : List (Int × Nat)) (m : Nat → Int) (nb : Int) (nm : Int) : Prop where
  num : bl.length ≤ 5
  bit : ∀ i, i < bl.length → 0 ≤ (bl.getD i ZC).1 ∧ (bl.getD i ZC).1 ≤ 6 * (i : Int) ∧ (bl.getD i ZC).1 < nb
  bit0 : (bl.length = 0 → nb = 0) ∧ (0 < bl.length → (bl.getD 0 ZC).1 = 0)
  nbit : 0 ≤ nb ∧ nb ≤ 6 * (bl.length : Int)
  mis : ∀ i, i < bl.length → Dv .f32 (bl.getD i ZC).2 (m i) ∧ 16384 - 2048 * (i : Int) ≤ m i ∧ m i ≤ 32768 ∧ (256 : Int) ∣ m i ∧ nm < m i
  nmis : 16384 - 2048 * (bl.length : Int) ≤ nm ∧ nm ≤ 32768 ∧ (256 : Int) ∣ nm
  up : ∀ i, i + 1 < bl.length → (bl.getD i ZC).1 < (bl.getD (i + 1) ZC).1 ∧ m (i + 1) < m i
theorem appL {α : Type} {vs : List α} {a d : α} {j : Nat} (h : j < vs.length) : (vs ++ [a]).getD j d = vs.getD j d := by
  rw [List.getD_eq_getElem?_getD, List.getD_eq_getElem?_getD, List.getElem?_append_left h]
theorem appR {α : Type} {vs : List α} {a d : α} : (vs ++ [a]).getD vs.length d = a := by
  rw [List.getD_eq_getElem?_getD, List.getElem?_append_right (Nat.le_refl _)]; simp
theorem bw_add {bl : List (Int × Nat)} {m : Nat → Int} {nb nm : Int} {x : Nat} (h : Bw bl m nb nm) (h5 : bl.length < 5) (hx : Dv .f32 x nm) {p q : Int} (hp : 0 ≤ p ∧ p < 6) (hq : 0 ≤ q ∧ q < 8) : Bw (bl ++ [(nb, x)]) (fun i => if i = bl.length then nm else m i) (nb + (1 + p)) (nm - 256 * (1 + q)) := by
  have hlen : (bl ++ [(nb, x)]).length = bl.length + 1 := by rw [List.length_append, len1]
  refine ⟨by omega, fun i hi => ?_, ⟨fun c => by omega, fun _ => ?_⟩, ?_, fun i hi => ?_, ?_, fun i hi => ?_⟩
  · by_cases c : i < bl.length
    · rw [appL c]; have := h.bit i c; omega
    · obtain rfl : i = bl.length := by omega
      rw [appR]; have := h.nbit; show 0 ≤ nb ∧ nb ≤ _ ∧ nb < _; omega
  · by_cases c : 0 < bl.length
    · rw [appL c]; exact h.bit0.2 c
    · have e : bl.length = 0 := by omega
      have e2 : (bl ++ [(nb, x)]).getD 0 ZC = (nb, x) := by have := appR (vs := bl) (a := (nb, x)) (d := ZC); rw [e] at this; exact this
      rw [e2]; exact h.bit0.1 e
  · have := h.nbit; rw [hlen]; omega
  · skip
    by_cases c : i < bl.length
    · rw [appL c, if_neg (by omega)]; obtain ⟨a1, a2, a3, a4, a5⟩ := h.mis i c; exact ⟨a1, a2, a3, a4, by omega⟩
    · obtain rfl : i = bl.length := by omega
      rw [appR, if_pos rfl]; have := h.nmis; exact ⟨hx, by omega, by omega, by omega, by omega⟩
  · have := h.nmis; rw [hlen]; omega
  · skip
    by_cases c : i + 1 < bl.length
    · rw [appL c, appL (by omega), if_neg (by omega), if_neg (by omega)]; exact h.up i c
    · have e : i + 1 = bl.length := by omega
      rw [e, appR, appL (by omega), if_pos rfl, if_neg (by omega)]
      have h1 := h.bit i (by omega); have h2 := h.mis i (by omega)
      exact ⟨h1.2.2, h2.2.2.2.2⟩
theorem bw_nil {nm : Int} (h : 16384 ≤ nm ∧ nm ≤ 32768 ∧ (256 : Int) ∣ nm) : Bw [] (fun _ => 0) 0 nm :=
  ⟨by simp, fun i hi => absurd hi (by simp), ⟨fun _ => rfl, fun c => absurd c (by simp)⟩, by simp, fun i hi => absurd hi (by simp), ⟨by simp; omega, h.2.1, h.2.2⟩, fun i hi => absurd hi (by simp)⟩
theorem bk_add {l : Cs} {M : Nat → Nat → Int} {bl : List (Int × Nat)} {m : Nat → Int} {nb nm : Int} (hb : Bk l M) (h4 : l.length < 4) (h : Bw bl m nb nm) (h1 : 1 ≤ bl.length) : Bk (l ++ [bl]) (fun j i => if j = l.length then m i else M j i) := by
  have hlen : (l ++ [bl]).length = l.length + 1 := by rw [List.length_append, len1]
  have hc : ∀ j, j < (l ++ [bl]).length → j < l.length ∨ j = l.length := fun j hj => by omega
  have hL : ∀ j, j < l.length → (l ++ [bl]).getD j csN = l.getD j csN := fun j hj => appL hj
  have hR : (l ++ [bl]).getD l.length csN = bl := appR
  have h5 := h.num
  refine ⟨fun j hj => ?_, by omega, fun j i hj hi => ?_, fun j hj => ?_, fun j i hj hi => ?_, fun j i hj hi => ?_⟩
  · rcases hc j hj with c | rfl
    · rw [hL j c]; exact hb.len j c
    · rw [hR]; omega
  · rcases hc j hj with c | rfl
    · rw [hL j c] at hi ⊢; exact hb.bit j i c hi
    · rw [hR] at hi ⊢; have := h.bit i hi; omega
  · rcases hc j hj with c | rfl
    · rw [hL j c]; exact hb.bit0 j c
    · rw [hR]; exact h.bit0.2 (by omega)
  · skip
    rcases hc j hj with c | rfl
    · rw [hL j c] at hi ⊢; rw [if_neg (by omega)]; exact hb.mis j i c hi
    · rw [hR] at hi ⊢; rw [if_pos rfl]
      obtain ⟨a1, a2, a3, a4, a5⟩ := h.mis i hi
      exact ⟨a1, by omega, a3, a4⟩
  · skip
    rcases hc j hj with c | rfl
    · rw [hL j c] at hi ⊢; rw [if_neg (by omega), if_neg (by omega)]; exact hb.up j i c hi
    · rw [hR] at hi ⊢; rw [if_pos rfl, if_pos rfl]; exact h.up i hi
theorem spec_B10Blocks_wp {L : List Int} {K : Cs → Prop} (hl : Byt L) (h : ∀ (l : Cs) (M : Nat → Nat → Int), 1 ≤ l.length → Bk l M → K l) : spec_B10Blocks.wp L K := by
  refine ⟨fun _ => ?_, fun c => (by cases c)⟩
  refine spec_pick_wp hl (by decide) (by decide) fun w b t hw hb X hX => ?_
  have key : ∀ (n : Nat) (o : Cs) (M : Nat → Nat → Int) (b t : Int), Bk o M → o.length + n ≤ 4 → 1 ≤ o.length + n → 0 ≤ b ∧ b ≤ 10 + 100 * (o.length : Int) → X o b t (n : Int) := by
    intro n
    induction n with
    | zero => intro o M b t h1 h2 h3 h4; exact hX _ _ _ _ ⟨fun c => absurd c (by decide), fun _ => h o M (by omega) h1⟩
    | succ n ih =>
      intro o M b t h1 h2 h3 h4
      refine hX _ _ _ _ ⟨fun _ => ?_, fun c => absurd (show (0 : Int) < ((n + 1 : Nat) : Int) by omega) c⟩
      refine spec_pick_wp hl (by omega) (by decide) fun w1 b1 t1 hw1 hb1 => spec_pick_wp hl (by omega) (by decide) fun w2 b2 t2 hw2 hb2 Y hY => ?_
      rw [wI (n := 16 + w1) (by omega), wI (n := 1 + w2) (by omega)]
      have hd := dvb_ok (dr_16 w1.toNat (by omega))
      rw [show ((w1.toNat : Nat) : Int) = w1 by omega] at hd
      have key2 : ∀ (p : Nat) (bl : List (Int × Nat)) (m : Nat → Int) (b t nb nm : Int) (x : Nat), Bw bl m nb nm → Dv .f32 x nm → bl.length + p ≤ 5 → 1 ≤ bl.length + p → 0 ≤ b ∧ b ≤ 14 + 100 * (o.length : Int) + 4 * (bl.length : Int) → Y bl b t nb x (p : Int) := by
        intro p
        induction p with
        | zero =>
          intro bl m b t nb nm x g1 g2 g3 g4 g5
          refine hY _ _ _ _ _ _ ⟨fun c => absurd c (by decide), fun _ => ⟨by rw [len1]; omega, ?_⟩⟩
          rw [show IntKind.i64.wrap (((n + 1 : Nat) : Int) - 1) = (n : Int) by rw [wI (by omega)]; omega]
          have hlen : (o ++ [bl]).length = o.length + 1 := by rw [List.length_append, len1]
          exact ih _ _ _ _ (bk_add h1 (by omega) g1 (by omega)) (by omega) (by omega) (by rw [hlen]; omega)
        | succ p ihp =>
          intro bl m b t nb nm x g1 g2 g3 g4 g5
          have hn := g1.nbit
          refine hY _ _ _ _ _ _ ⟨fun _ => ⟨by rw [len1]; omega, ?_⟩, fun c => absurd (show (0 : Int) < ((p + 1 : Nat) : Int) by omega) c⟩
          refine spec_pick_wp hl (by omega) (by decide) fun w3 b3 t3 hw3 hb3 => spec_pick_wp hl (by omega) (by decide) fun w4 b4 t4 hw4 hb4 => ?_
          rw [wI (n := 1 + w3) (by omega), wI (n := nb + (1 + w3)) (by omega), wI (n := 1 + w4) (by omega), show IntKind.i64.wrap (((p + 1 : Nat) : Int) - 1) = (p : Int) by rw [wI (by omega)]; omega]
          have hq := dvb_ok (dr_4 w4.toNat (by omega))
          rw [show ((w4.toNat : Nat) : Int) = w4 by omega] at hq
          have hm := g1.nmis
          have hlen : (bl ++ [(nb, x)]).length = bl.length + 1 := by rw [List.length_append, len1]
          exact ihp _ _ _ _ _ _ _ (bw_add g1 (by omega) g2 hw3 hw4) (dv_sub fk1 g2 hq (by rw [fkb1]; omega)) (by omega) (by omega) (by rw [hlen]; omega)
      rw [show (1 + w2) = (((1 + w2).toNat : Nat) : Int) by omega]
      exact key2 _ [] _ _ _ _ _ _ (bw_nil (by omega)) hd (by simp; omega) (by simp; omega) (by simp; omega)
  rw [wI (n := 1 + w) (by omega), show (1 + w) = (((1 + w).toNat : Nat) : Int) by omega]
  refine key _ [] (fun _ _ => 0) _ _ ⟨fun j hj => absurd hj (by simp), by simp, fun j i hj => absurd hj (by simp), fun j hj => absurd hj (by simp), fun j i hj => absurd hj (by simp), fun j i hj => absurd hj (by simp)⟩ (by simp; omega) (by simp; omega) (by simp; omega)
/-! ### the edge -/
structure Ch (n : Nat) (o : List Int) (a : Nat) : Prop where
  some : 0 < o.length
  head : o.getD 0 0 = 0
  last : o.getD (o.length - 1) 0 = (a : Int)
  up : ∀ k, 0 < k → k < o.length → o.getD (k - 1) 0 < o.getD k 0
  low : ∀ k, k < o.length → o.getD k 0 < (n : Int)
theorem ch_all (l : List (Int × Nat)) : ∀ (m a : Nat) (o : List Int), Ch l.length o a → a < l.length → l.length ≤ a + m → Ch l.length (egOut l m a o) (l.length - 1)
  | 0, a, o, _, h1, h2 => by omega
  | m + 1, a, o, h, h1, h2 => by
    rw [egOut]
    split
    · rename_i c
      have hb := nxt_bound c
      have hs := h.some
      have hlen : (o ++ [((nxt l a : Nat) : Int)]).length = o.length + 1 := by rw [List.length_append, len1]
      refine ch_all l m (nxt l a) _ ⟨by omega, ?_, ?_, fun k hk hk2 => ?_, fun k hk => ?_⟩ hb.2 (by omega)
      · rw [appL hs]; exact h.head
      · rw [hlen, Nat.add_sub_cancel, appR]
      · by_cases c2 : k < o.length
        · rw [appL c2, appL (by omega)]; exact h.up k hk c2
        · obtain rfl : k = o.length := by omega
          rw [appR, appL (by omega), h.last]; omega
      · by_cases c2 : k < o.length
        · rw [appL c2]; exact h.low k c2
        · obtain rfl : k = o.length := by omega
          rw [appR]; omega
    · rename_i c
      rw [show l.length - 1 = a by omega]; exact h
theorem ch_edge (l : List (Int × Nat)) (h : 1 ≤ l.length) : Ch l.length (egOut l l.length 0 [0]) (l.length - 1) :=
  ch_all l l.length 0 [0] ⟨by simp, rfl, rfl, fun k h1 h2 => by rw [len1] at h2; omega, fun k hk => by
    rw [len1] at hk
    obtain rfl : k = 0 := by omega
    show (0 : Int) < _
    omega⟩ (by omega) (by omega)

end Go.Proofs.Ytecdkjnomkdbkaa.G

namespace Go.Proofs.Ytecdkjnomkdbkaa.G
open Go Go.Ab
set_option maxRecDepth 100000
set_option linter.unusedVariables false
set_option linter.unusedSimpArgs false
set_option maxHeartbeats 1000000
def cFar : Nat := cz .f64 4576918229304087675
def qW (q : Nat) : Nat := fop .quo .f32 (itof .f32 (q : Int)) (cz .f32 1082130432)
theorem q_dv : ∀ q : Nat, q < 513 → 0 < q → dvb .f32 (qW q) (256 * (q : Int)) = true ∧ fcmp .gtr .f64 (widen (qW q)) (fop .add .f64 (widen (qW q)) (cz .f64 4576918229304087675)) = false ∧ fcmp .lss .f64 (widen (qW q)) (fop .sub .f64 (widen (qW q)) (cz .f64 4576918229304087675)) = false := by decide +kernel
theorem far_0 : atLeast (cz .f64 4576918229304087675) 0 = true := by decide +kernel
theorem nearW {x y : Nat} {v : Int} (hx : Dv .f32 x v) (hy : Dv .f32 y v) (h1 : x < 2 ^ 32) (h2 : y < 2 ^ 32) (hv : 0 < v ∧ v ≤ 131072 ∧ (256 : Int) ∣ v) : fcmp .gtr .f64 (widen x) (fop .add .f64 (widen y) (cz .f64 4576918229304087675)) = false ∧ fcmp .lss .f64 (widen x) (fop .sub .f64 (widen y) (cz .f64 4576918229304087675)) = false := by
  obtain ⟨d1, d2, d3⟩ := q_dv (v / 256).toNat (by omega) (by omega)
  have d1 := dvb_ok d1
  rw [show 256 * (((v / 256).toNat : Nat) : Int) = v by omega] at d1
  have hw : qW (v / 256).toNat < 2 ^ 32 := fop_lt _ _ _
  obtain rfl := dv_word hx d1 hv.1 h1 hw
  obtain rfl := dv_word hy d1 hv.1 h2 hw
  exact ⟨d2, d3⟩
theorem b10Ints1_wp {o : List Int} {K : Bool → Prop} (ho : o.length ≤ 2 ^ 20) (h : K true) : laws_b10Ints.wp o o K := by
  refine tP rfl fun X hX => ?_
  refine up (Y := fun i => X (i : Int)) o.length (hX _ ⟨fun c => absurd c (by omega), fun _ => h⟩) fun i hi hh => hX _ ⟨fun _ => ⟨⟨by omega, by omega⟩, ⟨by omega, by omega⟩, tP rfl ?_⟩, fun c => absurd (show (i : Int) < o.length by omega) c⟩
  rw [w1 (by omega)]; exact hh
theorem lng {α : Type} (f : Nat → α) (n : Nat) : ((List.range n).map f).length = n := by rw [List.length_map, List.length_range]
theorem mapR_at (f : Nat → Int) {n x : Nat} (h : x < n) : ((List.range n).map f).getD x 0 = f x := by
  rw [gD (by rw [lng]; exact h), List.getElem_map, List.getElem_range]
-- HYPE: 0 1
theorem pureCuts (l0 l1 : List Int) (hb0 : ∀ y ∈ l0, 0 ≤ y ∧ y < 256) (hb1 : ∀ y ∈ l1, 0 ≤ y ∧ y < 256) : laws_FnCuts.wp l0 l1 (fun b => b = true) := by
  have hlong : ∀ {K : Bool → Prop}, (K true) → (l0.length ≤ 2 ^ 20 → l1.length ≤ 2 ^ 20 → K false) → laws_b10Long.wp l0 l1 K := by
    intro K h1 h2
    refine ⟨fun _ => h1, fun c => ?_⟩
    by_cases d : 1048576 < (l1.length : Int)
    · rw [decide_eq_true d]; exact h1
    · rw [decide_eq_false d]; exact h2 (by omega) (by omega)
  refine hlong (tT rfl) fun hl0 hl1 => tF ?_
  refine spec_B10Blocks_wp ⟨by omega, hb0⟩ fun l M h1 hb => ?_
  have hn := hb.num
  have hok := bk_ok hb
  refine b10At_wp hb1 (by omega) (by omega) fun y hy1 hy2 => ?_
  obtain ⟨g, rfl⟩ : ∃ g : Nat, y = (g : Int) := ⟨y.toNat, by omega⟩
  refine impl_slope_bk hb h1 (g := g) (by omega) fun s hs hs2 => tT ?_
  have hcok := slC_ok hb g
  have hsB := sB_nn hb l.length (Nat.le_refl _) hcok
  have hsM := sM_nn hb l.length (Nat.le_refl _) hcok
  refine tP (by rw [lng]) (tN (by omega) ?_)
  intro X hX
  have key : ∀ t, Dv .f64 t (sM M (slC l M g) 0) → X (sB l (slC l M g) 0) t ((0 : Nat) : Int) := by
    refine up (Y := fun k => ∀ t, Dv .f64 t (sM M (slC l M g) k) → X (sB l (slC l M g) k) t (k : Int)) l.length ?_ ?_
    rotate_left
    · intro x hx hh t ht
      have hcx := hcok x hx
      have hbit := hb.bit x _ hx hcx
      obtain ⟨m1, m2, m3, m4⟩ := hb.mis x _ hx hcx
      have hsBx := sB_nn hb x (by omega) (c := slC l M g) fun x' hx' => hcok x' (by omega)
      have hsMx := sM_nn hb x (by omega) (c := slC l M g) fun x' hx' => hcok x' (by omega)
      refine hX _ _ _ (tP (by rw [lng]; omega) ⟨⟨by omega, by rw [lng]; omega⟩, ?_⟩)
      rw [nn, mapR_at _ hx]
      refine tN (by omega) ⟨⟨by omega, by omega⟩, tN (Int.not_le.2 (Int.ofNat_lt.2 hcx)) ⟨⟨by omega, Int.ofNat_lt.2 hcx⟩, ?_⟩⟩
      rw [nn]
      have e1 : ((l.getD x ([] : List ((Int) × (Nat)))).getD (slC l M g x) ((0 : Int), (0 : Nat))) = (l.getD x csN).getD (slC l M g x) ZC := rfl
      rw [e1, w1 (by omega), wI (by omega)]
      exact hh _ (dv_add fk2 ht (dv_widen m1 (by omega)) (by rw [fkb2]; omega))
    · intro t ht
      refine hX _ _ _ (tN (by rw [lng]; omega) ?_)
      obtain ⟨a1, a2, v, a3, a4⟩ := bc_bk hb h1 (a := sB l (slC l M g) l.length) (by omega)
      have hv := opt_uniq a4 (sl_opt hb g)
      rw [hv] at a3
      refine impl_bc hok (tP rfl (b10Gap_wp ht (dv_widen hs (by omega)) (by rw [Int.sub_self]; decide) fun gp hgp => ?_))
      rw [a1]
      have hlen : (bcL l (sB l (slC l M g) l.length)).length = l.length := by unfold bcL; rw [if_pos a1, ouA_len]
      rw [Int.sub_self] at hgp
      have hnear := nearW a3 hs a2 hs2 (by omega)
      refine tG (al_gtr far_0 hgp (by decide)) (tT (tP (by rw [hlen]) (tG hnear.1 (tG hnear.2 ?_))))
      refine b10At_wp hb1 (by omega) (by omega) fun z hz1 hz2 => ?_
      obtain ⟨B, rfl⟩ : ∃ B : Nat, z = (B : Int) := ⟨z.toNat, by omega⟩
      obtain ⟨b1, b2, v2, b3, b4⟩ := bc_bk hb h1 (a := (B : Int)) (by omega)
      obtain ⟨c1, c2, v3, c3, c4⟩ := bc_bk hb h1 (a := (B : Int) + 5) (by omega)
      rw [wI (by omega)]
      refine impl_bc hok (impl_bc hok (spec_bc hok ?_))
      rw [b1, c1]
      have hlB : (bcL l (B : Int)).length = l.length := by unfold bcL; rw [if_pos b1, ouA_len]
      have hlC : (bcL l ((B : Int) + 5)).length = l.length := by unfold bcL; rw [if_pos c1, ouA_len]
      have hmono := opt_mono b4 c4 (by omega)
      refine tT (tT (tT (tP (by rw [hlB]) (tP (by rw [hlC]) (b10Ints1_wp (by omega) (tT (spec_l01Same_wp b2 b2 ?_)))))))
      rw [show sameN (bcS l (B : Int)) (bcS l (B : Int)) = true from decide_eq_true rfl]
      refine tT (tG (by rw [dv_gtr c3 b3, decide_eq_false_iff_not]; omega) ?_)
      have hBb := bk_isB hb h1
      have hbc : bcOk l B = true := by
        have := b1
        unfold bcA at this
        rw [Bool.and_eq_true] at this; exact this.2
      have h0 : ((befR l B l.length).getD B Z).1 = true := by
        unfold bcOk at hbc
        rw [Bool.and_eq_true] at hbc; exact hbc.1
      have hout : bcL l (B : Int) = ouA l B l.length l.length := by unfold bcL; rw [if_pos b1]; rfl
      have hch : ∀ x, x < l.length → ∃ i : Nat, chA l B l.length x = (i : Int) ∧ i < (l.getD x csN).length := by
        intro x hx
        obtain ⟨i, j1, j2, _, _⟩ := lf_at hBb rfl h0 (d := l.length - 1 - x) (by omega)
        refine ⟨i, ?_, ?_⟩
        · unfold chA; rw [show x + 1 = l.length - (l.length - 1 - x) by omega]; exact j1
        · rw [show l.length - 1 - (l.length - 1 - x) = x by omega] at j2; exact j2
      have hus0 : ∀ x, x ≤ l.length → 0 ≤ usA l B l.length x ∧ usA l B l.length x ≤ 24 * (x : Int) := by
        intro x
        induction x with
        | zero => intro _; rw [usA]; omega
        | succ x ih =>
          intro hx
          obtain ⟨i, j1, j2⟩ := hch x (by omega)
          have hbit := hb.bit x i (by omega) j2
          have := ih (by omega)
          rw [usA, j1, nn]; omega
      intro Y hY
      refine up (Y := fun x => Y (usA l B l.length x) (x : Int)) l.length ?_ ?_
      rotate_left
      · intro x hx hh2
        obtain ⟨i, j1, j2⟩ := hch x hx
        have hbit := hb.bit x i hx j2
        have hu := hus0 x (by omega)
        have hat : (bcL l (B : Int)).getD x 0 = (i : Int) := by rw [hout, ou_at l B l.length l.length (Nat.le_refl _) x (by omega) hx, j1]
        refine hY _ _ (tP (by rw [hlB]; omega) ⟨⟨by omega, by omega⟩, ⟨by omega, by rw [hlB]; omega⟩, ?_⟩)
        rw [nn, hat]
        refine ⟨⟨by omega, Int.ofNat_lt.2 j2⟩, ?_⟩
        rw [nn]
        have e1 : ((l.getD x ([] : List ((Int) × (Nat)))).getD i ((0 : Int), (0 : Nat))) = (l.getD x csN).getD i ZC := rfl
        rw [e1, w1 (by omega), wI (by omega)]
        rw [usA, j1, nn] at hh2
        exact hh2
      · refine hY _ _ (tN (by rw [hlB]; omega) ⟨⟨by omega, by omega⟩, ?_⟩)
        have hlf := lf_ok hBb rfl h0 l.length (Nat.le_refl _)
        have hus := us_lf l B l.length l.length (Nat.le_refl _)
        rw [Nat.sub_self, usA] at hus
        have hC := isB_at hBb (i := 0) (by omega)
        have hCl := hb.len 0 (by omega)
        have hch2 := ch_edge (l.getD 0 csN) hCl.1
        have e0 : (l.getD ((0 : Int)).toNat ([] : List ((Int) × (Nat)))) = l.getD 0 csN := rfl
        rw [e0]
        refine impl_edge_wp (by omega) hC (tT (tN (by omega) ?_))
        have hel := egOut_len (l.getD 0 csN) (l.getD 0 csN).length 0 [0]
        rw [len1] at hel
        generalize egOut (l.getD 0 csN) (l.getD 0 csN).length 0 [0] = o at *
        have hs1 := hch2.some
        have hs2 := hch2.head
        have hs3 := hch2.last
        refine tN (by omega) ⟨⟨by omega, by omega⟩, tP hs2 ?_⟩
        have e1 : IntKind.i64.wrap ((o.length : Int) - 1) = ((o.length - 1 : Nat) : Int) := by rw [wI (by omega)]; omega
        have e2 : IntKind.i64.wrap (((l.getD 0 csN).length : Int) - 1) = (((l.getD 0 csN).length - 1 : Nat) : Int) := by rw [wI (by omega)]; omega
        rw [e1, e2, nn]
        refine ⟨⟨by omega, by omega⟩, tP hs3 (impl_AreCosts_wp (by omega) (tE hC ?_))⟩
        intro W hW
        refine up (Y := fun x => W (x : Int)) o.length (hW _ (tN (by omega) rfl)) fun x hx hh3 => hW _ (tP (by omega) ?_)
        rw [w1 (by omega)]
        by_cases c : 0 < x
        · have g1 := hch2.up x c hx
          have g2 := hch2.low x hx
          have e3 : IntKind.i64.wrap ((x : Int) - 1) = ((x - 1 : Nat) : Int) := by rw [wI (by omega)]; omega
          refine tP (by omega) ⟨⟨by omega, by omega⟩, ?_⟩
          rw [e3, nn, nn]
          exact ⟨⟨by omega, by omega⟩, tN (by omega) (tN (by omega) hh3)⟩
        · exact tN (by omega) hh3
  exact key _ dv_00

end Go.Proofs.Ytecdkjnomkdbkaa.G

