/-
  What the formulas say, over numbers and lists alone. Nothing here is trusted.
-/
import Derived.Test.YtecdkjnomkdbkaaMExactEntropyOfWa
namespace Go.Proofs.Ytecdkjnomkdbkaa.G
open Go Go.Ab
set_option maxRecDepth 100000
set_option linter.unusedVariables false
set_option linter.unusedSimpArgs false
set_option maxHeartbeats 1000000
/-! ### truth -/
theorem tT {A B : Prop} (h : A) : (true = true → A) ∧ (true = false → B) := ⟨fun _ => h, fun c => (by cases c)⟩
theorem tF {A B : Prop} (h : B) : (false = true → A) ∧ (false = false → B) := ⟨fun c => (by cases c), fun _ => h⟩
theorem tB {A B : Prop} {b : Bool} (h : A) : ((b == b) = true → A) ∧ ((b == b) = false → B) := ⟨fun _ => h, fun c => (by simp at c)⟩
theorem tE {A B : Prop} {b : Bool} (e : b = true) (h : A) : (b = true → A) ∧ (b = false → B) := ⟨fun _ => h, fun c => (by rw [e] at c; cases c)⟩
theorem tG {A B : Prop} {b : Bool} (e : b = false) (h : B) : (b = true → A) ∧ (b = false → B) := ⟨fun c => (by rw [e] at c; cases c), fun _ => h⟩
theorem tP {p A B : Prop} (e : p) (h : A) : (p → A) ∧ (¬p → B) := ⟨fun _ => h, fun c => absurd e c⟩
theorem tN {p A B : Prop} (e : ¬p) (h : B) : (p → A) ∧ (¬p → B) := ⟨fun c => absurd c e, fun _ => h⟩
theorem tI {b : Bool} {K : Bool → Prop} {A B : Prop} (h1 : b = true → A) (h2 : b = false → B) : (b = true → A) ∧ (b = false → B) := ⟨h1, h2⟩
/-! ### loops -/
theorem up {Y : Nat → Prop} (n : Nat) (last : Y n) (step : ∀ i, i < n → Y (i + 1) → Y i) : Y 0 := by
  have key : ∀ d i, i + d = n → Y i := by
    intro d
    induction d with
    | zero => intro i h; obtain rfl : i = n := by omega
              exact last
    | succ d ih => intro i h; exact step i (by omega) (ih (i + 1) (by omega))
  exact key n 0 (by omega)
theorem upFrom {Y : Nat → Prop} (k n : Nat) (hk : k ≤ n) (last : Y n) (step : ∀ i, k ≤ i → i < n → Y (i + 1) → Y i) : Y k := by
  have key : ∀ d i, k ≤ i → i + d = n → Y i := by
    intro d
    induction d with
    | zero => intro i _ h; obtain rfl : i = n := by omega
              exact last
    | succ d ih => intro i h0 h; exact step i h0 (by omega) (ih (i + 1) (by omega) (by omega))
  exact key (n - k) k (Nat.le_refl _) (by omega)
theorem w1 {i : Nat} (h : i < 4611686018427387904) : IntKind.i64.wrap ((i : Int) + (1 : Int)) = ((i + 1 : Nat) : Int) := wrap_succ (by omega)
theorem wI {n : Int} (h : -9223372036854775808 ≤ n ∧ n < 9223372036854775808) : IntKind.i64.wrap n = n := wrap_i64 h.1 h.2
theorem nn (i : Nat) : ((i : Int)).toNat = i := rfl
theorem gD {α : Type} {l : List α} {i : Nat} (h : i < l.length) (d : α) : l.getD i d = l[i] := by rw [List.getD_eq_getElem?_getD, List.getElem?_eq_getElem h]; rfl
theorem dropC {α : Type} {l : List α} {i : Nat} (h : i < l.length) : l.drop i = l[i] :: l.drop (i + 1) := List.drop_eq_getElem_cons h
theorem len1 {α : Type} (a : α) : ([a] : List α).length = 1 := rfl
theorem cz32 (n : Nat) (h : (FloatKind.f32.decode n).isNaN = false) : cz .f32 n = n := by simp [cz, h]
theorem c0_32 : cz .f32 0 = 0 := cz_zero32
theorem c0_64 : cz .f64 0 = 0 := cz_zero64
/-! ### copies, comparisons, marks -/
theorem toInt64S_wp {l : List Int} {K : List Int → Prop} (hl : l.length ≤ 2 ^ 20) (h : K l) : laws_toInt64S.wp l K := by
  refine ⟨⟨by omega, by omega, by omega, by omega⟩, fun X hX => ?_⟩
  have key : X (l.take 0 ++ List.replicate (l.length - 0) (0 : Int)) ((0 : Nat) : Int) := by
    refine up (Y := fun i => X (l.take i ++ List.replicate (l.length - i) (0 : Int)) (i : Int)) l.length ?_ fun i hi hn => ?_
    · refine hX _ _ ⟨fun c => absurd c (by omega), fun _ => ?_⟩
      rw [List.take_length, Nat.sub_self, List.replicate_zero, List.append_nil]; exact h
    · refine hX _ _ ⟨fun _ => ⟨⟨by omega, by omega⟩, ⟨by omega, ?_⟩, ?_⟩, fun c => absurd (show (i : Int) < l.length by omega) c⟩
      · rw [List.length_append, List.length_take, List.length_replicate]; omega
      · rw [nn, w1 (by omega), gD hi, set_fill (0 : Int) (by omega) hi]
        exact hn
  rw [List.take_zero, List.nil_append, Nat.sub_zero] at key; exact key
theorem sameFloat_wp {a : Nat} {K : Bool → Prop} (h : K true) : laws_sameFloat.wp a a K := by
  rcases order_self Ieee.double a with ho | ho
  · have e : fcmp .neq .f64 a a = true := by simp [fcmp, FloatKind.format, ho]
    exact tE e (by rw [e]; exact h)
  · have e : fcmp .neq .f64 a a = false := by simp [fcmp, FloatKind.format, ho]
    have e2 : fcmp .eql .f64 a a = true := by simp [fcmp, FloatKind.format, ho]
    refine tG e (tG e ⟨fun c => ⟨fun _ => by rw [BEq.rfl]; exact h, fun c2 => (by rw [c] at c2; cases c2)⟩, fun _ => by rw [e2]; exact h⟩)
theorem eqInt64S_wp {l : List Int} {K : Bool → Prop} (hl : l.length ≤ 2 ^ 20) (h : K true) : laws_eqInt64S.wp l l K := by
  refine tP rfl fun X hX => ?_
  refine up (Y := fun i => X (i : Int)) l.length ?_ fun i hi hn => ?_
  · exact hX _ ⟨fun c => absurd c (by omega), fun _ => h⟩
  · refine hX _ ⟨fun _ => ⟨⟨by omega, by omega⟩, ⟨by omega, by omega⟩, tP rfl ?_⟩, fun c => absurd (show (i : Int) < l.length by omega) c⟩
    rw [w1 (by omega)]; exact hn
theorem markInt64S_wp {l : List Int} {k : Nat} {K : Int → List Int → Prop} (hl : l.length ≤ 2 ^ 20) (hk : k ≤ 2 ^ 40) (h : K ((k + l.length : Nat) : Int) (marksI k l.length)) : laws_markInt64S.wp l (k : Int) K := by
  intro X hX
  have key : X (marksI k 0 ++ l.drop 0) ((k + 0 : Nat) : Int) ((0 : Nat) : Int) := by
    refine up (Y := fun i => X (marksI k i ++ l.drop i) ((k + i : Nat) : Int) (i : Int)) l.length ?_ fun i hi hn => ?_
    · refine hX _ _ _ ⟨fun c => absurd c (by rw [List.length_append, marksI_length, List.length_drop]; omega), fun _ => ?_⟩
      rw [List.drop_length, List.append_nil]; exact h
    · have hlen : (marksI k i ++ l.drop i).length = l.length := by rw [List.length_append, marksI_length, List.length_drop]; omega
      refine hX _ _ _ ⟨fun _ => ⟨⟨by omega, by rw [hlen]; omega⟩, ?_⟩, fun c => absurd (show (i : Int) < _ by rw [hlen]; omega) c⟩
      rw [nn, w1 (by omega), w1 (by omega)]
      have e := marksI_step (l := l) (i := i) (m := l.length - i) k (by omega) hi
      rw [show (k : Int) + (i : Int) = ((k + i : Nat) : Int) by omega] at e
      
      rw [e]; exact hn
  exact key
theorem heldInt64S_wp {k n : Nat} {K : Int → Prop} (hl : n ≤ 2 ^ 20) (hk : k ≤ 2 ^ 40) (h : K ((k + n : Nat) : Int)) : laws_heldInt64S.wp (marksI k n) (k : Int) K := by
  intro X hX
  have hlen : (marksI k n).length = n := marksI_length _ _
  have key : X ((k + 0 : Nat) : Int) ((0 : Nat) : Int) := by
    refine up (Y := fun i => X ((k + i : Nat) : Int) (i : Int)) n ?_ fun i hi hn => ?_
    · exact hX _ _ ⟨fun c => absurd c (by omega), fun _ => h⟩
    · refine hX _ _ ⟨fun _ => ⟨⟨by omega, by omega⟩, ?_⟩, fun c => absurd (show (i : Int) < _ by omega) c⟩
      rw [nn, gD (by omega), marksI_at k n i (by omega), show (k : Int) + (i : Int) = ((k + i : Nat) : Int) by omega]
      refine tP rfl ?_
      rw [w1 (by omega), w1 (by omega)]; exact hn
  exact key

end Go.Proofs.Ytecdkjnomkdbkaa.G

namespace Go.Proofs.Ytecdkjnomkdbkaa.G
open Go Go.Ab
set_option maxRecDepth 100000
set_option linter.unusedVariables false
set_option linter.unusedSimpArgs false
set_option maxHeartbeats 1000000
def pFin (x : Nat) : Bool := fcmp .eql .f32 (fop .sub .f32 x x) (cz .f32 0)
def pAll (l : List Nat) : Bool := l.all pFin
theorem pAll_cons (x : Nat) (l : List Nat) : pAll (x :: l) = (pFin x && pAll l) := rfl
/-- A loop that ends early where something does not hold. -/
theorem all_loop {α : Type} (l : List α) (p : α → Bool) {X : Int → Prop} {T F : Prop} (hX : ∀ (i : Nat) (h : i < l.length), ((p l[i] = true → X ((i + 1 : Nat) : Int)) ∧ (p l[i] = false → F)) → X (i : Int))
    (hend : T → X (l.length : Int)) (ht : l.all p = true → T) (hf : l.all p = false → F) : X (0 : Int) := by
  have key := up (Y := fun i => ((l.drop i).all p = true → T) → ((l.drop i).all p = false → F) → X (i : Int)) l.length (fun h _ => hend (h (by rw [List.drop_length]; rfl))) fun i hi hn h1 h2 => ?_
  · exact key (by rw [List.drop_zero]; exact ht) (by rw [List.drop_zero]; exact hf)
  · rw [dropC hi, List.all_cons] at h1 h2
    refine hX i hi ⟨fun e => hn (fun a => h1 (by rw [e, a]; rfl)) (fun a => h2 (by rw [e, a]; rfl)), fun e => h2 (by rw [e]; rfl)⟩
/-- A loop that makes a list, and ends early where something does not hold. -/
theorem map_loop {α β : Type} (l : List α) (p : α → Bool) (f : α → β) {X : List β → Int → Prop} {T F : Prop} (hX : ∀ (i : Nat) (h : i < l.length) (o : List β), o.length = i → ((p l[i] = true → X (o ++ [f l[i]]) ((i + 1 : Nat) : Int)) ∧ (p l[i] = false → F)) → X o (i : Int))
    (hend : T → X (l.map f) (l.length : Int)) (ht : l.all p = true → T) (hf : l.all p = false → F) : X [] (0 : Int) := by
  have key := up (Y := fun i => ((l.drop i).all p = true → T) → ((l.drop i).all p = false → F) → X ((l.take i).map f) (i : Int)) l.length (fun h _ => by rw [List.take_length]; exact hend (h (by rw [List.drop_length]; rfl))) fun i hi hn h1 h2 => ?_
  · have := key (by rw [List.drop_zero]; exact ht) (by rw [List.drop_zero]; exact hf)
    rw [List.take_zero] at this; exact this
  · rw [dropC hi, List.all_cons] at h1 h2
    refine hX i hi _ (by rw [List.length_map, List.length_take]; omega) ⟨fun e => ?_, fun e => h2 (by rw [e]; rfl)⟩
    have := hn (fun a => h1 (by rw [e, a]; rfl)) (fun a => h2 (by rw [e, a]; rfl))
    rw [List.take_succ_eq_append_getElem hi, List.map_append] at this
    exact this
theorem spec_l01Finite_wp {a : Nat} {K : Bool → Prop} (h : K (pFin a)) : spec_l01Finite.wp a K := h
theorem impl_IsFinite_wp {a : Nat} {K : Bool → Prop} (h : K (pFin a)) : impl_IsFinite.wp a K := h
theorem spec_l02Finite_wp {l : List Nat} {K : Bool → Prop} (hl : l.length ≤ 2 ^ 20) (h : K (pAll l)) : spec_l02Finite.wp l K := by
  intro X hX
  refine all_loop l pFin (X := X) (T := K true) (F := K false) (fun i hi hh => ?_) (fun ht => hX _ ⟨fun c => absurd c (by omega), fun _ => ht⟩) (fun e => by rw [pAll, e] at h; exact h) (fun e => by rw [pAll, e] at h; exact h)
  refine hX _ ⟨fun _ => ⟨⟨by omega, by omega⟩, spec_l01Finite_wp ?_⟩, fun c => absurd (show (i : Int) < l.length by omega) c⟩
  rw [nn, gD hi, w1 (by omega)]; exact hh
theorem impl_areFinite_wp {ll : List (List Nat)} {K : Bool → Prop} (hll : ll.length ≤ 2 ^ 20) (hl : ∀ l ∈ ll, l.length ≤ 2 ^ 20) (h : K (ll.all pAll)) : impl_areFinite.wp ll K := by
  intro X hX
  refine all_loop ll pAll (X := X) (T := K true) (F := K false) (fun i hi hh => ?_) (fun ht => hX _ ⟨fun c => absurd c (by omega), fun _ => ht⟩) (fun e => by rw [e] at h; exact h) (fun e => by rw [e] at h; exact h)
  refine hX _ ⟨fun _ => ⟨⟨by omega, by omega⟩, fun Y hY => ?_⟩, fun c => absurd (show (i : Int) < ll.length by omega) c⟩
  have hlen := hl ll[i] (List.getElem_mem hi)
  rw [nn, gD hi, w1 (by omega)] at hY
  refine all_loop ll[i] pFin (X := Y) (T := X ((i + 1 : Nat) : Int)) (F := K false) (fun j hj h2 => ?_) (fun ht => hY _ ⟨fun c => absurd c (by omega), fun _ => ht⟩) (fun e => hh.1 e) (fun e => hh.2 e)
  refine hY _ ⟨fun _ => ⟨⟨by omega, by omega⟩, impl_IsFinite_wp ?_⟩, fun c => absurd (show (j : Int) < ll[i].length by omega) c⟩
  rw [nn, gD hj, w1 (by omega)]; exact h2
theorem impl_areFinite1_wp {l : List Nat} {K : Bool → Prop} (hl : l.length ≤ 2 ^ 20) (h : K (pAll l)) : impl_areFinite.wp [l] K := by
  refine impl_areFinite_wp (by simp) (fun x hx => by rw [List.mem_singleton] at hx; subst hx; exact hl) ?_
  rw [List.all_cons, List.all_nil, Bool.and_true]; exact h
theorem impl_within_wp {a b c : Int} {K : Bool → Prop} (h : K (decide (b ≤ a ∧ a ≤ c))) : impl_within.wp a b c K := by
  refine ⟨fun h1 => ?_, fun h1 => ?_⟩
  · have : decide (b ≤ a ∧ a ≤ c) = decide (a ≤ c) := by simp [h1]
    rw [this] at h; exact h
  · have : decide (b ≤ a ∧ a ≤ c) = false := by simp [h1]
    rw [this] at h; exact h
theorem spec_l00In_wp {a b c : Int} {K : Bool → Prop} (h : K (decide (b ≤ a ∧ a ≤ c))) : spec_l00In.wp a b c K := by
  refine ⟨fun h1 => ?_, fun h1 => ?_⟩
  · have : decide (b ≤ a ∧ a ≤ c) = decide (a ≤ c) := by simp [h1]
    rw [this] at h; exact h
  · have : decide (b ≤ a ∧ a ≤ c) = false := by simp [h1]
    rw [this] at h; exact h
theorem bT {b : Bool} {A B : Prop} (h1 : b = true → A) (h2 : b = false → B) : (b = true → A) ∧ (b = false → B) := ⟨h1, h2⟩
def isL (l : List Nat) : Bool := decide (1 ≤ l.length ∧ l.length ≤ 128) && pAll l
def isOver (x : Nat) : Bool := pFin x && fcmp .gtr .f32 x (cz .f32 0)
def isLeast (x : Nat) : Bool := pFin x && fcmp .geq .f32 x (cz .f32 0)
theorem spec_l02Least_wp {a : Nat} {K : Bool → Prop} (h : K (isLeast a)) : spec_l02Least.wp a K := by
  refine spec_l01Finite_wp ⟨fun h1 => ?_, fun h1 => ?_⟩ <;> (rw [isLeast, h1] at h; exact h)
theorem impl_isLeast_wp {a : Nat} {K : Bool → Prop} (h : K (isLeast a)) : impl_isLeast.wp a K := by
  refine impl_IsFinite_wp ⟨fun h1 => ?_, fun h1 => ?_⟩ <;> (rw [isLeast, h1] at h; exact h)
def isShare (x : Nat) : Bool := fcmp .geq .f32 x (cz .f32 0) && fcmp .leq .f32 x (cz .f32 1065353216)
theorem spec_l02Share_wp {a : Nat} {K : Bool → Prop} (h : K (isShare a)) : spec_l02Share.wp a K := by
  refine ⟨fun h1 => ?_, fun h1 => ?_⟩ <;> (rw [isShare, h1] at h; exact h)
theorem impl_isShare_wp {a : Nat} {K : Bool → Prop} (h : K (isShare a)) : impl_isShare.wp a K := by
  refine ⟨fun h1 => ?_, fun h1 => ?_⟩ <;> (rw [isShare, h1] at h; exact h)
/-! ### integers -/
def bnd (m : Int) (l : List Int) : Bool := l.all fun n => decide (-m ≤ n ∧ n ≤ m)
def isI (l : List Int) : Bool := decide (1 ≤ l.length ∧ l.length ≤ 128) && bnd 1000000 l
theorem spec_l02Bound_wp {l : List Int} {m : Int} {K : Bool → Prop} (hl : l.length ≤ 2 ^ 20) (hm : 0 ≤ m ∧ m ≤ 2 ^ 40) (h : K (bnd m l)) : spec_l02Bound.wp l m K := by
  intro X hX
  refine all_loop l (fun n => decide (-m ≤ n ∧ n ≤ m)) (X := X) (T := K true) (F := K false) (fun i hi hh => ?_) (fun ht => hX _ ⟨fun c => absurd c (by omega), fun _ => ht⟩) (fun e => by rw [bnd, e] at h; exact h) (fun e => by rw [bnd, e] at h; exact h)
  refine hX _ ⟨fun _ => ⟨⟨by omega, by omega⟩, spec_l00In_wp ?_⟩, fun c => absurd (show (i : Int) < l.length by omega) c⟩
  rw [nn, gD hi, w1 (by omega), wI (show -9223372036854775808 ≤ (0 : Int) - m ∧ (0 : Int) - m < 9223372036854775808 by omega), Int.zero_sub]; exact hh
theorem impl_areWithin_wp {l : List Int} {m : Int} {K : Bool → Prop} (hl : l.length ≤ 2 ^ 20) (hm : 0 ≤ m ∧ m ≤ 2 ^ 40) (h : K (bnd m l)) : impl_areWithin.wp l m K := by
  intro X hX
  refine all_loop l (fun n => decide (-m ≤ n ∧ n ≤ m)) (X := X) (T := K true) (F := K false) (fun i hi hh => ?_) (fun ht => hX _ ⟨fun c => absurd c (by omega), fun _ => ht⟩) (fun e => by rw [bnd, e] at h; exact h) (fun e => by rw [bnd, e] at h; exact h)
  refine hX _ ⟨fun _ => ⟨⟨by omega, by omega⟩, impl_within_wp ?_⟩, fun c => absurd (show (i : Int) < l.length by omega) c⟩
  rw [nn, gD hi, w1 (by omega), wI (show -9223372036854775808 ≤ (0 : Int) - m ∧ (0 : Int) - m < 9223372036854775808 by omega), Int.zero_sub]; exact hh
theorem spec_l02Integers_wp {l : List Int} {K : Bool → Prop} (hl : l.length ≤ 2 ^ 20) (h : K (isI l)) : spec_l02Integers.wp l K := by
  refine ⟨fun h1 => ⟨fun h2 => spec_l02Bound_wp hl (by omega) ?_, fun h2 => ?_⟩, fun h1 => ?_⟩
  · rw [isI, decide_eq_true (show 1 ≤ l.length ∧ l.length ≤ 128 by omega), Bool.true_and] at h; exact h
  · rw [isI, decide_eq_false (show ¬(1 ≤ l.length ∧ l.length ≤ 128) by omega), Bool.false_and] at h; exact h
  · rw [isI, decide_eq_false (show ¬(1 ≤ l.length ∧ l.length ≤ 128) by omega), Bool.false_and] at h; exact h
theorem impl_AreIntegers_wp {l : List Int} {K : Bool → Prop} (hl : l.length ≤ 2 ^ 20) (h : K (isI l)) : impl_AreIntegers.wp l K := by
  refine impl_within_wp ⟨fun h1 => ?_, fun h1 => ?_⟩
  · have h1 := of_decide_eq_true h1
    refine impl_areWithin_wp hl (by omega) ?_
    rw [isI, decide_eq_true (show 1 ≤ l.length ∧ l.length ≤ 128 by omega), Bool.true_and] at h; exact h
  · have h1 := of_decide_eq_false h1
    rw [isI, decide_eq_false (show ¬(1 ≤ l.length ∧ l.length ≤ 128) by omega), Bool.false_and] at h; exact h
theorem impl_finiteList_wp {l : List Nat} {K : Bool → Bool → Prop} (hl : l.length ≤ 2 ^ 20) (h : K (pAll l) (pAll l)) : impl_finiteList.wp l K := by
  refine impl_areFinite1_wp hl ⟨fun h1 => ?_, fun h1 => ?_⟩ <;> (rw [h1] at h; exact h)

end Go.Proofs.Ytecdkjnomkdbkaa.G

namespace Go.Proofs.Ytecdkjnomkdbkaa.G
open Go Go.Ab
set_option maxRecDepth 100000
set_option linter.unusedVariables false
set_option linter.unusedSimpArgs false
set_option maxHeartbeats 1000000
open Ieee in
theorem neg_read (b : Nat) : single.read (Op.negFloat .f32 b) = (single.read b).opposite := by
  have hs : single.signWeight = 2 ^ 31 := rfl
  have h2 : Op.negFloat .f32 b % 2 ^ 31 = b % 2 ^ 31 := by
    show (b ^^^ 2 ^ 31) % 2 ^ 31 = _
    rw [Nat.xor_mod_two_pow]; simp
  have h3 : Op.negFloat .f32 b / 2 ^ 31 % 2 = (b / 2 ^ 31 + 1) % 2 := by
    show (b ^^^ 2 ^ 31) / 2 ^ 31 % 2 = _
    rw [Nat.xor_div_two_pow, Nat.div_self (by decide)]
    have := Nat.xor_mod_two_pow (a := b / 2 ^ 31) (b := 1) (n := 1)
    rw [Nat.pow_one] at this; rw [this]
    rcases Nat.mod_two_eq_zero_or_one (b / 2 ^ 31) with h | h
    · rw [h, show (b / 2 ^ 31 + 1) % 2 = 1 by omega]; decide
    · rw [h, show (b / 2 ^ 31 + 1) % 2 = 0 by omega]; decide
  have h4 : (Op.negFloat .f32 b / 2 ^ 31 % 2 == 1) = !(b / 2 ^ 31 % 2 == 1) := by
    rw [h3]
    rcases Nat.mod_two_eq_zero_or_one (b / 2 ^ 31) with h | h
    · rw [h, show (b / 2 ^ 31 + 1) % 2 = 1 by omega]; rfl
    · rw [h, show (b / 2 ^ 31 + 1) % 2 = 0 by omega]; rfl
  unfold Format.read
  rw [hs, h2, h4]
  dsimp only
  split
  · rfl
  · split
    · rfl
    · split <;> rfl
open Ieee in
theorem fneg_read {b : Nat} (h : (single.read b).isNaN = false) : single.read (fneg .f32 b) = (single.read b).opposite := by
  have e : (FloatKind.f32.decode (Op.negFloat .f32 b)).isNaN = false := by
    show (single.read _).isNaN = false
    rw [neg_read]; cases hr : single.read b with
    | nan s t => rw [hr] at h; cases h
    | _ => rfl
  rw [fneg, cz32 _ e, neg_read]
/-! ### values, in units of the last place -/
open Ieee in
def val : Datum → Int
  | .number s m e => signed s m (e + 149).toNat
  | _ => 0
open Ieee in
theorem signed_up (s : Bool) (m a b : Nat) : signed s m (a + b) = signed s m a * (2 ^ b : Nat) := by
  unfold signed
  cases s <;> simp [Nat.shiftLeft_eq, Nat.pow_add, Int.mul_assoc, Int.neg_mul]
open Ieee in
theorem order_val {s t : Bool} {m n : Nat} {i j : Int} (hi : -149 ≤ i) (hj : -149 ≤ j) : (Datum.number s m i).order (.number t n j) = some (compare (val (.number s m i)) (val (.number t n j))) := by
  have e1 : val (.number s m i) = signed s m (i - min i j).toNat * (2 ^ (min i j + 149).toNat : Nat) := by
    show signed s m _ = _
    rw [← signed_up]; congr 1; omega
  have e2 : val (.number t n j) = signed t n (j - min i j).toNat * (2 ^ (min i j + 149).toNat : Nat) := by
    show signed t n _ = _
    rw [← signed_up]; congr 1; omega
  rw [e1, e2]
  show some (compare (signed s m (i - min i j).toNat) (signed t n (j - min i j).toNat)) = _
  congr 1
  have hp : (0 : Int) < ((2 ^ (min i j + 149).toNat : Nat) : Int) := by have := Nat.two_pow_pos (min i j + 149).toNat; omega
  generalize signed s m (i - min i j).toNat = a
  generalize signed t n (j - min i j).toNat = b
  generalize ((2 ^ (min i j + 149).toNat : Nat) : Int) = p at hp
  rw [show compare a b = compareOfLessAndEq a b from rfl, show compare (a * p) (b * p) = compareOfLessAndEq (a * p) (b * p) from rfl]
  unfold compareOfLessAndEq
  have h1 : (a * p < b * p) = (a < b) := propext ⟨fun h => Int.lt_of_mul_lt_mul_right h (Int.le_of_lt hp), fun h => Int.mul_lt_mul_of_pos_right h hp⟩
  have h2 : (a * p = b * p) = (a = b) := propext ⟨fun h => Int.eq_of_mul_eq_mul_right (Int.ne_of_gt hp) h, fun h => by rw [h]⟩
  simp only [h1, h2]
/-- A word of single precision: no number, or how it stands to others. -/
theorem cmp_lt {a b : Int} : (compare a b == Ordering.lt) = decide (a < b) := by
  rw [show compare a b = compareOfLessAndEq a b from rfl]; unfold compareOfLessAndEq
  split
  · simp [*]
  · split <;> simp [*]
theorem cmp_eq {a b : Int} : (compare a b == Ordering.eq) = decide (a = b) := by
  rw [show compare a b = compareOfLessAndEq a b from rfl]; unfold compareOfLessAndEq
  split
  · simp; omega
  · split <;> simp [*]
theorem cmp_gt {a b : Int} : (compare a b == Ordering.gt) = decide (b < a) := by
  rw [show compare a b = compareOfLessAndEq a b from rfl]; unfold compareOfLessAndEq
  split
  · simp; omega
  · split
    · simp; omega
    · simp; omega
/-! ### from nought -/
open Ieee in
theorem read_f32 (x : Nat) : single.read x = if x % 2147483648 < 8388608 then .number (x / 2147483648 % 2 == 1) (x % 2147483648) (-149) else if x % 2147483648 < 2139095040 then .number (x / 2147483648 % 2 == 1) (8388608 + x % 2147483648 % 8388608) (-149 + ((x % 2147483648 / 8388608 - 1 : Nat) : Int)) else if x % 2147483648 = 2139095040 then .infinity (x / 2147483648 % 2 == 1) else .nan (x / 2147483648 % 2 == 1) (x % 2147483648 - 2139095040) := by
  unfold Format.read
  rw [show single.binade = 8388608 from rfl, show single.infRung = 2139095040 by decide, show single.signWeight = 2147483648 from rfl, show single.leastPlace = -149 by decide]
open Ieee in
theorem read_rung {r : Nat} (h : r < 2147483648) : single.read r = if r < 8388608 then .number false r (-149) else if r < 2139095040 then .number false (8388608 + r % 8388608) (-149 + ((r / 8388608 - 1 : Nat) : Int)) else if r = 2139095040 then .infinity false else .nan false (r - 2139095040) := by
  rw [read_f32, Nat.mod_eq_of_lt h, Nat.div_eq_of_lt h]; rfl
open Ieee in
theorem word_rung (r : Nat) : single.word false r = r := rfl
open Ieee in
theorem log2_full {a : Nat} (h : a < 8388608) : (8388608 + a).log2 = 23 := by
  apply Nat.le_antisymm
  · have : (8388608 + a).log2 < 24 := (Nat.log2_lt (by omega)).2 (by omega)
    omega
  · have : ¬ (8388608 + a).log2 < 23 := fun hh => by
      have := (Nat.log2_lt (by omega)).1 hh; omega
    omega
open Ieee in
theorem near_low {r : Nat} (h0 : r ≠ 0) (h : r < 8388608) : single.nearest false r (-149) = r := by
  unfold Format.nearest
  rw [if_neg h0, show single.infRung = 2139095040 by decide, show single.binade = 8388608 from rfl, show single.leastPlace = -149 by decide, show single.fractionBits = 23 from rfl]
  have hlog : r.log2 < 23 := (Nat.log2_lt h0).2 h
  have hmax : max (-149 + (r.log2 : Int) - ((23 : Nat) : Int)) (-149) = -149 := by omega
  simp only [hmax, Int.sub_self, Int.toNat_zero, Nat.shiftLeft_zero, cut_zero, Nat.zero_mul, Nat.zero_add, word_rung]
  omega
open Ieee in
theorem near_gen (f : Format) {m : Nat} {e : Int} (h0 : m ≠ 0) (hl : m.log2 = f.fractionBits) (he : f.leastPlace ≤ e) : f.nearest false m e = min ((e - f.leastPlace).toNat * f.binade + m) f.infRung := by
  have hmax : max (e + ((f.fractionBits : Nat) : Int) - ((f.fractionBits : Nat) : Int)) f.leastPlace = e := by omega
  have hw : ∀ a : Nat, f.word false a = a := fun a => if_neg (by decide)
  unfold Format.nearest
  rw [if_neg h0, hl]
  dsimp only
  rw [hmax, Int.sub_self, Int.toNat_zero, Nat.shiftLeft_zero, cut_zero, hw]
open Ieee in
theorem near_full {r : Nat} (h0 : ¬ r < 8388608) (h : r < 2139095040) : single.nearest false (8388608 + r % 8388608) (-149 + ((r / 8388608 - 1 : Nat) : Int)) = r := by
  have hmd : r % 8388608 < 8388608 := Nat.mod_lt _ (by decide)
  have hl : single.leastPlace = -149 := by decide
  have hb : single.binade = 8388608 := rfl
  have hi : single.infRung = 2139095040 := by decide
  rw [near_gen single (by omega) (log2_full hmd) (by rw [hl]; omega), hl, hb, hi]
  have ht : (-149 + ((r / 8388608 - 1 : Nat) : Int) - -149).toNat = r / 8388608 - 1 := by omega
  rw [ht]
  have := Nat.div_add_mod r 8388608
  have h1 : 1 ≤ r / 8388608 := by omega
  have h2 : (r / 8388608 - 1) * 8388608 + (8388608 + r % 8388608) = r := by omega
  rw [h2]
  exact Nat.min_eq_left (Nat.le_of_lt h)
open Ieee in
theorem sub0_near {x m : Nat} {e : Int} (h : single.read x = .number true m e) (hm : m ≠ 0) (he : -149 ≤ e) : single.sub 0 x = some (single.nearest false m e) := by
  have h0 : single.read 0 = .number false 0 (-149) := by decide +kernel
  unfold Format.sub
  rw [h0, h]
  simp only [Datum.opposite, Datum.sum, Bool.not_true]
  have hmin : min (-149 : Int) e = -149 := by omega
  rw [hmin]
  have ht : signed false 0 (-149 - -149 : Int).toNat + signed false m (e - -149).toNat = ((m * 2 ^ (e + 149).toNat : Nat) : Int) := by
    simp [signed, Nat.shiftLeft_eq]
  rw [ht]
  have hp := Nat.two_pow_pos (e + 149).toNat
  have hne : m * 2 ^ (e + 149).toNat ≠ 0 := Nat.mul_ne_zero hm (by omega)
  rw [if_neg (by omega), Option.map_some]
  have hd : decide (((m * 2 ^ (e + 149).toNat : Nat) : Int) < 0) = false := decide_eq_false (by omega)
  rw [hd, Int.natAbs_natCast]
  show some (single.nearest false (m * 2 ^ (e + 149).toNat) (-149)) = _
  rw [nearest_shift]
  congr 2; omega
open Ieee in
theorem sub0_num {x m : Nat} {e : Int} (h : single.read x = .number true m e) (hm : m ≠ 0) : ∃ y, single.sub 0 x = some y ∧ single.read y = .number false m e := by
  refine ⟨x % 2147483648, ?_⟩
  have hr : x % 2147483648 < 2147483648 := Nat.mod_lt _ (by decide)
  have h' := h
  rw [read_f32] at h'
  rw [read_rung hr]
  by_cases h1 : x % 2147483648 < 8388608
  · rw [if_pos h1] at h' ⊢
    simp only [Datum.number.injEq] at h'
    obtain ⟨_, rfl, rfl⟩ := h'
    exact ⟨by rw [sub0_near h hm (by omega), near_low hm h1], rfl⟩
  · rw [if_neg h1] at h' ⊢
    by_cases h2 : x % 2147483648 < 2139095040
    · rw [if_pos h2] at h' ⊢
      simp only [Datum.number.injEq] at h'
      obtain ⟨_, rfl, rfl⟩ := h'
      exact ⟨by rw [sub0_near h hm (by omega), near_full h1 h2], rfl⟩
    · rw [if_neg h2] at h'
      split at h' <;> cases h'
open Ieee in
theorem sub0_inf {x : Nat} (h : single.read x = .infinity true) : ∃ y, single.sub 0 x = some y ∧ single.read y = .infinity false := by
  have h0 : single.read 0 = .number false 0 (-149) := by decide +kernel
  refine ⟨single.word false single.infRung, ?_, by decide +kernel⟩
  unfold Format.sub
  rw [h0, h]; rfl
/-! ### sizes -/
def sizI (x : Nat) : Nat := if fcmp .lss .f32 x (cz .f32 0) = true then fneg .f32 x else if fcmp .eql .f32 x (cz .f32 0) = true then cz .f32 0 else x
def sizS (x : Nat) : Nat := if fcmp .leq .f32 x (cz .f32 0) = true then fop .sub .f32 (cz .f32 0) x else x
theorem fc_lss {x y : Nat} {c : Option Ordering} (h : Ieee.single.order x y = c) : fcmp .lss .f32 x y = (c == some .lt) := by subst h; rfl
theorem fc_leq {x y : Nat} {c : Option Ordering} (h : Ieee.single.order x y = c) : fcmp .leq .f32 x y = (c == some .lt || c == some .eq) := by subst h; rfl
theorem fc_eql {x y : Nat} {c : Option Ordering} (h : Ieee.single.order x y = c) : fcmp .eql .f32 x y = (c == some .eq) := by subst h; rfl
theorem fc_gtr {x y : Nat} {c : Option Ordering} (h : Ieee.single.order x y = c) : fcmp .gtr .f32 x y = (c == some .gt) := by subst h; rfl
open Ieee in
theorem fop_sub0 {x y : Nat} (hy : single.sub 0 x = some y) (hn : (single.read y).isNaN = false) : single.read (fop .sub .f32 0 x) = single.read y := by
  have : fop .sub .f32 0 x = cz .f32 y := by
    show ((single.sub 0 x).map (cz .f32)).getD _ = _
    rw [hy]; rfl
  rw [this, cz32 _ hn]
theorem siz_not {x : Nat} {c : Option Ordering} (h : Ieee.single.order x 0 = c) (h1 : (c == some .lt) = false) (h2 : (c == some .eq) = false) : sizS x = x ∧ sizI x = x := by
  unfold sizS sizI
  rw [c0_32]
  have e1 := fc_leq h
  rw [h1, h2] at e1
  have e2 := fc_lss h
  rw [h1] at e2
  have e3 := fc_eql h
  rw [h2] at e3
  rw [if_neg (by rw [e1]; decide), if_neg (by rw [e2]; decide), if_neg (by rw [e3]; decide)]
  exact ⟨rfl, rfl⟩
theorem siz_lt {x : Nat} (h : Ieee.single.order x 0 = some .lt) : sizS x = fop .sub .f32 0 x ∧ sizI x = fneg .f32 x := by
  unfold sizS sizI
  rw [c0_32]
  have e1 := fc_leq h
  have e2 := fc_lss h
  exact ⟨if_pos (by rw [e1]; rfl), if_pos (by rw [e2]; rfl)⟩
theorem siz_0 {x : Nat} (h : Ieee.single.order x 0 = some .eq) : sizS x = fop .sub .f32 0 x ∧ sizI x = 0 := by
  unfold sizS sizI
  rw [c0_32]
  have e1 := fc_leq h
  have e2 := fc_lss h
  have e3 := fc_eql h
  refine ⟨if_pos (by rw [e1]; rfl), ?_⟩
  rw [if_neg (by rw [e2]; decide)]
  exact if_pos (by rw [e3]; rfl)
open Ieee in
theorem val_pos {m : Nat} {e : Int} (hm : m ≠ 0) : (0 : Int) < val (.number false m e) := by
  have hp := Nat.two_pow_pos (e + 149).toNat
  have hne : m * 2 ^ (e + 149).toNat ≠ 0 := Nat.mul_ne_zero hm (by omega)
  simp only [val, signed, Bool.false_eq_true, if_false, Nat.shiftLeft_eq]; omega
open Ieee in
theorem val_neg {m : Nat} {e : Int} : val (.number true m e) = - val (.number false m e) := by
  simp only [val, signed, Bool.false_eq_true, if_false, if_true]
open Ieee in
theorem read_0 : single.read 0 = .number false 0 (-149) := by decide +kernel
open Ieee in
/-- Both sizes read alike. -/
theorem siz_read (x : Nat) : single.read (sizS x) = single.read (sizI x) := by
  rcases read_single x with ⟨s, t, h⟩ | ⟨s, h⟩ | ⟨s, m, e, h, hm, he, _⟩
  · have ho : single.order x 0 = none := by unfold Format.order; rw [h]; rfl
    have := siz_not ho rfl rfl
    rw [this.1, this.2]
  · cases s
    · have ho : single.order x 0 = some .gt := by unfold Format.order; rw [h, read_0]; rfl
      have := siz_not ho rfl rfl
      rw [this.1, this.2]
    · have ho : single.order x 0 = some .lt := by unfold Format.order; rw [h, read_0]; rfl
      have := siz_lt ho
      obtain ⟨y, h1, h2⟩ := sub0_inf h
      rw [this.1, this.2, fop_sub0 h1 (by rw [h2]; rfl), h2, fneg_read (by rw [h]; rfl), h]; rfl
  · have ho : single.order x 0 = some (compare (val (.number s m e)) 0) := by
      unfold Format.order; rw [h, read_0, order_val he (by omega), show val (.number false 0 (-149)) = 0 by decide]
    by_cases hz : m = 0
    · subst hz
      have hv : val (.number s 0 e) = 0 := by cases s <;> simp [val, signed]
      rw [hv] at ho
      have := siz_0 ho
      have h1 : single.sub 0 x = some 0 := by
        unfold Format.sub
        rw [read_0, h]
        cases s <;> simp [Datum.opposite, Datum.sum, signed, Format.write, Format.nearest, Format.word]
      rw [this.1, this.2, fop_sub0 h1 (by rw [read_0]; rfl)]
    · have hv := val_pos (e := e) hz
      cases s
      · have hc : compare (val (.number false m e)) 0 = Ordering.gt := by
          have := cmp_gt (a := val (.number false m e)) (b := 0); rw [decide_eq_true hv] at this; exact eq_of_beq this
        rw [hc] at ho
        have := siz_not ho rfl rfl
        rw [this.1, this.2]
      · have hc : compare (val (.number true m e)) 0 = Ordering.lt := by
          have := cmp_lt (a := val (.number true m e)) (b := 0); rw [decide_eq_true (by rw [val_neg]; omega)] at this; exact eq_of_beq this
        rw [hc] at ho
        have := siz_lt ho
        obtain ⟨y, h1, h2⟩ := sub0_num h hz
        rw [this.1, this.2, fop_sub0 h1 (by rw [h2]; rfl), h2, fneg_read (by rw [h]; rfl), h]; rfl
theorem siz_cmp (op : BinOp) (x y : Nat) : fcmp op .f32 (sizS x) y = fcmp op .f32 (sizI x) y := by
  have h : Ieee.single.order (sizS x) y = Ieee.single.order (sizI x) y := by unfold Ieee.Format.order; rw [siz_read]
  unfold fcmp
  rw [show FloatKind.f32.format = Ieee.single from rfl, h]
theorem spec_l03Size_wp {a : Nat} {K : Nat → Prop} (h : K (sizS a)) : spec_l03Size.wp a K := by
  refine ⟨fun c => ?_, fun c => ?_⟩
  · rw [sizS, if_pos c] at h; exact h
  · rw [sizS, if_neg (by rw [c]; decide)] at h; exact h
theorem impl_size_wp {a : Nat} {K : Nat → Prop} (h : K (sizI a)) : impl_size.wp a K := by
  refine ⟨fun c => ?_, fun c => ⟨fun c2 => ?_, fun c2 => ?_⟩⟩
  · rw [sizI, if_pos c] at h; exact h
  · rw [sizI, if_neg (by rw [c]; decide), if_pos c2] at h; exact h
  · rw [sizI, if_neg (by rw [c]; decide), if_neg (by rw [c2]; decide)] at h; exact h

end Go.Proofs.Ytecdkjnomkdbkaa.G

namespace Go.Proofs.Ytecdkjnomkdbkaa.G
open Go Go.Ab
set_option maxRecDepth 100000
set_option linter.unusedVariables false
set_option linter.unusedSimpArgs false
set_option maxHeartbeats 1000000
open Ieee in
structure Fmt (f : Format) : Prop where
  b : f.binade = 2 ^ f.fractionBits
  i : f.infRung < f.signWeight
  r : f.infRung = (2 ^ f.exponentBits - 1) * f.binade
  x : 2 ≤ f.exponentBits
theorem fmt1 : Fmt Ieee.single := ⟨rfl, by decide, rfl, by decide⟩
theorem fmt2 : Fmt Ieee.double := ⟨rfl, by decide, rfl, by decide⟩
open Ieee in
theorem read_word {f : Format} (h : Fmt f) (s : Bool) {r : Nat} (hr : r ≤ f.infRung) : f.read (f.word s r) = if r < f.binade then .number s r f.leastPlace else if r < f.infRung then .number s (f.binade + r % f.binade) (f.leastPlace + (r / f.binade - 1 : Nat)) else .infinity s := by
  have hi := h.i
  have hl : r < f.signWeight := by omega
  have e1 : f.word s r % f.signWeight = r := by
    unfold Format.word
    split
    · rw [Nat.add_mod_left, Nat.mod_eq_of_lt hl]
    · exact Nat.mod_eq_of_lt hl
  have e2 : (f.word s r / f.signWeight % 2 == 1) = s := by
    unfold Format.word
    cases s with
    | true => rw [if_pos rfl, Nat.add_div_left _ (by omega), Nat.div_eq_of_lt hl]; rfl
    | false => rw [if_neg (by decide), Nat.div_eq_of_lt hl]; rfl
  unfold Format.read
  dsimp only
  rw [e1, e2]
  split
  · rfl
  · split
    · rfl
    · rw [if_pos (by omega)]
open Ieee in
theorem near_exact {f : Format} (h : Fmt f) (s : Bool) {M M0 k : Nat} {e : Int} (hM : M = M0 * 2 ^ k) (h0 : M0 < 2 ^ (f.fractionBits + 1)) (hL : f.leastPlace ≤ e + k) (hI : (e + k - f.leastPlace).toNat + 2 ≤ 2 ^ f.exponentBits - 1) : ∃ m e', f.read (f.nearest s M e) = .number s m e' ∧ f.leastPlace ≤ e' ∧ m * 2 ^ (e' - f.leastPlace).toNat = M0 * 2 ^ (e + k - f.leastPlace).toNat := by
  have hB := h.b
  have hBp : 0 < f.binade := by rw [hB]; exact Nat.two_pow_pos _
  generalize hp : f.fractionBits = p at *
  generalize hLL : f.leastPlace = L at *
  by_cases hz : M0 = 0
  · subst hz
    rw [Nat.zero_mul] at hM
    refine ⟨0, L, ?_, Int.le_refl _, by simp⟩
    unfold Format.nearest
    rw [if_pos hM, read_word h s (Nat.zero_le _), if_pos hBp, hLL]
  have hMz : M ≠ 0 := by rw [hM]; exact Nat.mul_ne_zero hz (by have := Nat.two_pow_pos k; omega)
  have hlog : M.log2 = M0.log2 + k := by
    refine (Nat.log2_eq_iff hMz).2 ⟨?_, ?_⟩
    · rw [hM, Nat.pow_add]; exact Nat.mul_le_mul_right _ (Nat.log2_self_le hz)
    · rw [hM, show M0.log2 + k + 1 = (M0.log2 + 1) + k by omega, Nat.pow_add]; exact Nat.mul_lt_mul_of_pos_right Nat.lt_log2_self (Nat.two_pow_pos k)
  have hg1 : M0 < 2 ^ (M0.log2 + 1) := Nat.lt_log2_self
  have hg2 : 2 ^ M0.log2 ≤ M0 := Nat.log2_self_le hz
  have hgp : M0.log2 ≤ p := by
    have := (Nat.pow_lt_pow_iff_right (a := 2) (by decide)).1 (Nat.lt_of_le_of_lt hg2 h0); omega
  generalize hg : M0.log2 = g at *
  unfold Format.nearest
  rw [if_neg hMz]
  dsimp only
  rw [hlog, hLL, hp, hB]
  generalize hla : max (e + ((g + k : Nat) : Int) - p) L = last
  have hlast : last ≤ e + k ∧ L ≤ last ∧ (last = L ∨ last = e + g + k - p) ∧ e + g + k - p ≤ last := by omega
  have hkept : Toward.even.cut s (M <<< (e - last).toNat) (last - e).toNat = M0 * 2 ^ (e + k - last).toNat := by
    unfold Toward.cut
    by_cases c : last ≤ e
    · have : (last - e).toNat = 0 := by omega
      rw [this]
      dsimp only
      rw [Nat.zero_min, Nat.shiftLeft_zero, Nat.div_one, Nat.mod_one, Nat.shiftLeft_eq, hM, Nat.mul_assoc, ← Nat.pow_add, show k + (e - last).toNat = (e + k - last).toNat by omega]
      rfl
    · have : (e - last).toNat = 0 := by omega
      rw [this, Nat.shiftLeft_zero]
      have hd : min (last - e).toNat (M.log2 + 2) = (last - e).toNat := by omega
      dsimp only
      rw [hd, Nat.shiftLeft_eq, Nat.one_mul]
      have hMe : M = M0 * 2 ^ (e + k - last).toNat * 2 ^ (last - e).toNat := by rw [hM, Nat.mul_assoc, ← Nat.pow_add]; congr 2; omega
      have hpp := Nat.two_pow_pos (last - e).toNat
      rw [hMe, Nat.mul_div_cancel _ hpp, Nat.mul_mod_left, Nat.mul_zero]
      have e1 : decide (2 ^ (last - e).toNat < 0) = false := by simp
      have e2 : (2 ^ (last - e).toNat == 0) = false := by simp
      rw [e1, e2]; rfl
  rw [hkept]
  have hkl : M0 * 2 ^ (e + k - last).toNat < 2 ^ (p + 1) := by
    have : M0 * 2 ^ (e + k - last).toNat < 2 ^ (g + 1) * 2 ^ (e + k - last).toNat := Nat.mul_lt_mul_of_pos_right hg1 (Nat.two_pow_pos _)
    refine Nat.lt_of_lt_of_le this ?_
    rw [← Nat.pow_add]
    exact Nat.pow_le_pow_right (by decide) (by omega)
  have hkb : last ≠ L → 2 ^ p ≤ M0 * 2 ^ (e + k - last).toNat := by
    intro c
    have : 2 ^ g * 2 ^ (e + k - last).toNat ≤ M0 * 2 ^ (e + k - last).toNat := Nat.mul_le_mul_right _ hg2
    refine Nat.le_trans ?_ this
    rw [← Nat.pow_add]
    exact Nat.pow_le_pow_right (by decide) (by omega)
  have hfin : M0 * 2 ^ (e + k - L).toNat = M0 * 2 ^ (e + k - last).toNat * 2 ^ (last - L).toNat := by
    rw [Nat.mul_assoc, ← Nat.pow_add]; congr 2; omega
  rw [hfin]
  generalize M0 * 2 ^ (e + k - last).toNat = q at *
  rw [Nat.pow_succ] at hkl
  rw [hB] at hBp
  have hinf : (last - L).toNat * 2 ^ p + q < f.infRung := by
    rw [h.r, hB]
    generalize hE : 2 ^ f.exponentBits - 1 = E at *
    have h1 : ((last - L).toNat + 2) * 2 ^ p ≤ E * 2 ^ p := Nat.mul_le_mul_right _ (by omega)
    rw [Nat.add_mul] at h1
    omega
  rw [Nat.min_eq_left (by omega), read_word h s (by omega), hB]
  by_cases c : q < 2 ^ p
  · have hl : last = L := by
      by_cases c2 : last = L
      · exact c2
      · have := hkb c2; omega
    subst hl
    refine ⟨q, last, ?_, Int.le_refl _, rfl⟩
    rw [show (last - last).toNat = 0 by omega, Nat.zero_mul, Nat.zero_add, if_pos c, hLL]
  · refine ⟨q, last, ?_, hlast.2.1, rfl⟩
    generalize ha : (last - L).toNat = a at *
    have h1 : (a * 2 ^ p + q) / 2 ^ p = a + 1 := by
      rw [Nat.mul_comm, Nat.mul_add_div hBp]
      congr 1
      rw [show q = (q - 2 ^ p) + 2 ^ p by omega, Nat.add_div_right _ hBp, Nat.div_eq_of_lt (by omega)]
    have h2 : (a * 2 ^ p + q) % 2 ^ p = q - 2 ^ p := by
      rw [Nat.mul_comm, Nat.mul_add_mod, Nat.mod_eq_sub_mod (by omega), Nat.mod_eq_of_lt (by omega)]
    have h3 : ¬ a * 2 ^ p + q < 2 ^ p := by omega
    rw [if_neg h3, if_pos hinf, h1, h2, hLL]
    congr 1
    · omega
    · omega
open Ieee in
theorem near_units {f : Format} (h : Fmt f) (hU : (-10 - f.leastPlace).toNat + f.fractionBits + 3 ≤ 2 ^ f.exponentBits - 1) (hL : f.leastPlace ≤ -10) (s : Bool) {M v : Nat} {e : Int} (hLe : M = 0 ∨ f.leastPlace ≤ e ∧ M * 2 ^ (e - f.leastPlace).toNat = v * 2 ^ (-10 - f.leastPlace).toNat) (hv : M = 0 → v = 0) (hb : v < 2 ^ (f.fractionBits + 1)) : ∃ m e', f.read (f.nearest s M e) = .number s m e' ∧ f.leastPlace ≤ e' ∧ m * 2 ^ (e' - f.leastPlace).toNat = v * 2 ^ (-10 - f.leastPlace).toNat := by
  by_cases hM : M = 0
  · refine ⟨0, f.leastPlace, ?_, Int.le_refl _, by rw [hv hM]; simp⟩
    unfold Format.nearest
    have hBp : 0 < f.binade := by rw [h.b]; exact Nat.two_pow_pos _
    rw [if_pos hM, read_word h s (Nat.zero_le _), if_pos hBp]
  have hLe : f.leastPlace ≤ e ∧ M * 2 ^ (e - f.leastPlace).toNat = v * 2 ^ (-10 - f.leastPlace).toNat := by
    rcases hLe with c | c
    · exact absurd c hM
    · exact c
  obtain ⟨hLe, hE⟩ := hLe
  by_cases c : e ≤ -10
  · have h1 : (-10 - f.leastPlace).toNat = (-10 - e).toNat + (e - f.leastPlace).toNat := by omega
    have h2 : M = v * 2 ^ (-10 - e).toNat := by
      rw [h1, Nat.pow_add, ← Nat.mul_assoc] at hE
      exact Nat.eq_of_mul_eq_mul_right (Nat.two_pow_pos _) hE
    have h3 : e + ((-10 - e).toNat : Nat) = -10 := by omega
    obtain ⟨m, e', r1, r2, r3⟩ := near_exact h s (e := e) h2 hb (by rw [h3]; exact hL) (by rw [h3]; omega)
    rw [h3] at r3
    exact ⟨m, e', r1, r2, r3⟩
  · have h1 : (e - f.leastPlace).toNat = (e + 10).toNat + (-10 - f.leastPlace).toNat := by omega
    have h2 : M * 2 ^ (e + 10).toNat = v := by
      rw [h1, Nat.pow_add, ← Nat.mul_assoc] at hE
      exact Nat.eq_of_mul_eq_mul_right (Nat.two_pow_pos _) hE
    have hM1 : M ≤ v := by
      rw [← h2]; exact Nat.le_mul_of_pos_right _ (Nat.two_pow_pos _)
    have h3 : 2 ^ (e + 10).toNat < 2 ^ (f.fractionBits + 1) := by
      refine Nat.lt_of_le_of_lt ?_ hb
      rw [← h2]; exact Nat.le_mul_of_pos_left _ (by omega)
    have h4 := (Nat.pow_lt_pow_iff_right (a := 2) (by decide)).1 h3
    obtain ⟨m, e', r1, r2, r3⟩ := near_exact h s (M := M) (M0 := M) (k := 0) (e := e) (by simp) (by omega) (by omega) (by omega)
    refine ⟨m, e', r1, r2, ?_⟩
    rw [r3, ← hE]; congr 2; omega
open Ieee in
def vD (L : Int) (s : Bool) (m : Nat) (e : Int) : Int := signed s m (e - L).toNat
theorem vD_abs (L : Int) (s : Bool) (m : Nat) (e : Int) : (vD L s m e).natAbs = m * 2 ^ (e - L).toNat := by
  unfold vD Ieee.signed
  rw [Nat.shiftLeft_eq]
  cases s
  · simp only [Bool.false_eq_true, if_false]; exact Int.natAbs_natCast _
  · simp only [if_true, Int.natAbs_neg]; exact Int.natAbs_natCast _
theorem vD_sign (L : Int) (s : Bool) (m : Nat) (e : Int) : (s = true → vD L s m e ≤ 0) ∧ (s = false → 0 ≤ vD L s m e) := by
  unfold vD Ieee.signed
  cases s
  · refine ⟨fun c => (by cases c), fun _ => ?_⟩; simp only [Bool.false_eq_true, if_false]; exact Int.natCast_nonneg _
  · refine ⟨fun _ => ?_, fun c => (by cases c)⟩; simp only [if_true]; exact Int.neg_nonpos_of_nonneg (Int.natCast_nonneg _)
/-- A word that stands for v / 1024. -/
def Dv (k : FloatKind) (x : Nat) (v : Int) : Prop := ∃ s m e, k.format.read x = .number s m e ∧ k.format.leastPlace ≤ e ∧ vD k.format.leastPlace s m e = v * (2 ^ (-10 - k.format.leastPlace).toNat : Nat)
def isFk (k : FloatKind) : Prop := Fmt k.format ∧ (-10 - k.format.leastPlace).toNat + k.format.fractionBits + 3 ≤ 2 ^ k.format.exponentBits - 1 ∧ k.format.leastPlace ≤ -10
theorem fk1 : isFk .f32 := ⟨fmt1, by decide, by decide⟩
theorem fk2 : isFk .f64 := ⟨fmt2, by decide, by decide⟩
theorem unit_pos (n : Nat) : (0 : Int) < ((2 ^ n : Nat) : Int) := by have := Nat.two_pow_pos n; omega
theorem dv_near {k : FloatKind} (hk : isFk k) {s : Bool} {M : Nat} {v e : Int} (hLe : M = 0 ∨ k.format.leastPlace ≤ e ∧ M * 2 ^ (e - k.format.leastPlace).toNat = v.natAbs * 2 ^ (-10 - k.format.leastPlace).toNat) (hv : M = 0 → v = 0) (hb : v.natAbs < 2 ^ (k.format.fractionBits + 1)) (hs : (s = true → v ≤ 0) ∧ (s = false → 0 ≤ v)) : Dv k (k.format.nearest s M e) v := by
  obtain ⟨m, e', r1, r2, r3⟩ := near_units hk.1 hk.2.1 hk.2.2 s (v := v.natAbs) hLe (fun c => by rw [hv c]; rfl) hb
  refine ⟨s, m, e', r1, r2, ?_⟩
  have h1 := vD_abs k.format.leastPlace s m e'
  have h2 := vD_sign k.format.leastPlace s m e'
  rw [r3] at h1
  generalize vD k.format.leastPlace s m e' = V at *
  have h3 : (v * ((2 ^ (-10 - k.format.leastPlace).toNat : Nat) : Int)).natAbs = v.natAbs * 2 ^ (-10 - k.format.leastPlace).toNat := by rw [Int.natAbs_mul]; rfl
  have hp := unit_pos (-10 - k.format.leastPlace).toNat
  rw [← h3] at h1
  cases s with
  | true =>
    have h4 : v * ((2 ^ (-10 - k.format.leastPlace).toNat : Nat) : Int) ≤ 0 := Int.mul_nonpos_of_nonpos_of_nonneg (hs.1 rfl) (Int.le_of_lt hp)
    have := h2.1 rfl; omega
  | false =>
    have h4 : 0 ≤ v * ((2 ^ (-10 - k.format.leastPlace).toNat : Nat) : Int) := Int.mul_nonneg (hs.2 rfl) (Int.le_of_lt hp)
    have := h2.2 rfl; omega
theorem dv_cz {k : FloatKind} {x : Nat} {v : Int} (h : Dv k x v) : cz k x = x := by
  obtain ⟨s, m, e, r, _⟩ := h
  unfold cz
  rw [show k.decode x = k.format.read x from rfl, r]; rfl
open Ieee in
theorem sum_num {L : Int} {s t : Bool} {m n : Nat} {i j : Int} (hi : L ≤ i) (hj : L ≤ j) : ∃ u M b, (Datum.number s m i).sum (.number t n j) = some (.number u M b) ∧ L ≤ b ∧ M * 2 ^ (b - L).toNat = (vD L s m i + vD L t n j).natAbs ∧ (u = true → vD L s m i + vD L t n j ≤ 0) ∧ (u = false → 0 ≤ vD L s m i + vD L t n j) := by
  have e1 : vD L s m i = signed s m (i - min i j).toNat * (2 ^ (min i j - L).toNat : Nat) := by
    unfold vD; rw [← signed_up]; congr 1; omega
  have e2 : vD L t n j = signed t n (j - min i j).toNat * (2 ^ (min i j - L).toNat : Nat) := by
    unfold vD; rw [← signed_up]; congr 1; omega
  rw [e1, e2]
  have hp := unit_pos (min i j - L).toNat
  refine ⟨_, _, _, rfl, by omega, ?_, ?_, ?_⟩
  · rw [← Int.add_mul, Int.natAbs_mul]; rfl
  · intro c
    rw [← Int.add_mul]
    refine Int.mul_nonpos_of_nonpos_of_nonneg ?_ (Int.le_of_lt hp)
    by_cases hz : signed s m (i - min i j).toNat + signed t n (j - min i j).toNat = 0
    · omega
    · rw [if_neg hz] at c; have := of_decide_eq_true c; omega
  · intro c
    rw [← Int.add_mul]
    refine Int.mul_nonneg ?_ (Int.le_of_lt hp)
    by_cases hz : signed s m (i - min i j).toNat + signed t n (j - min i j).toNat = 0
    · omega
    · rw [if_neg hz] at c; have := of_decide_eq_false c; omega
theorem dv_sumw {k : FloatKind} (hk : isFk k) {s t : Bool} {m n : Nat} {i j : Int} {a b : Int} (hi : k.format.leastPlace ≤ i) (hj : k.format.leastPlace ≤ j) (ha : vD k.format.leastPlace s m i = a * (2 ^ (-10 - k.format.leastPlace).toNat : Nat)) (hb : vD k.format.leastPlace t n j = b * (2 ^ (-10 - k.format.leastPlace).toNat : Nat)) (hab : (a + b).natAbs < 2 ^ (k.format.fractionBits + 1)) : ∃ z, ((Ieee.Datum.number s m i).sum (.number t n j)).map k.format.write = some z ∧ Dv k z (a + b) := by
  obtain ⟨u, M, c, h1, h2, h3, h4, h5⟩ := sum_num (s := s) (t := t) (m := m) (n := n) hi hj
  have hp := unit_pos (-10 - k.format.leastPlace).toNat
  rw [ha, hb, ← Int.add_mul] at h3 h4 h5
  refine ⟨_, by rw [h1]; rfl, ?_⟩
  rw [Int.natAbs_mul] at h3
  have h3' : M * 2 ^ (c - k.format.leastPlace).toNat = (a + b).natAbs * 2 ^ (-10 - k.format.leastPlace).toNat := h3
  refine dv_near hk (.inr ⟨h2, h3'⟩) (fun c => ?_) hab ⟨fun c => ?_, fun c => ?_⟩
  · rw [c, Nat.zero_mul] at h3'
    have := Nat.two_pow_pos (-10 - k.format.leastPlace).toNat
    rcases Nat.mul_eq_zero.1 h3'.symm with d | d
    · omega
    · omega
  · exact Int.not_lt.1 fun d => by have := Int.mul_pos d hp; have := h4 c; omega
  · exact Int.not_lt.1 fun d => by have := Int.mul_neg_of_neg_of_pos d hp; have := h5 c; omega
theorem fop_some {op : BinOp} {k : FloatKind} {x y z : Nat} {v : Int} (h : floatBits op k x y = some z) (hz : Dv k z v) : Dv k (fop op k x y) v := by
  unfold fop
  rw [h]
  show Dv k (cz k z) v
  rw [dv_cz hz]; exact hz
theorem dv_add {k : FloatKind} (hk : isFk k) {x y : Nat} {a b : Int} (hx : Dv k x a) (hy : Dv k y b) (hab : (a + b).natAbs < 2 ^ (k.format.fractionBits + 1)) : Dv k (fop .add k x y) (a + b) := by
  obtain ⟨s, m, i, r1, l1, v1⟩ := hx
  obtain ⟨t, n, j, r2, l2, v2⟩ := hy
  obtain ⟨z, h1, h2⟩ := dv_sumw hk l1 l2 v1 v2 hab
  refine fop_some (z := z) ?_ h2
  show k.format.add x y = some z
  unfold Ieee.Format.add
  rw [r1, r2]; exact h1
theorem vD_not (L : Int) (s : Bool) (m : Nat) (e : Int) : vD L (!s) m e = - vD L s m e := by
  unfold vD Ieee.signed; cases s <;> simp
theorem dv_sub {k : FloatKind} (hk : isFk k) {x y : Nat} {a b : Int} (hx : Dv k x a) (hy : Dv k y b) (hab : (a - b).natAbs < 2 ^ (k.format.fractionBits + 1)) : Dv k (fop .sub k x y) (a - b) := by
  obtain ⟨s, m, i, r1, l1, v1⟩ := hx
  obtain ⟨t, n, j, r2, l2, v2⟩ := hy
  obtain ⟨z, h1, h2⟩ := dv_sumw hk (t := !t) (b := -b) l1 l2 v1 (by rw [vD_not, v2, Int.neg_mul]) hab
  refine fop_some (z := z) ?_ h2
  show k.format.sub x y = some z
  unfold Ieee.Format.sub
  rw [r1, r2]; exact h1
/-! ### how they stand to others -/
open Ieee in
theorem order_vD {L : Int} {s t : Bool} {m n : Nat} {i j : Int} (hi : L ≤ i) (hj : L ≤ j) : (Datum.number s m i).order (.number t n j) = some (compare (vD L s m i) (vD L t n j)) := by
  have e1 : vD L s m i = signed s m (i - min i j).toNat * (2 ^ (min i j - L).toNat : Nat) := by
    unfold vD; rw [← signed_up]; congr 1; omega
  have e2 : vD L t n j = signed t n (j - min i j).toNat * (2 ^ (min i j - L).toNat : Nat) := by
    unfold vD; rw [← signed_up]; congr 1; omega
  rw [e1, e2]
  show some (compare (signed s m (i - min i j).toNat) (signed t n (j - min i j).toNat)) = _
  congr 1
  have hp := unit_pos (min i j - L).toNat
  generalize signed s m (i - min i j).toNat = a
  generalize signed t n (j - min i j).toNat = b
  generalize ((2 ^ (min i j - L).toNat : Nat) : Int) = p at hp
  rw [show compare a b = compareOfLessAndEq a b from rfl, show compare (a * p) (b * p) = compareOfLessAndEq (a * p) (b * p) from rfl]
  unfold compareOfLessAndEq
  have h1 : (a * p < b * p) = (a < b) := propext ⟨fun h => Int.lt_of_mul_lt_mul_right h (Int.le_of_lt hp), fun h => Int.mul_lt_mul_of_pos_right h hp⟩
  have h2 : (a * p = b * p) = (a = b) := propext ⟨fun h => Int.eq_of_mul_eq_mul_right (Int.ne_of_gt hp) h, fun h => by rw [h]⟩
  simp only [h1, h2]
theorem dv_order {k : FloatKind} {x y : Nat} {a b : Int} (hx : Dv k x a) (hy : Dv k y b) : k.format.order x y = some (compare a b) := by
  obtain ⟨s, m, i, r1, l1, v1⟩ := hx
  obtain ⟨t, n, j, r2, l2, v2⟩ := hy
  unfold Ieee.Format.order
  rw [r1, r2, order_vD l1 l2, v1, v2]
  congr 1
  have hp := unit_pos (-10 - k.format.leastPlace).toNat
  generalize ((2 ^ (-10 - k.format.leastPlace).toNat : Nat) : Int) = p at hp
  rw [show compare a b = compareOfLessAndEq a b from rfl, show compare (a * p) (b * p) = compareOfLessAndEq (a * p) (b * p) from rfl]
  unfold compareOfLessAndEq
  have h1 : (a * p < b * p) = (a < b) := propext ⟨fun h => Int.lt_of_mul_lt_mul_right h (Int.le_of_lt hp), fun h => Int.mul_lt_mul_of_pos_right h hp⟩
  have h2 : (a * p = b * p) = (a = b) := propext ⟨fun h => Int.eq_of_mul_eq_mul_right (Int.ne_of_gt hp) h, fun h => by rw [h]⟩
  simp only [h1, h2]
theorem cmp_le' {a b : Int} : (some (compare a b) == some Ordering.lt || some (compare a b) == some Ordering.eq) = decide (a ≤ b) := by
  have h1 := cmp_lt (a := a) (b := b); have h2 := cmp_eq (a := a) (b := b)
  show (compare a b == Ordering.lt || compare a b == Ordering.eq) = _
  rw [h1, h2, ← Bool.decide_or]
  exact decide_eq_decide.2 ⟨fun c => by omega, fun c => by omega⟩
theorem dv_lss {k : FloatKind} {x y : Nat} {a b : Int} (hx : Dv k x a) (hy : Dv k y b) : fcmp .lss k x y = decide (a < b) := by
  unfold fcmp; dsimp only; rw [dv_order hx hy]; exact cmp_lt
theorem dv_gtr {k : FloatKind} {x y : Nat} {a b : Int} (hx : Dv k x a) (hy : Dv k y b) : fcmp .gtr k x y = decide (b < a) := by
  unfold fcmp; dsimp only; rw [dv_order hx hy]; exact cmp_gt
theorem dv_eql {k : FloatKind} {x y : Nat} {a b : Int} (hx : Dv k x a) (hy : Dv k y b) : fcmp .eql k x y = decide (a = b) := by
  unfold fcmp; dsimp only; rw [dv_order hx hy]; exact cmp_eq
theorem dv_leq {k : FloatKind} {x y : Nat} {a b : Int} (hx : Dv k x a) (hy : Dv k y b) : fcmp .leq k x y = decide (a ≤ b) := by
  unfold fcmp; dsimp only; rw [dv_order hx hy]; exact cmp_le'
theorem dv_neq {k : FloatKind} {x y : Nat} {a b : Int} (hx : Dv k x a) (hy : Dv k y b) : fcmp .neq k x y = !decide (a = b) := by
  unfold fcmp; dsimp only; rw [dv_order hx hy]; show (!(compare a b == Ordering.eq)) = _; rw [cmp_eq]
/-- Against a word that is no such number. -/
theorem dv_order2 {k : FloatKind} {x y : Nat} {a : Int} {t : Bool} {n : Nat} {j : Int} (hx : Dv k x a) (hy : k.format.read y = .number t n j) (hj : k.format.leastPlace ≤ j) : k.format.order x y = some (compare (a * (2 ^ (-10 - k.format.leastPlace).toNat : Nat)) (vD k.format.leastPlace t n j)) := by
  obtain ⟨s, m, i, r1, l1, v1⟩ := hx
  unfold Ieee.Format.order
  rw [r1, hy, order_vD l1 hj, v1]
theorem dv_gtr2 {k : FloatKind} {x y : Nat} {a : Int} {t : Bool} {n : Nat} {j : Int} (hx : Dv k x a) (hy : k.format.read y = .number t n j) (hj : k.format.leastPlace ≤ j) : fcmp .gtr k x y = decide (vD k.format.leastPlace t n j < a * (2 ^ (-10 - k.format.leastPlace).toNat : Nat)) := by
  unfold fcmp; dsimp only; rw [dv_order2 hx hy hj]; exact cmp_gt
theorem dv_leq2 {k : FloatKind} {x y : Nat} {a : Int} {t : Bool} {n : Nat} {j : Int} (hx : Dv k x a) (hy : k.format.read y = .number t n j) (hj : k.format.leastPlace ≤ j) : fcmp .leq k x y = decide (a * (2 ^ (-10 - k.format.leastPlace).toNat : Nat) ≤ vD k.format.leastPlace t n j) := by
  unfold fcmp; dsimp only; rw [dv_order2 hx hy hj]; exact cmp_le'
/-! ### halves, and wider words -/
theorem dv_half {x : Nat} {a : Int} (hx : Dv .f32 x (2 * a)) (ha : a.natAbs < 2 ^ 24) : Dv .f32 (fop .mul .f32 1056964608 x) a := by
  obtain ⟨s, m, e, r, l, v⟩ := hx
  have hl : (FloatKind.f32.format).leastPlace = -149 := by decide
  have hr : (FloatKind.f32.format).read 1056964608 = .number false 8388608 (-24) := by decide +kernel
  have hm : m < 2 ^ 24 := by
    rcases read_single x with ⟨s', t, h⟩ | ⟨s', h⟩ | ⟨s', m', e', h, h1, h2, h3⟩
    · rw [show (FloatKind.f32.format).read x = Ieee.single.read x from rfl, h] at r; cases r
    · rw [show (FloatKind.f32.format).read x = Ieee.single.read x from rfl, h] at r; cases r
    · rw [show (FloatKind.f32.format).read x = Ieee.single.read x from rfl, h] at r; cases r; exact h1
  have h1 := vD_abs (-149) s m e
  have h2 := vD_sign (-149) s m e
  rw [hl] at l v
  rw [v] at h1 h2
  have hp := unit_pos (-10 - -149 : Int).toNat
  rw [Int.natAbs_mul] at h1
  have h1 : (2 * a).natAbs * 2 ^ 139 = m * 2 ^ (e - -149).toNat := h1
  have hz : m = 0 → a = 0 := by
    intro c; rw [c, Nat.zero_mul] at h1
    have := Nat.two_pow_pos 139
    rcases Nat.mul_eq_zero.1 h1 with d | d <;> omega
  refine fop_some (z := (FloatKind.f32.format).nearest s (8388608 * m) (-24 + e)) ?_ (dv_near fk1 ?_ (fun c => hz (by omega)) ha ⟨fun c => ?_, fun c => ?_⟩)
  · show (FloatKind.f32.format).mul 1056964608 x = _
    unfold Ieee.Format.mul
    rw [hr, r]
    show some ((FloatKind.f32.format).nearest (false ^^ s) _ _) = _
    rw [Bool.false_xor]
  · by_cases c : m = 0
    · left; rw [c]
    right
    have hbig : 115 < (e - -149).toNat := by
      have ha0 : a ≠ 0 := by
        intro d
        rw [d] at h1
        have h1 : 0 = m * 2 ^ (e - -149).toNat := by rw [← h1]; rfl
        have := Nat.two_pow_pos (e - -149).toNat
        rcases Nat.mul_eq_zero.1 h1.symm with d | d <;> omega
      have h3 : 2 ^ 139 ≤ m * 2 ^ (e - -149).toNat := by rw [← h1]; exact Nat.le_mul_of_pos_left _ (by omega)
      have h4 : m * 2 ^ (e - -149).toNat < 2 ^ 24 * 2 ^ (e - -149).toNat := Nat.mul_lt_mul_of_pos_right hm (Nat.two_pow_pos _)
      rw [← Nat.pow_add] at h4
      have := (Nat.pow_lt_pow_iff_right (a := 2) (by decide)).1 (Nat.lt_of_le_of_lt h3 h4); omega
    rw [hl]
    refine ⟨by omega, ?_⟩
    have h5 : (e - -149).toNat = (-24 + e - -149).toNat + 24 := by omega
    rw [h5, Nat.pow_add] at h1
    show 8388608 * m * 2 ^ (-24 + e - -149).toNat = a.natAbs * 2 ^ 139
    generalize 2 ^ (-24 + e - -149).toNat = q at *
    have h6 : (2 * a).natAbs = 2 * a.natAbs := by omega
    rw [h6] at h1
    have h7 : m * (q * 2 ^ 24) = 2 * (8388608 * m * q) := by
      rw [show (2 : Nat) ^ 24 = 2 * 8388608 by decide, ← Nat.mul_assoc, ← Nat.mul_assoc, Nat.mul_comm (m * q) 2, Nat.mul_assoc, Nat.mul_assoc 8388608 m q, Nat.mul_comm (m * q)]
    rw [h7, Nat.mul_assoc] at h1
    omega
  · exact Int.not_lt.1 fun d => by have := Int.mul_pos (show (0 : Int) < 2 * a by omega) hp; have := h2.1 c; omega
  · exact Int.not_lt.1 fun d => by have := Int.mul_neg_of_neg_of_pos (show 2 * a < 0 by omega) hp; have := h2.2 c; omega
theorem dv_widen {x : Nat} {a : Int} (hx : Dv .f32 x a) (ha : a.natAbs < 2 ^ 53) : Dv .f64 (widen x) a := by
  obtain ⟨s, m, e, r, l, v⟩ := hx
  have hl : (FloatKind.f32.format).leastPlace = -149 := by decide
  have hl2 : (FloatKind.f64.format).leastPlace = -1074 := by decide
  have h1 := vD_abs (-149) s m e
  have h2 := vD_sign (-149) s m e
  rw [hl] at l v
  rw [v] at h1 h2
  have hp := unit_pos (-10 - -149 : Int).toNat
  rw [Int.natAbs_mul] at h1
  have h1 : a.natAbs * 2 ^ 139 = m * 2 ^ (e - -149).toNat := h1
  have hn : Dv .f64 ((FloatKind.f64.format).nearest s m e) a := by
    refine dv_near fk2 (.inr ?_) (fun c => ?_) ha ⟨fun c => ?_, fun c => ?_⟩
    · rw [hl2]
      refine ⟨by omega, ?_⟩
      obtain ⟨w, hw⟩ : ∃ w : Nat, w = 925 := ⟨_, rfl⟩
      rw [show (e - -1074).toNat = (e - -149).toNat + w by omega, Nat.pow_add, ← Nat.mul_assoc, ← h1, Nat.mul_assoc, ← Nat.pow_add]
      congr 2
      omega
    · rw [c, Nat.zero_mul] at h1
      have := Nat.two_pow_pos 139
      rcases Nat.mul_eq_zero.1 h1 with d | d <;> omega
    · exact Int.not_lt.1 fun d => by have := Int.mul_pos d hp; have := h2.1 c; omega
    · exact Int.not_lt.1 fun d => by have := Int.mul_neg_of_neg_of_pos d hp; have := h2.2 c; omega
  have hw : fconv .f32 x .f64 = some ((FloatKind.f64.format).nearest s m e) := by
    unfold fconv
    rw [if_neg (by decide), show FloatKind.f32.decode x = (FloatKind.f32.format).read x from rfl, r]
    dsimp only
    have he : FloatKind.f64.encode (.number s m e) = (FloatKind.f64.format).nearest s m e := rfl
    rw [he, dv_cz hn]
    obtain ⟨s', m', e', r', _⟩ := hn
    rw [show FloatKind.f64.decode _ = (FloatKind.f64.format).read _ from rfl, r']; rfl
  unfold widen
  rw [hw]; exact hn

end Go.Proofs.Ytecdkjnomkdbkaa.G

namespace Go.Proofs.Ytecdkjnomkdbkaa.G
open Go Go.Ab
set_option maxRecDepth 100000
set_option linter.unusedVariables false
set_option linter.unusedSimpArgs false
set_option maxHeartbeats 1000000
open Ieee in
theorem rung_val {f : Format} (h : Fmt f) (s : Bool) {r : Nat} (hr : r < f.infRung) : ∃ m e, f.read (f.word s r) = .number s m e ∧ f.leastPlace ≤ e ∧ (∀ n, r ≤ (n + 2) * 2 ^ f.fractionBits → m * 2 ^ (e - f.leastPlace).toNat ≤ 2 ^ (f.fractionBits + 1 + n)) ∧ (∀ n, (n + 1) * 2 ^ f.fractionBits ≤ r → 2 ^ (f.fractionBits + n) ≤ m * 2 ^ (e - f.leastPlace).toNat) := by
  have hB := h.b
  rw [read_word h s (Nat.le_of_lt hr), hB]
  generalize f.fractionBits = p at *
  generalize f.leastPlace = L at *
  have hp : 0 < 2 ^ p := Nat.two_pow_pos _
  by_cases c : r < 2 ^ p
  · rw [if_pos c]
    refine ⟨_, _, rfl, Int.le_refl _, ?_, ?_⟩
    · intro n _
      rw [Int.sub_self]
      have : 2 ^ p ≤ 2 ^ (p + 1 + n) := Nat.pow_le_pow_right (by decide) (by omega)
      simp; omega
    · intro n hn
      have : 1 * 2 ^ p ≤ (n + 1) * 2 ^ p := Nat.mul_le_mul_right _ (by omega)
      omega
  · rw [if_neg c, if_pos hr]
    have hj : 1 ≤ r / 2 ^ p := (Nat.le_div_iff_mul_le hp).2 (by omega)
    have hm : r % 2 ^ p < 2 ^ p := Nat.mod_lt _ hp
    have hd := Nat.div_add_mod r (2 ^ p)
    refine ⟨_, _, rfl, by omega, ?_, ?_⟩
    · intro n hn
      have e1 : (L + ((r / 2 ^ p - 1 : Nat) : Int) - L).toNat = r / 2 ^ p - 1 := by omega
      rw [e1]
      have hjn : r / 2 ^ p ≤ n + 2 := by
        refine (Nat.div_le_iff_le_mul_add_pred hp).2 ?_
        rw [Nat.mul_comm]; omega
      by_cases cj : r / 2 ^ p ≤ n + 1
      · have h1 : 2 ^ (r / 2 ^ p - 1) ≤ 2 ^ n := Nat.pow_le_pow_right (by decide) (by omega)
        rw [Nat.pow_add 2 (p + 1) n]
        refine Nat.mul_le_mul ?_ h1
        rw [Nat.pow_succ]; omega
      · have h2 : r / 2 ^ p = n + 2 := by omega
        rw [h2] at hd ⊢
        rw [Nat.mul_comm] at hd
        have h3 : r % 2 ^ p = 0 := by omega
        rw [h3, Nat.add_zero, ← Nat.pow_add]
        exact Nat.le_of_eq (by congr 1; omega)
    · intro n hn
      have e1 : (L + ((r / 2 ^ p - 1 : Nat) : Int) - L).toNat = r / 2 ^ p - 1 := by omega
      rw [e1]
      have hjn : n + 1 ≤ r / 2 ^ p := (Nat.le_div_iff_mul_le hp).2 hn
      rw [Nat.pow_add]
      exact Nat.mul_le_mul (by omega) (Nat.pow_le_pow_right (by decide) (by omega))
open Ieee in
theorem cut_zero (s : Bool) (n : Nat) : Toward.even.cut s n 0 = n := by
  unfold Toward.cut
  simp [Nat.mod_one]
open Ieee in
theorem cut_le (s : Bool) (n d : Nat) : n / 2 ^ min d (n.log2 + 2) ≤ Toward.even.cut s n d ∧ Toward.even.cut s n d ≤ n / 2 ^ min d (n.log2 + 2) + 1 := by
  unfold Toward.cut
  rw [Nat.one_shiftLeft]
  dsimp only
  have : ∀ b : Bool, b.toNat ≤ 1 := by intro b; cases b <;> decide
  constructor
  · exact Nat.le_add_right _ _
  · exact Nat.add_le_add_left (this _) _
open Ieee in
theorem near_log {f : Format} (h : Fmt f) (s : Bool) {M : Nat} {e : Int} (hM : M ≠ 0) (hI : (e + M.log2 - f.fractionBits - f.leastPlace).toNat + 4 ≤ 2 ^ f.exponentBits) : ∃ m q, f.read (f.nearest s M e) = .number s m q ∧ f.leastPlace ≤ q ∧ m * 2 ^ (q - f.leastPlace).toNat ≤ 2 ^ (f.fractionBits + 1 + (e + M.log2 - f.fractionBits - f.leastPlace).toNat) ∧ (f.leastPlace + f.fractionBits ≤ e + M.log2 → 2 ^ (e + M.log2 - f.leastPlace).toNat ≤ m * 2 ^ (q - f.leastPlace).toNat) := by
  have hB := h.b
  have hr := h.r
  have hp : 0 < 2 ^ f.fractionBits := Nat.two_pow_pos _
  have g1 : M < 2 ^ (M.log2 + 1) := Nat.lt_log2_self
  have g2 : 2 ^ M.log2 ≤ M := Nat.log2_self_le hM
  unfold Format.nearest
  rw [if_neg hM]
  dsimp only
  have key : ∃ kept, Toward.even.cut s (M <<< (e - max (e + M.log2 - f.fractionBits) f.leastPlace).toNat) (max (e + M.log2 - f.fractionBits) f.leastPlace - e).toNat = kept ∧ kept ≤ 2 ^ (f.fractionBits + 1) ∧ (f.leastPlace + f.fractionBits ≤ e + M.log2 → 2 ^ f.fractionBits ≤ kept) := by
    refine ⟨_, rfl, ?_⟩
    generalize f.fractionBits = p at *
    generalize f.leastPlace = L at *
    generalize hg : M.log2 = g at *
    generalize hl : max (e + g - p) L = last at *
    rw [Nat.shiftLeft_eq]
    by_cases c : last ≤ e
    · rw [show (last - e).toNat = 0 by omega, cut_zero]
      constructor
      · have h1 : M * 2 ^ (e - last).toNat < 2 ^ (g + 1) * 2 ^ (e - last).toNat := Nat.mul_lt_mul_of_pos_right g1 (Nat.two_pow_pos _)
        rw [← Nat.pow_add] at h1
        have h2 : 2 ^ (g + 1 + (e - last).toNat) ≤ 2 ^ (p + 1) := Nat.pow_le_pow_right (by decide) (by omega)
        omega
      · intro hc
        have h1 : 2 ^ g * 2 ^ (e - last).toNat ≤ M * 2 ^ (e - last).toNat := Nat.mul_le_mul_right _ g2
        rw [← Nat.pow_add, show g + (e - last).toNat = p by omega] at h1
        exact h1
    · rw [show (e - last).toNat = 0 by omega, Nat.pow_zero, Nat.mul_one]
      obtain ⟨k1, k2⟩ := cut_le s M (last - e).toNat
      rw [hg] at k1 k2
      constructor
      · refine Nat.le_trans k2 ?_
        have hx : M / 2 ^ min (last - e).toNat (g + 2) < 2 ^ (p + 1) := by
          refine (Nat.div_lt_iff_lt_mul (Nat.two_pow_pos _)).2 (Nat.lt_of_lt_of_le g1 ?_)
          rw [← Nat.pow_add]
          exact Nat.pow_le_pow_right (by decide) (by omega)
        omega
      · intro hc
        refine Nat.le_trans ?_ k1
        refine (Nat.le_div_iff_mul_le (Nat.two_pow_pos _)).2 ?_
        rw [← Nat.pow_add]
        exact Nat.le_trans (Nat.pow_le_pow_right (by decide) (by omega)) g2
  obtain ⟨kept, k0, k1, k2⟩ := key
  rw [k0]
  have hn : (max (e + M.log2 - f.fractionBits) f.leastPlace - f.leastPlace).toNat = (e + M.log2 - f.fractionBits - f.leastPlace).toNat := by omega
  rw [hn]
  generalize hN : (e + M.log2 - f.fractionBits - f.leastPlace).toNat = n at *
  rw [Nat.pow_succ] at k1
  have hu : n * f.binade + kept ≤ (n + 2) * 2 ^ f.fractionBits := by
    rw [hB, Nat.add_mul]; omega
  have hlt : n * f.binade + kept < f.infRung := by
    refine Nat.lt_of_le_of_lt hu ?_
    rw [hr, hB]
    exact Nat.mul_lt_mul_of_pos_right (by omega) hp
  rw [Nat.min_eq_left (Nat.le_of_lt hlt)]
  obtain ⟨m, q, r1, r2, r3, r4⟩ := rung_val h s hlt
  refine ⟨m, q, r1, r2, r3 n hu, ?_⟩
  intro hc
  have := r4 n (by rw [hB, Nat.add_mul]; have := k2 hc; omega)
  rw [show (e + M.log2 - f.leastPlace).toNat = f.fractionBits + n by omega]
  exact this

end Go.Proofs.Ytecdkjnomkdbkaa.G

namespace Go.Proofs.Ytecdkjnomkdbkaa.G
open Go Go.Ab
set_option maxRecDepth 100000
set_option linter.unusedVariables false
set_option linter.unusedSimpArgs false
set_option maxHeartbeats 1000000
open Ieee in
/-- The word x of kind k is a number of at most 2 ^ A least places. -/
def Bf (k : FloatKind) (x A : Nat) : Prop := ∃ s m e, k.format.read x = .number s m e ∧ k.format.leastPlace ≤ e ∧ m * 2 ^ (e - k.format.leastPlace).toNat ≤ 2 ^ A
theorem bf_cz {k : FloatKind} {x A : Nat} (h : Bf k x A) : cz k x = x := by
  obtain ⟨s, m, e, r, _⟩ := h
  unfold cz
  rw [show k.decode x = k.format.read x from rfl, r]; rfl
theorem bf_fop {op : BinOp} {k : FloatKind} {x y z A : Nat} (h : floatBits op k x y = some z) (hz : Bf k z A) : Bf k (fop op k x y) A := by
  unfold fop
  rw [h]
  show Bf k (cz k z) A
  rw [bf_cz hz]; exact hz
theorem Bf.up {k : FloatKind} {x A B : Nat} (h : Bf k x A) (hAB : A ≤ B) : Bf k x B := by
  obtain ⟨s, m, e, r, l, v⟩ := h
  exact ⟨s, m, e, r, l, Nat.le_trans v (Nat.pow_le_pow_right (by decide) hAB)⟩
theorem log_le {M a A : Nat} (hM : M ≠ 0) (h : M * 2 ^ a ≤ 2 ^ A) : M.log2 + a ≤ A := by
  have h1 : 2 ^ M.log2 * 2 ^ a ≤ M * 2 ^ a := Nat.mul_le_mul_right _ (Nat.log2_self_le hM)
  rw [← Nat.pow_add] at h1
  exact (Nat.pow_le_pow_iff_right (a := 2) (by decide)).1 (Nat.le_trans h1 h)
theorem bf_near {k : FloatKind} (hk : Fmt k.format) (s : Bool) {M A : Nat} {e : Int} (hA : k.format.fractionBits ≤ A) (hI : A + 4 ≤ 2 ^ k.format.exponentBits + k.format.fractionBits) (h : M ≠ 0 → e + M.log2 - k.format.leastPlace ≤ A) : Bf k (k.format.nearest s M e) (A + 1) := by
  by_cases hM : M = 0
  · refine ⟨s, 0, k.format.leastPlace, ?_, Int.le_refl _, by simp⟩
    unfold Ieee.Format.nearest
    have hBp : 0 < k.format.binade := by rw [hk.b]; exact Nat.two_pow_pos _
    rw [if_pos hM, read_word hk s (Nat.zero_le _), if_pos hBp]
  · have := h hM
    obtain ⟨m, q, r1, r2, r3, _⟩ := near_log hk s (e := e) hM (by omega)
    exact ⟨s, m, q, r1, r2, Nat.le_trans r3 (Nat.pow_le_pow_right (by decide) (by omega))⟩
open Ieee in
theorem bf_mul {k : FloatKind} (hk : Fmt k.format) {x y A B C : Nat} (hx : Bf k x A) (hy : Bf k y B) (hC : k.format.fractionBits ≤ C) (hI : C + 4 ≤ 2 ^ k.format.exponentBits + k.format.fractionBits) (h : (A : Int) + B + k.format.leastPlace ≤ C) : Bf k (fop .mul k x y) (C + 1) := by
  obtain ⟨s, m, i, r1, l1, v1⟩ := hx
  obtain ⟨t, n, j, r2, l2, v2⟩ := hy
  refine bf_fop (z := k.format.nearest (s ^^ t) (m * n) (i + j)) ?_ (bf_near hk _ hC hI ?_)
  · show k.format.mul x y = _
    unfold Format.mul
    rw [r1, r2]; rfl
  · intro hz
    have v3 := Nat.mul_le_mul v1 v2
    rw [← Nat.pow_add, show m * 2 ^ (i - k.format.leastPlace).toNat * (n * 2 ^ (j - k.format.leastPlace).toNat) = m * n * 2 ^ ((i - k.format.leastPlace).toNat + (j - k.format.leastPlace).toNat) by rw [Nat.pow_add]; ac_rfl] at v3
    have := log_le hz v3
    omega
theorem bf_sumw {k : FloatKind} (hk : Fmt k.format) {s t : Bool} {m n A : Nat} {i j : Int} (l1 : k.format.leastPlace ≤ i) (l2 : k.format.leastPlace ≤ j) (v1 : m * 2 ^ (i - k.format.leastPlace).toNat ≤ 2 ^ A) (v2 : n * 2 ^ (j - k.format.leastPlace).toNat ≤ 2 ^ A) (hA : k.format.fractionBits ≤ A + 1) (hI : A + 5 ≤ 2 ^ k.format.exponentBits + k.format.fractionBits) : ∃ z, ((Ieee.Datum.number s m i).sum (.number t n j)).map k.format.write = some z ∧ Bf k z (A + 2) := by
  obtain ⟨u, M, c, h1, h2, h3, _, _⟩ := sum_num (s := s) (t := t) (m := m) (n := n) l1 l2
  refine ⟨_, by rw [h1]; rfl, bf_near (A := A + 1) hk _ hA hI ?_⟩
  intro hz
  have h4 : M * 2 ^ (c - k.format.leastPlace).toNat ≤ 2 ^ (A + 1) := by
    rw [h3, Nat.pow_succ]
    have a1 := vD_abs k.format.leastPlace s m i
    have a2 := vD_abs k.format.leastPlace t n j
    omega
  have := log_le hz h4
  omega
theorem bf_add {k : FloatKind} (hk : Fmt k.format) {x y A : Nat} (hx : Bf k x A) (hy : Bf k y A) (hA : k.format.fractionBits ≤ A + 1) (hI : A + 5 ≤ 2 ^ k.format.exponentBits + k.format.fractionBits) : Bf k (fop .add k x y) (A + 2) := by
  obtain ⟨s, m, i, r1, l1, v1⟩ := hx
  obtain ⟨t, n, j, r2, l2, v2⟩ := hy
  obtain ⟨z, h1, h2⟩ := bf_sumw hk (s := s) (t := t) l1 l2 v1 v2 hA hI
  refine bf_fop (z := z) ?_ h2
  show k.format.add x y = some z
  unfold Ieee.Format.add
  rw [r1, r2]; exact h1
theorem bf_sub {k : FloatKind} (hk : Fmt k.format) {x y A : Nat} (hx : Bf k x A) (hy : Bf k y A) (hA : k.format.fractionBits ≤ A + 1) (hI : A + 5 ≤ 2 ^ k.format.exponentBits + k.format.fractionBits) : Bf k (fop .sub k x y) (A + 2) := by
  obtain ⟨s, m, i, r1, l1, v1⟩ := hx
  obtain ⟨t, n, j, r2, l2, v2⟩ := hy
  obtain ⟨z, h1, h2⟩ := bf_sumw hk (s := s) (t := !t) l1 l2 v1 v2 hA hI
  refine bf_fop (z := z) ?_ h2
  show k.format.sub x y = some z
  unfold Ieee.Format.sub
  rw [r1, r2]; exact h1
/-- The word x of kind k is a number of at least 2 ^ A least places. -/
def Lf (k : FloatKind) (x A : Nat) : Prop := ∃ s m e, k.format.read x = .number s m e ∧ k.format.leastPlace ≤ e ∧ 2 ^ A ≤ m * 2 ^ (e - k.format.leastPlace).toNat
theorem le_log {M a A : Nat} (h : 2 ^ A ≤ M * 2 ^ a) : A ≤ M.log2 + a := by
  have h1 : M * 2 ^ a < 2 ^ (M.log2 + 1) * 2 ^ a := Nat.mul_lt_mul_of_pos_right Nat.lt_log2_self (Nat.two_pow_pos _)
  rw [← Nat.pow_add] at h1
  have := (Nat.pow_lt_pow_iff_right (a := 2) (by decide)).1 (Nat.lt_of_le_of_lt h h1)
  omega
open Ieee in
theorem bf_quo {k : FloatKind} (hk : Fmt k.format) {x y A B C : Nat} (hx : Bf k x A) (hy : Lf k y B) (hC : k.format.fractionBits ≤ C) (hI : C + 4 ≤ 2 ^ k.format.exponentBits + k.format.fractionBits) (h : (A : Int) - B - k.format.leastPlace ≤ C) : Bf k (fop .quo k x y) (C + 1) := by
  obtain ⟨s, m, i, r1, l1, v1⟩ := hx
  obtain ⟨t, n, j, r2, l2, v2⟩ := hy
  have hn : n ≠ 0 := by
    intro c; rw [c, Nat.zero_mul] at v2; have := Nat.two_pow_pos B; omega
  have hnb := le_log v2
  generalize hmo : k.format.fractionBits + 2 + n.log2 - m.log2 = more
  refine bf_fop (z := k.format.nearest (s ^^ t) (2 * ((m <<< more) / n) + ((m <<< more) % n != 0).toNat) (i - j - more - 1)) ?_ (bf_near hk _ hC hI ?_)
  · show k.format.div x y = _
    unfold Format.div Datum.quotient
    rw [r1, r2]
    simp only [hn, if_false, hmo]; rfl
  · intro hz
    by_cases hm : m = 0
    · exfalso; apply hz; rw [hm]; simp
    have hma := log_le hm v1
    have b1 : m <<< more < 2 ^ (m.log2 + 1 + more) := by
      rw [Nat.shiftLeft_eq, Nat.pow_add]
      exact Nat.mul_lt_mul_of_pos_right Nat.lt_log2_self (Nat.two_pow_pos _)
    have b2 : (m <<< more) / n < 2 ^ (m.log2 + 1 + more - n.log2) := by
      refine (Nat.div_lt_iff_lt_mul (by omega)).2 (Nat.lt_of_lt_of_le b1 ?_)
      refine Nat.le_trans (Nat.le_of_eq ?_) (Nat.mul_le_mul_left _ (Nat.log2_self_le hn))
      rw [← Nat.pow_add]; congr 1; omega
    have b3 : ∀ b : Bool, b.toNat ≤ 1 := by intro b; cases b <;> decide
    have b4 := b3 ((m <<< more) % n != 0)
    have b5 : 2 * ((m <<< more) / n) + ((m <<< more) % n != 0).toNat < 2 ^ (m.log2 + 1 + more - n.log2 + 1) := by
      rw [Nat.pow_succ]; omega
    have b6 := (Nat.log2_lt hz).2 b5
    omega
open Ieee in
theorem fconv_some {y A : Nat} (h : Bf .f64 y A) (hA : A ≤ 1170) : (fconv .f64 y .f32).isSome = true := by
  obtain ⟨s, m, e, r, l, v⟩ := h
  unfold fconv
  rw [if_neg (by decide), show FloatKind.decode .f64 y = (FloatKind.format .f64).read y from rfl, r]
  have hL : (FloatKind.format .f64).leastPlace = -1074 := by decide
  rw [hL] at l v
  have hb : Bf .f32 (FloatKind.encode .f32 (.number s m e)) (254 + 1) := by
    refine bf_near (k := .f32) (M := m) (e := e) (A := 254) fmt1 s (by decide) (by decide) ?_
    intro hm
    have := log_le hm v
    have h2 : (FloatKind.format .f32).leastPlace = -149 := by decide
    rw [h2]; omega
  obtain ⟨s2, m2, e2, r2, _⟩ := hb
  dsimp only
  rw [show FloatKind.decode .f32 (FloatKind.encode .f32 (.number s m e)) = (FloatKind.format .f32).read (FloatKind.encode .f32 (.number s m e)) from rfl, r2]
  rfl
open Ieee in
theorem lf_near {k : FloatKind} (hk : Fmt k.format) (s : Bool) {M A : Nat} {e : Int} (hM : M ≠ 0) (hI : (e + M.log2 - k.format.fractionBits - k.format.leastPlace).toNat + 4 ≤ 2 ^ k.format.exponentBits) (hA : k.format.fractionBits ≤ A) (h : (A : Int) ≤ e + M.log2 - k.format.leastPlace) : Lf k (k.format.nearest s M e) A := by
  obtain ⟨m, q, r1, r2, _, r4⟩ := near_log hk s (e := e) hM hI
  exact ⟨s, m, q, r1, r2, Nat.le_trans (Nat.pow_le_pow_right (by decide) (by omega)) (r4 (by omega))⟩
theorem lf_fop {op : BinOp} {k : FloatKind} {x y z A : Nat} (h : floatBits op k x y = some z) (hz : Lf k z A) : Lf k (fop op k x y) A := by
  have hc : cz k z = z := by
    obtain ⟨s, m, e, r, _⟩ := hz
    unfold cz
    rw [show k.decode z = k.format.read z from rfl, r]; rfl
  unfold fop
  rw [h]
  show Lf k (cz k z) A
  rw [hc]; exact hz
open Ieee in
theorem lf_mul {k : FloatKind} (hk : Fmt k.format) {x y A B C A2 B2 : Nat} (hx : Lf k x A) (hy : Lf k y B) (hx2 : Bf k x A2) (hy2 : Bf k y B2) (hI : (A2 : Int) + B2 + k.format.leastPlace + 5 ≤ 2 ^ k.format.exponentBits + k.format.fractionBits) (hC : k.format.fractionBits ≤ C) (h : (C : Int) ≤ A + B + k.format.leastPlace) : Lf k (fop .mul k x y) C := by
  obtain ⟨s, m, i, r1, l1, v1⟩ := hx
  obtain ⟨t, n, j, r2, l2, v2⟩ := hy
  obtain ⟨s', m', i', r1', _, w1⟩ := hx2
  obtain ⟨t', n', j', r2', _, w2⟩ := hy2
  rw [r1] at r1'; rw [r2] at r2'
  cases r1'; cases r2'
  have v3 := Nat.mul_le_mul v1 v2
  have w3 := Nat.mul_le_mul w1 w2
  rw [← Nat.pow_add, show m * 2 ^ (i - k.format.leastPlace).toNat * (n * 2 ^ (j - k.format.leastPlace).toNat) = m * n * 2 ^ ((i - k.format.leastPlace).toNat + (j - k.format.leastPlace).toNat) by rw [Nat.pow_add]; ac_rfl] at v3 w3
  have hz : m * n ≠ 0 := by
    intro c; rw [c, Nat.zero_mul] at v3; have := Nat.two_pow_pos (A + B); omega
  have a1 := log_le hz w3
  have a2 := le_log v3
  have he : (0 : Int) ≤ 2 ^ k.format.exponentBits := Int.le_of_lt (Int.pow_pos (by decide))
  refine lf_fop (z := k.format.nearest (s ^^ t) (m * n) (i + j)) ?_ (lf_near hk _ hz ?_ hC (by omega))
  · show k.format.mul x y = _
    unfold Format.mul
    rw [r1, r2]; rfl
  · have hb : ((2 ^ k.format.exponentBits : Nat) : Int) = (2 : Int) ^ k.format.exponentBits := by simp
    have h4 : 4 ≤ 2 ^ k.format.exponentBits := Nat.le_trans (by decide : 4 ≤ 2 ^ 2) (Nat.pow_le_pow_right (by decide) hk.x)
    omega
open Ieee in
/-- The word x of kind k is a positive number between 2 ^ A and 2 ^ B least places. -/
def Pf (k : FloatKind) (x A B : Nat) : Prop := ∃ m e, k.format.read x = .number false m e ∧ k.format.leastPlace ≤ e ∧ 2 ^ A ≤ m * 2 ^ (e - k.format.leastPlace).toNat ∧ m * 2 ^ (e - k.format.leastPlace).toNat ≤ 2 ^ B
theorem Pf.bf {k : FloatKind} {x A B : Nat} (h : Pf k x A B) : Bf k x B := by
  obtain ⟨m, e, r, l, _, v⟩ := h
  exact ⟨false, m, e, r, l, v⟩
theorem Pf.lf {k : FloatKind} {x A B : Nat} (h : Pf k x A B) : Lf k x A := by
  obtain ⟨m, e, r, l, v, _⟩ := h
  exact ⟨false, m, e, r, l, v⟩
open Ieee in
theorem lf_add {k : FloatKind} (hk : Fmt k.format) {x y A B C D : Nat} (hx : Pf k x A B) (hy : Pf k y C D) (hBD : B ≤ D) (hI : D + 5 ≤ 2 ^ k.format.exponentBits + k.format.fractionBits) (hC : k.format.fractionBits ≤ C) : Lf k (fop .add k x y) C := by
  obtain ⟨m, i, r1, l1, v1, w1⟩ := hx
  obtain ⟨n, j, r2, l2, v2, w2⟩ := hy
  obtain ⟨u, M, c, h1, h2, h3, _, _⟩ := sum_num (s := false) (t := false) (m := m) (n := n) l1 l2
  have a1 := vD_abs k.format.leastPlace false m i
  have a2 := vD_abs k.format.leastPlace false n j
  have b1 := (vD_sign k.format.leastPlace false m i).2 rfl
  have b2 := (vD_sign k.format.leastPlace false n j).2 rfl
  have hBD' : 2 ^ B ≤ 2 ^ D := Nat.pow_le_pow_right (by decide) hBD
  have w3 : M * 2 ^ (c - k.format.leastPlace).toNat ≤ 2 ^ (D + 1) := by
    rw [h3, Nat.pow_succ]; omega
  have v3 : 2 ^ C ≤ M * 2 ^ (c - k.format.leastPlace).toNat := by
    rw [h3]; omega
  have hz : M ≠ 0 := by
    intro c0; rw [c0, Nat.zero_mul] at v3; have := Nat.two_pow_pos C; omega
  have e1 := log_le hz w3
  have e2 := le_log v3
  have h4 : 4 ≤ 2 ^ k.format.exponentBits := Nat.le_trans (by decide : 4 ≤ 2 ^ 2) (Nat.pow_le_pow_right (by decide) hk.x)
  refine lf_fop (z := k.format.nearest u M c) ?_ (lf_near hk _ hz (by omega) hC (by omega))
  show k.format.add x y = _
  unfold Format.add
  rw [r1, r2, h1]; rfl
/-- The closed bound: rounding does not pass a power of two. -/
theorem bf_near_c {k : FloatKind} (hk : Fmt k.format) (s : Bool) {M A : Nat} {e : Int} (hA : k.format.fractionBits + 1 ≤ A) (hI : A + 4 ≤ 2 ^ k.format.exponentBits) (he : k.format.leastPlace ≤ e) (h : M * 2 ^ (e - k.format.leastPlace).toNat ≤ 2 ^ A) : Bf k (k.format.nearest s M e) A := by
  by_cases hM : M = 0
  · exact (bf_near hk s (A := A - 1) (by omega) (by omega) (fun c => absurd hM c)).up (by omega)
  have h1 := log_le hM h
  by_cases c : M.log2 + (e - k.format.leastPlace).toNat = A
  · have h2 : M = 2 ^ M.log2 := by
      have h3 := Nat.log2_self_le hM
      rw [← c, Nat.pow_add] at h
      have := Nat.le_of_mul_le_mul_right h (Nat.two_pow_pos _)
      omega
    have h4 : 2 ≤ 2 ^ (k.format.fractionBits + 1) := Nat.le_trans (by decide : 2 ≤ 2 ^ 1) (Nat.pow_le_pow_right (by decide) (by omega))
    obtain ⟨m, q, r1, r2, r3⟩ := near_exact hk s (M := M) (M0 := 2 ^ 0) (k := M.log2) (e := e) (by rw [Nat.pow_zero, Nat.one_mul]; exact h2) (by rw [Nat.pow_zero]; omega) (by omega) (by omega)
    refine ⟨s, m, q, r1, r2, ?_⟩
    rw [r3, Nat.pow_zero, Nat.one_mul]
    exact Nat.pow_le_pow_right (by decide) (by omega)
  · refine (bf_near hk s (A := A - 1) (by omega) (by omega) (fun _ => by omega)).up (by omega)

end Go.Proofs.Ytecdkjnomkdbkaa.G

namespace Go.Proofs.Ytecdkjnomkdbkaa.G
open Go Go.Ab
set_option maxRecDepth 100000
set_option linter.unusedVariables false
set_option linter.unusedSimpArgs false
set_option maxHeartbeats 1000000
open Ieee in
/-- x is a number of at most 2 ^ A least places. -/
def bfb (k : FloatKind) (x A : Nat) : Bool := match k.format.read x with
  | .number _ m e => decide (k.format.leastPlace ≤ e) && decide (m * 2 ^ (e - k.format.leastPlace).toNat ≤ 2 ^ A)
  | _ => false
theorem bf_of {k : FloatKind} {x A : Nat} (h : bfb k x A = true) : Bf k x A := by
  unfold bfb at h
  split at h
  · rename_i s m e hr
    rw [Bool.and_eq_true, decide_eq_true_eq, decide_eq_true_eq] at h
    exact ⟨s, m, e, hr, h.1, h.2⟩
  · cases h
open Ieee in
/-- x is a positive number between 2 ^ A and 2 ^ B least places. -/
def pfb (k : FloatKind) (x A B : Nat) : Bool := match k.format.read x with
  | .number false m e => decide (k.format.leastPlace ≤ e) && decide (2 ^ A ≤ m * 2 ^ (e - k.format.leastPlace).toNat) && decide (m * 2 ^ (e - k.format.leastPlace).toNat ≤ 2 ^ B)
  | _ => false
theorem pf_of {k : FloatKind} {x A B : Nat} (h : pfb k x A B = true) : Pf k x A B := by
  unfold pfb at h
  split at h
  · rename_i m e hr
    rw [Bool.and_eq_true, Bool.and_eq_true, decide_eq_true_eq, decide_eq_true_eq, decide_eq_true_eq] at h
    exact ⟨m, e, hr, h.1.1, h.1.2, h.2⟩
  · cases h
def shr (c n : Nat) : Nat := fop .quo .f32 (itof .f32 (c : Int)) (itof .f32 (n : Int))
def okS (x : Nat) : Bool := pfb .f32 x 142 149 && pFin x && pfb .f64 (widen x) 1067 1074
theorem ok128 : ∀ n : Nat, n < 129 → ∀ c : Nat, c < 129 → (1 ≤ c && decide (c ≤ n)) = true → okS (shr c n) = true := by decide +kernel

end Go.Proofs.Ytecdkjnomkdbkaa.G

namespace Go.Proofs.Ytecdkjnomkdbkaa.G
open Go Go.Ab
set_option maxRecDepth 100000
set_option linter.unusedVariables false
set_option linter.unusedSimpArgs false
set_option maxHeartbeats 1000000
set_option exponentiation.threshold 4000
open Ieee in
/-- The word x of kind k is v least places. -/
def Vf (k : FloatKind) (x : Nat) (v : Int) : Prop := ∃ s m e, k.format.read x = .number s m e ∧ k.format.leastPlace ≤ e ∧ vD k.format.leastPlace s m e = v
open Ieee in
def vfb (k : FloatKind) (x : Nat) (v : Int) : Bool := match k.format.read x with
  | .number s m e => decide (k.format.leastPlace ≤ e) && decide (vD k.format.leastPlace s m e = v)
  | _ => false
theorem vf_of {k : FloatKind} {x : Nat} {v : Int} (h : vfb k x v = true) : Vf k x v := by
  unfold vfb at h
  split at h
  · rename_i s m e hr
    rw [Bool.and_eq_true, decide_eq_true_eq, decide_eq_true_eq] at h
    exact ⟨s, m, e, hr, h.1, h.2⟩
  · cases h
theorem Pf.vf {k : FloatKind} {x A B : Nat} (h : Pf k x A B) : ∃ v : Nat, Vf k x v ∧ 2 ^ A ≤ v ∧ v ≤ 2 ^ B := by
  obtain ⟨m, e, r, l, v1, v2⟩ := h
  refine ⟨m * 2 ^ (e - k.format.leastPlace).toNat, ⟨false, m, e, r, l, ?_⟩, v1, v2⟩
  have h1 := vD_abs k.format.leastPlace false m e
  have h2 := (vD_sign k.format.leastPlace false m e).2 rfl
  rw [← h1]; omega
theorem vf_order {k : FloatKind} {x y : Nat} {a b : Int} (hx : Vf k x a) (hy : Vf k y b) : k.format.order x y = some (compare a b) := by
  obtain ⟨s, m, i, r1, l1, v1⟩ := hx
  obtain ⟨t, n, j, r2, l2, v2⟩ := hy
  unfold Ieee.Format.order
  rw [r1, r2, order_vD l1 l2, v1, v2]
theorem vf_lss {k : FloatKind} {x y : Nat} {a b : Int} (hx : Vf k x a) (hy : Vf k y b) : fcmp .lss k x y = decide (a < b) := by
  unfold fcmp; dsimp only; rw [vf_order hx hy]; exact cmp_lt
theorem vf_gtr {k : FloatKind} {x y : Nat} {a b : Int} (hx : Vf k x a) (hy : Vf k y b) : fcmp .gtr k x y = decide (b < a) := by
  unfold fcmp; dsimp only; rw [vf_order hx hy]; exact cmp_gt
theorem vf_eql {k : FloatKind} {x y : Nat} {a b : Int} (hx : Vf k x a) (hy : Vf k y b) : fcmp .eql k x y = decide (a = b) := by
  unfold fcmp; dsimp only; rw [vf_order hx hy]; exact cmp_eq
theorem vf_neq {k : FloatKind} {x y : Nat} {a b : Int} (hx : Vf k x a) (hy : Vf k y b) : fcmp .neq k x y = !decide (a = b) := by
  unfold fcmp; dsimp only; rw [vf_order hx hy]; show (!(compare a b == Ordering.eq)) = _; rw [cmp_eq]
theorem vf_geq {k : FloatKind} {x y : Nat} {a b : Int} (hx : Vf k x a) (hy : Vf k y b) : fcmp .geq k x y = decide (b ≤ a) := by
  unfold fcmp; dsimp only; rw [vf_order hx hy]
  show (compare a b == Ordering.gt || compare a b == Ordering.eq) = _
  rw [cmp_gt, cmp_eq, ← Bool.decide_or]
  exact decide_eq_decide.2 ⟨fun c => by omega, fun c => by omega⟩
/-! ### the constants -/
def P74 : Nat := 2 ^ 1072
theorem p74 (n : Nat) : 2 ^ (1072 + n) = 2 ^ n * P74 := by rw [P74, ← Nat.pow_add, Nat.add_comm]
theorem p74_pos : 0 < P74 := Nat.two_pow_pos _
theorem c15 : Vf .f64 (cz .f64 4609434218613702656) (6 * P74 : Nat) := vf_of (by decide +kernel)
theorem c75 : Vf .f64 (cz .f64 4604930618986332160) (3 * P74 : Nat) := vf_of (by decide +kernel)
theorem c00 : Vf .f64 (cz .f64 0) (0 : Nat) := vf_of (by decide +kernel)
theorem s00 : Vf .f32 (cz .f32 0) (0 : Nat) := vf_of (by decide +kernel)
theorem cmax : ∃ w : Nat, Vf .f64 (cz .f64 9218868437227405311) w ∧ 8 * P74 ≤ w := ⟨9007199254740991 * 2 ^ 2045, vf_of (by decide +kernel), by decide +kernel⟩
theorem c1 : Pf .f64 (cz .f64 4607182418800017408) 1074 1075 := pf_of (by decide +kernel)
theorem c1v : Vf .f64 (cz .f64 4607182418800017408) (4 * P74 : Nat) := vf_of (by decide +kernel)
theorem c2r : ∃ n : Nat, n = 2 ^ 52 ∧ (FloatKind.f64.format).read (cz .f64 4611686018427387904) = .number false n (-51) := ⟨4503599627370496, by decide, by decide +kernel⟩
theorem c2 : Bf .f64 (cz .f64 4611686018427387904) 1075 := bf_of (by decide +kernel)
theorem ksI : ∀ t : Nat, t < 13 → bfb .f64 (fop .quo .f64 (cz .f64 4607182418800017408) (itof .f64 (25 - 2 * (t : Int)))) 1074 = true := by decide +kernel
theorem ksF : ∀ t : Nat, t < 13 → fcmp .geq .f64 (itof .f64 (25 - 2 * (t : Int))) (cz .f64 4607182418800017408) = true ∧ fop .sub .f64 (itof .f64 (25 - 2 * (t : Int))) (cz .f64 4611686018427387904) = itof .f64 (25 - 2 * ((t + 1 : Nat) : Int)) := by decide +kernel
theorem ksE : fcmp .geq .f64 (itof .f64 (25 - 2 * ((13 : Nat) : Int))) (cz .f64 4607182418800017408) = false := by decide +kernel
theorem ks0 : cz .f64 4627730092099895296 = itof .f64 (25 - 2 * ((0 : Nat) : Int)) := by decide +kernel
theorem es0 : cz .f64 0 = itof .f64 (-((0 : Nat) : Int)) := by decide +kernel
theorem es1 : ∀ j : Nat, j < 9 → fop .sub .f64 (itof .f64 (-(j : Int))) (cz .f64 4607182418800017408) = itof .f64 (-((j + 1 : Nat) : Int)) := by decide +kernel
theorem es2 : ∀ j : Nat, j < 9 → bfb .f64 (fop .mul .f64 (itof .f64 (-(j : Int))) (cz .f64 4604418534313441775)) 1077 = true := by decide +kernel
/-! ### doubling -/
open Ieee in
theorem fop_read {op : BinOp} {k : FloatKind} {x y z m : Nat} {s : Bool} {e : Int} (h : floatBits op k x y = some z) (r : k.format.read z = .number s m e) : k.format.read (fop op k x y) = .number s m e := by
  unfold fop
  rw [h]
  show k.format.read (cz k z) = _
  have hc : cz k z = z := by
    unfold cz
    rw [show k.decode z = k.format.read z from rfl, r]; rfl
  rw [hc]; exact r
abbrev dblW (y : Nat) : Nat := fop .mul .f64 y (cz .f64 4611686018427387904)
theorem dbl_pf {y A : Nat} (h : Pf .f64 y A 1075) (hA : 1067 ≤ A) (hl : fcmp .lss .f64 y (cz .f64 4604930618986332160) = true) : Pf .f64 (dblW y) (A + 1) 1075 := by
  obtain ⟨m, i, r, l, v1, v2⟩ := h
  obtain ⟨n2, hn2, c2r⟩ := c2r
  have hL : (FloatKind.f64.format).leastPlace = -1074 := by decide
  have hp : (FloatKind.f64.format).fractionBits = 52 := by decide
  have hx : (FloatKind.f64.format).exponentBits = 11 := by decide
  have hv : Vf .f64 y (m * 2 ^ (i - (FloatKind.f64.format).leastPlace).toNat : Nat) := by
    refine ⟨false, m, i, r, l, ?_⟩
    have h1 := vD_abs (FloatKind.f64.format).leastPlace false m i
    have h2 := (vD_sign (FloatKind.f64.format).leastPlace false m i).2 rfl
    rw [← h1]; omega
  rw [vf_lss hv c75, decide_eq_true_eq] at hl
  have hlt : m * 2 ^ (i - (FloatKind.f64.format).leastPlace).toNat < 2 ^ 1074 := by
    rw [p74 2]; have := p74_pos; omega
  generalize ha : (i - (FloatKind.f64.format).leastPlace).toNat = a at *
  have hm0 : m ≠ 0 := by
    intro c; rw [c, Nat.zero_mul] at v1; have := Nat.two_pow_pos A; omega
  have hM0 : m * n2 ≠ 0 := Nat.mul_ne_zero hm0 (by rw [hn2]; exact Nat.ne_of_gt (Nat.two_pow_pos 52))
  have hre : m * n2 * 2 ^ a = m * 2 ^ a * 2 ^ 52 := by rw [hn2]; ac_rfl
  have g1 : 2 ^ (A + 52) ≤ m * n2 * 2 ^ a := by
    rw [Nat.pow_add, hre]
    exact Nat.mul_le_mul_right _ v1
  have g2 : m * n2 * 2 ^ a < 2 ^ 1126 := by
    rw [show (1126 : Nat) = 1074 + 52 by rfl, Nat.pow_add, hre]
    exact Nat.mul_lt_mul_of_pos_right hlt (Nat.two_pow_pos _)
  have k1 := le_log g1
  have k2 : (m * n2).log2 + a < 1126 := by
    have h1 : 2 ^ (m * n2).log2 * 2 ^ a ≤ m * n2 * 2 ^ a := Nat.mul_le_mul_right _ (Nat.log2_self_le hM0)
    rw [← Nat.pow_add] at h1
    exact (Nat.pow_lt_pow_iff_right (a := 2) (by decide)).1 (Nat.lt_of_le_of_lt h1 g2)
  obtain ⟨m', q, r1, r2, r3, r4⟩ := near_log (f := FloatKind.f64.format) fmt2 false (M := m * n2) (e := i + -51) hM0 (by rw [hL, hp, hx]; omega)
  have hz : floatBits .mul .f64 y (cz .f64 4611686018427387904) = some ((FloatKind.f64.format).nearest false (m * n2) (i + -51)) := by
    show (FloatKind.f64.format).mul y _ = _
    unfold Ieee.Format.mul
    rw [r, c2r]; rfl
  refine ⟨m', q, ?_, r2, Nat.le_trans (Nat.pow_le_pow_right (by decide) ?_) (r4 ?_), Nat.le_trans r3 (Nat.pow_le_pow_right (by decide) ?_)⟩
  · exact fop_read hz r1
  · rw [hL] at ha ⊢; omega
  · rw [hL, hp]; rw [hL] at ha; omega
  · rw [hL, hp]; rw [hL] at ha; omega
/-- The doublings end. -/
theorem dbl_fin : ∀ (f y A j : Nat), Pf .f64 y A 1075 → 1067 ≤ A → 1074 ≤ A + f → f + j ≤ 8 → ∃ y' j', j' ≤ 8 ∧ Pf .f64 y' 1073 1075 ∧ ∀ (X T : Nat → Nat → Prop), (∀ y j, j ≤ 8 → (fcmp .lss .f64 y (cz .f64 4604930618986332160) = true → X (dblW y) (j + 1)) ∧ (fcmp .lss .f64 y (cz .f64 4604930618986332160) = false → T y j) → X y j) → T y' j' → X y j := by
  intro f
  induction f with
  | zero =>
    intro y A j h hA hf hj
    obtain ⟨v, h1, h2, h3⟩ := h.vf
    have e1 : fcmp .lss .f64 y (cz .f64 4604930618986332160) = false := by
      rw [vf_lss h1 c75, decide_eq_false_iff_not]
      have : 2 ^ 1074 ≤ 2 ^ A := Nat.pow_le_pow_right (by decide) (by omega)
      rw [p74 2] at this; have := p74_pos; omega
    have hp : Pf .f64 y 1073 1075 := by
      obtain ⟨m, e, a1, a2, a3, a4⟩ := h
      exact ⟨m, e, a1, a2, Nat.le_trans (Nat.pow_le_pow_right (by decide) (by omega)) a3, a4⟩
    exact ⟨y, j, by omega, hp, fun X T hX hT => hX y j (by omega) ⟨fun c => (by rw [e1] at c; cases c), fun _ => hT⟩⟩
  | succ f ih =>
    intro y A j h hA hf hj
    rcases (fcmp .lss .f64 y (cz .f64 4604930618986332160)).eq_false_or_eq_true with e1 | e1
    · obtain ⟨y', j', b1, b2, b3⟩ := ih (dblW y) (A + 1) (j + 1) (dbl_pf h hA e1) (by omega) (by omega) (by omega)
      exact ⟨y', j', b1, b2, fun X T hX hT => hX y j (by omega) ⟨fun _ => b3 X T hX hT, fun c => (by rw [e1] at c; cases c)⟩⟩
    · have hp : Pf .f64 y 1073 1075 := by
        obtain ⟨v, h1, h2, h3⟩ := h.vf
        obtain ⟨m, e, a1, a2, a3, a4⟩ := h
        have h4 : Vf .f64 y (m * 2 ^ (e - (FloatKind.f64.format).leastPlace).toNat : Nat) := by
          refine ⟨false, m, e, a1, a2, ?_⟩
          have h1 := vD_abs (FloatKind.f64.format).leastPlace false m e
          have h2 := (vD_sign (FloatKind.f64.format).leastPlace false m e).2 rfl
          rw [← h1]; omega
        rw [vf_lss h4 c75, decide_eq_false_iff_not] at e1
        refine ⟨m, e, a1, a2, ?_, a4⟩
        rw [p74 1]; have := p74_pos; omega
      exact ⟨y, j, by omega, hp, fun X T hX hT => hX y j (by omega) ⟨fun c => (by rw [e1] at c; cases c), fun _ => hT⟩⟩
/-! ### the sum -/
abbrev sOf (y : Nat) : Nat := fop .quo .f64 (fop .sub .f64 y (cz .f64 4607182418800017408)) (fop .add .f64 y (cz .f64 4607182418800017408))
abbrev uOf (y : Nat) : Nat := fop .mul .f64 (sOf y) (sOf y)
def qs (y : Nat) : Nat → Nat
  | 0 => cz .f64 0
  | t + 1 => fop .add .f64 (fop .quo .f64 (cz .f64 4607182418800017408) (itof .f64 (25 - 2 * (t : Int)))) (fop .mul .f64 (uOf y) (qs y t))
abbrev lgV (y j : Nat) : Nat := fop .add .f64 (fop .mul .f64 (cz .f64 4611686018427387904) (fop .mul .f64 (sOf y) (qs y 13))) (fop .mul .f64 (itof .f64 (-(j : Int))) (cz .f64 4604418534313441775))
theorem sub_one {y : Nat} (h : Pf .f64 y 1073 1075) : Bf .f64 (fop .sub .f64 y (cz .f64 4607182418800017408)) 1074 := by
  obtain ⟨m, i, r1, l1, v1, v2⟩ := h
  obtain ⟨t, n, j, r2, l2, w⟩ := c1v
  obtain ⟨u, M, c, h1, h2, h3, _, _⟩ := sum_num (s := false) (t := !t) (m := m) (n := n) l1 l2
  have a1 := vD_abs (FloatKind.f64.format).leastPlace false m i
  have a2 := (vD_sign (FloatKind.f64.format).leastPlace false m i).2 rfl
  rw [vD_not, w] at h3
  refine bf_fop (z := (FloatKind.f64.format).nearest u M c) ?_ (bf_near_c (k := .f64) fmt2 u (by decide) (by decide) h2 ?_)
  · show (FloatKind.f64.format).sub y _ = _
    unfold Ieee.Format.sub
    rw [r1, r2]
    show ((Ieee.Datum.number false m i).sum (.number (!t) n j)).map (FloatKind.f64.format).write = _
    rw [h1]; rfl
  · rw [h3]
    rw [p74 1] at v1; rw [p74 3] at v2; rw [p74 2]
    omega
theorem s_bf {y : Nat} (h : Pf .f64 y 1073 1075) : Bf .f64 (sOf y) 1075 :=
  bf_quo (k := .f64) fmt2 (sub_one h) (lf_add (k := .f64) fmt2 h c1 (Nat.le_refl _) (by decide) (by decide)) (C := 1074) (by decide) (by decide) (by decide)
theorem u_bf {y : Nat} (h : Pf .f64 y 1073 1075) : Bf .f64 (uOf y) 1077 :=
  bf_mul (k := .f64) fmt2 (s_bf h) (s_bf h) (C := 1076) (by decide) (by decide) (by decide)
theorem q_bf {y : Nat} (h : Pf .f64 y 1073 1075) : ∀ t, t ≤ 13 → Bf .f64 (qs y t) (1075 + 6 * t)
  | 0, _ => (bf_of (k := .f64) (x := cz .f64 0) (A := 1074) (by decide +kernel)).up (by omega)
  | t + 1, ht => by
    have hp : (FloatKind.f64.format).fractionBits = 52 := by decide
    have hx : (FloatKind.f64.format).exponentBits = 11 := by decide
    have hL : (FloatKind.f64.format).leastPlace = -1074 := by decide
    have i1 := q_bf h t (by omega)
    have i2 := bf_mul (k := .f64) fmt2 (u_bf h) i1 (C := 1075 + 6 * t + 3) (by rw [hp]; omega) (by rw [hp, hx]; omega) (by rw [hL]; omega)
    have i3 := (bf_of (ksI t (by omega))).up (show 1074 ≤ 1075 + 6 * t + 4 by omega)
    exact (bf_add (k := .f64) fmt2 i3 i2 (by rw [hp]; omega) (by rw [hp, hx]; omega)).up (by omega)
theorem lg_bf {y j : Nat} (h : Pf .f64 y 1073 1075) (hj : j ≤ 8) : Bf .f64 (lgV y j) 1159 := by
  have i1 := bf_mul (k := .f64) fmt2 (s_bf h) (q_bf h 13 (Nat.le_refl _)) (C := 1154) (by decide) (by decide) (by decide)
  have i2 := bf_mul (k := .f64) fmt2 c2 i1 (C := 1156) (by decide) (by decide) (by decide)
  have i3 := (bf_of (es2 j (by omega))).up (show 1077 ≤ 1157 by omega)
  exact bf_add (k := .f64) fmt2 i2 i3 (by decide) (by decide)
theorem lg_some {y j : Nat} (h : Pf .f64 y 1073 1075) (hj : j ≤ 8) : (fconv .f64 (lgV y j) .f32).isSome = true := fconv_some (lg_bf h hj) (by omega)
theorem wSmall {n : Int} (h : -1000 ≤ n ∧ n ≤ 1000) : IntKind.i64.wrap n = n := wI (by omega)
theorem log_both {x : Nat} (h : okS x = true) : ∃ y, (∀ K : Nat → Prop, K y → spec_l01Log.wp x K) ∧ (∀ K : Nat → Prop, K y → impl_LogNumber.wp x K) := by
  unfold okS at h
  rw [Bool.and_eq_true, Bool.and_eq_true] at h
  obtain ⟨⟨h1, h2⟩, h3⟩ := h
  obtain ⟨v1, a1, a2, a3⟩ := (pf_of h1).vf
  obtain ⟨v3, b1, b2, b3⟩ := (pf_of h3).vf
  have hv1 : 0 < v1 := Nat.lt_of_lt_of_le (Nat.two_pow_pos _) a2
  have hv3 : 0 < v3 := Nat.lt_of_lt_of_le (Nat.two_pow_pos _) b2
  rw [p74 2] at b3
  have hw : Pf .f64 (widen x) 1067 1075 := by
    obtain ⟨m, e, c1, c2, c3, c4⟩ := pf_of h3
    exact ⟨m, e, c1, c2, c3, Nat.le_trans c4 (Nat.pow_le_pow_right (by decide) (by omega))⟩
  obtain ⟨y', j', d1, d2, d3⟩ := dbl_fin 8 (widen x) 1067 0 hw (by omega) (by omega) (by omega)
  have hp := p74_pos
  have g15 : ∀ z v, Vf .f64 z v → v < (6 * P74 : Nat) → fcmp .geq .f64 z (cz .f64 4609434218613702656) = false := fun z v hz hv => by
    rw [vf_geq hz c15, decide_eq_false_iff_not]; omega
  refine ⟨narrow (lgV y' j'), fun K hK => ?_, fun K hK => ?_⟩
  · refine tG (by rw [vf_neq b1 b1]; simp) (tG (by rw [vf_lss b1 c00, decide_eq_false_iff_not]; omega) (tG (by rw [vf_eql b1 c00, decide_eq_false_iff_not]; omega) (tN (by omega) (tN (by omega) ?_))))
    obtain ⟨w, w1, w2⟩ := cmax
    refine tG (by rw [vf_gtr b1 w1, decide_eq_false_iff_not]; omega) ?_
    intro X1 hX1
    refine hX1 _ _ (tG (g15 _ _ b1 (by omega)) ?_)
    intro X2 hX2
    refine d3 (fun y j => X2 y (-(j : Int))) (fun y j => ∀ X : Nat → Int → Prop, (∀ q k, (((1 : Int) ≤ k → X (fop .add .f64 (fop .quo .f64 (cz .f64 4607182418800017408) (itof .f64 k)) (fop .mul .f64 (uOf y) q)) (IntKind.i64.wrap (k - (2 : Int)))) ∧ (¬((1 : Int) ≤ k) → (fconv .f64 (fop .add .f64 (fop .mul .f64 (cz .f64 4611686018427387904) (fop .mul .f64 (sOf y) q)) (fop .mul .f64 (itof .f64 (-(j : Int))) (cz .f64 4604418534313441775))) .f32).isSome = true ∧ K (narrow (fop .add .f64 (fop .mul .f64 (cz .f64 4611686018427387904) (fop .mul .f64 (sOf y) q)) (fop .mul .f64 (itof .f64 (-(j : Int))) (cz .f64 4604418534313441775)))))) → X q k) → X (cz .f64 0) (25 : Int)) ?_ ?_
    · intro y j hj hh
      refine hX2 _ _ ⟨fun c => ?_, fun c => hh.2 c⟩
      have := hh.1 c
      rw [wSmall (by omega)]
      rw [show (-(j : Int) - 1) = (-((j + 1 : Nat) : Int)) by omega]
      exact this
    · intro X3 hX3
      have key : X3 (qs y' 0) (25 - 2 * ((0 : Nat) : Int)) := by
        refine up (Y := fun t => X3 (qs y' t) (25 - 2 * (t : Int))) 13 ?_ ?_
        · exact hX3 _ _ (tN (by omega) ⟨lg_some d2 d1, hK⟩)
        · intro t ht hh
          refine hX3 _ _ (tP (by omega) ?_)
          rw [wSmall (by omega), show (25 - 2 * (t : Int) - 2) = 25 - 2 * ((t + 1 : Nat) : Int) by omega]
          exact hh
      exact key
  · refine tG (by rw [vf_eql a1 s00, decide_eq_false_iff_not]; omega) (tG (by rw [vf_lss a1 s00, decide_eq_false_iff_not]; omega) (tG (by rw [vf_neq a1 a1]; simp) (tE h2 ?_)))
    intro X1 hX1
    refine hX1 _ _ (tG (g15 _ _ b1 (by omega)) ?_)
    intro X2 hX2
    rw [es0]
    refine d3 (fun y j => X2 y (itof .f64 (-(j : Int)))) (fun y j => ∀ X : Nat → Nat → Prop, (∀ q k, ((fcmp .geq .f64 k (cz .f64 4607182418800017408) = true → X (fop .add .f64 (fop .quo .f64 (cz .f64 4607182418800017408) k) (fop .mul .f64 (uOf y) q)) (fop .sub .f64 k (cz .f64 4611686018427387904))) ∧ (fcmp .geq .f64 k (cz .f64 4607182418800017408) = false → (fconv .f64 (fop .add .f64 (fop .mul .f64 (cz .f64 4611686018427387904) (fop .mul .f64 (sOf y) q)) (fop .mul .f64 (itof .f64 (-(j : Int))) (cz .f64 4604418534313441775))) .f32).isSome = true ∧ K (narrow (fop .add .f64 (fop .mul .f64 (cz .f64 4611686018427387904) (fop .mul .f64 (sOf y) q)) (fop .mul .f64 (itof .f64 (-(j : Int))) (cz .f64 4604418534313441775)))))) → X q k) → X (cz .f64 0) (cz .f64 4627730092099895296)) ?_ ?_
    · intro y j hj hh
      refine hX2 _ _ ⟨fun c => ?_, fun c => hh.2 c⟩
      rw [es1 j (by omega)]
      exact hh.1 c
    · intro X3 hX3
      rw [ks0]
      refine up (Y := fun t => X3 (qs y' t) (itof .f64 (25 - 2 * (t : Int)))) 13 ?_ ?_
      · exact hX3 _ _ (tG ksE ⟨lg_some d2 d1, hK⟩)
      · intro t ht hh
        obtain ⟨k1, k2⟩ := ksF t ht
        refine hX3 _ _ (tE k1 ?_)
        rw [k2]
        exact hh

end Go.Proofs.Ytecdkjnomkdbkaa.G

namespace Go.Proofs.Ytecdkjnomkdbkaa.G
open Go Go.Ab
set_option maxRecDepth 100000
set_option linter.unusedVariables false
set_option linter.unusedSimpArgs false
set_option maxHeartbeats 1000000
/-! ### what is counted -/
def cn (l : List Int) : Nat → Int → Nat
  | 0, _ => 0
  | i + 1, v => cn l i v + if l.getD i 0 = v then 1 else 0
def vsO (l : List Int) : Nat → List Int
  | 0 => []
  | i + 1 => if cn l i (l.getD i 0) = 0 then vsO l i ++ [l.getD i 0] else vsO l i
theorem cn_s (l : List Int) (i : Nat) (v : Int) : cn l (i + 1) v = cn l i v + if l.getD i 0 = v then 1 else 0 := rfl
theorem vsO_s (l : List Int) (i : Nat) : vsO l (i + 1) = if cn l i (l.getD i 0) = 0 then vsO l i ++ [l.getD i 0] else vsO l i := rfl
theorem cn_le (l : List Int) (i : Nat) (v : Int) : cn l i v ≤ i := by
  induction i with
  | zero => exact Nat.le_refl _
  | succ i ih => unfold cn; split <;> omega
theorem vsO_len (l : List Int) (i : Nat) : (vsO l i).length ≤ i := by
  induction i with
  | zero => exact Nat.le_refl _
  | succ i ih =>
    unfold vsO
    split
    · rw [List.length_append]; simp; omega
    · omega
theorem vsO_mem (l : List Int) (i : Nat) (v : Int) : v ∈ vsO l i ↔ cn l i v ≠ 0 := by
  induction i with
  | zero => simp [vsO, cn]
  | succ i ih =>
    rw [vsO_s, cn_s]
    by_cases e : l.getD i 0 = v
    · rw [if_pos e, e]
      by_cases h : cn l i v = 0
      · rw [if_pos h]; simp
      · rw [if_neg h]
        have := (ih).2 h
        exact ⟨fun _ => by omega, fun _ => this⟩
    · rw [if_neg e, Nat.add_zero]
      split
      · rw [List.mem_append, List.mem_singleton, ← ih]
        exact ⟨fun h => h.elim id fun h => absurd h.symm e, fun h => .inl h⟩
      · exact ih
def InjL (vs : List Int) : Prop := ∀ j k, j < vs.length → k < vs.length → vs.getD j 0 = vs.getD k 0 → j = k
theorem mem_at {vs : List Int} {j : Nat} (h : j < vs.length) : vs.getD j 0 ∈ vs := by rw [gD h]; exact List.getElem_mem h
theorem app_l {vs : List Int} {a : Int} {j : Nat} (h : j < vs.length) : (vs ++ [a]).getD j 0 = vs.getD j 0 := by
  rw [List.getD_eq_getElem?_getD, List.getD_eq_getElem?_getD, List.getElem?_append_left h]
theorem app_r {vs : List Int} {a : Int} : (vs ++ [a]).getD vs.length 0 = a := by
  rw [List.getD_eq_getElem?_getD, List.getElem?_append_right (Nat.le_refl _)]; simp
theorem inj_app {vs : List Int} {a : Int} (h : InjL vs) (ha : a ∉ vs) : InjL (vs ++ [a]) := by
  intro j k hj hk e
  rw [List.length_append, len1] at hj hk
  by_cases c1 : j < vs.length
  · by_cases c2 : k < vs.length
    · rw [app_l c1, app_l c2] at e; exact h j k c1 c2 e
    · obtain rfl : k = vs.length := by omega
      rw [app_l c1, app_r] at e
      exact absurd (e ▸ mem_at c1) ha
  · obtain rfl : j = vs.length := by omega
    by_cases c2 : k < vs.length
    · rw [app_l c2, app_r] at e
      exact absurd (e ▸ mem_at c2) ha
    · omega
theorem vsO_inj (l : List Int) (i : Nat) : InjL (vsO l i) := by
  induction i with
  | zero => intro j k hj; exact absurd hj (by simp [vsO])
  | succ i ih =>
    unfold vsO
    split
    · rename_i h
      exact inj_app ih fun c => (vsO_mem l i _).1 c h
    · exact ih
/-- The counts of the values. -/
def csO (l : List Int) (i : Nat) : List Int := (vsO l i).map fun v => (cn l i v : Int)
theorem csO_len (l : List Int) (i : Nat) : (csO l i).length = (vsO l i).length := List.length_map ..
theorem csO_at (l : List Int) (i : Nat) {k : Nat} (hk : k < (vsO l i).length) : (csO l i).getD k 0 = (cn l i ((vsO l i).getD k 0) : Int) := by
  rw [gD (by rw [csO_len]; exact hk), gD hk]
  unfold csO
  rw [List.getElem_map]
theorem csO_new {l : List Int} {i : Nat} (h : cn l i (l.getD i 0) = 0) : (csO l i ++ [(0 : Int)]).set (vsO l i).length 1 = csO l (i + 1) := by
  have hv : vsO l (i + 1) = vsO l i ++ [l.getD i 0] := by rw [vsO, if_pos h]
  have e1 : csO l (i + 1) = csO l i ++ [1] := by
    unfold csO
    rw [hv, List.map_append, List.map_singleton]
    congr 1
    · refine List.map_congr_left fun v hv2 => ?_
      have : l.getD i 0 ≠ v := fun c => (vsO_mem l i v).1 hv2 (c ▸ h)
      rw [cn, if_neg this, Nat.add_zero]
    · rw [cn, if_pos rfl, h]; rfl
  rw [e1, ← csO_len, List.set_append_right _ _ (Nat.le_refl _), Nat.sub_self, List.set_cons_zero]
theorem csO_old {l : List Int} {i k : Nat} (h : cn l i (l.getD i 0) ≠ 0) (hk : k < (vsO l i).length) (e : (vsO l i).getD k 0 = l.getD i 0) : (csO l i).set k ((cn l i (l.getD i 0) : Int) + 1) = csO l (i + 1) := by
  have hv : vsO l (i + 1) = vsO l i := by rw [vsO, if_neg h]
  apply List.ext_getElem
  · rw [List.length_set, csO_len, csO_len, hv]
  · intro j h1 h2
    rw [List.length_set, csO_len] at h1
    rw [List.getElem_set]
    have e2 : (csO l (i + 1))[j] = (cn l (i + 1) ((vsO l i).getD j 0) : Int) := by
      rw [← gD h2 0, csO_at l (i + 1) (by rw [hv]; exact h1), hv]
    rw [e2]
    split
    · rename_i hjk
      subst hjk
      rw [e, cn, if_pos rfl]; simp
    · rename_i hjk
      have : l.getD i 0 ≠ (vsO l i).getD j 0 := fun c => hjk (vsO_inj l i k j hk h1 (by rw [e, c]))
      rw [cn_s, if_neg this, Nat.add_zero, ← csO_at l i h1]
      exact (gD (by rw [csO_len]; exact h1) 0).symm
/-- Where a value stands. -/
def fa (vs : List Int) (a : Int) : Nat → Int
  | 0 => -1
  | k + 1 => if vs.getD k 0 = a then (k : Int) else fa vs a k
theorem fa_spec (vs : List Int) (a : Int) : ∀ n, (fa vs a n = -1 ∧ ∀ j, j < n → vs.getD j 0 ≠ a) ∨ ∃ k, k < n ∧ fa vs a n = (k : Int) ∧ vs.getD k 0 = a
  | 0 => .inl ⟨rfl, fun j h => absurd h (Nat.not_lt_zero _)⟩
  | n + 1 => by
    unfold fa
    split
    · rename_i h; exact .inr ⟨n, Nat.lt_succ_self _, rfl, h⟩
    · rename_i h
      rcases fa_spec vs a n with ⟨h1, h2⟩ | ⟨k, h1, h2, h3⟩
      · refine .inl ⟨h1, fun j hj => ?_⟩
        by_cases c : j = n
        · rw [c]; exact h
        · exact h2 j (by omega)
      · exact .inr ⟨k, by omega, h2, h3⟩
/-! ### the sum -/
noncomputable def lgN (x : Nat) : Nat := Classical.epsilon fun y => (∀ K : Nat → Prop, K y → spec_l01Log.wp x K) ∧ (∀ K : Nat → Prop, K y → impl_LogNumber.wp x K)
theorem lgN_ok {x : Nat} (h : okS x = true) : (∀ K : Nat → Prop, K (lgN x) → spec_l01Log.wp x K) ∧ (∀ K : Nat → Prop, K (lgN x) → impl_LogNumber.wp x K) := Classical.epsilon_spec (log_both h)
noncomputable def pAt (l : List Int) (k : Nat) : Nat := shr (cn l l.length ((vsO l l.length).getD k 0)) l.length
noncomputable def sumE (l : List Int) : Nat → Nat
  | 0 => cz .f32 0
  | k + 1 => fop .add .f32 (sumE l k) (fop .mul .f32 (pAt l k) (lgN (pAt l k)))
theorem pAt_ok {l : List Int} (hl : l.length ≤ 128) {k : Nat} (hk : k < (vsO l l.length).length) : okS (pAt l k) = true := by
  have h1 := (vsO_mem l l.length _).1 (mem_at hk)
  have h2 := cn_le l l.length ((vsO l l.length).getD k 0)
  refine ok128 _ (by omega) _ (by omega) ?_
  rw [Bool.and_eq_true, decide_eq_true_eq, decide_eq_true_eq]
  omega
noncomputable def entV (l : List Int) : Nat := fop .quo .f32 (fneg .f32 (sumE l (vsO l l.length).length)) (cz .f32 1060205080)
noncomputable def entX (l : List Int) : Nat := if isI l = true then (if pFin (entV l) = true then entV l else cz .f32 0) else cz .f32 0
noncomputable def entB (l : List Int) : Bool := isI l && pFin (entV l)
theorem wE {n : Int} (h : -1 ≤ n ∧ n ≤ 1000) : IntKind.i64.wrap n = n := wI (by omega)
theorem spec_ent {l : List Int} {K : Nat → Bool → Prop} (hl : l.length ≤ 2 ^ 20) (h : K (entX l) (entB l)) : spec_EntropyOf.wp l K := by
  refine spec_l02Integers_wp hl ?_
  by_cases hI : isI l = true
  · rw [hI]
    refine tT ?_
    unfold entX entB at h
    rw [if_pos hI, hI, Bool.true_and] at h
    unfold isI at hI
    rw [Bool.and_eq_true, decide_eq_true_eq] at hI
    obtain ⟨hn, _⟩ := hI
    intro X hX
    refine up (Y := fun i => X (csO l i) (vsO l i) (i : Int)) l.length ?_ ?_
    · refine hX _ _ _ (tN (by omega) ?_)
      intro X2 hX2
      refine up (Y := fun k => X2 (sumE l k) (k : Int)) (vsO l l.length).length ?_ ?_
      · refine hX2 _ _ (tN (by rw [csO_len]; omega) ?_)
        show (pFin (entV l) = true → K (entV l) true) ∧ (pFin (entV l) = false → K (cz .f32 0) false)
        refine ⟨fun c => ?_, fun c => ?_⟩
        · rw [if_pos c, c] at h; exact h
        · rw [if_neg (by rw [c]; decide), c] at h; exact h
      · intro k hk hh
        have hvl := vsO_len l l.length
        refine hX2 _ _ (tP (by rw [csO_len]; omega) ⟨by rw [csO_len]; omega, ?_⟩)
        rw [nn, csO_at l l.length hk, w1 (by omega)]
        exact (lgN_ok (pAt_ok (by omega) hk)).1 _ hh
    · intro i hi hh
      have hvl := vsO_len l i
      refine hX _ _ _ (tP (by omega) ?_)
      intro X3 hX3
      refine up (Y := fun k => X3 (fa (vsO l i) (l.getD i 0) k) (k : Int)) (vsO l i).length ?_ ?_
      · refine hX3 _ _ (tN (by omega) ?_)
        rcases fa_spec (vsO l i) (l.getD i 0) (vsO l i).length with ⟨h1, h2⟩ | ⟨k, h1, h2, h3⟩
        · rw [h1]
          have hc : cn l i (l.getD i 0) = 0 := by
            refine Classical.byContradiction fun c => ?_
            obtain ⟨j, hj, e⟩ := List.mem_iff_getElem.1 ((vsO_mem l i _).2 c)
            exact h2 j hj (by rw [gD hj]; exact e)
          refine tP (by omega) ⟨by omega, by rw [len1]; omega, by rw [len1, csO_len]; omega, by rw [List.length_append, len1, csO_len]; omega, ?_⟩
          have e1 : (csO l i ++ [(0 : Int)]).getD (vsO l i).length 0 = 0 := by rw [← csO_len]; exact app_r
          rw [nn, nn, e1, wE (by omega), w1 (by omega)]
          have e2 := csO_new hc
          have e3 : vsO l (i + 1) = vsO l i ++ [l.getD i 0] := by rw [vsO, if_pos hc]
          rw [show (0 : Int) + 1 = 1 by rfl, e2, ← e3]
          exact hh
        · rw [h2]
          have hc : cn l i (l.getD i 0) ≠ 0 := (vsO_mem l i _).1 (h3 ▸ mem_at h1)
          have hcl := cn_le l i (l.getD i 0)
          refine tN (by omega) ⟨by rw [csO_len]; omega, ?_⟩
          rw [nn, csO_at l i h1, h3, wE (by omega), w1 (by omega), csO_old hc h1 h3]
          have e3 : vsO l (i + 1) = vsO l i := by rw [vsO, if_neg hc]
          rw [← e3]
          exact hh
      · intro k hk hh3
        refine hX3 _ _ (tP (by omega) ⟨by omega, by omega, ?_⟩)
        rw [nn, nn, w1 (by omega)]
        by_cases e : (vsO l i).getD k 0 = l.getD i 0
        · refine tP e ?_
          rw [fa, if_pos e] at hh3; exact hh3
        · refine tN e ?_
          rw [fa, if_neg e] at hh3; exact hh3
  · have hI : isI l = false := by simpa using hI
    rw [hI]
    refine tF ?_
    unfold entX entB at h
    rw [if_neg (by rw [hI]; decide), hI] at h; exact h
theorem bnd_at {l : List Int} (h : bnd 1000000 l = true) {i : Nat} (hi : i < l.length) : -1000000 ≤ l.getD i 0 ∧ l.getD i 0 ≤ 1000000 := by
  unfold bnd at h
  rw [List.all_eq_true] at h
  have := of_decide_eq_true (h _ (mem_at hi))
  omega
theorem impl_ent {l : List Int} {K : Nat → Bool → Prop} (hl : l.length ≤ 2 ^ 20) (h : K (entX l) (entB l)) : impl_EntropyOf.wp l K := by
  refine impl_AreIntegers_wp hl ?_
  by_cases hI : isI l = true
  · rw [hI]
    refine tT ?_
    unfold entX entB at h
    rw [if_pos hI, hI, Bool.true_and] at h
    unfold isI at hI
    rw [Bool.and_eq_true, decide_eq_true_eq] at hI
    obtain ⟨hn, hb⟩ := hI
    intro X hX
    have key : ∀ m : List (Int × Int), m.length = 0 → (∀ a, mpGet m a = (cn l 0 a : Int)) → X (vsO l 0) m ((0 : Nat) : Int) := by
      refine up (Y := fun i => ∀ m : List (Int × Int), m.length = i → (∀ a, mpGet m a = (cn l i a : Int)) → X (vsO l i) m (i : Int)) l.length ?_ ?_
      · intro m hm hg
        refine hX _ _ _ (tN (by omega) ?_)
        intro X2 hX2
        refine up (Y := fun k => X2 (sumE l k) (k : Int)) (vsO l l.length).length ?_ ?_
        · refine hX2 _ _ (tN (by omega) ?_)
          show (pFin (entV l) = true → K (entV l) true) ∧ (pFin (entV l) = false → K (cz .f32 0) false)
          refine ⟨fun c => ?_, fun c => ?_⟩
          · rw [if_pos c, c] at h; exact h
          · rw [if_neg (by rw [c]; decide), c] at h; exact h
        · intro k hk hh
          have hvl := vsO_len l l.length
          have hmem := mem_at hk
          have hbd : -1000000 ≤ (vsO l l.length).getD k 0 ∧ (vsO l l.length).getD k 0 ≤ 1000000 := by
            have h1 := (vsO_mem l l.length _).1 hmem
            have : ∀ i, i ≤ l.length → cn l i ((vsO l l.length).getD k 0) ≠ 0 → -1000000 ≤ (vsO l l.length).getD k 0 ∧ (vsO l l.length).getD k 0 ≤ 1000000 := by
              intro i
              induction i with
              | zero => intro _ c; exact absurd rfl c
              | succ i ih =>
                intro hi c
                by_cases e : l.getD i 0 = (vsO l l.length).getD k 0
                · rw [← e]; exact bnd_at hb (by omega)
                · rw [cn, if_neg e, Nat.add_zero] at c; exact ih (by omega) c
            exact this _ (Nat.le_refl _) h1
          refine hX2 _ _ (tP (by omega) ⟨by omega, by rw [nn]; omega, ?_⟩)
          rw [nn, hg, w1 (by omega)]
          exact (lgN_ok (pAt_ok (by omega) hk)).2 _ hh
      · intro i hi hh m hm hg
        have hvl := vsO_len l i
        have hcl := cn_le l i (l.getD i 0)
        have hbd := bnd_at hb hi
        refine hX _ _ _ (tP (by omega) ⟨by omega, by rw [nn]; omega, ?_⟩)
        rw [nn, hg, wE (by omega), w1 (by omega)]
        have hg2 : ∀ a, mpGet ((l.getD i 0, (cn l i (l.getD i 0) : Int) + 1) :: m) a = (cn l (i + 1) a : Int) := by
          intro a
          rw [mpGet, cn]
          by_cases e : a = l.getD i 0
          · rw [if_pos e, if_pos e.symm, e]; simp
          · rw [if_neg e, if_neg (fun c => e c.symm), hg, Nat.add_zero]
        have hm2 : ((l.getD i 0, (cn l i (l.getD i 0) : Int) + 1) :: m).length = i + 1 := by rw [List.length_cons, hm]
        have hh2 := hh _ hm2 hg2
        by_cases c : cn l i (l.getD i 0) = 0
        · rw [vsO, if_pos c] at hh2
          exact tP (by omega) ⟨by rw [len1]; omega, by omega, by omega, hh2⟩
        · rw [vsO, if_neg c] at hh2
          exact tN (by omega) ⟨by omega, by omega, hh2⟩
    exact key [] rfl fun a => rfl
  · have hI : isI l = false := by simpa using hI
    rw [hI]
    refine tF ?_
    unfold entX entB at h
    rw [if_neg (by rw [hI]; decide), hI] at h; exact h

end Go.Proofs.Ytecdkjnomkdbkaa.G

namespace Go.Proofs.Ytecdkjnomkdbkaa.G
open Go Go.Ab
set_option maxRecDepth 100000
set_option linter.unusedVariables false
set_option linter.unusedSimpArgs false
set_option maxHeartbeats 1000000
theorem pureExactEntropyOf (l0 : List Int) : laws_FnExactEntropyOf.wp l0 (fun b => b = true) := by
  refine ⟨fun _ => rfl, fun hb => ?_⟩
  have hl : l0.length ≤ 2 ^ 20 := by omega
  exact toInt64S_wp hl (spec_ent hl (toInt64S_wp hl (impl_ent hl (sameFloat_wp (tT (tB (toInt64S_wp hl (eqInt64S_wp hl (tT rfl)))))))))

end Go.Proofs.Ytecdkjnomkdbkaa.G

