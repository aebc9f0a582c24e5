/-
  What the formulas say, over numbers and lists alone. Nothing here is trusted.
-/
import Derived.Test.YtmbkjkcolmoioaaGreatDoorMExactReadPictureWa
import Derived.Lib.ItoaLen
import Derived.Lib.ParseIntB
import Derived.Lib.Repeat
import Derived.Lib.TrailingZeros
namespace Go.Proofs.YtmbkjkcolmoioaaGreatDoor.G
open Go Go.Ab
set_option maxRecDepth 100000
set_option linter.unusedVariables false
set_option linter.unusedSimpArgs false
set_option maxHeartbeats 1000000
/-! ### truth -/
theorem tT {A B : Prop} (h : A) : (true = true → A) ∧ (true = false → B) := ⟨fun _ => h, fun c => (by cases c)⟩
theorem tF {A B : Prop} (h : B) : (false = true → A) ∧ (false = false → B) := ⟨fun c => (by cases c), fun _ => h⟩
theorem tB {A B : Prop} {b : Bool} (h : A) : ((b == b) = true → A) ∧ ((b == b) = false → B) := ⟨fun _ => h, fun c => (by simp at c)⟩
theorem tE {A B : Prop} {b : Bool} (e : b = true) (h : A) : (b = true → A) ∧ (b = false → B) := ⟨fun _ => h, fun c => (by rw [e] at c; cases c)⟩
theorem tG {A B : Prop} {b : Bool} (e : b = false) (h : B) : (b = true → A) ∧ (b = false → B) := ⟨fun c => (by rw [e] at c; cases c), fun _ => h⟩
theorem tP {p A B : Prop} (e : p) (h : A) : (p → A) ∧ (¬p → B) := ⟨fun _ => h, fun c => absurd e c⟩
theorem tN {p A B : Prop} (e : ¬p) (h : B) : (p → A) ∧ (¬p → B) := ⟨fun c => absurd c e, fun _ => h⟩
theorem tI {b : Bool} {K : Bool → Prop} {A B : Prop} (h1 : b = true → A) (h2 : b = false → B) : (b = true → A) ∧ (b = false → B) := ⟨h1, h2⟩
/-! ### loops -/
theorem up {Y : Nat → Prop} (n : Nat) (last : Y n) (step : ∀ i, i < n → Y (i + 1) → Y i) : Y 0 := by
  have key : ∀ d i, i + d = n → Y i := by
    intro d
    induction d with
    | zero => intro i h; obtain rfl : i = n := by omega
              exact last
    | succ d ih => intro i h; exact step i (by omega) (ih (i + 1) (by omega))
  exact key n 0 (by omega)
theorem upFrom {Y : Nat → Prop} (k n : Nat) (hk : k ≤ n) (last : Y n) (step : ∀ i, k ≤ i → i < n → Y (i + 1) → Y i) : Y k := by
  have key : ∀ d i, k ≤ i → i + d = n → Y i := by
    intro d
    induction d with
    | zero => intro i _ h; obtain rfl : i = n := by omega
              exact last
    | succ d ih => intro i h0 h; exact step i h0 (by omega) (ih (i + 1) (by omega) (by omega))
  exact key (n - k) k (Nat.le_refl _) (by omega)
theorem w1 {i : Nat} (h : i < 4611686018427387904) : IntKind.i64.wrap ((i : Int) + (1 : Int)) = ((i + 1 : Nat) : Int) := wrap_succ (by omega)
theorem wI {n : Int} (h : -9223372036854775808 ≤ n ∧ n < 9223372036854775808) : IntKind.i64.wrap n = n := wrap_i64 h.1 h.2
theorem nn (i : Nat) : ((i : Int)).toNat = i := rfl
theorem gD {α : Type} {l : List α} {i : Nat} (h : i < l.length) (d : α) : l.getD i d = l[i] := by rw [List.getD_eq_getElem?_getD, List.getElem?_eq_getElem h]; rfl
theorem dropC {α : Type} {l : List α} {i : Nat} (h : i < l.length) : l.drop i = l[i] :: l.drop (i + 1) := List.drop_eq_getElem_cons h
theorem len1 {α : Type} (a : α) : ([a] : List α).length = 1 := rfl
theorem cz32 (n : Nat) (h : (FloatKind.f32.decode n).isNaN = false) : cz .f32 n = n := by simp [cz, h]
theorem c0_32 : cz .f32 0 = 0 := cz_zero32
theorem c0_64 : cz .f64 0 = 0 := cz_zero64
/-! ### copies, comparisons, marks -/
theorem sameFloat_wp {a : Nat} {K : Bool → Prop} (h : K true) : laws_sameFloat.wp a a K := by
  rcases order_self Ieee.double a with ho | ho
  · have e : fcmp .neq .f64 a a = true := by simp [fcmp, FloatKind.format, ho]
    exact tE e (by rw [e]; exact h)
  · have e : fcmp .neq .f64 a a = false := by simp [fcmp, FloatKind.format, ho]
    have e2 : fcmp .eql .f64 a a = true := by simp [fcmp, FloatKind.format, ho]
    refine tG e (tG e ⟨fun c => ⟨fun _ => by rw [BEq.rfl]; exact h, fun c2 => (by rw [c] at c2; cases c2)⟩, fun _ => by rw [e2]; exact h⟩)
theorem eqFloat32S_wp {l : List Nat} {K : Bool → Prop} (hl : l.length ≤ 2 ^ 20) (h : K true) : laws_eqFloat32S.wp l l K := by
  refine tP rfl fun X hX => ?_
  refine up (Y := fun i => X (i : Int)) l.length ?_ fun i hi hn => ?_
  · exact hX _ ⟨fun c => absurd c (by omega), fun _ => h⟩
  · refine hX _ ⟨fun _ => ⟨⟨by omega, by omega⟩, ⟨by omega, by omega⟩, sameFloat_wp (tT ?_)⟩, fun c => absurd (show (i : Int) < l.length by omega) c⟩
    rw [w1 (by omega)]; exact hn
theorem markFloat32S_wp {l : List Nat} {k : Nat} {K : Int → List Nat → Prop} (hl : l.length ≤ 2 ^ 20) (hk : k ≤ 2 ^ 40) (h : K ((k + l.length : Nat) : Int) (marks k l.length)) : laws_markFloat32S.wp l (k : Int) K := by
  intro X hX
  have key : X (marks k 0 ++ l.drop 0) ((k + 0 : Nat) : Int) ((0 : Nat) : Int) := by
    refine up (Y := fun i => X (marks k i ++ l.drop i) ((k + i : Nat) : Int) (i : Int)) l.length ?_ fun i hi hn => ?_
    · refine hX _ _ _ ⟨fun c => absurd c (by rw [List.length_append, marks_length, List.length_drop]; omega), fun _ => ?_⟩
      rw [List.drop_length, List.append_nil]; exact h
    · have hlen : (marks k i ++ l.drop i).length = l.length := by rw [List.length_append, marks_length, List.length_drop]; omega
      refine hX _ _ _ ⟨fun _ => ⟨⟨by omega, by rw [hlen]; omega⟩, ?_⟩, fun c => absurd (show (i : Int) < _ by rw [hlen]; omega) c⟩
      rw [nn, w1 (by omega), w1 (by omega)]
      have e := marks_step (l := l) (i := i) (m := l.length - i) k (by omega) hi
      rw [show (k : Int) + (i : Int) = ((k + i : Nat) : Int) by omega] at e
      rw [show itof .f32 ((k + i : Nat) : Int) = fl ((k + i : Nat) : Int) from rfl]
      rw [e]; exact hn
  exact key
theorem heldFloat32S_wp {k n : Nat} {K : Int → Prop} (hl : n ≤ 2 ^ 20) (hk : k ≤ 2 ^ 40) (h : K ((k + n : Nat) : Int)) : laws_heldFloat32S.wp (marks k n) (k : Int) K := by
  intro X hX
  have hlen : (marks k n).length = n := marks_length _ _
  have key : X ((k + 0 : Nat) : Int) ((0 : Nat) : Int) := by
    refine up (Y := fun i => X ((k + i : Nat) : Int) (i : Int)) n ?_ fun i hi hn => ?_
    · exact hX _ _ ⟨fun c => absurd c (by omega), fun _ => h⟩
    · refine hX _ _ ⟨fun _ => ⟨⟨by omega, by omega⟩, ?_⟩, fun c => absurd (show (i : Int) < _ by omega) c⟩
      rw [nn, gD (by omega), marks_at k n i (by omega), show (k : Int) + (i : Int) = ((k + i : Nat) : Int) by omega]
      refine tG (show fcmp .neq .f32 (fl ((k + i : Nat) : Int)) (itof .f32 ((k + i : Nat) : Int)) = false from fl_neq _) ?_
      rw [w1 (by omega), w1 (by omega)]; exact hn
  exact key

end Go.Proofs.YtmbkjkcolmoioaaGreatDoor.G

namespace Go.Proofs.YtmbkjkcolmoioaaGreatDoor.G
open Go Go.Ab
set_option maxRecDepth 100000
set_option linter.unusedVariables false
set_option linter.unusedSimpArgs false
set_option maxHeartbeats 1000000
def pFin (x : Nat) : Bool := fcmp .eql .f32 (fop .sub .f32 x x) (cz .f32 0)
def pAll (l : List Nat) : Bool := l.all pFin
theorem pAll_cons (x : Nat) (l : List Nat) : pAll (x :: l) = (pFin x && pAll l) := rfl
/-- A loop that ends early where something does not hold. -/
theorem all_loop {α : Type} (l : List α) (p : α → Bool) {X : Int → Prop} {T F : Prop} (hX : ∀ (i : Nat) (h : i < l.length), ((p l[i] = true → X ((i + 1 : Nat) : Int)) ∧ (p l[i] = false → F)) → X (i : Int))
    (hend : T → X (l.length : Int)) (ht : l.all p = true → T) (hf : l.all p = false → F) : X (0 : Int) := by
  have key := up (Y := fun i => ((l.drop i).all p = true → T) → ((l.drop i).all p = false → F) → X (i : Int)) l.length (fun h _ => hend (h (by rw [List.drop_length]; rfl))) fun i hi hn h1 h2 => ?_
  · exact key (by rw [List.drop_zero]; exact ht) (by rw [List.drop_zero]; exact hf)
  · rw [dropC hi, List.all_cons] at h1 h2
    refine hX i hi ⟨fun e => hn (fun a => h1 (by rw [e, a]; rfl)) (fun a => h2 (by rw [e, a]; rfl)), fun e => h2 (by rw [e]; rfl)⟩
/-- A loop that makes a list, and ends early where something does not hold. -/
theorem map_loop {α β : Type} (l : List α) (p : α → Bool) (f : α → β) {X : List β → Int → Prop} {T F : Prop} (hX : ∀ (i : Nat) (h : i < l.length) (o : List β), o.length = i → ((p l[i] = true → X (o ++ [f l[i]]) ((i + 1 : Nat) : Int)) ∧ (p l[i] = false → F)) → X o (i : Int))
    (hend : T → X (l.map f) (l.length : Int)) (ht : l.all p = true → T) (hf : l.all p = false → F) : X [] (0 : Int) := by
  have key := up (Y := fun i => ((l.drop i).all p = true → T) → ((l.drop i).all p = false → F) → X ((l.take i).map f) (i : Int)) l.length (fun h _ => by rw [List.take_length]; exact hend (h (by rw [List.drop_length]; rfl))) fun i hi hn h1 h2 => ?_
  · have := key (by rw [List.drop_zero]; exact ht) (by rw [List.drop_zero]; exact hf)
    rw [List.take_zero] at this; exact this
  · rw [dropC hi, List.all_cons] at h1 h2
    refine hX i hi _ (by rw [List.length_map, List.length_take]; omega) ⟨fun e => ?_, fun e => h2 (by rw [e]; rfl)⟩
    have := hn (fun a => h1 (by rw [e, a]; rfl)) (fun a => h2 (by rw [e, a]; rfl))
    rw [List.take_succ_eq_append_getElem hi, List.map_append] at this
    exact this
theorem spec_l01Finite_wp {a : Nat} {K : Bool → Prop} (h : K (pFin a)) : spec_l01Finite.wp a K := h
theorem impl_IsFinite_wp {a : Nat} {K : Bool → Prop} (h : K (pFin a)) : impl_IsFinite.wp a K := h
theorem spec_l02Finite_wp {l : List Nat} {K : Bool → Prop} (hl : l.length ≤ 2 ^ 20) (h : K (pAll l)) : spec_l02Finite.wp l K := by
  intro X hX
  refine all_loop l pFin (X := X) (T := K true) (F := K false) (fun i hi hh => ?_) (fun ht => hX _ ⟨fun c => absurd c (by omega), fun _ => ht⟩) (fun e => by rw [pAll, e] at h; exact h) (fun e => by rw [pAll, e] at h; exact h)
  refine hX _ ⟨fun _ => ⟨⟨by omega, by omega⟩, spec_l01Finite_wp ?_⟩, fun c => absurd (show (i : Int) < l.length by omega) c⟩
  rw [nn, gD hi, w1 (by omega)]; exact hh
theorem impl_areFinite_wp {ll : List (List Nat)} {K : Bool → Prop} (hll : ll.length ≤ 2 ^ 20) (hl : ∀ l ∈ ll, l.length ≤ 2 ^ 20) (h : K (ll.all pAll)) : impl_areFinite.wp ll K := by
  intro X hX
  refine all_loop ll pAll (X := X) (T := K true) (F := K false) (fun i hi hh => ?_) (fun ht => hX _ ⟨fun c => absurd c (by omega), fun _ => ht⟩) (fun e => by rw [e] at h; exact h) (fun e => by rw [e] at h; exact h)
  refine hX _ ⟨fun _ => ⟨⟨by omega, by omega⟩, fun Y hY => ?_⟩, fun c => absurd (show (i : Int) < ll.length by omega) c⟩
  have hlen := hl ll[i] (List.getElem_mem hi)
  rw [nn, gD hi, w1 (by omega)] at hY
  refine all_loop ll[i] pFin (X := Y) (T := X ((i + 1 : Nat) : Int)) (F := K false) (fun j hj h2 => ?_) (fun ht => hY _ ⟨fun c => absurd c (by omega), fun _ => ht⟩) (fun e => hh.1 e) (fun e => hh.2 e)
  refine hY _ ⟨fun _ => ⟨⟨by omega, by omega⟩, impl_IsFinite_wp ?_⟩, fun c => absurd (show (j : Int) < ll[i].length by omega) c⟩
  rw [nn, gD hj, w1 (by omega)]; exact h2
theorem impl_areFinite1_wp {l : List Nat} {K : Bool → Prop} (hl : l.length ≤ 2 ^ 20) (h : K (pAll l)) : impl_areFinite.wp [l] K := by
  refine impl_areFinite_wp (by simp) (fun x hx => by rw [List.mem_singleton] at hx; subst hx; exact hl) ?_
  rw [List.all_cons, List.all_nil, Bool.and_true]; exact h
theorem impl_within_wp {a b c : Int} {K : Bool → Prop} (h : K (decide (b ≤ a ∧ a ≤ c))) : impl_within.wp a b c K := by
  refine ⟨fun h1 => ?_, fun h1 => ?_⟩
  · have : decide (b ≤ a ∧ a ≤ c) = decide (a ≤ c) := by simp [h1]
    rw [this] at h; exact h
  · have : decide (b ≤ a ∧ a ≤ c) = false := by simp [h1]
    rw [this] at h; exact h
theorem spec_l00In_wp {a b c : Int} {K : Bool → Prop} (h : K (decide (b ≤ a ∧ a ≤ c))) : spec_l00In.wp a b c K := by
  refine ⟨fun h1 => ?_, fun h1 => ?_⟩
  · have : decide (b ≤ a ∧ a ≤ c) = decide (a ≤ c) := by simp [h1]
    rw [this] at h; exact h
  · have : decide (b ≤ a ∧ a ≤ c) = false := by simp [h1]
    rw [this] at h; exact h
theorem bT {b : Bool} {A B : Prop} (h1 : b = true → A) (h2 : b = false → B) : (b = true → A) ∧ (b = false → B) := ⟨h1, h2⟩
def isL (l : List Nat) : Bool := decide (1 ≤ l.length ∧ l.length ≤ 128) && pAll l
theorem impl_IsList_wp {l : List Nat} {K : Bool → Prop} (hl : l.length ≤ 2 ^ 20) (h : K (isL l)) : impl_IsList.wp l K := by
  refine impl_within_wp ⟨fun h1 => ?_, fun h1 => ?_⟩
  · have h1 := of_decide_eq_true h1
    refine impl_areFinite1_wp hl ?_
    rw [isL, decide_eq_true (show 1 ≤ l.length ∧ l.length ≤ 128 by omega), Bool.true_and] at h; exact h
  · have h1 := of_decide_eq_false h1
    rw [isL, decide_eq_false (show ¬(1 ≤ l.length ∧ l.length ≤ 128) by omega), Bool.false_and] at h; exact h
def isOver (x : Nat) : Bool := pFin x && fcmp .gtr .f32 x (cz .f32 0)
def isLeast (x : Nat) : Bool := pFin x && fcmp .geq .f32 x (cz .f32 0)
theorem impl_isOver_wp {a : Nat} {K : Bool → Prop} (h : K (isOver a)) : impl_isOver.wp a K := by
  refine impl_IsFinite_wp ⟨fun h1 => ?_, fun h1 => ?_⟩ <;> (rw [isOver, h1] at h; exact h)
theorem impl_isLeast_wp {a : Nat} {K : Bool → Prop} (h : K (isLeast a)) : impl_isLeast.wp a K := by
  refine impl_IsFinite_wp ⟨fun h1 => ?_, fun h1 => ?_⟩ <;> (rw [isLeast, h1] at h; exact h)
def isShare (x : Nat) : Bool := fcmp .geq .f32 x (cz .f32 0) && fcmp .leq .f32 x (cz .f32 1065353216)
theorem impl_isShare_wp {a : Nat} {K : Bool → Prop} (h : K (isShare a)) : impl_isShare.wp a K := by
  refine ⟨fun h1 => ?_, fun h1 => ?_⟩ <;> (rw [isShare, h1] at h; exact h)
/-! ### integers -/
def bnd (m : Int) (l : List Int) : Bool := l.all fun n => decide (-m ≤ n ∧ n ≤ m)
def isI (l : List Int) : Bool := decide (1 ≤ l.length ∧ l.length ≤ 128) && bnd 1000000 l
theorem impl_areWithin_wp {l : List Int} {m : Int} {K : Bool → Prop} (hl : l.length ≤ 2 ^ 20) (hm : 0 ≤ m ∧ m ≤ 2 ^ 40) (h : K (bnd m l)) : impl_areWithin.wp l m K := by
  intro X hX
  refine all_loop l (fun n => decide (-m ≤ n ∧ n ≤ m)) (X := X) (T := K true) (F := K false) (fun i hi hh => ?_) (fun ht => hX _ ⟨fun c => absurd c (by omega), fun _ => ht⟩) (fun e => by rw [bnd, e] at h; exact h) (fun e => by rw [bnd, e] at h; exact h)
  refine hX _ ⟨fun _ => ⟨⟨by omega, by omega⟩, impl_within_wp ?_⟩, fun c => absurd (show (i : Int) < l.length by omega) c⟩
  rw [nn, gD hi, w1 (by omega), wI (show -9223372036854775808 ≤ (0 : Int) - m ∧ (0 : Int) - m < 9223372036854775808 by omega), Int.zero_sub]; exact hh
theorem impl_AreIntegers_wp {l : List Int} {K : Bool → Prop} (hl : l.length ≤ 2 ^ 20) (h : K (isI l)) : impl_AreIntegers.wp l K := by
  refine impl_within_wp ⟨fun h1 => ?_, fun h1 => ?_⟩
  · have h1 := of_decide_eq_true h1
    refine impl_areWithin_wp hl (by omega) ?_
    rw [isI, decide_eq_true (show 1 ≤ l.length ∧ l.length ≤ 128 by omega), Bool.true_and] at h; exact h
  · have h1 := of_decide_eq_false h1
    rw [isI, decide_eq_false (show ¬(1 ≤ l.length ∧ l.length ≤ 128) by omega), Bool.false_and] at h; exact h
theorem impl_finiteList_wp {l : List Nat} {K : Bool → Bool → Prop} (hl : l.length ≤ 2 ^ 20) (h : K (pAll l) (pAll l)) : impl_finiteList.wp l K := by
  refine impl_areFinite1_wp hl ⟨fun h1 => ?_, fun h1 => ?_⟩ <;> (rw [h1] at h; exact h)

end Go.Proofs.YtmbkjkcolmoioaaGreatDoor.G

namespace Go.Proofs.YtmbkjkcolmoioaaGreatDoor.G
open Go Go.Ab
set_option maxRecDepth 100000
set_option linter.unusedVariables false
set_option linter.unusedSimpArgs false
set_option maxHeartbeats 1000000
/-- What is like itself is a number. -/
theorem num_of_eq {x : Nat} (h : fcmp .neq .f32 x x = false) : num .f32 x = true := by
  unfold num
  cases hd : (FloatKind.f32.decode x).isNaN with
  | false => rfl
  | true =>
    exfalso
    have h2 : Ieee.single.order x x = none := by
      unfold Ieee.Format.order
      have hd' : (Ieee.single.read x).isNaN = true := hd
      cases hr : Ieee.single.read x with
      | nan s t => rfl
      | _ => rw [hr] at hd'; cases hd'
    unfold fcmp at h
    rw [show FloatKind.f32.format = Ieee.single from rfl, h2] at h
    cases h
theorem ixor {a b : Nat} (ha : a < 2 ^ 32) (hb : b < 2 ^ 32) : ibits .xor .i64 (a : Int) (b : Int) = ((a ^^^ b : Nat) : Int) := by
  have hx : a ^^^ b < 2 ^ 32 := Nat.xor_lt_two_pow ha hb
  have ea : (BitVec.ofInt 64 (a : Int)).toNat = a := by rw [BitVec.ofInt_natCast, BitVec.toNat_ofNat]; omega
  have eb : (BitVec.ofInt 64 (b : Int)).toNat = b := by rw [BitVec.ofInt_natCast, BitVec.toNat_ofNat]; omega
  show IntKind.i64.wrap ((BitVec.ofInt 64 (a : Int) ^^^ BitVec.ofInt 64 (b : Int)).toNat : Int) = _
  rw [BitVec.toNat_xor, ea, eb]
  exact wI (by omega)
theorem ior {a b : Nat} (ha : a < 2 ^ 32) (hb : b < 2 ^ 32) : ibits .or .i64 (a : Int) (b : Int) = ((a ||| b : Nat) : Int) := by
  have hx : a ||| b < 2 ^ 32 := Nat.or_lt_two_pow ha hb
  have ea : (BitVec.ofInt 64 (a : Int)).toNat = a := by rw [BitVec.ofInt_natCast, BitVec.toNat_ofNat]; omega
  have eb : (BitVec.ofInt 64 (b : Int)).toNat = b := by rw [BitVec.ofInt_natCast, BitVec.toNat_ofNat]; omega
  show IntKind.i64.wrap ((BitVec.ofInt 64 (a : Int) ||| BitVec.ofInt 64 (b : Int)).toNat : Int) = _
  rw [BitVec.toNat_or, ea, eb]
  exact wI (by omega)
theorem p8 : (2 ^ (min (8 : Int).toNat IntKind.i64.bits) : Int) = 256 := by decide
theorem fdiv8 (m : Nat) : Int.fdiv (m : Int) (2 ^ (min (8 : Int).toNat IntKind.i64.bits)) = ((m / 256 : Nat) : Int) := by
  rw [p8, Int.fdiv_eq_ediv_of_nonneg _ (by decide)]; omega
theorem tdivN (m k : Nat) (h : m < 2 ^ 40) : IntKind.i64.wrap (Int.tdiv (m : Int) (k : Int)) = ((m / k : Nat) : Int) := by
  rw [show (m : Int).tdiv (k : Int) = ((m / k : Nat) : Int) by rw [Int.tdiv_eq_ediv_of_nonneg (by omega)]; rfl]
  have := Nat.div_le_self m k
  generalize m / k = d at this
  exact wI (by omega)
theorem u8wrap (m : Nat) : IntKind.u8.wrap (m : Int) = ((m % 256 : Nat) : Int) := by
  show (m : Int) % 256 = _
  omega
theorem tmod8 (m : Nat) : Int.tmod (m : Int) 256 = ((m % 256 : Nat) : Int) := by
  rw [Int.tmod_eq_emod_of_nonneg (by omega)]; rfl
/-- How many bytes a number fills. -/
def nb (x : Nat) : Nat := if x = 0 then 0 else if x < 256 then 1 else if x < 65536 then 2 else if x < 16777216 then 3 else 4
theorem nb_le (x : Nat) : nb x ≤ 4 := by unfold nb; repeat' split
                                         all_goals omega
theorem nb_div {m : Nat} (h : 0 < m) (h32 : m < 2 ^ 32) : nb (m / 256) + 1 = nb m := by
  unfold nb; repeat' split
  all_goals omega
def lowB : Nat → Nat → List Int
  | 0, _ => []
  | n + 1, x => ((x % 256 : Nat) : Int) :: lowB n (x / 256)
theorem lowB_len : ∀ n x, (lowB n x).length = n
  | 0, _ => rfl
  | n + 1, x => by rw [lowB, List.length_cons, lowB_len]
def bitsN (x : Nat) : Nat := if fcmp .neq .f32 x x = true then 2143289344 else x
theorem bitsN_lt {x : Nat} (h : x < 2 ^ 32) : bitsN x < 2 ^ 32 := by unfold bitsN; split <;> omega
def oneB (y : Nat) : List Int := ((4 - nb y : Nat) : Int) :: lowB (nb y) y
theorem oneB_len (y : Nat) : (oneB y).length ≤ 5 := by rw [oneB, List.length_cons, lowB_len]; have := nb_le y; omega
def packTo : List Nat → Nat → List Int
  | [], _ => []
  | x :: l, b => oneB (bitsN x ^^^ b) ++ packTo l (bitsN x)
def packL (l : List Nat) : List UInt8 := byts (packTo l 0)
/-- The loop over the values. -/
theorem pack_loop (l : List Nat) (hl : l.length ≤ 2 ^ 20) (hw : ∀ x ∈ l, x < 2 ^ 32) {X : List Int → Int → Int → Prop} (hX : ∀ (o : List Int) (b i : Nat) (hi : i < l.length), b < 2 ^ 32 → o.length ≤ 5 * i → X (o ++ oneB (bitsN l[i] ^^^ b)) (bitsN l[i] : Nat) ((i + 1 : Nat) : Int) → X o (b : Int) (i : Int)) (hend : ∀ b : Int, X (packTo l 0) b (l.length : Int)) : X [] ((0 : Nat) : Int) ((0 : Nat) : Int) := by
  have key : ∀ (m i : Nat) (o : List Int) (b : Nat), m + i = l.length → b < 2 ^ 32 → o.length ≤ 5 * i → o ++ packTo (l.drop i) b = packTo l 0 → X o (b : Int) (i : Int) := by
    intro m
    induction m with
    | zero => intro i o b h1 h2 h3 h4
              obtain rfl : i = l.length := by omega
              rw [List.drop_length, packTo, List.append_nil] at h4
              rw [h4]; exact hend _
    | succ m ih =>
      intro i o b h1 h2 h3 h4
      have hi : i < l.length := by omega
      refine hX o b i hi h2 h3 (ih (i + 1) _ _ (by omega) (bitsN_lt (hw _ (List.getElem_mem hi))) (by rw [List.length_append]; have := oneB_len (bitsN l[i] ^^^ b); omega) ?_)
      rw [dropC hi, packTo] at h4
      rw [List.append_assoc]; exact h4
  exact key l.length 0 [] 0 (by omega) (by decide) (by simp) rfl
/-- The loop over a number's bytes. -/
theorem bytes_loop (M : Nat) {X : List Int → Int → Int → Prop} {N : Nat} (hX : ∀ (o : List Int) (x k : Nat), k < N → x < 2 ^ 32 → o.length < M → X (o ++ [((x % 256 : Nat) : Int)]) ((x / 256 : Nat) : Int) ((k + 1 : Nat) : Int) → X o (x : Int) (k : Int)) : ∀ (n k x : Nat) (o : List Int), k + n = N → x < 2 ^ 32 → o.length + n ≤ M → (∀ x, X (o ++ lowB n x) x (N : Int) → True) → (∀ y : Int, X (o ++ lowB n x) y (N : Int)) → X o (x : Int) (k : Int) := by
  intro n
  induction n with
  | zero => intro k x o h1 h2 h3 _ h4
            obtain rfl : k = N := by omega
            have := h4 x
            rw [lowB, List.append_nil] at this; exact this
  | succ n ih =>
    intro k x o h1 h2 h3 _ h4
    refine hX o x k (by omega) h2 (by omega) (ih (k + 1) (x / 256) _ (by omega) (by omega) (by rw [List.length_append, List.length_singleton]; omega) (fun _ _ => trivial) fun y => ?_)
    have := h4 y
    rw [lowB] at this
    rw [List.append_assoc]; exact this
theorem spec_l01Bits_wp {x : Nat} {K : Int → Prop} (hx : x < 2 ^ 32) (h : K (bitsN x : Nat)) : spec_l01Bits.wp x K := by
  refine ⟨fun c => ?_, fun c => ⟨?_, ?_⟩⟩
  · rw [bitsN, if_pos c] at h; exact h
  · exact num_of_eq c
  · rw [bitsN, if_neg (by rw [c]; decide)] at h
    rw [wI (by omega)]; exact h
theorem impl_BitsOf_wp {x : Nat} {K : Int → Prop} (hx : x < 2 ^ 32) (h : K (bitsN x : Nat)) : impl_BitsOf.wp x K := by
  refine ⟨fun c => ?_, fun c => ⟨?_, ?_⟩⟩
  · rw [bitsN, if_pos c] at h; exact h
  · exact num_of_eq c
  · rw [bitsN, if_neg (by rw [c]; decide)] at h
    rw [wI (by omega)]; exact h

end Go.Proofs.YtmbkjkcolmoioaaGreatDoor.G

namespace Go.Proofs.YtmbkjkcolmoioaaGreatDoor.G
open Go Go.Ab
set_option maxRecDepth 100000
set_option linter.unusedVariables false
set_option linter.unusedSimpArgs false
set_option maxHeartbeats 1000000
def btOk (a : List UInt8) (i : Nat) : Bool := !decide (bt a i < 97) && !decide (122 < bt a i)
def isNm (a : List UInt8) : Bool := (List.range a.length).all (btOk a) && decide (1 ≤ (a.length : Int) ∧ (a.length : Int) ≤ 8)
theorem range_get2 {n i : Nat} (h : i < (List.range n).length) : (List.range n)[i] = i := List.getElem_range h
theorem nm_yes {a : List UInt8} (h : (List.range a.length).all (btOk a) = true) : isNm a = decide (1 ≤ (a.length : Int) ∧ (a.length : Int) ≤ 8) := by rw [isNm, h]; rfl
theorem nm_no {a : List UInt8} (h : (List.range a.length).all (btOk a) = false) : isNm a = false := by rw [isNm, h]; rfl
def isVals (l : List Nat) : Bool := decide (1 ≤ (l.length : Int) ∧ (l.length : Int) ≤ 128)
def isTk (a : List UInt8) (k : Int) (l : List Nat) : Bool := isNm a && decide (1 ≤ k ∧ k ≤ 65535) && isVals l

end Go.Proofs.YtmbkjkcolmoioaaGreatDoor.G

namespace Go.Proofs.YtmbkjkcolmoioaaGreatDoor.G
open Go Go.Ab
set_option maxRecDepth 100000
set_option linter.unusedVariables false
set_option linter.unusedSimpArgs false
set_option maxHeartbeats 1000000
theorem eqPicture_wp {a b : Int} {l : List Nat} {K : Bool → Prop} (hl : l.length ≤ 2 ^ 20) (h : K true) : laws_eqPicture.wp a b l a b l K := tP rfl (tP rfl (eqFloat32S_wp hl (tT h)))
def isSch (l : List Nat) (s : Nat) : Bool := decide (1 ≤ (l.length : Int) ∧ (l.length : Int) ≤ 8) && pAll l && isOver s
theorem impl_ValidScheme_wp {l : List Nat} {s : Nat} {K : Bool → Prop} (hl : l.length ≤ 2 ^ 20) (h : K (isSch l s)) : impl_ValidScheme.wp l s K := by
  refine impl_within_wp ⟨fun h1 => impl_areFinite1_wp hl ⟨fun h3 => impl_isOver_wp ?_, fun h3 => ?_⟩, fun h1 => ?_⟩
  · rw [isSch, h1, h3] at h; exact h
  · rw [isSch, h1, h3] at h; exact h
  · rw [isSch, h1] at h; exact h
def isPic (a b : Int) (l : List Nat) : Bool := decide (1 ≤ a ∧ a ≤ 16) && decide (1 ≤ b ∧ b ≤ 16) && decide ((l.length : Int) = a * b) && pAll l
theorem w16 {a b : Int} (h1 : decide (1 ≤ a ∧ a ≤ 16) = true) (h2 : decide (1 ≤ b ∧ b ≤ 16) = true) : IntKind.i64.wrap (a * b) = a * b := by
  simp only [decide_eq_true_eq] at h1 h2
  obtain ⟨an, rfl⟩ : ∃ n : Nat, a = n := ⟨a.toNat, by omega⟩
  obtain ⟨bn, rfl⟩ : ∃ n : Nat, b = n := ⟨b.toNat, by omega⟩
  have : an * bn ≤ 16 * 16 := Nat.mul_le_mul (by omega) (by omega)
  rw [show (an : Int) * (bn : Int) = ((an * bn : Nat) : Int) from rfl]
  exact wI (by omega)
theorem spec_l04Sides_wp {a b : Int} {K : Bool → Prop} (h : K (decide (1 ≤ a ∧ a ≤ 16) && decide (1 ≤ b ∧ b ≤ 16))) : spec_l04Sides.wp a b K := by
  refine spec_l00In_wp ⟨fun h1 => spec_l00In_wp ?_, fun h1 => ?_⟩ <;> (rw [h1] at h; exact h)
theorem spec_l04Is_wp {a b : Int} {l : List Nat} {K : Bool → Prop} (hl : l.length ≤ 2 ^ 20) (h : K (isPic a b l)) : spec_l04Is.wp a b l K := by
  refine spec_l04Sides_wp ⟨fun h1 => ?_, fun h1 => ?_⟩
  · have h1' := h1
    rw [Bool.and_eq_true] at h1'
    rw [isPic, h1, Bool.true_and] at h
    rw [w16 h1'.1 h1'.2]
    refine ⟨fun h3 => spec_l02Finite_wp hl ?_, fun h3 => ?_⟩
    · rw [decide_eq_true h3] at h; exact h
    · rw [decide_eq_false h3] at h; exact h
  · rw [isPic, h1] at h; exact h
theorem impl_ValidPicture_wp {a b : Int} {l : List Nat} {K : Bool → Prop} (hl : l.length ≤ 2 ^ 20) (h : K (isPic a b l)) : impl_ValidPicture.wp a b l K := by
  refine impl_within_wp ⟨fun h1 => impl_within_wp ⟨fun h2 => ?_, fun h2 => ?_⟩, fun h1 => ?_⟩
  · rw [w16 h1 h2]
    rw [isPic, h1, h2, Bool.true_and, Bool.true_and] at h
    refine ⟨fun h3 => impl_areFinite1_wp hl ?_, fun h3 => ?_⟩
    · rw [decide_eq_true h3] at h; exact h
    · rw [decide_eq_false h3] at h; exact h
  · rw [isPic, h1, h2] at h; exact h
  · rw [isPic, h1] at h; exact h
def isCod (a b : Int) (l : List Bool) : Bool := decide (1 ≤ a ∧ a ≤ 128) && decide (0 ≤ b ∧ b ≤ 24) && decide ((l.length : Int) ≤ 32768)
theorem impl_ValidCoded_wp {a b : Int} {l : List Bool} {K : Bool → Prop} (h : K (isCod a b l)) : impl_ValidCoded.wp a b l K := by
  refine impl_within_wp ⟨fun h1 => impl_within_wp ⟨fun h2 => ?_, fun h2 => ?_⟩, fun h1 => ?_⟩
  · rw [isCod, h1, h2] at h; exact h
  · rw [isCod, h1, h2] at h; exact h
  · rw [isCod, h1] at h; exact h
def isDesk (l m : List Nat) (s : Nat) (w v : Int) (p : List Nat) (c t : Int) (b : List Bool) : Bool := isL l && isSch m s && isPic w v p && isCod c t b
theorem impl_ValidDesk_wp {l m : List Nat} {s : Nat} {w v : Int} {p : List Nat} {c t : Int} {b : List Bool} {K : Bool → Prop} (hl : l.length ≤ 2 ^ 20) (hm : m.length ≤ 2 ^ 20) (hp : p.length ≤ 2 ^ 20) (h : K (isDesk l m s w v p c t b)) : impl_ValidDesk.wp l m s w v p c t b K := by
  refine impl_IsList_wp hl ⟨fun h1 => impl_ValidScheme_wp hm ⟨fun h2 => impl_ValidPicture_wp hp ⟨fun h3 => impl_ValidCoded_wp ?_, fun h3 => ?_⟩, fun h2 => ?_⟩, fun h1 => ?_⟩
  · rw [isDesk, h1, h2, h3] at h; exact h
  · rw [isDesk, h1, h2, h3] at h; exact h
  · rw [isDesk, h1, h2] at h; exact h
  · rw [isDesk, h1] at h; exact h

end Go.Proofs.YtmbkjkcolmoioaaGreatDoor.G

namespace Go.Proofs.YtmbkjkcolmoioaaGreatDoor.G
open Go Go.Ab
set_option maxRecDepth 100000
set_option linter.unusedVariables false
set_option linter.unusedSimpArgs false
set_option maxHeartbeats 1000000
def dd (n : Nat) : List UInt8 := if n = 0 then [] else Lib.decDigits n
theorem dd_step (n : Nat) : Lib.decDigits n = dd (n / 10) ++ [UInt8.ofNat (48 + n % 10)] := by
  rw [Lib.decDigits]
  by_cases h : n < 10
  · rw [dif_pos h, dd, if_pos (by omega), Nat.mod_eq_of_lt h]; rfl
  · rw [dif_neg h, dd, if_neg (by omega)]
theorem dd_zero : dd 0 = [] := rfl
theorem dd_pos {n : Nat} (h : n ≠ 0) : dd n = dd (n / 10) ++ [UInt8.ofNat (48 + n % 10)] := by
  conv => lhs; rw [dd, if_neg h]
  exact dd_step n
theorem numsC (b : UInt8) (l : List UInt8) : nums (b :: l) = (b.toNat : Int) :: nums l := rfl
theorem nums_length (l : List UInt8) : (nums l).length = l.length := by simp [nums]
theorem byts_nums (l : List UInt8) : byts (nums l) = l := by
  induction l with
  | nil => rfl
  | cons b l ih =>
    show UInt8.ofNat ((b.toNat : Int)).toNat :: byts (nums l) = _
    rw [ih, Int.toNat_natCast, UInt8.ofNat_toNat]
def sgn (b : Bool) (n : Nat) : Int := bif b then -(n : Int) else n
theorem sgn_of (z : Int) : z = sgn (decide (z < 0)) z.natAbs := by
  unfold sgn
  by_cases h : z < 0
  · rw [decide_eq_true h, cond_true]; omega
  · rw [decide_eq_false h, cond_false]; omega
theorem tmodN (n m : Nat) : Int.tmod (n : Int) (m : Int) = ((n % m : Nat) : Int) := by rw [Int.tmod_eq_emod_of_nonneg (by omega)]; omega
theorem tdivN' (n m : Nat) : Int.tdiv (n : Int) (m : Int) = ((n / m : Nat) : Int) := by rw [Int.tdiv_eq_ediv_of_nonneg (by omega)]; omega
theorem tmod_sgn (b : Bool) (n : Nat) : Int.tmod (sgn b n) 10 = sgn b (n % 10) := by
  cases b
  · exact tmodN n 10
  · show Int.tmod (-(n : Int)) 10 = -((n % 10 : Nat) : Int)
    rw [Int.neg_tmod, show (10 : Int) = ((10 : Nat) : Int) from rfl, tmodN]
theorem tdiv_sgn (b : Bool) (n : Nat) : Int.tdiv (sgn b n) 10 = sgn b (n / 10) := by
  cases b
  · exact tdivN' n 10
  · show Int.tdiv (-(n : Int)) 10 = -((n / 10 : Nat) : Int)
    rw [Int.neg_tdiv, show (10 : Int) = ((10 : Nat) : Int) from rfl, tdivN']
theorem sgn_le (b : Bool) (n : Nat) : -(n : Int) ≤ sgn b n ∧ sgn b n ≤ n := by cases b <;> simp only [sgn, cond_true, cond_false] <;> omega
theorem u8W (n : Nat) (h : n < 256) : IntKind.u8.wrap (n : Int) = (n : Int) := by
  simp only [IntKind.wrap, IntKind.signed, IntKind.bits]
  simp
  omega
theorem digW (n : Nat) : IntKind.u8.wrap (IntKind.i64.wrap ((48 : Int) + ((n % 10 : Nat) : Int))) = ((UInt8.ofNat (48 + n % 10)).toNat : Int) := by
  rw [wI (by omega), show (48 : Int) + ((n % 10 : Nat) : Int) = ((48 + n % 10 : Nat) : Int) by omega, u8W _ (by omega)]
  show _ = (((48 + n % 10) % 256 : Nat) : Int)
  omega
theorem stepDec {X : List Int → Int → Prop} (b : Bool) (r : Nat) (ds : List UInt8) (hr : r ≤ 2 ^ 62) (hd : ds.length ≤ 100) (h : X (nums (UInt8.ofNat (48 + r % 10) :: ds)) (sgn b (r / 10))) :
    (((Int.tmod (sgn b r) (10 : Int)) < (0 : Int) → ((([(IntKind.u8.wrap (IntKind.i64.wrap ((48 : Int) + (IntKind.i64.wrap (0 - (Int.tmod (sgn b r) (10 : Int)))))))] : List (Int)).length + (nums ds).length) * 1 ≤ 2 ^ 40) ∧ X (([(IntKind.u8.wrap (IntKind.i64.wrap ((48 : Int) + (IntKind.i64.wrap (0 - (Int.tmod (sgn b r) (10 : Int)))))))] : List (Int)) ++ nums ds) (IntKind.i64.wrap (Int.tdiv (sgn b r) (10 : Int)))) ∧ (¬((Int.tmod (sgn b r) (10 : Int)) < (0 : Int)) → ((([(IntKind.u8.wrap (IntKind.i64.wrap ((48 : Int) + (Int.tmod (sgn b r) (10 : Int)))))] : List (Int)).length + (nums ds).length) * 1 ≤ 2 ^ 40) ∧ X (([(IntKind.u8.wrap (IntKind.i64.wrap ((48 : Int) + (Int.tmod (sgn b r) (10 : Int)))))] : List (Int)) ++ nums ds) (IntKind.i64.wrap (Int.tdiv (sgn b r) (10 : Int))))) := by
  have hs := sgn_le b (r / 10)
  rw [tmod_sgn, tdiv_sgn, wI (n := sgn b (r / 10)) (by omega), nums_length]
  rw [numsC] at h
  refine ⟨fun c => ⟨by rw [len1]; omega, ?_⟩, fun c => ⟨by rw [len1]; omega, ?_⟩⟩
  · have e : (0 : Int) - sgn b (r % 10) = ((r % 10 : Nat) : Int) := by cases b <;> simp only [sgn, cond_true, cond_false] at c ⊢ <;> omega
    rw [e, wI (n := ((r % 10 : Nat) : Int)) (by omega), digW]; exact h
  · have e : sgn b (r % 10) = ((r % 10 : Nat) : Int) := by cases b <;> simp only [sgn, cond_true, cond_false] at c ⊢ <;> omega
    rw [e, digW]; exact h
theorem dec_len (n : Nat) (h : n ≤ 2 ^ 62) : (Lib.decDigits n).length ≤ 21 := by
  have := Lib.itoa_length_le (n : Int) (by omega) (by omega)
  rwa [Lib.itoa, if_neg (by omega), Int.toNat_natCast] at this
theorem itoa_len (n : Int) (h : -2 ^ 62 ≤ n ∧ n ≤ 2 ^ 62) : (Lib.itoa n).length ≤ 21 := Lib.itoa_length_le n (by omega) (by omega)
theorem spec_l01Dec_wp {n : Int} {K : List UInt8 → Prop} (hn : -2 ^ 62 ≤ n ∧ n ≤ 2 ^ 62) (h : K (Lib.itoa n)) : spec_l01Dec.wp n K := by
  intro X hX
  have hN : n.natAbs ≤ 2 ^ 62 := by omega
  have hl := dec_len _ hN
  have loop : ∀ (m r : Nat) (ds : List UInt8), r ≤ m → ds ≠ [] → r ≤ 2 ^ 62 → dd r ++ ds = Lib.decDigits n.natAbs → X (nums ds) (sgn (decide (n < 0)) r) := by
    intro m
    induction m with
    | zero =>
      intro r ds hr hds h1 h2
      obtain rfl : r = 0 := by omega
      have hz : ¬ (((nums ds).length : Int) = 0) := by rw [nums_length]; have := List.length_pos_iff.2 hds; omega
      have e0 : sgn (decide (n < 0)) 0 = 0 := by cases decide (n < 0) <;> rfl
      refine hX _ _ ⟨fun c => absurd c hz, fun _ => ⟨fun _ => ?_, fun c => absurd e0 c⟩⟩
      rw [dd_zero, List.nil_append] at h2
      subst h2
      unfold Lib.itoa at h
      refine ⟨fun c => ⟨by rw [len1, nums_length]; omega, ?_⟩, fun c => ?_⟩
      · rw [if_pos c] at h
        rw [show ([(45 : Int)] : List Int) ++ nums (Lib.decDigits n.natAbs) = nums (45 :: Lib.decDigits n.natAbs) from rfl, byts_nums]; exact h
      · rw [if_neg c, show n.toNat = n.natAbs by omega] at h
        rw [byts_nums]; exact h
    | succ m ih =>
      intro r ds hr hds h1 h2
      by_cases hz0 : r = 0
      · exact ih r ds (by omega) hds h1 h2
      have hz : ¬ (((nums ds).length : Int) = 0) := by rw [nums_length]; have := List.length_pos_iff.2 hds; omega
      have hdl : ds.length ≤ 21 := by rw [← h2, List.length_append] at hl; omega
      refine hX _ _ ⟨fun c => absurd c hz, fun _ => ⟨fun c => ?_, fun _ => stepDec _ r ds h1 (by omega) (ih _ _ (by omega) (by simp) (by omega) ?_)⟩⟩
      · exfalso; cases hb : decide (n < 0) <;> rw [hb] at c <;> simp only [sgn, cond_true, cond_false] at c <;> omega
      · rw [← h2, dd_pos hz0, List.append_assoc]; rfl
  have first : X (nums []) (sgn (decide (n < 0)) n.natAbs) := by
    refine hX _ _ ⟨fun _ => stepDec _ _ [] hN (by decide) (loop _ _ _ (Nat.le_refl _) (by simp) (by omega) (dd_step _).symm), fun c => absurd rfl c⟩
  rw [← sgn_of] at first
  exact first
/-- The mark of a text. -/
def mkT (k : Nat) : List UInt8 := if k = 0 then [109, 48] else 109 :: dd k

end Go.Proofs.YtmbkjkcolmoioaaGreatDoor.G

namespace Go.Proofs.YtmbkjkcolmoioaaGreatDoor.G
open Go Go.Ab
set_option maxRecDepth 100000
set_option linter.unusedVariables false
set_option linter.unusedSimpArgs false
set_option maxHeartbeats 1000000
/-- The texts, with commas between them; "none" for none. -/
def commas : List (List UInt8) → List UInt8
  | [] => [110, 111, 110, 101]
  | x :: r => x ++ Lib.joinTail [44] r
def listT (l : List Int) : List UInt8 := commas (l.map Lib.itoa)
def okV (n : Int) : Bool := decide (-1000000000000000 ≤ n) && decide (n ≤ 1000000000000000)
theorem lens_le {l : List (List UInt8)} {m : Nat} (h : ∀ x ∈ l, x.length ≤ m) : (Lib.joinTail [44] l).length ≤ l.length * (m + 1) := by
  induction l with
  | nil => exact Nat.zero_le _
  | cons x l ih =>
    have h1 := h x (List.mem_cons_self ..)
    have h2 := ih fun y hy => h y (List.mem_cons_of_mem _ hy)
    show (([44] ++ x) ++ Lib.joinTail [44] l).length ≤ _
    rw [List.length_append, List.length_append, len1, List.length_cons, Nat.succ_mul]; omega
theorem commas_len {l : List (List UInt8)} {m : Nat} (h : ∀ x ∈ l, x.length ≤ m) : (commas l).length ≤ l.length * (m + 1) + 4 := by
  cases l with
  | nil => show 4 ≤ _; rw [List.length_nil, Nat.zero_mul]; exact Nat.le_refl _
  | cons x l =>
    have h1 := h x (List.mem_cons_self ..)
    have h2 := lens_le fun y hy => h y (List.mem_cons_of_mem _ hy)
    show (x ++ Lib.joinTail [44] l).length ≤ _
    rw [List.length_append, List.length_cons, Nat.succ_mul]; omega
theorem listT_len {l : List Int} (h : ∀ x ∈ l, -2 ^ 62 ≤ x ∧ x ≤ 2 ^ 62) : (listT l).length ≤ l.length * 22 + 4 := by
  have := commas_len (l := l.map Lib.itoa) (m := 21) fun x hx => by
    obtain ⟨y, hy, rfl⟩ := List.mem_map.1 hx
    exact itoa_len y (h y hy)
  rw [List.length_map] at this; exact this
theorem joinTail_succ (l : List (List UInt8)) (i : Nat) (h : i < l.length) : Lib.joinTail [44] (l.take (i + 1)) = Lib.joinTail [44] (l.take i) ++ (([44] : List UInt8) ++ l[i]) := by
  rw [Lib.joinTail_take_succ [44] l i l[i] (List.getElem?_eq_getElem h), List.append_assoc]
theorem impl_Dec_wp {n : Int} {K : List UInt8 → Prop} (hn : -2 ^ 63 ≤ n ∧ n < 2 ^ 63) (h : K (Lib.itoa n)) : impl_Decimal.wp n K := Or.inl ⟨rfl, by omega, h⟩
theorem impl_joined_wp {l : List (List UInt8)} {K : List UInt8 → Prop} {m : Nat} (hl : l.length ≤ 2 ^ 25) (hm : m ≤ 2 ^ 10) (hx : ∀ x ∈ l, x.length ≤ m) (h : K (commas l)) : impl_joined.wp l K := by
  have hc := commas_len hx
  have : l.length * (m + 1) ≤ 2 ^ 25 * (2 ^ 10 + 1) := Nat.mul_le_mul hl (by omega)
  cases l with
  | nil => exact ⟨fun _ => h, fun c => absurd rfl c⟩
  | cons x l =>
    refine ⟨fun c => by rw [List.length_cons] at c; omega, fun _ => ?_⟩
    have e : Lib.join (x :: l) [44] = commas (x :: l) := Lib.join_cons x l [44]
    refine ⟨⟨by omega, ?_⟩, ?_⟩
    · rw [e]; omega
    · rw [e]; exact h
theorem impl_listText_wp {l : List Int} {K : List UInt8 → Prop} (hl : l.length ≤ 2 ^ 25) (hv : ∀ x ∈ l, -2 ^ 62 ≤ x ∧ x ≤ 2 ^ 62) (h : K (listT l)) : impl_listText.wp l K := by
  intro X hX
  have key : X ((l.map Lib.itoa).take 0) ((0 : Nat) : Int) := by
    refine up (Y := fun i => X ((l.map Lib.itoa).take i) (i : Int)) l.length ?_ fun i hi hn => ?_
    · refine hX _ _ ⟨fun c => absurd c (by omega), fun _ => ?_⟩
      rw [List.take_of_length_le (by rw [List.length_map]; omega)]
      exact impl_joined_wp (m := 21) (by rw [List.length_map]; exact hl) (by decide) (fun x hx => by
        obtain ⟨y, hy, rfl⟩ := List.mem_map.1 hx
        exact itoa_len y (hv y hy)) h
    · refine hX _ _ ⟨fun _ => ⟨by omega, ?_⟩, fun c => absurd (show (i : Int) < _ by omega) c⟩
      rw [nn, gD hi]
      have hli := hv _ (List.getElem_mem hi)
      refine impl_Dec_wp (by omega) ⟨by rw [len1, List.length_take, List.length_map]; omega, ?_⟩
      rw [w1 (by omega)]
      rw [List.take_succ_eq_append_getElem (by rw [List.length_map]; exact hi), List.getElem_map] at hn
      exact hn
  exact key
theorem impl_isValue_wp {n : Int} {K : Bool → Prop} (h : K (okV n)) : impl_isValue.wp n K := by
  unfold okV at h
  refine ⟨fun c => ?_, fun c => ?_⟩
  · rw [decide_eq_true c, Bool.true_and] at h; exact h
  · rw [decide_eq_false c, Bool.false_and] at h; exact h
theorem impl_areValues_wp {l : List Int} {K : Bool → Prop} (hl : l.length ≤ 2 ^ 40) (h : K (l.all okV && decide ((l.length : Int) ≤ 64))) : impl_areValues.wp l K := by
  intro X hX
  have key : ∀ (m i : Nat), i + m = l.length → (l.take i).all okV = true → X (i : Int) := by
    intro m
    induction m with
    | zero =>
      intro i h1 h2
      refine hX _ ⟨fun c => absurd c (by omega), fun _ => ?_⟩
      rw [List.take_of_length_le (by omega)] at h2
      rw [h2, Bool.true_and] at h; exact h
    | succ m ih =>
      intro i h1 h2
      have hi : i < l.length := by omega
      refine hX _ ⟨fun _ => ⟨by omega, ?_⟩, fun c => absurd (show (i : Int) < _ by omega) c⟩
      rw [nn, gD hi]
      refine impl_isValue_wp ⟨fun c => ?_, fun c => ?_⟩
      · rw [w1 (by omega)]
        exact ih (i + 1) (by omega) (by rw [List.take_succ_eq_append_getElem hi, List.all_append, h2, List.all_cons, c]; rfl)
      · have : l.all okV = false := by
          rw [List.all_eq_false]; exact ⟨_, List.getElem_mem hi, by rw [c]; decide⟩
        rw [this, Bool.false_and] at h; exact h
  exact key l.length 0 (by omega) rfl
theorem impl_ListText_wp {l : List Int} {K : List UInt8 → Bool → Prop} (hl : l.length ≤ 2 ^ 25) (h1 : (l.all okV && decide ((l.length : Int) ≤ 64)) = true → K (listT l) true) (h2 : (l.all okV && decide ((l.length : Int) ≤ 64)) = false → K [] false) : impl_ListText.wp l K := by
  refine impl_areValues_wp (by omega) ⟨fun c => impl_listText_wp hl (fun x hx => ?_) (h1 c), fun c => h2 c⟩
  rw [Bool.and_eq_true] at c
  have := List.all_eq_true.1 c.1 x hx
  unfold okV at this
  rw [Bool.and_eq_true, decide_eq_true_eq, decide_eq_true_eq] at this
  omega

end Go.Proofs.YtmbkjkcolmoioaaGreatDoor.G

namespace Go.Proofs.YtmbkjkcolmoioaaGreatDoor.G
open Go Go.Ab
set_option maxRecDepth 100000
set_option linter.unusedVariables false
set_option linter.unusedSimpArgs false
set_option maxHeartbeats 1000000
def hxS : List UInt8 := [48, 49, 50, 51, 52, 53, 54, 55, 56, 57, 97, 98, 99, 100, 101, 102]
def hxL : List UInt8 := [48, 49, 50, 51, 52, 53, 54, 55, 56, 57, 97, 98, 99, 100, 101, 102, 103, 104, 105, 106, 107, 108, 109, 110, 111, 112, 113, 114, 115, 116, 117, 118, 119, 120, 121, 122]
def hxd (d : Nat) : UInt8 := hxS.getD d 0
theorem btS : ∀ d : Nat, d < 16 → bt hxS (d : Int) = ((hxd d).toNat : Int) := by decide +kernel
theorem btL : ∀ d : Nat, d < 16 → bt hxL (d : Int) = ((hxd d).toNat : Int) := by decide +kernel
/-- k digits, zeros in front. -/
def hx : Nat → Nat → List UInt8
  | 0, _ => []
  | k + 1, v => hx k (v / 16) ++ [hxd (v % 16)]
theorem hx_len : ∀ k v, (hx k v).length = k
  | 0, _ => rfl
  | k + 1, v => by rw [hx, List.length_append, hx_len, len1]
theorem hx_zero : ∀ k, hx k 0 = List.replicate k 48
  | 0 => rfl
  | k + 1 => by rw [hx, hx_zero, List.replicate_succ']; rfl
/-- As many digits as it takes. -/
def hexN (v : Nat) : List UInt8 := if _h : v < 16 then [hxd v] else hexN (v / 16) ++ [hxd (v % 16)]
theorem hexN_lt {v : Nat} (h : v < 16) : hexN v = [hxd v] := by rw [hexN, dif_pos h]
theorem hexN_ge {v : Nat} (h : ¬ v < 16) : hexN v = hexN (v / 16) ++ [hxd (v % 16)] := by rw [hexN, dif_neg h]
theorem hexN_pad : ∀ (k v : Nat), v < 16 ^ (k + 1) → (hexN v).length ≤ k + 1 ∧ List.replicate (k + 1 - (hexN v).length) 48 ++ hexN v = hx (k + 1) v
  | k, v, h => by
    by_cases h1 : v < 16
    · rw [hexN_lt h1, len1]
      refine ⟨by omega, ?_⟩
      rw [hx, Nat.div_eq_of_lt h1, Nat.mod_eq_of_lt h1, hx_zero]; rfl
    · rw [hexN_ge h1]
      cases k with
      | zero => exact absurd h (by omega)
      | succ k =>
        have h2 : v / 16 < 16 ^ (k + 1) := by rw [Nat.pow_succ] at h; omega
        obtain ⟨h3, h4⟩ := hexN_pad k (v / 16) h2
        rw [List.length_append, len1]
        refine ⟨by omega, ?_⟩
        rw [hx, ← h4, List.append_assoc]
        congr 2
        omega
theorem repl_L (c : Nat) : Lib.repeatL [48] c = List.replicate c 48 := by
  induction c with
  | zero => rfl
  | succ c ih => show [48] ++ Lib.repeatL [48] c = _; rw [ih]; rfl
theorem hex_pad {v : Nat} (h : v < 2 ^ 32) : (hexN v).length ≤ 8 ∧ Lib.repeatL [48] (8 - (hexN v).length) ++ hexN v = hx 8 v := by
  obtain ⟨h1, h2⟩ := hexN_pad 7 v (by rw [show (16 : Nat) ^ 8 = 2 ^ 32 from rfl]; exact h)
  exact ⟨h1, by rw [repl_L]; exact h2⟩
theorem u64W {k : Nat} (h : k < 2 ^ 63) : IntKind.u64.wrap (k : Int) = (k : Int) := by
  simp only [IntKind.wrap, IntKind.signed, IntKind.bits]
  simp
  omega
theorem iand15 {m : Nat} (hm : m < 2 ^ 63) : ibits .and .i64 (m : Int) (15 : Int) = ((m % 16 : Nat) : Int) := by
  have ea : (BitVec.ofInt 64 (m : Int)).toNat = m := by rw [BitVec.ofInt_natCast, BitVec.toNat_ofNat]; omega
  show IntKind.i64.wrap ((BitVec.ofInt 64 (m : Int) &&& BitVec.ofInt 64 15).toNat : Int) = _
  rw [BitVec.toNat_and, ea, show (BitVec.ofInt 64 15).toNat = 2 ^ 4 - 1 from rfl, Nat.and_two_pow_sub_one_eq_mod]
  exact wI (by omega)
theorem iand15u {m : Nat} (hm : m < 2 ^ 63) : ibits .and .u64 (m : Int) (15 : Int) = ((m % 16 : Nat) : Int) := by
  have ea : (BitVec.ofInt 64 (m : Int)).toNat = m := by rw [BitVec.ofInt_natCast, BitVec.toNat_ofNat]; omega
  show IntKind.u64.wrap ((BitVec.ofInt 64 (m : Int) &&& BitVec.ofInt 64 15).toNat : Int) = _
  rw [BitVec.toNat_and, ea, show (BitVec.ofInt 64 15).toNat = 2 ^ 4 - 1 from rfl, Nat.and_two_pow_sub_one_eq_mod]
  exact u64W (by omega)
theorem shr4 (v m : Nat) (hm : m < 8) : Int.fdiv (v : Int) (2 ^ (min (IntKind.u64.wrap (((4 * m : Nat)) : Int)).toNat IntKind.i64.bits)) = ((v / 16 ^ m : Nat) : Int) := by
  rw [u64W (by omega), nn, show min (4 * m) IntKind.i64.bits = 4 * m from by show min (4 * m) 64 = _; omega, Int.fdiv_eq_ediv_of_nonneg _ (by exact Int.pow_nonneg (by decide))]
  have e : (2 : Int) ^ (4 * m) = ((16 ^ m : Nat) : Int) := by
    rw [show (16 : Nat) = 2 ^ 4 from rfl, ← Nat.pow_mul]; simp
  rw [e]; rfl
theorem shr4u (v : Nat) : Int.fdiv (v : Int) (2 ^ (min (IntKind.u64.wrap ((Lib.ctz 64 (Int.toNat 16) : Nat) : Int)).toNat IntKind.u64.bits)) = ((v / 16 : Nat) : Int) := by
  rw [show (2 : Int) ^ (min (IntKind.u64.wrap ((Lib.ctz 64 (Int.toNat 16) : Nat) : Int)).toNat IntKind.u64.bits) = 16 from by decide +kernel, Int.fdiv_eq_ediv_of_nonneg _ (by decide)]; rfl
theorem drop_set {l : List Int} {i : Nat} (hi : i + 1 ≤ l.length) (x : Int) (ds : List Int) (h : l.drop (i + 1) = ds) : (l.set i x).drop i = x :: ds := by
  rw [List.drop_eq_getElem_cons (by rw [List.length_set]; omega), List.getElem_set_self, ← h, List.drop_set_of_lt (by omega)]
theorem formatBits_wp {v : Nat} {K : List Int → List UInt8 → Prop} (hv : v < 2 ^ 32) (h : K [] (hexN v)) : internal_strconv_formatBits.wp [] (v : Int) 16 false false K := by
  refine ⟨fun c => absurd c (by decide), fun _ => ⟨fun c => absurd c (by decide), fun _ => ⟨fun c => absurd c (by decide), fun _ => ⟨fun c => (by cases c), fun _ => ?_⟩⟩⟩⟩
  have e2 : decide (ibits .and .i64 (16 : Int) (IntKind.i64.wrap ((16 : Int) - (1 : Int))) = (0 : Int)) = true := by decide +kernel
  have e16 : IntKind.u64.wrap (16 : Int) = 16 := by decide
  have e15 : IntKind.u64.wrap ((16 : Int) - 1) = 15 := by decide
  refine tE e2 ⟨by decide, fun X hX => ?_⟩
  rw [e16, e15] at hX
  have lt1 : ∀ (u : Nat) (l : List Int) (ds : List UInt8), u < 16 → ds.length ≤ 7 → l.length = 65 → l.drop (65 - ds.length) = nums ds → hexN u ++ ds = hexN v → X l (u : Int) ((65 - ds.length : Nat) : Int) := by
    intro u l ds hu hk hl h1 h2
    have ei : IntKind.i64.wrap (((65 - ds.length : Nat) : Int) - 1) = ((64 - ds.length : Nat) : Int) := by rw [wI (by omega)]; omega
    refine hX _ _ _ ⟨fun c => absurd c (by omega), fun _ => ?_⟩
    rw [ei, show bt ([48, 49, 50, 51, 52, 53, 54, 55, 56, 57, 97, 98, 99, 100, 101, 102, 103, 104, 105, 106, 107, 108, 109, 110, 111, 112, 113, 114, 115, 116, 117, 118, 119, 120, 121, 122] : List UInt8) (u : Int) = _ from btL u hu, nn]
    refine ⟨⟨by omega, by show (u : Int) < 36; omega⟩, ⟨by omega, by rw [hl]; omega⟩, fun c => (by cases c), fun _ => ⟨⟨by omega, by rw [List.length_set, hl]; omega, Int.le_refl _⟩, ?_⟩⟩
    rw [List.length_set, hl]
    have ed : (l.set (64 - ds.length) ((hxd u).toNat : Int)).drop (64 - ds.length) = nums (hxd u :: ds) := by
      rw [numsC]
      exact drop_set (by omega) _ _ (by rw [show 64 - ds.length + 1 = 65 - ds.length by omega]; exact h1)
    rw [ed, show ((65 : Nat) : Int).toNat - (64 - ds.length) = (hxd u :: ds).length by rw [List.length_cons]; show 65 - _ = _; omega, ← nums_length, List.take_length, byts_nums]
    rw [hexN_lt hu] at h2
    rw [show hxd u :: ds = hexN v from h2]; exact h
  have key : ∀ (k u : Nat) (l : List Int) (ds : List UInt8), u < 16 ^ (k + 1) → ds.length + k ≤ 7 → l.length = 65 → l.drop (65 - ds.length) = nums ds → hexN u ++ ds = hexN v → X l (u : Int) ((65 - ds.length : Nat) : Int) := by
    intro k
    induction k with
    | zero =>
      intro u l ds hu hk hl h1 h2
      exact lt1 u l ds hu (by omega) hl h1 h2
    | succ k ih =>
      intro u l ds hu hk hl h1 h2
      by_cases hu1 : u < 16
      · exact lt1 u l ds hu1 (by omega) hl h1 h2
      have ei : IntKind.i64.wrap (((65 - ds.length : Nat) : Int) - 1) = ((64 - ds.length : Nat) : Int) := by rw [wI (by omega)]; omega
      have h16 : (16 : Nat) ^ (k + 1 + 1) ≤ 16 ^ 8 := Nat.pow_le_pow_right (by decide) (by omega)
      have hu63 : u < 2 ^ 63 := Nat.lt_of_lt_of_le hu (Nat.le_trans h16 (by decide))
      have hm : u % 16 < 16 := Nat.mod_lt _ (by decide)
      refine hX _ _ _ ⟨fun _ => ?_, fun c => absurd (show (16 : Int) ≤ u by omega) c⟩
      rw [iand15u hu63, ei, show bt ([48, 49, 50, 51, 52, 53, 54, 55, 56, 57, 97, 98, 99, 100, 101, 102, 103, 104, 105, 106, 107, 108, 109, 110, 111, 112, 113, 114, 115, 116, 117, 118, 119, 120, 121, 122] : List UInt8) ((u % 16 : Nat) : Int) = _ from btL _ hm, nn, shr4u]
      refine ⟨⟨by omega, by show ((u % 16 : Nat) : Int) < 36; omega⟩, ⟨by omega, by rw [hl]; omega⟩, by decide, ?_⟩
      have := ih (u / 16) (l.set (64 - ds.length) ((hxd (u % 16)).toNat : Int)) (hxd (u % 16) :: ds) (by rw [Nat.pow_succ] at hu; omega) (by rw [List.length_cons]; omega) (by rw [List.length_set]; exact hl) (by
        rw [numsC, List.length_cons, show 65 - (ds.length + 1) = 64 - ds.length by omega]
        exact drop_set (by omega) _ _ (by rw [show 64 - ds.length + 1 = 65 - ds.length by omega]; exact h1)) (by
        rw [← h2, hexN_ge hu1, List.append_assoc]; rfl)
      rw [List.length_cons, show 65 - (ds.length + 1) = 64 - ds.length by omega] at this
      exact this
  exact key 7 v (List.replicate 65 0) [] (by omega) (Nat.le_refl _) rfl rfl (List.append_nil _)
theorem impl_hexOf_wp {a : Nat} {K : List UInt8 → Prop} (ha : a < 2 ^ 32) (h : K (hx 8 (bitsN a))) : impl_hexOf.wp a K := by
  refine impl_BitsOf_wp ha ?_
  have hv := bitsN_lt ha
  generalize bitsN a = v at h hv
  obtain ⟨h1, h2⟩ := hex_pad hv
  refine Or.inr ⟨fun c => absurd c (by decide), fun _ => ?_⟩
  rw [u64W (by omega), decide_eq_false (by omega)]
  refine formatBits_wp hv ?_
  have e : IntKind.i64.wrap ((8 : Int) - ((hexN v).length : Int)) = ((8 - (hexN v).length : Nat) : Int) := by rw [wI (by omega)]; omega
  show strings_Repeat.wp [48] (IntKind.i64.wrap ((8 : Int) - ((hexN v).length : Int))) _
  rw [e]
  refine ⟨⟨by omega, by omega, by rw [nn, len1]; omega⟩, ?_, ?_⟩
  · rw [nn, Lib.repeatL_length, len1]; omega
  · rw [nn, h2]; exact h
/-- The text of a list of numbers. -/
def numsT (l : List Nat) : List UInt8 := commas (l.map fun x => hx 8 (bitsN x))
theorem numsT_len (l : List Nat) : (numsT l).length ≤ l.length * 9 + 4 := by
  have := commas_len (l := l.map fun x => hx 8 (bitsN x)) (m := 8) fun x hx => by
    obtain ⟨y, hy, rfl⟩ := List.mem_map.1 hx
    rw [hx_len]; exact Nat.le_refl _
  rw [List.length_map] at this; exact this
theorem impl_NumbersText_wp {l : List Nat} {K : List UInt8 → Bool → Prop} (hl : l.length ≤ 2 ^ 30) (hw : ∀ x ∈ l, x < 2 ^ 32) (h0 : 256 < l.length → K [] false) (h : l.length ≤ 256 → K (numsT l) true) : impl_NumbersText.wp l K := by
  refine ⟨fun c => h0 (by omega), fun c X hX => ?_⟩
  have hl2 : l.length ≤ 256 := by omega
  have key : X ((l.map fun x => hx 8 (bitsN x)).take 0) ((0 : Nat) : Int) := by
    refine up (Y := fun i => X ((l.map fun x => hx 8 (bitsN x)).take i) (i : Int)) l.length ?_ fun i hi hn => ?_
    · refine hX _ _ ⟨fun c => absurd c (by omega), fun _ => ?_⟩
      rw [List.take_of_length_le (by rw [List.length_map]; omega)]
      exact impl_joined_wp (m := 8) (by rw [List.length_map]; omega) (by decide) (fun x hx => by
        obtain ⟨y, hy, rfl⟩ := List.mem_map.1 hx
        rw [hx_len]; exact Nat.le_refl _) (h hl2)
    · refine hX _ _ ⟨fun _ => ⟨by omega, ?_⟩, fun c => absurd (show (i : Int) < _ by omega) c⟩
      rw [nn, gD hi]
      refine impl_hexOf_wp (hw _ (List.getElem_mem hi)) ⟨by rw [len1, List.length_take, List.length_map]; omega, ?_⟩
      rw [w1 (by omega)]
      rw [List.take_succ_eq_append_getElem (by rw [List.length_map]; exact hi), List.getElem_map] at hn
      exact hn
  exact key

end Go.Proofs.YtmbkjkcolmoioaaGreatDoor.G

namespace Go.Proofs.YtmbkjkcolmoioaaGreatDoor.G
open Go Go.Ab
set_option maxRecDepth 100000
set_option linter.unusedVariables false
set_option linter.unusedSimpArgs false
set_option maxHeartbeats 1000000
/-- The pieces of a text between the bytes c; cur: what has been read of the first. -/
def cutF (c : UInt8) : List UInt8 → List UInt8 → List (List UInt8)
  | cur, [] => [cur]
  | cur, b :: l => if b = c then cur :: cutF c [] l else cutF c (cur ++ [b]) l
def cutL (c : UInt8) (l : List UInt8) : List (List UInt8) := cutF c [] l
theorem cutF_len (c : UInt8) : ∀ (cur l : List UInt8), (cutF c cur l).length = l.count c + 1
  | cur, [] => rfl
  | cur, b :: l => by
    rw [cutF, List.count_cons]
    by_cases h : b = c
    · rw [if_pos h, List.length_cons, cutF_len c [] l, if_pos (by simp [h])]
    · rw [if_neg h, cutF_len c _ l, if_neg (by simp [h]), Nat.add_zero]
theorem cutF_none (c : UInt8) : ∀ (cur l : List UInt8), l.count c = 0 → cutF c cur l = [cur ++ l]
  | cur, [], _ => by rw [cutF, List.append_nil]
  | cur, b :: l, h => by
    rw [List.count_cons] at h
    by_cases hb : b = c
    · rw [if_pos (by simp [hb])] at h; omega
    · rw [if_neg (by simp [hb])] at h
      rw [cutF, if_neg hb, cutF_none c _ l (by omega), List.append_assoc]; rfl
/-- The first c. -/
theorem idx_spec (c : UInt8) : ∀ (l : List UInt8), (Lib.indexByte l c = -1 ∧ l.count c = 0) ∨ ∃ m : Nat, Lib.indexByte l c = m ∧ m < l.length ∧ (l.take m).count c = 0 ∧ l[m]? = some c
  | [] => .inl ⟨rfl, rfl⟩
  | b :: l => by
    rw [Lib.indexByte]
    by_cases hb : b = c
    · right
      refine ⟨0, by rw [if_pos (by simp [hb])]; rfl, by simp, rfl, by simp [hb]⟩
    · rw [if_neg (by simp [hb])]
      rcases idx_spec c l with ⟨h1, h2⟩ | ⟨m, h1, h2, h3, h4⟩
      · left
        rw [h1]
        exact ⟨rfl, by rw [List.count_cons, if_neg (by simp [hb])]; omega⟩
      · right
        refine ⟨m + 1, ?_, by simp; omega, ?_, by simpa using h4⟩
        · rw [h1, if_neg (by simp)] <;> rfl
        · rw [List.take_succ_cons, List.count_cons, if_neg (by simp [hb])]; omega
theorem cutF_idx (c : UInt8) : ∀ (cur l : List UInt8) (m : Nat), m < l.length → (l.take m).count c = 0 → l[m]? = some c → cutF c cur l = (cur ++ l.take m) :: cutF c [] (l.drop (m + 1))
  | cur, b :: l, 0, _, _, h => by
    have : b = c := by simpa using h
    rw [cutF, if_pos this, List.take_zero, List.append_nil]; rfl
  | cur, b :: l, m + 1, h1, h2, h3 => by
    rw [List.take_succ_cons, List.count_cons] at h2
    have hb : ¬ b = c := fun e => by rw [if_pos (by simp [e])] at h2; omega
    rw [if_neg (by simp [hb])] at h2
    rw [cutF, if_neg hb, cutF_idx c _ l m (by simpa using h1) (by omega) (by simpa using h3), List.append_assoc]
    rfl
theorem count_idx (c : UInt8) (l : List UInt8) (m : Nat) (h1 : m < l.length) (h2 : (l.take m).count c = 0) (h3 : l[m]? = some c) : l.count c = (l.drop (m + 1)).count c + 1 := by
  have e : l = l.take m ++ l[m] :: l.drop (m + 1) := by rw [← List.drop_eq_getElem_cons h1, List.take_append_drop]
  have e2 : l[m] = c := by rw [List.getElem?_eq_getElem h1] at h3; exact Option.some.inj h3
  rw [e2] at e
  conv => lhs; rw [e]
  rw [List.count_append, List.count_cons, if_pos (by simp), h2]; omega
def cutI (l : List UInt8) : List (List UInt8) := (cutL 10 l).take ((cutL 10 l).length - 1)
def cutE (l : List UInt8) : List UInt8 := (cutL 10 l).getD ((cutL 10 l).length - 1) []
theorem cutL_len (l : List UInt8) (hl : l.length ≤ 2 ^ 20) : 1 ≤ (cutL 10 l).length ∧ (cutL 10 l).length ≤ 2 ^ 20 + 1 := by
  have h : (cutL 10 l).length = l.count 10 + 1 := cutF_len ..
  have := List.count_le_length (a := (10 : UInt8)) (l := l)
  omega
theorem spec_l01Cut_wp {l : List UInt8} {c : UInt8} {K : List (List UInt8) → Prop} (hl : l.length ≤ 2 ^ 20) (h : K (cutL c l)) : spec_l01Cut.wp l (c.toNat : Int) K := by
  intro X hX
  have hlen : (cutL c l).length ≤ 2 ^ 20 + 1 := by unfold cutL; rw [cutF_len]; have := List.count_le_length (a := c) (l := l); omega
  have key : ∀ (m i fr : Nat) (out : List (List UInt8)), i + m = l.length → fr ≤ i → out ++ cutF c ((l.drop fr).take (i - fr)) (l.drop i) = cutL c l → X out (fr : Int) (i : Int) := by
    intro m
    induction m with
    | zero =>
      intro i fr out h1 h2 h3
      obtain rfl : i = l.length := by omega
      rw [List.drop_of_length_le (Nat.le_refl _), cutF] at h3
      have ho : out.length + 1 = (cutL c l).length := by rw [← h3, List.length_append]; rfl
      refine hX _ _ _ ⟨fun _ => ⟨fun _ => ⟨by omega, by rw [len1]; omega, ?_⟩, fun c => absurd rfl c⟩, fun c => absurd (Int.le_refl _) c⟩
      rw [w1 (by omega), nn, nn, h3]
      exact hX _ _ _ ⟨fun c => absurd c (by omega), fun _ => h⟩
    | succ m ih =>
      intro i fr out h1 h2 h3
      have hi : i < l.length := by omega
      have ho : out.length + 1 ≤ (cutL c l).length := by rw [← h3, List.length_append, cutF_len]; omega
      rw [List.drop_eq_getElem_cons hi, cutF] at h3
      refine hX _ _ _ ⟨fun _ => ⟨fun c => absurd c (by omega), fun _ => ⟨by omega, fun c2 => ⟨by omega, by rw [len1]; omega, ?_⟩, fun c2 => ?_⟩⟩, fun c => absurd (show (i : Int) ≤ l.length by omega) c⟩
      · have hb : l[i] = c := by
          have : ((bt l i : Int)) = ((l[i].toNat : Nat) : Int) := by unfold bt; rw [nn, gD hi]
          rw [this] at c2
          exact UInt8.toNat_inj.1 (by omega)
        rw [if_pos hb] at h3
        rw [w1 (by omega), nn, nn]
        refine ih (i + 1) (i + 1) _ (by omega) (Nat.le_refl _) ?_
        rw [← h3, List.append_assoc, Nat.sub_self]; rfl
      · have hb : ¬ l[i] = c := by
          intro e
          apply c2
          unfold bt; rw [nn, gD hi, e]
        rw [if_neg hb] at h3
        rw [w1 (by omega)]
        refine ih (i + 1) fr _ (by omega) (by omega) ?_
        rw [← h3, show i + 1 - fr = (i - fr) + 1 by omega, List.take_succ_eq_append_getElem (by rw [List.length_drop]; omega)]
        congr 2
        rw [List.getElem_drop]
        congr 2
        congr 1
        omega
  exact key l.length 0 0 [] (by omega) (Nat.le_refl _) (by simp [cutL])
theorem strings_Index_wp {l : List UInt8} {c : UInt8} {K : Int → Prop} (h : K (Lib.indexByte l c)) : strings_Index.wp l [c] K := ⟨c, rfl, h⟩
theorem strings_Split_wp {l : List UInt8} {c : UInt8} {K : List (List UInt8) → Prop} (hl : l.length ≤ 2 ^ 20) (h : K (cutL c l)) : strings_Split.wp l [c] K := by
  have hcl := List.count_le_length (a := c) (l := l)
  have hlen : (cutL c l).length = l.count c + 1 := cutF_len ..
  refine ⟨fun c => absurd c (by decide), fun _ => ⟨fun c => (by cases c), fun _ => ⟨fun _ => ⟨c, rfl, ?_⟩, fun c => absurd (show (-1 : Int) < 0 by decide) c⟩⟩⟩
  have e0 : Lib.countByte l c = l.count c := rfl
  have e1 : mnI (IntKind.i64.wrap (((Lib.countByte l c : Nat) : Int) + 1)) (IntKind.i64.wrap ((l.length : Int) + 1)) = ((l.count c + 1 : Nat) : Int) := by
    rw [e0, wI (by omega), wI (by omega)]; unfold mnI; split <;> omega
  dsimp only
  rw [e1]
  refine ⟨by omega, fun X hX => ?_⟩
  have e2 : IntKind.i64.wrap (((l.count c + 1 : Nat) : Int) - 1) = ((l.count c : Nat) : Int) := by rw [wI (by omega)]; omega
  rw [e2] at hX
  rw [nn]
  have key : ∀ (m i : Nat) (a : List (List UInt8)) (s : List UInt8), i + m = l.count c → a.length = l.count c + 1 → s.length ≤ l.length → s.count c = m → a.take i ++ cutF c [] s = cutL c l → X a s (i : Int) := by
    intro m
    induction m with
    | zero =>
      intro i a s h1 h2 h3 h4 h5
      rw [cutF_none c [] s h4] at h5
      refine hX _ _ _ ⟨fun c => absurd c (by omega), fun _ => ⟨by omega, ⟨by omega, by rw [w1 (by omega)]; omega, by rw [w1 (by omega), List.length_set]; omega⟩, ?_⟩⟩
      rw [w1 (by omega), nn, nn]
      have : ((a.set i s).drop (0 : Int).toNat).take ((i + 1) - (0 : Int).toNat) = cutL c l := by
        show ((a.set i s).drop 0).take (i + 1) = _
        rw [List.drop_zero, List.take_succ_eq_append_getElem (by rw [List.length_set]; omega), List.take_set_of_le (by omega), List.getElem_set_self, ← h5]; rfl
      rw [this]; exact h
    | succ m ih =>
      intro i a s h1 h2 h3 h4 h5
      refine hX _ _ _ ⟨fun _ => strings_Index_wp ?_, fun c => absurd (show (i : Int) < (l.count _ : Nat) by omega) c⟩
      rcases idx_spec c s with ⟨g1, g2⟩ | ⟨k, g1, g2, g3, g4⟩
      · omega
      · have g5 := count_idx c s k g2 g3 g4
        rw [cutF_idx c [] s k g2 g3 g4] at h5
        rw [g1]
        refine ⟨fun c => absurd c (by omega), fun _ => ?_⟩
        have k1 : IntKind.i64.wrap ((k : Int) + 0) = (k : Int) := by rw [wI (by omega)]; omega
        have k2 : IntKind.i64.wrap ((k : Int) + (([c] : List UInt8).length : Int)) = ((k + 1 : Nat) : Int) := by rw [len1, wI (by omega)]; omega
        rw [k1, k2, w1 (by omega)]
        simp only [nn]
        refine ⟨by omega, by omega, by omega, ?_⟩
        have s1 : (s.drop (0 : Int).toNat).take (k - (0 : Int).toNat) = s.take k := by show (s.drop 0).take k = _; rw [List.drop_zero]
        have s2 : (s.drop (k + 1)).take (s.length - (k + 1)) = s.drop (k + 1) := by
          exact List.take_of_length_le (by rw [List.length_drop]; omega)
        rw [s1, s2]
        refine ih (i + 1) _ _ (by omega) (by rw [List.length_set]; exact h2) (by rw [List.length_drop]; omega) (by omega) ?_
        rw [← h5, List.take_succ_eq_append_getElem (by rw [List.length_set]; omega), List.take_set_of_le (by omega), List.getElem_set_self, List.append_assoc]; rfl
  exact key (l.count c) 0 _ l (by omega) (by simp) (Nat.le_refl _) rfl (by simp [cutL])

end Go.Proofs.YtmbkjkcolmoioaaGreatDoor.G

namespace Go.Proofs.YtmbkjkcolmoioaaGreatDoor.G
open Go Go.Ab
set_option maxRecDepth 100000
set_option linter.unusedVariables false
set_option linter.unusedSimpArgs false
set_option maxHeartbeats 1000000
/-- The number that the digits spell; other bytes are passed over. -/
def valF : Nat → List UInt8 → Nat
  | a, [] => a
  | a, b :: l => valF (if 48 ≤ b.toNat ∧ b.toNat ≤ 57 then 10 * a + (b.toNat - 48) else a) l
theorem valF_app : ∀ (a : Nat) (l m : List UInt8), valF a (l ++ m) = valF (valF a l) m
  | a, [], m => rfl
  | a, b :: l, m => by rw [List.cons_append, valF, valF, valF_app]
theorem valF_lt : ∀ (l : List UInt8) (a k : Nat), a < 10 ^ k → valF a l < 10 ^ (k + l.length)
  | [], a, k, h => h
  | b :: l, a, k, h => by
    rw [valF, List.length_cons, show k + (l.length + 1) = (k + 1) + l.length by omega]
    refine valF_lt l _ (k + 1) ?_
    rw [Nat.pow_succ]
    split <;> omega
theorem valF_mono : ∀ (l : List UInt8) (a : Nat), a ≤ valF a l
  | [], a => Nat.le_refl a
  | b :: l, a => by
    rw [valF]
    refine Nat.le_trans ?_ (valF_mono l _)
    split <;> omega
theorem dig_toNat (d : Nat) (h : d < 10) : (UInt8.ofNat (48 + d)).toNat = 48 + d := by show (48 + d) % 256 = _; omega
theorem dd_val (n : Nat) : valF 0 (dd n) = n ∧ ∀ b ∈ dd n, 48 ≤ b.toNat ∧ b.toNat ≤ 57 := by
  induction n using Nat.strongRecOn with
  | ind n ih =>
    by_cases h : n = 0
    · subst h; exact ⟨rfl, fun b hb => absurd hb (List.not_mem_nil)⟩
    · obtain ⟨h1, h2⟩ := ih (n / 10) (by omega)
      have hd := dig_toNat (n % 10) (by omega)
      rw [dd_pos h]
      refine ⟨?_, fun b hb => ?_⟩
      · rw [valF_app, h1]
        show (if 48 ≤ (UInt8.ofNat (48 + n % 10)).toNat ∧ (UInt8.ofNat (48 + n % 10)).toNat ≤ 57 then 10 * (n / 10) + ((UInt8.ofNat (48 + n % 10)).toNat - 48) else n / 10) = n
        rw [hd, if_pos (by omega)]; omega
      · rcases List.mem_append.1 hb with hb | hb
        · exact h2 b hb
        · rw [List.mem_singleton] at hb; subst hb; omega
theorem dec_val (n : Nat) : valF 0 (Lib.decDigits n) = n ∧ (∀ b ∈ Lib.decDigits n, 48 ≤ b.toNat ∧ b.toNat ≤ 57) ∧ Lib.decDigits n ≠ [] := by
  rw [dd_step]
  obtain ⟨h1, h2⟩ := dd_val (n / 10)
  have hd := dig_toNat (n % 10) (by omega)
  refine ⟨?_, fun b hb => ?_, by simp⟩
  · rw [valF_app, h1]
    show (if 48 ≤ (UInt8.ofNat (48 + n % 10)).toNat ∧ (UInt8.ofNat (48 + n % 10)).toNat ≤ 57 then 10 * (n / 10) + ((UInt8.ofNat (48 + n % 10)).toNat - 48) else n / 10) = n
    rw [hd, if_pos (by omega)]; omega
  · rcases List.mem_append.1 hb with hb | hb
    · exact h2 b hb
    · rw [List.mem_singleton] at hb; subst hb; omega
/-- A numeral as both packages write it, of a number in their bounds. -/
def isNum (t : List UInt8) (n : Int) : Prop := okV n = true ∧ Lib.itoa n = t
theorem okV_iff {n : Int} : okV n = true ↔ -1000000000000000 ≤ n ∧ n ≤ 1000000000000000 := by
  unfold okV; rw [Bool.and_eq_true, decide_eq_true_eq, decide_eq_true_eq]
theorem itoa_val (n : Int) : (valF 0 (Lib.itoa n) : Int) = n.natAbs ∧ (Lib.itoa n ≠ []) ∧ (n < 0 → ∃ r, Lib.itoa n = 45 :: r ∧ r = Lib.decDigits n.natAbs) ∧ (¬ n < 0 → Lib.itoa n = Lib.decDigits n.natAbs ∧ ∀ b ∈ Lib.itoa n, 48 ≤ b.toNat ∧ b.toNat ≤ 57) := by
  unfold Lib.itoa
  by_cases h : n < 0
  · obtain ⟨h1, h2, h3⟩ := dec_val n.natAbs
    rw [if_pos h]
    refine ⟨?_, by simp, fun _ => ⟨_, rfl, rfl⟩, fun c => absurd h c⟩
    show ((valF 0 (Lib.decDigits n.natAbs) : Nat) : Int) = _
    rw [h1]
  · obtain ⟨h1, h2, h3⟩ := dec_val n.toNat
    rw [if_neg h]
    refine ⟨by rw [h1]; omega, h3, fun c => absurd c h, fun _ => ⟨by rw [show n.toNat = n.natAbs by omega], h2⟩⟩
theorem parseM : ∀ (l : List UInt8) (a M : Nat), (∀ b ∈ l, 48 ≤ b.toNat ∧ b.toNat ≤ 57) → valF a l ≤ M → valF a l ≤ 1000000000000000000 → Lib.parseUintM M a l = .ok (valF a l)
  | [], a, M, _, _, _ => rfl
  | b :: l, a, M, h, h1, h2 => by
    have hb := h b (List.mem_cons_self ..)
    rw [valF, if_pos hb] at h1 h2 ⊢
    have hm := valF_mono l (10 * a + (b.toNat - 48))
    rw [Lib.parseUintM, if_pos hb, if_neg (by omega), if_neg (by omega), show a * 10 + (b.toNat - 48) = 10 * a + (b.toNat - 48) by omega]
    exact parseM l _ M (fun c hc => h c (List.mem_cons_of_mem _ hc)) h1 h2
theorem parse_itoa {n : Int} (hn : okV n = true) : Lib.parseIntB 64 (Lib.itoa n) = .ok n := by
  rw [okV_iff] at hn
  obtain ⟨_, _, hneg, hpos⟩ := itoa_val n
  obtain ⟨v1, v2, v3⟩ := dec_val n.natAbs
  have hM : Lib.parseUintB 64 (Lib.decDigits n.natAbs) = .ok n.natAbs := by
    unfold Lib.parseUintB
    rw [if_neg v3, parseM _ 0 _ v2 (by rw [v1]; omega) (by rw [v1]; omega), v1]
  by_cases h : n < 0
  · obtain ⟨r, e, er⟩ := hneg h
    rw [e]
    unfold Lib.parseIntB
    dsimp only
    rw [if_pos (by decide), er, hM]
    dsimp only
    rw [if_neg (by intro c; exact c.1 (by decide)), if_neg (by intro c; have := c.2; omega), if_pos (by decide)]
    congr 1; omega
  · obtain ⟨e, hd⟩ := hpos h
    rw [e] at hd ⊢
    cases hl : Lib.decDigits n.natAbs with
    | nil => exact absurd hl v3
    | cons c r =>
      rw [hl] at hd hM
      have hc := hd c (List.mem_cons_self ..)
      unfold Lib.parseIntB
      dsimp only
      rw [if_neg (by omega), hM]
      dsimp only
      rw [if_neg (by intro g; have := g.2; omega), if_neg (by intro g; have := g.1; omega), if_neg (by omega)]
      congr 1; omega
theorem parse_bound {l : List UInt8} {v : Int} (h : Lib.parseIntB 64 l = .ok v) : -2 ^ 63 ≤ v ∧ v < 2 ^ 63 := by
  unfold Lib.parseIntB at h
  split at h
  · cases h
  · rename_i c r
    dsimp only at h
    split at h
    · cases h
    · cases h
    · rename_i u _
      split at h
      · cases h
      · split at h
        · cases h
        · rename_i h1 h2
          cases h
          split <;> omega
theorem impl_isValue2_wp {n : Int} {K : Bool → Prop} (h : K (okV n)) : impl_isValue.wp n K := by
  unfold okV at h
  refine ⟨fun c => ?_, fun c => ?_⟩
  · rw [decide_eq_true c, Bool.true_and] at h; exact h
  · rw [decide_eq_false c, Bool.false_and] at h; exact h
theorem impl_ReadDecimal_wp {t : List UInt8} {K : Int → Bool → Prop} (ht : t.length ≤ 2 ^ 20) (h1 : ∀ n, isNum t n → K n true) (h2 : (∀ n, ¬ isNum t n) → K 0 false) : impl_ReadDecimal.wp t K := by
  refine ⟨⟨⟨rfl, rfl⟩, by omega⟩, ?_⟩
  have no : (∀ v, Lib.parseIntB 64 t ≠ .ok v) → K 0 false := fun hh => h2 fun n ⟨hn, e⟩ => hh n (by rw [← e]; exact parse_itoa hn)
  cases hp : Lib.parseIntB 64 t with
  | ok v =>
    refine tT (impl_isValue2_wp ⟨fun hv => impl_Dec_wp (parse_bound hp) ⟨fun e => h1 v ⟨hv, e⟩, fun e => h2 fun n hn => ?_⟩, fun hv => h2 fun n hn => ?_⟩)
    · have := parse_itoa hn.1
      rw [hn.2, hp] at this
      cases this
      exact e hn.2
    · have := parse_itoa hn.1
      rw [hn.2, hp] at this
      cases this
      rw [hn.1] at hv; cases hv
  | «syntax» => exact ⟨fun c => (by cases c), fun _ => no (by rw [hp]; intro v c; cases c)⟩
  | range => exact ⟨fun c => (by cases c), fun _ => no (by rw [hp]; intro v c; cases c)⟩
theorem btG {a : List UInt8} {i : Nat} (hi : i < a.length) : bt a (i : Int) = ((a[i]).toNat : Int) := by
  unfold bt; rw [nn, gD hi]
theorem spec_l01Value_wp {t : List UInt8} {K : Int → Bool → Prop} (h1 : ∀ n, isNum t n → K n true) (h2 : (∀ n, ¬ isNum t n) → K 0 false) : spec_l01Value.wp t K := by
  have lenN : ∀ n, isNum t n → 1 ≤ t.length ∧ t.length ≤ 17 := fun n hn => by
    obtain ⟨hv, rfl⟩ := hn
    rw [okV_iff] at hv
    have h0 := (itoa_val n).2.1
    refine ⟨List.length_pos_iff.2 h0, ?_⟩
    have key : ∀ m : Nat, m ≤ 1000000000000000 → (Lib.decDigits m).length ≤ 16 := by
      have gen : ∀ (k m : Nat), m < 10 ^ (k + 1) → (Lib.decDigits m).length ≤ k + 1 := by
        intro k
        induction k with
        | zero => intro m hm; rw [dd_step, List.length_append, len1, show m / 10 = 0 by omega]; exact Nat.le_refl _
        | succ k ih =>
          intro m hm
          rw [dd_step, List.length_append, len1]
          unfold dd
          split
          · simp
          · have := ih (m / 10) (by rw [Nat.pow_succ] at hm; omega)
            omega
      intro m hm
      exact gen 15 m (by omega)
    have := key n.natAbs (by omega)
    unfold Lib.itoa
    split
    · rw [List.length_cons]; omega
    · rw [show n.toNat = n.natAbs by omega]; omega
  refine ⟨fun c => h2 fun n hn => by have := lenN n hn; omega, fun c1 => ⟨fun c => h2 fun n hn => by have := lenN n hn; omega, fun c2 X hX => ?_⟩⟩
  have hl1 : 1 ≤ t.length := by omega
  have hl2 : t.length ≤ 17 := by omega
  have bnd : ∀ i, i ≤ t.length → valF 0 (t.take i) < 10 ^ 17 := fun i hi => by
    have := valF_lt (t.take i) 0 0 (by decide)
    rw [List.length_take, Nat.zero_add] at this
    exact Nat.lt_of_lt_of_le this (Nat.pow_le_pow_right (by decide) (by omega))
  have key : X ((valF 0 (t.take 0) : Nat) : Int) ((0 : Nat) : Int) := by
    refine up (Y := fun i => X ((valF 0 (t.take i) : Nat) : Int) (i : Int)) t.length ?_ fun i hi hn => ?_
    · refine hX _ _ ⟨fun c => absurd c (by omega), fun _ => ⟨by omega, ?_⟩⟩
      have hb := bnd t.length (Nat.le_refl _)
      rw [List.take_length] at hb ⊢
      have e0 : bt t (0 : Int) = ((t[0]'(by omega)).toNat : Int) := btG (i := 0) (by omega)
      have fin : ∀ v : Int, v = valF 0 t ∨ v = -(valF 0 t : Int) → ((t[0]'(by omega)).toNat = 45 → v = -(valF 0 t : Int)) → ((t[0]'(by omega)).toNat ≠ 45 → v = valF 0 t) → spec_l00In.wp v (-1000000000000000 : Int) (1000000000000000 : Int) fun y112 => ((y112 = true → spec_l01Dec.wp v fun y115 => ((y115 = t → K v true) ∧ (¬(y115 = t) → K 0 false))) ∧ (y112 = false → K 0 false)) := by
        intro v hv g1 g2
        have cmp : ∀ n, isNum t n → v = n := fun n hn => by
          obtain ⟨hv2, e⟩ := hn
          obtain ⟨k1, k2, k3, k4⟩ := itoa_val n
          rw [e] at k1 k2 k3 k4
          by_cases h : n < 0
          · obtain ⟨r, er, _⟩ := k3 h
            have : (t[0]'(by omega)).toNat = 45 := by
              have : t[0]'(by omega) = 45 := by simp [er]
              rw [this]; rfl
            rw [g1 this]; omega
          · have := (k4 h).2 (t[0]'(by omega)) (List.getElem_mem _)
            rw [g2 (by omega)]; omega
        have main : ∀ b : Bool, b = okV v → ((b = true → spec_l01Dec.wp v fun y115 => ((y115 = t → K v true) ∧ (¬(y115 = t) → K 0 false))) ∧ (b = false → K 0 false)) := by
          intro b hb
          refine ⟨fun c => spec_l01Dec_wp (by rw [c] at hb; have := okV_iff.1 hb.symm; omega) ⟨fun e => h1 v ⟨by rw [← hb, c], e⟩, fun e => h2 fun n hn => e (by rw [cmp n hn]; exact hn.2)⟩, fun c => h2 fun n hn => ?_⟩
          have := cmp n hn
          rw [this, hn.1] at hb
          rw [hb] at c; cases c
        refine ⟨fun c => ?_, fun c => ?_⟩
        · refine main _ ?_
          unfold okV; rw [decide_eq_true c, Bool.true_and]
        · refine main _ ?_
          unfold okV; rw [decide_eq_false c, Bool.false_and]
      refine ⟨fun c => ?_, fun c => ?_⟩
      · rw [e0] at c
        rw [wI (by omega), show (0 : Int) - (valF 0 t : Int) = -(valF 0 t : Int) by omega]
        exact fin _ (.inr rfl) (fun _ => rfl) (fun g => absurd (by omega) g)
      · rw [e0] at c
        exact fin _ (.inl rfl) (fun g => absurd (by omega) c) (fun _ => rfl)
    · have h8 := (t[i]).toNat_lt
      have hb := bnd (i + 1) (by omega)
      have hb0 := bnd i (by omega)
      rw [List.take_succ_eq_append_getElem hi, valF_app] at hn hb
      refine hX _ _ ⟨fun _ => ⟨by omega, ?_⟩, fun c => absurd (show (i : Int) < t.length by omega) c⟩
      rw [btG hi, w1 (by omega)]
      by_cases hd : 48 ≤ (t[i]).toNat ∧ (t[i]).toNat ≤ 57
      · have ev : valF (valF 0 (t.take i)) [t[i]] = 10 * valF 0 (t.take i) + ((t[i]).toNat - 48) := by show (if _ then _ else _) = _; rw [if_pos hd]
        rw [ev] at hn hb
        refine ⟨fun _ => ⟨fun _ => ?_, fun c => absurd (by omega) c⟩, fun c => absurd (by omega) c⟩
        have e8 : IntKind.u8.wrap (((t[i]).toNat : Int) - 48) = (((t[i]).toNat - 48 : Nat) : Int) := by
          rw [show ((t[i]).toNat : Int) - 48 = (((t[i]).toNat - 48 : Nat) : Int) by omega]; exact u8W _ (by omega)
        rw [e8, wI (n := (((t[i]).toNat - 48 : Nat) : Int)) (by omega), wI (n := (10 : Int) * _) (by omega), wI (by omega)]
        rw [show (10 : Int) * ((valF 0 (t.take i) : Nat) : Int) + (((t[i]).toNat - 48 : Nat) : Int) = ((10 * valF 0 (t.take i) + ((t[i]).toNat - 48) : Nat) : Int) by omega]
        exact hn
      · have ev : valF (valF 0 (t.take i)) [t[i]] = valF 0 (t.take i) := by show (if _ then _ else _) = _; rw [if_neg hd]
        rw [ev] at hn
        exact ⟨fun c => ⟨fun c2 => absurd ⟨by omega, by omega⟩ hd, fun _ => hn⟩, fun _ => hn⟩
  exact key

end Go.Proofs.YtmbkjkcolmoioaaGreatDoor.G

namespace Go.Proofs.YtmbkjkcolmoioaaGreatDoor.G
open Go Go.Ab
set_option maxRecDepth 100000
set_option linter.unusedVariables false
set_option linter.unusedSimpArgs false
set_option maxHeartbeats 1000000
open Classical in
noncomputable def nv (t : List UInt8) : Option Int := if h : ∃ n, isNum t n then some h.choose else none
theorem isNum_uniq {t : List UInt8} {n m : Int} (h : isNum t n) (k : isNum t m) : n = m := by
  have h1 := parse_itoa h.1
  have h2 := parse_itoa k.1
  rw [h.2] at h1
  rw [k.2, h1] at h2
  cases h2; rfl
theorem nv_some {t : List UInt8} {n : Int} (h : isNum t n) : nv t = some n := by
  unfold nv
  rw [dif_pos ⟨n, h⟩]
  exact congrArg some (isNum_uniq (Exists.choose_spec (⟨n, h⟩ : ∃ n, isNum t n)) h)
theorem nv_none {t : List UInt8} (h : ∀ n, ¬ isNum t n) : nv t = none := by
  unfold nv
  rw [dif_neg fun ⟨n, hn⟩ => h n hn]
noncomputable def allN (ps : List (List UInt8)) : Bool := ps.all fun t => (nv t).isSome
noncomputable def valsN (ps : List (List UInt8)) : List Int := ps.map fun t => (nv t).getD 0
theorem valsN_len (ps : List (List UInt8)) : (valsN ps).length = ps.length := by unfold valsN; exact List.length_map ..
def pcs (t : List UInt8) : List (List UInt8) := if t = [110, 111, 110, 101] then [] else cutL 44 t
theorem cutF_mem (c : UInt8) : ∀ (cur l x : List UInt8), x ∈ cutF c cur l → x.length ≤ cur.length + l.length
  | cur, [], x, h => by rw [cutF, List.mem_singleton] at h; subst h; simp
  | cur, b :: l, x, h => by
    rw [cutF] at h
    split at h
    · rcases List.mem_cons.1 h with rfl | h
      · rw [List.length_cons]; omega
      · have := cutF_mem c [] l x h
        rw [List.length_cons]; rw [List.length_nil] at this; omega
    · have := cutF_mem c _ l x h
      rw [List.length_append, len1] at this
      rw [List.length_cons]; omega
theorem pcs_mem {t x : List UInt8} (h : x ∈ pcs t) : x.length ≤ t.length := by
  unfold pcs at h
  split at h
  · exact absurd h (List.not_mem_nil)
  · have := cutF_mem 44 [] t x h
    rw [List.length_nil] at this; omega
theorem pcs_len (t : List UInt8) : (pcs t).length ≤ t.length + 1 := by
  unfold pcs
  split
  · exact Nat.zero_le _
  · have h : (cutL 44 t).length = t.count 44 + 1 := cutF_len ..
    have := List.count_le_length (a := (44 : UInt8)) (l := t)
    omega
/-- A loop that reads piece after piece and ends early where one can't be read. -/
theorem read_loop (ps : List (List UInt8)) {X : List Int → Int → Prop} {T F : Prop}
    (hX : ∀ (i : Nat) (h : i < ps.length) (out : List Int), out.length = i → ((∀ n, nv ps[i] = some n → X (out ++ [n]) ((i + 1 : Nat) : Int)) ∧ (nv ps[i] = none → F)) → X out (i : Int))
    (hend : X (valsN ps) (ps.length : Int)) (hf : allN ps = false → F) : (allN ps = false ∨ True) → (allN ps = true → T) → X [] (0 : Int) := by
  intro _ _
  have key : ∀ (m i : Nat), i + m = ps.length → X (valsN (ps.take i)) (i : Int) := by
    intro m
    induction m with
    | zero =>
      intro i hi
      obtain rfl : i = ps.length := by omega
      rw [List.take_length]; exact hend
    | succ m ih =>
      intro i hi
      have hi' : i < ps.length := by omega
      refine hX i hi' _ (by rw [valsN_len, List.length_take]; omega) ⟨fun n hn => ?_, fun hn => hf ?_⟩
      · have e : valsN (ps.take i) ++ [n] = valsN (ps.take (i + 1)) := by
          unfold valsN
          rw [List.take_succ_eq_append_getElem hi', List.map_append, List.map_cons, List.map_nil, hn]; rfl
        rw [e]; exact ih (i + 1) (by omega)
      · unfold allN
        rw [List.all_eq_false]
        exact ⟨_, List.getElem_mem hi', by rw [hn]; decide⟩
  exact key ps.length 0 (by omega)
theorem spec_l01Numbers_wp {t : List UInt8} {K : List Int → Bool → Prop} (ht : t.length ≤ 2 ^ 20) (h1 : (pcs t).length ≤ 64 ∧ allN (pcs t) = true → K (valsN (pcs t)) true) (h2 : ¬ ((pcs t).length ≤ 64 ∧ allN (pcs t) = true) → K [] false) : spec_l01Numbers.wp t K := by
  refine ⟨fun c => ?_, fun c => spec_l01Cut_wp (c := 44) ht ?_⟩
  · have e : pcs t = [] := by unfold pcs; rw [if_pos c]
    rw [e] at h1
    exact h1 ⟨Nat.zero_le _, rfl⟩
  · have e : pcs t = cutL 44 t := by unfold pcs; rw [if_neg c]
    have hpl := pcs_len t
    rw [e] at h1 h2 hpl
    generalize cutL 44 t = ps at h1 h2 hpl
    refine ⟨fun c => h2 (by omega), fun c X hX => ?_⟩
    cases ha : allN ps with
    | true =>
      refine read_loop ps (T := True) (F := K [] false) (fun i hi out ho hh => hX _ _ ⟨fun _ => ⟨by omega, ?_⟩, fun c => absurd (show (i : Int) < ps.length by omega) c⟩) (hX _ _ ⟨fun c => absurd c (by omega), fun _ => h1 ⟨by omega, ha⟩⟩) (fun c => by rw [ha] at c; cases c) (.inr trivial) (fun _ => trivial)
      rw [nn, gD hi, w1 (by omega)]
      exact spec_l01Value_wp (fun n hn => tT ⟨by rw [len1]; omega, hh.1 n (nv_some hn)⟩) fun hn => ⟨fun c => (by cases c), fun _ => hh.2 (nv_none hn)⟩
    | false =>
      have hF : K [] false := h2 fun g => by rw [ha] at g; cases g.2
      have key : ∀ (m i : Nat) (out : List Int), i + m = ps.length → out.length = i → allN (ps.drop i) = false → X out (i : Int) := by
        intro m
        induction m with
        | zero => intro i out hi ho hd; rw [List.drop_of_length_le (by omega)] at hd; cases hd
        | succ m ih =>
          intro i out hi ho hd
          have hi' : i < ps.length := by omega
          refine hX _ _ ⟨fun _ => ⟨by omega, ?_⟩, fun c => absurd (show (i : Int) < ps.length by omega) c⟩
          rw [nn, gD hi', w1 (by omega)]
          refine spec_l01Value_wp (fun n hn => tT ⟨by rw [len1]; omega, ih (i + 1) _ (by omega) (by rw [List.length_append, len1, ho]) ?_⟩) fun hn => ⟨fun c => (by cases c), fun _ => hF⟩
          rw [List.drop_eq_getElem_cons hi'] at hd
          unfold allN at hd ⊢
          rw [List.all_cons, nv_some hn] at hd
          exact hd
      exact key ps.length 0 [] (by omega) rfl (by rw [List.drop_zero]; exact ha)
theorem impl_pieces_wp {t : List UInt8} {K : List (List UInt8) → Prop} (ht : t.length ≤ 2 ^ 20) (h : K (pcs t)) : impl_pieces.wp t K := by
  unfold pcs at h
  refine ⟨fun c => ?_, fun c => strings_Split_wp (c := 44) ht ?_⟩
  · rw [if_pos c] at h; exact h
  · rw [if_neg c] at h; exact h
theorem impl_ReadList_wp {t : List UInt8} {K : List Int → Bool → Prop} (ht : t.length ≤ 2 ^ 20) (h1 : (pcs t).length ≤ 64 ∧ allN (pcs t) = true → K (valsN (pcs t)) true) (h2 : ¬ ((pcs t).length ≤ 64 ∧ allN (pcs t) = true) → K [] false) : impl_ReadList.wp t K := by
  unfold impl_ReadList.wp impl_readList.wp
  refine impl_pieces_wp ht ?_
  intro X hX
  have hpl := pcs_len t
  have hpm : ∀ x ∈ pcs t, x.length ≤ 2 ^ 20 := fun x hx => Nat.le_trans (pcs_mem hx) ht
  generalize pcs t = ps at h1 h2 hX hpl hpm
  cases ha : allN ps with
  | true =>
    refine read_loop ps (T := True) (F := K [] false) (fun i hi out ho hh => hX _ _ ⟨fun _ => ⟨by omega, ?_⟩, fun c => absurd (show (i : Int) < ps.length by omega) c⟩) (hX _ _ ⟨fun c => absurd c (by omega), fun _ => tT ?_⟩) (fun c => by rw [ha] at c; cases c) (.inr trivial) (fun _ => trivial)
    · rw [nn, gD hi, w1 (by omega)]
      exact impl_ReadDecimal_wp (hpm _ (List.getElem_mem hi)) (fun n hn => tT ⟨by rw [len1]; omega, hh.1 n (nv_some hn)⟩) fun hn => ⟨fun c => (by cases c), fun _ => ⟨fun c => (by cases c), fun _ => hh.2 (nv_none hn)⟩⟩
    · refine ⟨fun c => h2 fun g => ?_, fun c => h1 ⟨?_, ha⟩⟩
      · rw [valsN_len] at c; omega
      · rw [valsN_len] at c; omega
  | false =>
    have hF : K [] false := h2 fun g => by rw [ha] at g; cases g.2
    have key : ∀ (m i : Nat) (out : List Int), i + m = ps.length → out.length = i → allN (ps.drop i) = false → X out (i : Int) := by
      intro m
      induction m with
      | zero => intro i out hi ho hd; rw [List.drop_of_length_le (by omega)] at hd; cases hd
      | succ m ih =>
        intro i out hi ho hd
        have hi' : i < ps.length := by omega
        refine hX _ _ ⟨fun _ => ⟨by omega, ?_⟩, fun c => absurd (show (i : Int) < ps.length by omega) c⟩
        rw [nn, gD hi', w1 (by omega)]
        refine impl_ReadDecimal_wp (hpm _ (List.getElem_mem hi')) (fun n hn => tT ⟨by rw [len1]; omega, ih (i + 1) _ (by omega) (by rw [List.length_append, len1, ho]) ?_⟩) fun hn => ⟨fun c => (by cases c), fun _ => ⟨fun c => (by cases c), fun _ => hF⟩⟩
        rw [List.drop_eq_getElem_cons hi'] at hd
        unfold allN at hd ⊢
        rw [List.all_cons, nv_some hn] at hd
        exact hd
    exact key ps.length 0 [] (by omega) rfl (by rw [List.drop_zero]; exact ha)
theorem strings_CutC_wp {x : List UInt8} {c : UInt8} {K : List UInt8 → List UInt8 → Bool → Prop} (hx : x.length ≤ 2 ^ 40) (h0 : x.count c = 0 → K x [] false) (h1 : ∀ m, m < x.length → (x.take m).count c = 0 → x[m]? = some c → K (x.take m) (x.drop (m + 1)) true) : strings_Cut.wp x [c] K := by
  rcases idx_spec c x with ⟨e, hc⟩ | ⟨m, e, hm, hc, hg⟩
  · refine ⟨c, rfl, ?_⟩
    rw [e]
    exact ⟨fun g => absurd g (by decide), fun _ => h0 hc⟩
  · have := h1 m hm hc hg
    refine ⟨c, rfl, ?_⟩
    rw [e]
    refine ⟨fun _ => ?_, fun g => absurd (Int.natCast_nonneg m) g⟩
    rw [len1, show (m : Int) + ((1 : Nat) : Int) = (m : Int) + 1 from rfl, w1 (by omega), nn, nn, nn]
    have e1 : ((x.drop (0 : Int).toNat).take (m - (0 : Int).toNat)) = x.take m := by show (x.drop 0).take _ = _; rw [List.drop_zero]; rfl
    have e2 : (x.drop (m + 1)).take (x.length - (m + 1)) = x.drop (m + 1) := List.take_of_length_le (by rw [List.length_drop]; omega)
    rw [e1, e2]
    exact ⟨by omega, by omega, this⟩

end Go.Proofs.YtmbkjkcolmoioaaGreatDoor.G

namespace Go.Proofs.YtmbkjkcolmoioaaGreatDoor.G
open Go Go.Ab
set_option maxRecDepth 100000
set_option linter.unusedVariables false
set_option linter.unusedSimpArgs false
set_option maxHeartbeats 1000000
def hdig (b : UInt8) : Nat := if b.toNat ≤ 57 then b.toNat - 48 else b.toNat - 87
def isLow (b : UInt8) : Bool := decide (48 ≤ b.toNat ∧ b.toNat ≤ 57) || decide (97 ≤ b.toNat ∧ b.toNat ≤ 102)
def lowH (l : List UInt8) : Bool := l.all isLow
def valHF : Nat → List UInt8 → Nat
  | a, [] => a
  | a, b :: l => valHF (16 * a + hdig b) l
def valH (l : List UInt8) : Nat := valHF 0 l
theorem valHF_app : ∀ (a : Nat) (l m : List UInt8), valHF a (l ++ m) = valHF (valHF a l) m
  | a, [], m => rfl
  | a, b :: l, m => by rw [List.cons_append, valHF, valHF, valHF_app]
theorem low_hxd : ∀ d : Nat, d < 16 → isLow (hxd d) = true ∧ hdig (hxd d) = d := by decide +kernel
theorem low_dig {b : UInt8} (h : isLow b = true) : hdig b < 16 ∧ hxd (hdig b) = b := by
  have key : ∀ n : Nat, n < 256 → isLow (UInt8.ofNat n) = true → hdig (UInt8.ofNat n) < 16 ∧ hxd (hdig (UInt8.ofNat n)) = UInt8.ofNat n := by decide +kernel
  have := key b.toNat b.toNat_lt
  rw [UInt8.ofNat_toNat] at this
  exact this h
theorem hx_low : ∀ k v, lowH (hx k v) = true
  | 0, _ => rfl
  | k + 1, v => by
    unfold lowH
    rw [hx, List.all_append]
    have := hx_low k (v / 16)
    unfold lowH at this
    rw [this, List.all_cons, (low_hxd (v % 16) (Nat.mod_lt _ (by decide))).1]; rfl
theorem valH_hx : ∀ k v, v < 16 ^ k → valH (hx k v) = v
  | 0, v, h => by
    obtain rfl : v = 0 := by simpa using h
    rfl
  | k + 1, v, h => by
    unfold valH
    rw [hx, valHF_app]
    have := valH_hx k (v / 16) (by rw [Nat.pow_succ] at h; omega)
    unfold valH at this
    rw [this]
    show 16 * (v / 16) + hdig (hxd (v % 16)) = v
    rw [(low_hxd (v % 16) (Nat.mod_lt _ (by decide))).2]; omega
theorem hx_valH : ∀ (k : Nat) (p : List UInt8), p.length = k → lowH p = true → hx k (valH p) = p ∧ valH p < 16 ^ k
  | 0, p, h, _ => by
    obtain rfl := List.length_eq_zero_iff.1 h
    exact ⟨rfl, by decide⟩
  | k + 1, p, h, hl => by
    obtain ⟨q, b, rfl⟩ : ∃ q b, p = q ++ [b] := by
      have hne : p ≠ [] := fun e => by rw [e] at h; cases h
      exact ⟨p.dropLast, p.getLast hne, (List.dropLast_concat_getLast hne).symm⟩
    rw [List.length_append, len1] at h
    unfold lowH at hl
    rw [List.all_append, Bool.and_eq_true, List.all_cons, List.all_nil, Bool.and_true] at hl
    obtain ⟨h1, h2⟩ := low_dig hl.2
    obtain ⟨h3, h4⟩ := hx_valH k q (by omega) hl.1
    unfold valH at h3 h4 ⊢
    rw [valHF_app]
    show hx (k + 1) (16 * valHF 0 q + hdig b) = _ ∧ 16 * valHF 0 q + hdig b < _
    rw [hx, show (16 * valHF 0 q + hdig b) / 16 = valHF 0 q by omega, show (16 * valHF 0 q + hdig b) % 16 = hdig b by omega, h3, h2]
    exact ⟨rfl, by rw [Nat.pow_succ]; omega⟩
theorem low_take {p : List UInt8} {i : Nat} (hi : i < p.length) (h : lowH (p.take (i + 1)) = true) : lowH (p.take i) = true ∧ isLow p[i] = true ∧ valH (p.take (i + 1)) = 16 * valH (p.take i) + hdig p[i] := by
  unfold lowH valH at *
  rw [List.take_succ_eq_append_getElem hi] at h ⊢
  rw [List.all_append, Bool.and_eq_true, List.all_cons, List.all_nil, Bool.and_true] at h
  exact ⟨h.1, h.2, by rw [valHF_app]; rfl⟩
theorem cz_lt {v : Nat} (h : v < 2 ^ 32) : cz .f32 v < 2 ^ 32 := by
  unfold cz
  split
  · exact (by decide : (0x7fc00000 : Nat) < 2 ^ 32)
  · exact h
/-- A piece that both packages read. -/
def okH (p : List UInt8) : Bool := decide (p.length = 8) && lowH p && decide (bitsN (cz .f32 (valH p)) = valH p)
def vH (p : List UInt8) : Nat := cz .f32 (valH p)
theorem okH_iff {p : List UInt8} : okH p = true ↔ (p.length = 8 ∧ lowH p = true) ∧ bitsN (vH p) = valH p := by
  unfold okH vH; rw [Bool.and_eq_true, Bool.and_eq_true, decide_eq_true_eq, decide_eq_true_eq]
theorem okH_hx {p : List UInt8} (h : okH p = true) : hx 8 (bitsN (vH p)) = p ∧ vH p < 2 ^ 32 := by
  obtain ⟨⟨h1, h2⟩, h3⟩ := okH_iff.1 h
  obtain ⟨h4, h5⟩ := hx_valH 8 p h1 h2
  exact ⟨by rw [h3]; exact h4, cz_lt h5⟩
def allH (ps : List (List UInt8)) : Bool := ps.all okH
def valsH (ps : List (List UInt8)) : List Nat := ps.map vH
theorem valsH_len (ps : List (List UInt8)) : (valsH ps).length = ps.length := by unfold valsH; exact List.length_map ..
theorem allH_lt {ps : List (List UInt8)} (h : allH ps = true) : ∀ x ∈ valsH ps, x < 2 ^ 32 := fun x hx => by
  obtain ⟨p, hp, rfl⟩ := List.mem_map.1 hx
  exact (okH_hx (List.all_eq_true.1 h p hp)).2
/-! ### pieces and their text -/
theorem cutF_ne (c : UInt8) : ∀ (cur l : List UInt8), cutF c cur l ≠ []
  | cur, [] => by rw [cutF]; simp
  | cur, b :: l => by
    rw [cutF]
    split
    · simp
    · exact cutF_ne c _ l
theorem commas_cons {x : List UInt8} {l : List (List UInt8)} (h : l ≠ []) : commas (x :: l) = x ++ 44 :: commas l := by
  cases l with
  | nil => exact absurd rfl h
  | cons y l =>
    show x ++ (([44] ++ y) ++ Lib.joinTail [44] l) = x ++ 44 :: (y ++ Lib.joinTail [44] l)
    simp
theorem commas_cutF : ∀ (cur l : List UInt8), commas (cutF 44 cur l) = cur ++ l
  | cur, [] => by
    rw [cutF]
    show cur ++ Lib.joinTail [44] [] = _
    rfl
  | cur, b :: l => by
    rw [cutF]
    split
    · rename_i h
      rw [commas_cons (cutF_ne 44 [] l), commas_cutF [] l, h]; rfl
    · rw [commas_cutF _ l, List.append_assoc]; rfl
theorem commas_pcs (t : List UInt8) : commas (pcs t) = t := by
  unfold pcs
  split
  · rename_i h; rw [h]; rfl
  · exact commas_cutF [] t
theorem commas_inj : ∀ (l m : List (List UInt8)), l.length = m.length → (∀ x ∈ l, x.length = 8) → (∀ x ∈ m, x.length = 8) → commas l = commas m → l = m
  | [], [], _, _, _, _ => rfl
  | [x], [y], _, _, _, h => by
    have h : x ++ [] = y ++ [] := h
    rw [List.append_nil, List.append_nil] at h; rw [h]
  | x :: x2 :: l, y :: y2 :: m, hl, h1, h2, h => by
    rw [commas_cons (x := x) (l := x2 :: l) (by simp), commas_cons (x := y) (l := y2 :: m) (by simp)] at h
    obtain ⟨h3, h4⟩ := List.append_inj h (by rw [h1 x (List.mem_cons_self ..), h2 y (List.mem_cons_self ..)])
    have := commas_inj (x2 :: l) (y2 :: m) (by simpa using hl) (fun z hz => h1 z (List.mem_cons_of_mem _ hz)) (fun z hz => h2 z (List.mem_cons_of_mem _ hz)) (List.cons.inj h4).2
    rw [h3, this]
  | [], y :: m, hl, _, _, _ => by cases hl
  | x :: l, [], hl, _, _, _ => by cases hl
  | [x], y :: y2 :: m, hl, _, _, _ => by simp at hl
  | x :: x2 :: l, [y], hl, _, _, _ => by simp at hl
theorem cutF_in (c : UInt8) : ∀ (cur l : List UInt8) (x : UInt8), x ∈ cur ++ l → x ≠ c → ∃ p ∈ cutF c cur l, x ∈ p
  | cur, [], x, h, _ => by
    rw [List.append_nil] at h
    exact ⟨cur, by rw [cutF]; exact List.mem_singleton_self _, h⟩
  | cur, b :: l, x, h, hx => by
    rw [cutF]
    split
    · rename_i hb
      rcases List.mem_append.1 h with h | h
      · exact ⟨cur, List.mem_cons_self .., h⟩
      · rcases List.mem_cons.1 h with h | h
        · exact absurd (h.trans hb) hx
        · obtain ⟨p, h1, h2⟩ := cutF_in c [] l x h hx
          exact ⟨p, List.mem_cons_of_mem _ h1, h2⟩
    · refine cutF_in c _ l x ?_ hx
      rw [List.append_assoc]; exact h
/-- What both packages read has no semicolon in it. -/
theorem allH_semi {t : List UInt8} (h : allH (pcs t) = true) : ¬ (59 : UInt8) ∈ t := by
  intro hm
  unfold pcs at h
  split at h
  · rename_i e
    rw [e] at hm
    revert hm; decide
  · obtain ⟨p, h1, h2⟩ := cutF_in 44 [] t 59 hm (by decide)
    have := okH_iff.1 (List.all_eq_true.1 h p h1)
    have := List.all_eq_true.1 this.1.2 59 h2
    revert this; decide
/-! ### the specification -/
theorem w8sub {c a : Nat} (h : a ≤ c) (hc : c < 256) : IntKind.u8.wrap ((c : Int) - (a : Int)) = ((c - a : Nat) : Int) := by
  rw [show (c : Int) - (a : Int) = ((c - a : Nat) : Int) by omega]; exact u8W _ (by omega)
theorem spec_l01NRead_wp {t : List UInt8} {K : List Nat → Bool → Prop} (ht : t.length ≤ 2 ^ 20) (h1 : (pcs t).length ≤ 256 ∧ allH (pcs t) = true → K (valsH (pcs t)) true) (h2 : ¬ ((pcs t).length ≤ 256 ∧ allH (pcs t) = true) → K [] false) : spec_l01NRead.wp t K := by
  refine ⟨fun c => ?_, fun c => spec_l01Cut_wp (c := 44) ht ?_⟩
  · have e : pcs t = [] := by unfold pcs; rw [if_pos c]
    rw [e] at h1
    exact h1 ⟨Nat.zero_le _, rfl⟩
  · have e : pcs t = cutL 44 t := by unfold pcs; rw [if_neg c]
    have hpl := pcs_len t
    rw [e] at h1 h2 hpl
    generalize cutL 44 t = ps at h1 h2 hpl
    refine ⟨fun c => h2 (by omega), fun c X hX => ?_⟩
    have hl : ps.length ≤ 256 := by omega
    have no : (∃ p ∈ ps, okH p = false) → K [] false := fun ⟨p, hp, hf⟩ => h2 fun g => by
      have := List.all_eq_true.1 g.2 p hp
      rw [hf] at this; cases this
    have key : ∀ (m i : Nat), i + m = ps.length → allH (ps.take i) = true → X (valsH (ps.take i)) (i : Int) := by
      intro m
      induction m with
      | zero =>
        intro i hi ha
        obtain rfl : i = ps.length := by omega
        rw [List.take_length] at ha ⊢
        exact hX _ _ ⟨fun c => absurd c (by omega), fun _ => h1 ⟨hl, ha⟩⟩
      | succ m ih =>
        intro i hi ha
        have hi' : i < ps.length := by omega
        have no' : okH ps[i] = false → K [] false := fun hf => no ⟨_, List.getElem_mem hi', hf⟩
        refine hX _ _ ⟨fun _ => ⟨by omega, ?_⟩, fun c => absurd (show (i : Int) < ps.length by omega) c⟩
        rw [nn, gD hi']
        have next : okH ps[i] = true → X (valsH (ps.take i) ++ [vH ps[i]]) (IntKind.i64.wrap ((i : Int) + 1)) := fun hok => by
          have e : valsH (ps.take i) ++ [vH ps[i]] = valsH (ps.take (i + 1)) := by
            unfold valsH
            rw [List.take_succ_eq_append_getElem hi', List.map_append]; rfl
          rw [e, w1 (by omega)]
          refine ih (i + 1) (by omega) ?_
          unfold allH at ha ⊢
          rw [List.take_succ_eq_append_getElem hi', List.all_append, ha, List.all_cons, hok]; rfl
        generalize ps[i] = p at no' next
        refine ⟨fun hp8 => ?_, fun hp8 => no' ?_⟩
        · have hp8 : p.length = 8 := by omega
          intro Y hY
          have loop : ∀ (r k : Nat), k + r = 8 → lowH (p.take k) = true → Y ((valH (p.take k) : Nat) : Int) (k : Int) := by
            intro r
            induction r with
            | zero =>
              intro k hk hlow
              obtain rfl : k = 8 := by omega
              rw [List.take_of_length_le (by omega)] at hlow ⊢
              obtain ⟨q1, q2⟩ := hx_valH 8 p hp8 hlow
              have q3 : valH p < 2 ^ 32 := q2
              refine hY _ _ ⟨fun c => absurd c (by decide), fun _ => ?_⟩
              unfold spec_l01From.wp math_Float32frombits.wp
              have e32 : IntKind.u32.wrap ((valH p : Nat) : Int) = ((valH p : Nat) : Int) := by
                show ((valH p : Nat) : Int) % 4294967296 = _; omega
              rw [e32, nn]
              refine spec_l01Bits_wp (cz_lt q3) ⟨fun hb => ⟨by rw [len1, valsH_len, List.length_take]; omega, next (okH_iff.2 ⟨⟨hp8, hlow⟩, by unfold vH; omega⟩)⟩, fun hb => no' ?_⟩
              cases hok : okH p with
              | false => rfl
              | true => exact absurd (by have := (okH_iff.1 hok).2; unfold vH at this; rw [this]) hb
            | succ r ihr =>
              intro k hk hlow
              have hk' : k < p.length := by omega
              have hb8 := (p[k]).toNat_lt
              have bnd := (hx_valH k (p.take k) (by rw [List.length_take]; omega) hlow).2
              have b16 : (16 : Nat) ^ k ≤ 16 ^ 7 := Nat.pow_le_pow_right (by decide) (by omega)
              have bnd2 : valH (p.take k) < 16 ^ 7 := Nat.lt_of_lt_of_le bnd b16
              have bad : isLow p[k] = false → K [] false := fun hf => no' (by
                unfold okH lowH
                have : p.all isLow = false := by rw [List.all_eq_false]; exact ⟨_, List.getElem_mem hk', by rw [hf]; decide⟩
                rw [this]; simp)
              have good : isLow p[k] = true → Y ((16 * valH (p.take k) + hdig p[k] : Nat) : Int) ((k + 1 : Nat) : Int) := fun hg => by
                have hl2 : lowH (p.take (k + 1)) = true := by
                  unfold lowH at hlow ⊢
                  rw [List.take_succ_eq_append_getElem hk', List.all_append, hlow, List.all_cons, hg]; rfl
                have := ihr (k + 1) (by omega) hl2
                rw [(low_take hk' hl2).2.2] at this; exact this
              refine hY _ _ ⟨fun _ => ⟨by omega, ?_⟩, fun c => absurd (show (k : Int) < 8 by omega) c⟩
              rw [btG hk', w1 (by omega)]
              have low_iff : isLow p[k] = (decide (48 ≤ (p[k]).toNat ∧ (p[k]).toNat ≤ 57) || decide (97 ≤ (p[k]).toNat ∧ (p[k]).toNat ≤ 102)) := rfl
              have hd : hdig p[k] = if (p[k]).toNat ≤ 57 then (p[k]).toNat - 48 else (p[k]).toNat - 87 := rfl
              generalize (p[k]).toNat = c at hb8 low_iff hd
              generalize valH (p.take k) = n at bnd2 good
              have dig : 48 ≤ c → c ≤ 57 → (IntKind.i64.wrap (IntKind.u8.wrap ((c : Int) - (48 : Int))) < 0 → K [] false) ∧ (¬ IntKind.i64.wrap (IntKind.u8.wrap ((c : Int) - (48 : Int))) < 0 → Y (IntKind.i64.wrap ((IntKind.i64.wrap ((16 : Int) * (n : Int))) + (IntKind.i64.wrap (IntKind.u8.wrap ((c : Int) - (48 : Int)))))) ((k + 1 : Nat) : Int)) := fun c1 c2 => by
                have e8 : IntKind.u8.wrap ((c : Int) - (48 : Int)) = ((c - 48 : Nat) : Int) := w8sub (a := 48) c1 hb8
                rw [e8, wI (n := ((c - 48 : Nat) : Int)) (by omega), wI (n := (16 : Int) * (n : Int)) (by omega), wI (by omega)]
                refine ⟨fun g => absurd g (by omega), fun _ => ?_⟩
                have := good (by rw [low_iff, decide_eq_true ⟨c1, c2⟩]; rfl)
                rw [hd, if_pos c2] at this
                rw [show (16 : Int) * (n : Int) + ((c - 48 : Nat) : Int) = ((16 * n + (c - 48) : Nat) : Int) by omega]; exact this
              have let_ : 97 ≤ c → c ≤ 102 → (IntKind.i64.wrap ((IntKind.i64.wrap (IntKind.u8.wrap ((c : Int) - (97 : Int)))) + (10 : Int)) < 0 → K [] false) ∧ (¬ IntKind.i64.wrap ((IntKind.i64.wrap (IntKind.u8.wrap ((c : Int) - (97 : Int)))) + (10 : Int)) < 0 → Y (IntKind.i64.wrap ((IntKind.i64.wrap ((16 : Int) * (n : Int))) + (IntKind.i64.wrap ((IntKind.i64.wrap (IntKind.u8.wrap ((c : Int) - (97 : Int)))) + (10 : Int))))) ((k + 1 : Nat) : Int)) := fun c1 c2 => by
                have e8 : IntKind.u8.wrap ((c : Int) - (97 : Int)) = ((c - 97 : Nat) : Int) := w8sub (a := 97) c1 hb8
                rw [e8, wI (n := ((c - 97 : Nat) : Int)) (by omega), wI (n := ((c - 97 : Nat) : Int) + (10 : Int)) (by omega), wI (n := (16 : Int) * (n : Int)) (by omega), wI (by omega)]
                refine ⟨fun g => absurd g (by omega), fun _ => ?_⟩
                have := good (by rw [low_iff, decide_eq_true (show 97 ≤ c ∧ c ≤ 102 from ⟨c1, c2⟩), Bool.or_true])
                rw [hd, if_neg (by omega)] at this
                rw [show (16 : Int) * (n : Int) + (((c - 97 : Nat) : Int) + (10 : Int)) = ((16 * n + (c - 87) : Nat) : Int) by omega]; exact this
              have badc : ¬ (48 ≤ c ∧ c ≤ 57) → ¬ (97 ≤ c ∧ c ≤ 102) → K [] false := fun g1 g2 => bad (by rw [low_iff, decide_eq_false g1, decide_eq_false g2]; rfl)
              refine ⟨fun a => ⟨fun b => ⟨fun c => ⟨fun d => ?_, fun d => ?_⟩, fun c => ?_⟩, fun b => ⟨fun c => ⟨fun d => ?_, fun d => ?_⟩, fun c => ?_⟩⟩, fun a => ⟨fun c => ⟨fun d => ?_, fun d => ?_⟩, fun c => ?_⟩⟩
              · exfalso; omega
              · exfalso; omega
              · exact dig (by omega) (by omega)
              · exact let_ (by omega) (by omega)
              · exact ⟨fun _ => badc (by omega) (by omega), fun g => absurd (by decide) g⟩
              · exact ⟨fun _ => badc (by omega) (by omega), fun g => absurd (by decide) g⟩
              · exfalso; omega
              · exfalso; omega
              · exact ⟨fun _ => badc (by omega) (by omega), fun g => absurd (by decide) g⟩
          exact loop 8 0 rfl rfl
        · unfold okH
          rw [decide_eq_false (by omega)]; rfl
    have := key ps.length 0 (by omega) rfl
    exact this

end Go.Proofs.YtmbkjkcolmoioaaGreatDoor.G

namespace Go.Proofs.YtmbkjkcolmoioaaGreatDoor.G
open Go Go.Ab
set_option maxRecDepth 100000
set_option linter.unusedVariables false
set_option linter.unusedSimpArgs false
set_option maxHeartbeats 1000000
/-- The digit that the library makes of a byte. -/
def dI (c : Nat) : Nat := if 48 ≤ c ∧ c ≤ 57 then c - 48 else if 97 ≤ c ||| 32 ∧ c ||| 32 ≤ 122 then (c ||| 32) - 97 + 10 else 255
theorem or8 : ∀ c : Nat, c < 256 → ibits .or .u8 (c : Int) (32 : Int) = ((c ||| 32 : Nat) : Int) ∧ c ||| 32 < 256 := by decide +kernel
theorem dI_low : ∀ c : Nat, c < 256 → isLow (UInt8.ofNat c) = true → dI c = hdig (UInt8.ofNat c) ∧ dI c < 16 := by decide +kernel
theorem u16 : IntKind.u8.wrap (16 : Int) = 16 := by decide
theorem u6416 : IntKind.u64.wrap (16 : Int) = 16 := by decide
theorem maxV : IntKind.u64.wrap ((IntKind.u64.wrap ((1 : Int) * (2 ^ (min ((IntKind.u64.wrap (32 : Int))).toNat IntKind.u64.bits)))) - (1 : Int)) = 4294967295 := by decide +kernel
theorem puD {n d : Nat} {S R : Prop} {X : Int → Prop} (hn : n < 16 ^ 7) (h1 : 16 ≤ d → S) (hd : d < 256) (h2 : d < 16 → X ((16 * n + d : Nat) : Int)) :
    (((IntKind.u8.wrap (16 : Int)) ≤ (d : Int) → S) ∧ (¬((IntKind.u8.wrap (16 : Int)) ≤ (d : Int)) → (((1152921504606846976 : Int) ≤ (n : Int) → R) ∧ (¬((1152921504606846976 : Int) ≤ (n : Int)) → (((IntKind.u64.wrap ((IntKind.u64.wrap ((n : Int) * (IntKind.u64.wrap (16 : Int)))) + (IntKind.u64.wrap (d : Int)))) < (IntKind.u64.wrap ((n : Int) * (IntKind.u64.wrap (16 : Int)))) → R) ∧ (¬((IntKind.u64.wrap ((IntKind.u64.wrap ((n : Int) * (IntKind.u64.wrap (16 : Int)))) + (IntKind.u64.wrap (d : Int)))) < (IntKind.u64.wrap ((n : Int) * (IntKind.u64.wrap (16 : Int))))) → (((IntKind.u64.wrap ((IntKind.u64.wrap ((1 : Int) * (2 ^ (min ((IntKind.u64.wrap (32 : Int))).toNat IntKind.u64.bits)))) - (1 : Int))) < (IntKind.u64.wrap ((IntKind.u64.wrap ((n : Int) * (IntKind.u64.wrap (16 : Int)))) + (IntKind.u64.wrap (d : Int)))) → R) ∧ (¬((IntKind.u64.wrap ((IntKind.u64.wrap ((1 : Int) * (2 ^ (min ((IntKind.u64.wrap (32 : Int))).toNat IntKind.u64.bits)))) - (1 : Int))) < (IntKind.u64.wrap ((IntKind.u64.wrap ((n : Int) * (IntKind.u64.wrap (16 : Int)))) + (IntKind.u64.wrap (d : Int))))) → X (IntKind.u64.wrap ((IntKind.u64.wrap ((n : Int) * (IntKind.u64.wrap (16 : Int)))) + (IntKind.u64.wrap (d : Int)))))))))))) := by
  have e1 : IntKind.u64.wrap ((n : Int) * (16 : Int)) = ((16 * n : Nat) : Int) := by
    rw [show (n : Int) * (16 : Int) = ((16 * n : Nat) : Int) by omega]; exact u64W (by omega)
  have e2 : IntKind.u64.wrap (((16 * n : Nat) : Int) + ((d : Nat) : Int)) = ((16 * n + d : Nat) : Int) := by
    rw [show ((16 * n : Nat) : Int) + ((d : Nat) : Int) = ((16 * n + d : Nat) : Int) by omega]; exact u64W (by omega)
  rw [u16, u6416, maxV, e1, u64W (k := d) (by omega), e2]
  refine ⟨fun c => h1 (by omega), fun c => ⟨fun c => absurd c (by omega), fun _ => ⟨fun c => absurd c (by omega), fun _ => ⟨fun c => absurd c (by omega), fun _ => h2 (by omega)⟩⟩⟩⟩
theorem num_get {a : List UInt8} {i : Nat} (hi : i < a.length) : (nums a).getD i 0 = ((a[i]).toNat : Int) := by
  rw [gD (by rw [nums_length]; exact hi)]
  unfold nums
  rw [List.getElem_map]
theorem puC_wp {p : List UInt8} {K : Int → IfV → Prop} (hp : p.length = 8) (hgood : ∀ v : Nat, v < 2 ^ 32 → (lowH p = true → v = valH p) → K (v : Int) IfV.nil) (hbad : lowH p = false → K 0 (IfV.num 255 .i64 2)) : internal_strconv_ParseUintC.wp p K := by
  refine ⟨fun c => absurd (congrArg List.length c) (by rw [hp]; decide), fun _ => ⟨by decide, fun X hX => ?_⟩⟩
  have loop : ∀ (r k n : Nat), k + r = 8 → n < 16 ^ k → (lowH (p.take k) = true → n = valH (p.take k)) → X false (n : Int) (k : Int) := by
    intro r
    induction r with
    | zero =>
      intro k n hk hn hv
      obtain rfl : k = 8 := by omega
      rw [List.take_of_length_le (by omega)] at hv
      exact hX _ _ _ ⟨fun c => absurd c (by rw [nums_length]; omega), fun _ => ⟨fun c => (by cases c), fun _ => hgood n hn hv⟩⟩
    | succ r ihr =>
      intro k n hk hn hv
      have hk' : k < p.length := by omega
      have b16 : (16 : Nat) ^ k ≤ 16 ^ 7 := Nat.pow_le_pow_right (by decide) (by omega)
      have hn7 : n < 16 ^ 7 := Nat.lt_of_lt_of_le hn b16
      refine hX _ _ _ ⟨fun _ => ⟨by rw [nums_length]; omega, ?_⟩, fun c => absurd (show (k : Int) < ((nums p).length : Int) by rw [nums_length]; omega) c⟩
      rw [nn, num_get hk', w1 (by omega)]
      have hb8 := (p[k]).toNat_lt
      have bad : ¬ dI (p[k]).toNat < 16 → K 0 (IfV.num 255 .i64 2) := fun hd => hbad (by
        unfold lowH
        rw [List.all_eq_false]
        refine ⟨_, List.getElem_mem hk', fun hl => hd ?_⟩
        have := dI_low (p[k]).toNat hb8 (by rw [UInt8.ofNat_toNat]; exact hl)
        exact this.2)
      have good : ∀ d : Nat, d = dI (p[k]).toNat → d < 16 → X false ((16 * n + d : Nat) : Int) ((k + 1 : Nat) : Int) := fun d hd hd16 => by
        refine ihr (k + 1) _ (by omega) (by rw [Nat.pow_succ]; omega) fun hl => ?_
        obtain ⟨l1, l2, l3⟩ := low_take hk' hl
        have := dI_low (p[k]).toNat hb8 (by rw [UInt8.ofNat_toNat]; exact l2)
        rw [UInt8.ofNat_toNat] at this
        rw [l3, hv l1, hd, this.1]
      generalize (p[k]).toNat = c at hb8 bad good
      obtain ⟨e1, e2⟩ := or8 c hb8
      have dig : 48 ≤ c → c ≤ 57 → _ := fun c1 c2 => puD (n := n) (d := c - 48) (S := K 0 (IfV.num 255 .i64 2)) (R := K 4294967295 (IfV.num 255 .i64 1)) (X := fun v => X false v ((k + 1 : Nat) : Int)) hn7 (fun h => absurd h (by omega)) (by omega) (fun h => good _ (by unfold dI; rw [if_pos ⟨c1, c2⟩]) h)
      have let_ : ¬ (48 ≤ c ∧ c ≤ 57) → 97 ≤ c ||| 32 → c ||| 32 ≤ 122 → _ := fun c0 c1 c2 => puD (n := n) (d := (c ||| 32) - 97 + 10) (S := K 0 (IfV.num 255 .i64 2)) (R := K 4294967295 (IfV.num 255 .i64 1)) (X := fun v => X false v ((k + 1 : Nat) : Int)) hn7 (fun h => bad (by unfold dI; rw [if_neg c0, if_pos ⟨c1, c2⟩]; omega)) (by omega) (fun h => good _ (by unfold dI; rw [if_neg c0, if_pos ⟨c1, c2⟩]) h)
      have badL : ¬ (48 ≤ c ∧ c ≤ 57) → ¬ (97 ≤ c ||| 32 ∧ c ||| 32 ≤ 122) → K 0 (IfV.num 255 .i64 2) := fun c0 c1 => bad (by unfold dI; rw [if_neg c0, if_neg c1]; decide)
      have e8 : 48 ≤ c → IntKind.u8.wrap ((c : Int) - (48 : Int)) = ((c - 48 : Nat) : Int) := fun h => w8sub (a := 48) h hb8
      have e9 : 97 ≤ c ||| 32 → IntKind.u8.wrap (IntKind.u8.wrap (((c ||| 32 : Nat) : Int) - (97 : Int)) + (10 : Int)) = (((c ||| 32) - 97 + 10 : Nat) : Int) := fun h => by
        have e97 : IntKind.u8.wrap (((c ||| 32 : Nat) : Int) - (97 : Int)) = (((c ||| 32) - 97 : Nat) : Int) := w8sub (a := 97) h e2
        rw [e97, show (((c ||| 32) - 97 : Nat) : Int) + (10 : Int) = (((c ||| 32) - 97 + 10 : Nat) : Int) by omega]
        exact u8W _ (by omega)
      rw [maxV] at dig let_
      unfold internal_strconv_lower.wp
      dsimp only
      rw [e1, maxV]
      have body : ∀ a : 48 ≤ c → c ≤ 57 → True, True := fun _ => trivial
      refine ⟨fun _ => ⟨fun a => ⟨fun b => ?_, fun b => ⟨fun x => ⟨fun y => ?_, fun y => ?_⟩, fun x => ?_⟩⟩, fun a => ⟨fun x => ⟨fun y => ?_, fun y => ?_⟩, fun x => ?_⟩⟩, fun _ => ⟨fun a => ⟨fun b => ?_, fun b => ⟨fun x => ⟨fun y => ?_, fun y => ?_⟩, fun x => ?_⟩⟩, fun a => ⟨fun x => ⟨fun y => ?_, fun y => ?_⟩, fun x => ?_⟩⟩⟩
      all_goals first
        | (rw [e8 (by omega)]; exact dig (by omega) (by omega))
        | (rw [e9 (by omega)]; exact let_ (by omega) (by omega) (by omega))
        | exact badL (by omega) (by omega)
  exact loop 8 0 0 rfl (by decide) (fun _ => rfl)
theorem impl_readHex_wp {p : List UInt8} {K : Nat → Prop} (hp : p.length = 8) (h : ∀ x : Nat, x < 2 ^ 32 → (lowH p = true → x = vH p) → K x) : impl_readHex.wp p K := by
  refine ⟨⟨rfl, rfl⟩, puC_wp hp (fun v hv hl => tT ?_) fun hl => ⟨fun c => (by cases c), fun _ => ⟨⟨rfl, by omega⟩, ?_⟩⟩⟩
  · have e32 : IntKind.u32.wrap (v : Int) = (v : Int) := by show (v : Int) % 4294967296 = _; omega
    show K (cz .f32 (IntKind.u32.wrap (v : Int)).toNat)
    rw [e32, nn]
    exact h _ (cz_lt hv) fun hl2 => by rw [hl hl2]; rfl
  · show K (cz .f32 (IntKind.u32.wrap (0 : Int)).toNat)
    exact h _ (cz_lt (by decide)) fun hl2 => by rw [hl] at hl2; cases hl2
theorem impl_ReadNumbers_wp {t : List UInt8} {K : List Nat → Bool → Prop} (ht : t.length ≤ 2 ^ 20) (h1 : (pcs t).length ≤ 256 ∧ allH (pcs t) = true → K (valsH (pcs t)) true) (h2 : ¬ ((pcs t).length ≤ 256 ∧ allH (pcs t) = true) → K [] false) : impl_ReadNumbers.wp t K := by
  refine impl_pieces_wp ht fun X hX => ?_
  have hct := commas_pcs t
  have hpl := pcs_len t
  generalize pcs t = ps at h1 h2 hX hct hpl
  have no : (∃ p ∈ ps, okH p = false) → K [] false := fun ⟨p, hp, hf⟩ => h2 fun g => by
    have := List.all_eq_true.1 g.2 p hp
    rw [hf] at this; cases this
  -- what has been read: each good piece is read as it should be
  have key : ∀ (m i : Nat) (out : List Nat), i + m = ps.length → i ≤ 256 → out.length = i → (∀ x ∈ out, x < 2 ^ 32) → (∀ p ∈ ps.take i, p.length = 8) → (∀ j (h : j < i) (h2 : j < ps.length) (h3 : j < out.length), lowH ps[j] = true → out[j] = vH ps[j]) → X out (i : Int) := by
    intro m
    induction m with
    | zero =>
      intro i out hi h256 ho hlt h8 hv
      obtain rfl : i = ps.length := by omega
      rw [List.take_length] at h8
      refine hX _ _ ⟨fun c => absurd c (by omega), fun _ => impl_NumbersText_wp (by omega) hlt (fun c => absurd c (by omega)) fun _ => tT ⟨fun e => ?_, fun e => ?_⟩⟩
      · have hmap : (out.map fun x => hx 8 (bitsN x)) = ps := commas_inj _ _ (by rw [List.length_map]; exact ho) (fun x hx => by obtain ⟨y, _, rfl⟩ := List.mem_map.1 hx; exact hx_len ..) h8 (by rw [hct]; exact e)
        have each : ∀ j (h : j < ps.length), okH ps[j] = true ∧ out[j]'(by omega) = vH ps[j] := by
          intro j hj
          have ej : hx 8 (bitsN (out[j]'(by omega))) = ps[j] := by
            have := List.getElem_of_eq hmap (i := j) (by rw [List.length_map]; omega)
            rw [List.getElem_map] at this; exact this
          have hlow : lowH ps[j] = true := by rw [← ej]; exact hx_low ..
          have e2 := hv j hj hj (by omega) hlow
          have hb : bitsN (out[j]'(by omega)) < 2 ^ 32 := bitsN_lt (hlt _ (List.getElem_mem _))
          have e3 : valH ps[j] = bitsN (out[j]'(by omega)) := by rw [← ej]; exact valH_hx 8 _ hb
          exact ⟨okH_iff.2 ⟨⟨h8 _ (List.getElem_mem hj), hlow⟩, by rw [← e2, e3]⟩, e2⟩
        have hall : allH ps = true := by
          unfold allH
          rw [List.all_eq_true]
          intro p hp
          obtain ⟨j, hj, rfl⟩ := List.mem_iff_getElem.1 hp
          exact (each j hj).1
        have hout : out = valsH ps := by
          unfold valsH
          apply List.ext_getElem (by rw [List.length_map]; exact ho)
          intro j hj1 hj2
          rw [List.getElem_map]
          exact (each j (by omega)).2
        rw [hout]
        exact h1 ⟨by omega, hall⟩
      · refine h2 fun g => e ?_
        have hout : (out.map fun x => hx 8 (bitsN x)) = ps := by
          apply List.ext_getElem (by rw [List.length_map]; exact ho)
          intro j hj1 hj2
          have hok := List.all_eq_true.1 g.2 _ (List.getElem_mem hj2)
          rw [List.getElem_map, hv j hj2 hj2 (by omega) (okH_iff.1 hok).1.2]
          exact (okH_hx hok).1
        unfold numsT
        rw [hout]; exact hct
    | succ m ih =>
      intro i out hi h256 ho hlt h8 hv
      have hi' : i < ps.length := by omega
      refine hX _ _ ⟨fun _ => ⟨by omega, ?_⟩, fun c => absurd (show (i : Int) < ps.length by omega) c⟩
      rw [nn, gD hi', w1 (by omega)]
      refine ⟨fun hp8 => ⟨fun hf => h2 fun g => by omega, fun hf => ?_⟩, fun hp8 => no ⟨_, List.getElem_mem hi', by unfold okH; rw [decide_eq_false (by omega)]; rfl⟩⟩
      refine impl_readHex_wp (by omega) fun x hx hxl => ⟨by rw [len1]; omega, ih (i + 1) _ (by omega) (by omega) (by rw [List.length_append, len1, ho]) (fun y hy => ?_) (fun p hp => ?_) fun j hj hj2 hj3 hjl => ?_⟩
      · rcases List.mem_append.1 hy with hy | hy
        · exact hlt y hy
        · rw [List.mem_singleton] at hy; rw [hy]; exact hx
      · rw [List.take_succ_eq_append_getElem hi'] at hp
        rcases List.mem_append.1 hp with hp | hp
        · exact h8 p hp
        · rw [List.mem_singleton] at hp; rw [hp]; omega
      · by_cases hji : j = i
        · subst hji
          rw [List.getElem_append_right (by omega)]
          simp only [ho, Nat.sub_self, List.getElem_cons_zero]
          exact hxl hjl
        · rw [List.getElem_append_left (by omega)]
          exact hv j (by omega) hj2 (by omega) hjl
  have := key ps.length 0 [] (by omega) (by decide) rfl (fun x hx => absurd hx (List.not_mem_nil)) (fun p hp => absurd hp (by rw [List.take_zero]; exact List.not_mem_nil)) (fun j hj => absurd hj (Nat.not_lt_zero j))
  exact this

end Go.Proofs.YtmbkjkcolmoioaaGreatDoor.G

namespace Go.Proofs.YtmbkjkcolmoioaaGreatDoor.G
open Go Go.Ab
set_option maxRecDepth 100000
set_option linter.unusedVariables false
set_option linter.unusedSimpArgs false
set_option maxHeartbeats 1000000
/-- The pair that is read. -/
noncomputable def pairOk (a : List UInt8) : Bool := decide ((pcs a).length ≤ 64) && allN (pcs a)
theorem pair_iff {a : List UInt8} : pairOk a = true ↔ (pcs a).length ≤ 64 ∧ allN (pcs a) = true := by
  unfold pairOk; rw [Bool.and_eq_true, decide_eq_true_eq]
theorem impl_readPair_wp {a : List UInt8} {K : Int → Int → Bool → Prop} (ha : a.length ≤ 2 ^ 20) (h1 : pairOk a = true → (valsN (pcs a)).length = 2 → K ((valsN (pcs a)).getD 0 0) ((valsN (pcs a)).getD 1 0) true) (h2 : ¬ (pairOk a = true ∧ (valsN (pcs a)).length = 2) → K 0 0 false) : impl_readPair.wp a K := by
  refine impl_ReadList_wp ha (fun g => tT ⟨fun c => ?_, fun c => h2 fun e => c (by rw [e.2]; rfl)⟩) fun g => ⟨fun c => (by cases c), fun _ => h2 fun e => g (pair_iff.1 e.1)⟩
  exact ⟨by omega, by omega, h1 (pair_iff.2 g) (by omega)⟩
theorem cutAt {t : List UInt8} {m : Nat} (hm : m < t.length) (hc : (t.take m).count 59 = 0) (hg : t[m]? = some 59) {K : List UInt8 → List UInt8 → Bool → Prop} (ht : t.length ≤ 2 ^ 20) (hK : K (t.take m) (t.drop (m + 1)) true) : strings_Cut.wp t [59] K :=
  strings_CutC_wp (by omega) (fun h0 => absurd h0 (by have := count_idx 59 t m hm hc hg; omega)) fun m' h1 h2 h3 => by
    have : m' = m := by
      rcases Nat.lt_trichotomy m' m with h | h | h
      · exfalso
        have : (59 : UInt8) ∈ t.take m := List.mem_of_getElem? (i := m') (by rw [List.getElem?_take, if_pos h]; exact h3)
        have := List.count_pos_iff.2 this
        omega
      · exact h
      · exfalso
        have : (59 : UInt8) ∈ t.take m' := List.mem_of_getElem? (i := m) (by rw [List.getElem?_take, if_pos h]; exact hg)
        have := List.count_pos_iff.2 this
        omega
    rw [this]; exact hK
def okL (t : List UInt8) : Bool := decide ((pcs t).length ≤ 256) && allH (pcs t)
theorem okL_iff {t : List UInt8} : okL t = true ↔ (pcs t).length ≤ 256 ∧ allH (pcs t) = true := by
  unfold okL; rw [Bool.and_eq_true, decide_eq_true_eq]
theorem okL_len {t : List UInt8} (h : okL t = true) : (valsH (pcs t)).length ≤ 2 ^ 20 := by
  rw [valsH_len]; have := (okL_iff.1 h).1; omega
theorem impl_RN {t : List UInt8} {K : List Nat → Bool → Prop} (ht : t.length ≤ 2 ^ 20) (h1 : okL t = true → K (valsH (pcs t)) true) (h2 : okL t = false → K [] false) : impl_ReadNumbers.wp t K :=
  impl_ReadNumbers_wp ht (fun g => h1 (okL_iff.2 g)) fun g => h2 (by cases h : okL t with | false => rfl | true => exact absurd (okL_iff.1 h) g)
theorem spec_RN {t : List UInt8} {K : List Nat → Bool → Prop} (ht : t.length ≤ 2 ^ 20) (h1 : okL t = true → K (valsH (pcs t)) true) (h2 : okL t = false → K [] false) : spec_l01NRead.wp t K :=
  spec_l01NRead_wp ht (fun g => h1 (okL_iff.2 g)) fun g => h2 (by cases h : okL t with | false => rfl | true => exact absurd (okL_iff.1 h) g)

end Go.Proofs.YtmbkjkcolmoioaaGreatDoor.G

namespace Go.Proofs.YtmbkjkcolmoioaaGreatDoor.G
open Go Go.Ab
set_option maxRecDepth 100000
set_option linter.unusedVariables false
set_option linter.unusedSimpArgs false
set_option maxHeartbeats 1000000
theorem markPictureR_wp {a b : Int} {l : List Nat} {k : Nat} {K : Int → List Nat → Prop} (hl : l.length ≤ 2 ^ 20) (hk : k ≤ 2 ^ 40) (h : K ((k + l.length : Nat) : Int) (marks k l.length)) : laws_markPicture.wp a b l (k : Int) K := markFloat32S_wp hl hk h
theorem heldPictureR_wp {a b : Int} {n k : Nat} {K : Int → Prop} (hl : n ≤ 2 ^ 20) (hk : k ≤ 2 ^ 40) (h : K ((k + n : Nat) : Int)) : laws_heldPicture.wp a b (marks k n) (k : Int) K := heldFloat32S_wp hl hk (tN (by omega) h)
theorem rpic_both (t : List UInt8) (ht : t.length ≤ 2 ^ 20) : ∃ (c b : Int) (out : List Nat) (ok : Bool), (∀ K : Int → Int → List Nat → Bool → Prop, K c b out ok → spec_ReadPicture.wp t K) ∧ (∀ K : Int → Int → List Nat → Bool → Prop, K c b out ok → impl_ReadPicture.wp t K) ∧ out.length ≤ 2 ^ 20 := by
  have hlen : (cutL 59 t).length = t.count 59 + 1 := cutF_len ..
  have bad : ∀ K : Int → Int → List Nat → Bool → Prop, K 0 0 [] false → ∀ (a b : List UInt8) (f : Bool), a.length ≤ 2 ^ 20 → b.length ≤ 2 ^ 20 → ((f = true ∧ (pairOk a = true ∧ (valsN (pcs a)).length = 2) ∧ okL b = true ∧ isPic ((valsN (pcs a)).getD 0 0) ((valsN (pcs a)).getD 1 0) (valsH (pcs b)) = true) → False) → impl_readPair.wp a fun y108 y109 y110 => impl_ReadNumbers.wp b fun y112 y115 => ((f = true → ((y110 = true → ((y115 = true → impl_validPicture.wp y108 y109 y112 fun y120 y121 y122 y123 => ((y122 = true → K (y120) (y121) (y112) (y123)) ∧ (y122 = false → K (y120) (y121) ([] : List (Nat)) (y123)))) ∧ (y115 = false → K (0 : Int) (0 : Int) ([] : List (Nat)) (false)))) ∧ (y110 = false → K (0 : Int) (0 : Int) ([] : List (Nat)) (false)))) ∧ (f = false → K (0 : Int) (0 : Int) ([] : List (Nat)) (false))) := by
    intro K hK a b f ha hb hno
    refine impl_readPair_wp ha (fun g1 g2 => impl_RN hb (fun g3 => ⟨fun hf => tT (tT (impl_ValidPicture_wp (okL_len g3) ?_)), fun _ => hK⟩) fun g3 => ⟨fun hf => tT ⟨fun c => (by cases c), fun _ => hK⟩, fun _ => hK⟩) fun g1 => impl_RN hb (fun g3 => ⟨fun hf => ⟨fun c => (by cases c), fun _ => hK⟩, fun _ => hK⟩) fun g3 => ⟨fun hf => ⟨fun c => (by cases c), fun _ => hK⟩, fun _ => hK⟩
    cases hc : isPic ((valsN (pcs a)).getD 0 0) ((valsN (pcs a)).getD 1 0) (valsH (pcs b)) with
    | true => exact (hno ⟨hf, ⟨g1, g2⟩, g3, hc⟩).elim
    | false => exact ⟨fun c => (by cases c), fun _ => ⟨fun c => (by cases c), fun _ => hK⟩⟩
  rcases idx_spec 59 t with ⟨_, hc⟩ | ⟨m, _, hm, hc, hg⟩
  · refine ⟨0, 0, [], false, fun K hK => spec_l01Cut_wp (c := 59) ht ⟨fun e => absurd e (by rw [hlen, hc]; decide), fun _ => hK⟩, fun K hK => strings_CutC_wp (by omega) (fun _ => bad K hK t [] false ht (Nat.zero_le _) (fun e => by cases e.1)) (fun m h1 h2 h3 => ?_), Nat.zero_le _⟩
    have := count_idx 59 t m h1 h2 h3
    omega
  · have hcut : cutL 59 t = t.take m :: cutL 59 (t.drop (m + 1)) := by
      unfold cutL
      rw [cutF_idx 59 [] t m hm hc hg]; rfl
    have hcnt := count_idx 59 t m hm hc hg
    have ha : (t.take m).length ≤ 2 ^ 20 := by rw [List.length_take]; omega
    have hb : (t.drop (m + 1)).length ≤ 2 ^ 20 := by rw [List.length_drop]; omega
    have cut : ∀ K : List UInt8 → List UInt8 → Bool → Prop, K (t.take m) (t.drop (m + 1)) true → strings_Cut.wp t [59] K := fun K hK => cutAt hm hc hg ht hK
    generalize t.take m = a at hcut ha cut
    generalize t.drop (m + 1) = b at hcut hb cut hcnt
    by_cases hone : b.count 59 = 0
    · have hcb : cutL 59 b = [b] := by
        unfold cutL
        rw [cutF_none 59 [] b hone]; rfl
      rw [hcb] at hcut
      by_cases hall : (pairOk a = true ∧ (valsN (pcs a)).length = 2) ∧ okL b = true ∧ isPic ((valsN (pcs a)).getD 0 0) ((valsN (pcs a)).getD 1 0) (valsH (pcs b)) = true
      · obtain ⟨⟨g1, g2⟩, g3, g4⟩ := hall
        refine ⟨(valsN (pcs a)).getD 0 0, (valsN (pcs a)).getD 1 0, valsH (pcs b), true, fun K hK => spec_l01Cut_wp (c := 59) ht ?_, fun K hK => cut _ (impl_readPair_wp ha (fun _ _ => impl_RN hb (fun _ => tT (tT (tT (impl_ValidPicture_wp (okL_len g3) (tE g4 (tT hK)))))) (fun c => by rw [g3] at c; cases c)) (fun c => absurd ⟨g1, g2⟩ c)), okL_len g3⟩
        rw [hcut]
        refine tP rfl ⟨⟨by decide, by show (0 : Int) < 2; decide⟩, spec_l01Numbers_wp ha (fun _ => ⟨⟨by decide, by show (1 : Int) < 2; decide⟩, spec_RN hb (fun _ => tT (tT (tP (by show ((valsN (pcs a)).length : Int) = 2; omega) ⟨⟨by decide, by show (0 : Int) < ((valsN (pcs a)).length : Int); omega⟩, ⟨by decide, by show (1 : Int) < ((valsN (pcs a)).length : Int); omega⟩, spec_l04Is_wp (okL_len g3) (tE g4 (tT hK))⟩))) (fun c => by have c : okL b = false := c; rw [g3] at c; cases c)⟩) (fun c => absurd (pair_iff.1 g1) c)⟩
      · refine ⟨0, 0, [], false, fun K hK => spec_l01Cut_wp (c := 59) ht ?_, fun K hK => cut _ (bad K hK a b true ha hb fun e => hall e.2), Nat.zero_le _⟩
        rw [hcut]
        refine tP rfl ⟨⟨by decide, by show (0 : Int) < 2; decide⟩, spec_l01Numbers_wp ha (fun g1 => ⟨⟨by decide, by show (1 : Int) < 2; decide⟩, spec_RN hb (fun g3 => tT (tT ⟨fun g2 => ⟨⟨by decide, by have g2' : ((valsN (pcs a)).length : Int) = 2 := g2; show (0 : Int) < ((valsN (pcs a)).length : Int); omega⟩, ⟨by decide, by have g2' : ((valsN (pcs a)).length : Int) = 2 := g2; show (1 : Int) < ((valsN (pcs a)).length : Int); omega⟩, spec_l04Is_wp (okL_len g3) ⟨fun g4 => absurd ⟨⟨pair_iff.2 g1, by have g2' : ((valsN (pcs a)).length : Int) = 2 := g2; omega⟩, g3, g4⟩ hall, fun _ => ⟨fun c => (by cases c), fun _ => hK⟩⟩⟩, fun _ => hK⟩)) (fun g3 => tT ⟨fun c => (by cases c), fun _ => hK⟩)⟩) (fun g1 => ⟨⟨by decide, by show (1 : Int) < 2; decide⟩, spec_RN hb (fun g3 => ⟨fun c => (by cases c), fun _ => hK⟩) (fun g3 => ⟨fun c => (by cases c), fun _ => hK⟩)⟩)⟩
    · refine ⟨0, 0, [], false, fun K hK => spec_l01Cut_wp (c := 59) ht ⟨fun e => absurd e (by rw [hlen]; omega), fun _ => hK⟩, fun K hK => cut _ (bad K hK a b true ha hb fun e => ?_), Nat.zero_le _⟩
      have hmem : (59 : UInt8) ∈ b := List.count_pos_iff.1 (by omega)
      exact allH_semi (okL_iff.1 e.2.2.1).2 hmem
theorem pureExactReadPicture (l0 : List UInt8) : laws_FnExactReadPicture.wp l0 (fun b => b = true) := by
  refine ⟨fun _ => rfl, fun hb => ?_⟩
  obtain ⟨c, b, out, ok, hs, hi, ho⟩ := rpic_both l0 (by omega)
  refine hs _ (hi _ (eqPicture_wp ho (tT (tB ?_))))
  refine markPictureR_wp (k := 1) ho (by omega) (heldPictureR_wp (k := 1) ho (by omega) (tN (by omega) (tP rfl ?_)))
  exact hi _ (eqPicture_wp ho (tT (tB (heldPictureR_wp (k := 1) ho (by omega) (tN (by omega) (tP rfl rfl))))))

end Go.Proofs.YtmbkjkcolmoioaaGreatDoor.G

