/-
  What the formulas say, over numbers and lists alone. Nothing here is trusted.
-/
import Derived.Test.YtcgiboeilcdonaaDoorMExactPictureTextWa
import Derived.Lib.ItoaLen
import Derived.Lib.Repeat
import Derived.Lib.TrailingZeros
namespace Go.Proofs.YtcgiboeilcdonaaDoor.G
open Go Go.Ab
set_option maxRecDepth 100000
set_option linter.unusedVariables false
set_option linter.unusedSimpArgs false
set_option maxHeartbeats 1000000
/-! ### truth -/
theorem tT {A B : Prop} (h : A) : (true = true → A) ∧ (true = false → B) := ⟨fun _ => h, fun c => (by cases c)⟩
theorem tF {A B : Prop} (h : B) : (false = true → A) ∧ (false = false → B) := ⟨fun c => (by cases c), fun _ => h⟩
theorem tB {A B : Prop} {b : Bool} (h : A) : ((b == b) = true → A) ∧ ((b == b) = false → B) := ⟨fun _ => h, fun c => (by simp at c)⟩
theorem tE {A B : Prop} {b : Bool} (e : b = true) (h : A) : (b = true → A) ∧ (b = false → B) := ⟨fun _ => h, fun c => (by rw [e] at c; cases c)⟩
theorem tG {A B : Prop} {b : Bool} (e : b = false) (h : B) : (b = true → A) ∧ (b = false → B) := ⟨fun c => (by rw [e] at c; cases c), fun _ => h⟩
theorem tP {p A B : Prop} (e : p) (h : A) : (p → A) ∧ (¬p → B) := ⟨fun _ => h, fun c => absurd e c⟩
theorem tN {p A B : Prop} (e : ¬p) (h : B) : (p → A) ∧ (¬p → B) := ⟨fun c => absurd c e, fun _ => h⟩
theorem tI {b : Bool} {K : Bool → Prop} {A B : Prop} (h1 : b = true → A) (h2 : b = false → B) : (b = true → A) ∧ (b = false → B) := ⟨h1, h2⟩
/-! ### loops -/
theorem up {Y : Nat → Prop} (n : Nat) (last : Y n) (step : ∀ i, i < n → Y (i + 1) → Y i) : Y 0 := by
  have key : ∀ d i, i + d = n → Y i := by
    intro d
    induction d with
    | zero => intro i h; obtain rfl : i = n := by omega
              exact last
    | succ d ih => intro i h; exact step i (by omega) (ih (i + 1) (by omega))
  exact key n 0 (by omega)
theorem upFrom {Y : Nat → Prop} (k n : Nat) (hk : k ≤ n) (last : Y n) (step : ∀ i, k ≤ i → i < n → Y (i + 1) → Y i) : Y k := by
  have key : ∀ d i, k ≤ i → i + d = n → Y i := by
    intro d
    induction d with
    | zero => intro i _ h; obtain rfl : i = n := by omega
              exact last
    | succ d ih => intro i h0 h; exact step i h0 (by omega) (ih (i + 1) (by omega) (by omega))
  exact key (n - k) k (Nat.le_refl _) (by omega)
theorem w1 {i : Nat} (h : i < 4611686018427387904) : IntKind.i64.wrap ((i : Int) + (1 : Int)) = ((i + 1 : Nat) : Int) := wrap_succ (by omega)
theorem wI {n : Int} (h : -9223372036854775808 ≤ n ∧ n < 9223372036854775808) : IntKind.i64.wrap n = n := wrap_i64 h.1 h.2
theorem nn (i : Nat) : ((i : Int)).toNat = i := rfl
theorem gD {α : Type} {l : List α} {i : Nat} (h : i < l.length) (d : α) : l.getD i d = l[i] := by rw [List.getD_eq_getElem?_getD, List.getElem?_eq_getElem h]; rfl
theorem dropC {α : Type} {l : List α} {i : Nat} (h : i < l.length) : l.drop i = l[i] :: l.drop (i + 1) := List.drop_eq_getElem_cons h
theorem len1 {α : Type} (a : α) : ([a] : List α).length = 1 := rfl
theorem cz32 (n : Nat) (h : (FloatKind.f32.decode n).isNaN = false) : cz .f32 n = n := by simp [cz, h]
theorem c0_32 : cz .f32 0 = 0 := cz_zero32
theorem c0_64 : cz .f64 0 = 0 := cz_zero64
/-! ### copies, comparisons, marks -/
theorem toFloat32S_wp {l : List Nat} {K : List Nat → Prop} (hl : l.length ≤ 2 ^ 20) (h : K l) : laws_toFloat32S.wp l K := by
  refine ⟨⟨by omega, by omega, by omega, by omega⟩, fun X hX => ?_⟩
  have key : X (l.take 0 ++ List.replicate (l.length - 0) (0 : Nat)) ((0 : Nat) : Int) := by
    refine up (Y := fun i => X (l.take i ++ List.replicate (l.length - i) (0 : Nat)) (i : Int)) l.length ?_ fun i hi hn => ?_
    · refine hX _ _ ⟨fun c => absurd c (by omega), fun _ => ?_⟩
      rw [List.take_length, Nat.sub_self, List.replicate_zero, List.append_nil]; exact h
    · refine hX _ _ ⟨fun _ => ⟨⟨by omega, by omega⟩, ⟨by omega, ?_⟩, ?_⟩, fun c => absurd (show (i : Int) < l.length by omega) c⟩
      · rw [List.length_append, List.length_take, List.length_replicate]; omega
      · rw [nn, w1 (by omega), gD hi, set_fill (0 : Nat) (by omega) hi]
        exact hn
  rw [List.take_zero, List.nil_append, Nat.sub_zero] at key; exact key
theorem toBoolS_wp {l : List Bool} {K : List Bool → Prop} (hl : l.length ≤ 2 ^ 20) (h : K l) : laws_toBoolS.wp l K := by
  refine ⟨⟨by omega, by omega, by omega, by omega⟩, fun X hX => ?_⟩
  have key : X (l.take 0 ++ List.replicate (l.length - 0) false) ((0 : Nat) : Int) := by
    refine up (Y := fun i => X (l.take i ++ List.replicate (l.length - i) false) (i : Int)) l.length ?_ fun i hi hn => ?_
    · refine hX _ _ ⟨fun c => absurd c (by omega), fun _ => ?_⟩
      rw [List.take_length, Nat.sub_self, List.replicate_zero, List.append_nil]; exact h
    · refine hX _ _ ⟨fun _ => ⟨⟨by omega, by omega⟩, ⟨by omega, ?_⟩, ?_⟩, fun c => absurd (show (i : Int) < l.length by omega) c⟩
      · rw [List.length_append, List.length_take, List.length_replicate]; omega
      · rw [nn, w1 (by omega), gD hi, set_fill false (by omega) hi]
        exact hn
  rw [List.take_zero, List.nil_append, Nat.sub_zero] at key; exact key
theorem sameFloat_wp {a : Nat} {K : Bool → Prop} (h : K true) : laws_sameFloat.wp a a K := by
  rcases order_self Ieee.double a with ho | ho
  · have e : fcmp .neq .f64 a a = true := by simp [fcmp, FloatKind.format, ho]
    exact tE e (by rw [e]; exact h)
  · have e : fcmp .neq .f64 a a = false := by simp [fcmp, FloatKind.format, ho]
    have e2 : fcmp .eql .f64 a a = true := by simp [fcmp, FloatKind.format, ho]
    refine tG e (tG e ⟨fun c => ⟨fun _ => by rw [BEq.rfl]; exact h, fun c2 => (by rw [c] at c2; cases c2)⟩, fun _ => by rw [e2]; exact h⟩)
theorem eqFloat32S_wp {l : List Nat} {K : Bool → Prop} (hl : l.length ≤ 2 ^ 20) (h : K true) : laws_eqFloat32S.wp l l K := by
  refine tP rfl fun X hX => ?_
  refine up (Y := fun i => X (i : Int)) l.length ?_ fun i hi hn => ?_
  · exact hX _ ⟨fun c => absurd c (by omega), fun _ => h⟩
  · refine hX _ ⟨fun _ => ⟨⟨by omega, by omega⟩, ⟨by omega, by omega⟩, sameFloat_wp (tT ?_)⟩, fun c => absurd (show (i : Int) < l.length by omega) c⟩
    rw [w1 (by omega)]; exact hn
theorem eqBoolS_wp {l : List Bool} {K : Bool → Prop} (hl : l.length ≤ 2 ^ 20) (h : K true) : laws_eqBoolS.wp l l K := by
  refine tP rfl fun X hX => ?_
  refine up (Y := fun i => X (i : Int)) l.length ?_ fun i hi hn => ?_
  · exact hX _ ⟨fun c => absurd c (by omega), fun _ => h⟩
  · refine hX _ ⟨fun _ => ⟨⟨by omega, by omega⟩, ⟨by omega, by omega⟩, tB ?_⟩, fun c => absurd (show (i : Int) < l.length by omega) c⟩
    rw [w1 (by omega)]; exact hn
theorem markFloat32S_wp {l : List Nat} {k : Nat} {K : Int → List Nat → Prop} (hl : l.length ≤ 2 ^ 20) (hk : k ≤ 2 ^ 40) (h : K ((k + l.length : Nat) : Int) (marks k l.length)) : laws_markFloat32S.wp l (k : Int) K := by
  intro X hX
  have key : X (marks k 0 ++ l.drop 0) ((k + 0 : Nat) : Int) ((0 : Nat) : Int) := by
    refine up (Y := fun i => X (marks k i ++ l.drop i) ((k + i : Nat) : Int) (i : Int)) l.length ?_ fun i hi hn => ?_
    · refine hX _ _ _ ⟨fun c => absurd c (by rw [List.length_append, marks_length, List.length_drop]; omega), fun _ => ?_⟩
      rw [List.drop_length, List.append_nil]; exact h
    · have hlen : (marks k i ++ l.drop i).length = l.length := by rw [List.length_append, marks_length, List.length_drop]; omega
      refine hX _ _ _ ⟨fun _ => ⟨⟨by omega, by rw [hlen]; omega⟩, ?_⟩, fun c => absurd (show (i : Int) < _ by rw [hlen]; omega) c⟩
      rw [nn, w1 (by omega), w1 (by omega)]
      have e := marks_step (l := l) (i := i) (m := l.length - i) k (by omega) hi
      rw [show (k : Int) + (i : Int) = ((k + i : Nat) : Int) by omega] at e
      rw [show itof .f32 ((k + i : Nat) : Int) = fl ((k + i : Nat) : Int) from rfl]
      rw [e]; exact hn
  exact key
theorem heldFloat32S_wp {k n : Nat} {K : Int → Prop} (hl : n ≤ 2 ^ 20) (hk : k ≤ 2 ^ 40) (h : K ((k + n : Nat) : Int)) : laws_heldFloat32S.wp (marks k n) (k : Int) K := by
  intro X hX
  have hlen : (marks k n).length = n := marks_length _ _
  have key : X ((k + 0 : Nat) : Int) ((0 : Nat) : Int) := by
    refine up (Y := fun i => X ((k + i : Nat) : Int) (i : Int)) n ?_ fun i hi hn => ?_
    · exact hX _ _ ⟨fun c => absurd c (by omega), fun _ => h⟩
    · refine hX _ _ ⟨fun _ => ⟨⟨by omega, by omega⟩, ?_⟩, fun c => absurd (show (i : Int) < _ by omega) c⟩
      rw [nn, gD (by omega), marks_at k n i (by omega), show (k : Int) + (i : Int) = ((k + i : Nat) : Int) by omega]
      refine tG (show fcmp .neq .f32 (fl ((k + i : Nat) : Int)) (itof .f32 ((k + i : Nat) : Int)) = false from fl_neq _) ?_
      rw [w1 (by omega), w1 (by omega)]; exact hn
  exact key

end Go.Proofs.YtcgiboeilcdonaaDoor.G

namespace Go.Proofs.YtcgiboeilcdonaaDoor.G
open Go Go.Ab
set_option maxRecDepth 100000
set_option linter.unusedVariables false
set_option linter.unusedSimpArgs false
set_option maxHeartbeats 1000000
def pFin (x : Nat) : Bool := fcmp .eql .f32 (fop .sub .f32 x x) (cz .f32 0)
def pAll (l : List Nat) : Bool := l.all pFin
theorem pAll_cons (x : Nat) (l : List Nat) : pAll (x :: l) = (pFin x && pAll l) := rfl
/-- A loop that ends early where something does not hold. -/
theorem all_loop {α : Type} (l : List α) (p : α → Bool) {X : Int → Prop} {T F : Prop} (hX : ∀ (i : Nat) (h : i < l.length), ((p l[i] = true → X ((i + 1 : Nat) : Int)) ∧ (p l[i] = false → F)) → X (i : Int))
    (hend : T → X (l.length : Int)) (ht : l.all p = true → T) (hf : l.all p = false → F) : X (0 : Int) := by
  have key := up (Y := fun i => ((l.drop i).all p = true → T) → ((l.drop i).all p = false → F) → X (i : Int)) l.length (fun h _ => hend (h (by rw [List.drop_length]; rfl))) fun i hi hn h1 h2 => ?_
  · exact key (by rw [List.drop_zero]; exact ht) (by rw [List.drop_zero]; exact hf)
  · rw [dropC hi, List.all_cons] at h1 h2
    refine hX i hi ⟨fun e => hn (fun a => h1 (by rw [e, a]; rfl)) (fun a => h2 (by rw [e, a]; rfl)), fun e => h2 (by rw [e]; rfl)⟩
/-- A loop that makes a list, and ends early where something does not hold. -/
theorem map_loop {α β : Type} (l : List α) (p : α → Bool) (f : α → β) {X : List β → Int → Prop} {T F : Prop} (hX : ∀ (i : Nat) (h : i < l.length) (o : List β), o.length = i → ((p l[i] = true → X (o ++ [f l[i]]) ((i + 1 : Nat) : Int)) ∧ (p l[i] = false → F)) → X o (i : Int))
    (hend : T → X (l.map f) (l.length : Int)) (ht : l.all p = true → T) (hf : l.all p = false → F) : X [] (0 : Int) := by
  have key := up (Y := fun i => ((l.drop i).all p = true → T) → ((l.drop i).all p = false → F) → X ((l.take i).map f) (i : Int)) l.length (fun h _ => by rw [List.take_length]; exact hend (h (by rw [List.drop_length]; rfl))) fun i hi hn h1 h2 => ?_
  · have := key (by rw [List.drop_zero]; exact ht) (by rw [List.drop_zero]; exact hf)
    rw [List.take_zero] at this; exact this
  · rw [dropC hi, List.all_cons] at h1 h2
    refine hX i hi _ (by rw [List.length_map, List.length_take]; omega) ⟨fun e => ?_, fun e => h2 (by rw [e]; rfl)⟩
    have := hn (fun a => h1 (by rw [e, a]; rfl)) (fun a => h2 (by rw [e, a]; rfl))
    rw [List.take_succ_eq_append_getElem hi, List.map_append] at this
    exact this
theorem spec_l01Finite_wp {a : Nat} {K : Bool → Prop} (h : K (pFin a)) : spec_l01Finite.wp a K := h
theorem impl_IsFinite_wp {a : Nat} {K : Bool → Prop} (h : K (pFin a)) : impl_IsFinite.wp a K := h
theorem spec_l02Finite_wp {l : List Nat} {K : Bool → Prop} (hl : l.length ≤ 2 ^ 20) (h : K (pAll l)) : spec_l02Finite.wp l K := by
  intro X hX
  refine all_loop l pFin (X := X) (T := K true) (F := K false) (fun i hi hh => ?_) (fun ht => hX _ ⟨fun c => absurd c (by omega), fun _ => ht⟩) (fun e => by rw [pAll, e] at h; exact h) (fun e => by rw [pAll, e] at h; exact h)
  refine hX _ ⟨fun _ => ⟨⟨by omega, by omega⟩, spec_l01Finite_wp ?_⟩, fun c => absurd (show (i : Int) < l.length by omega) c⟩
  rw [nn, gD hi, w1 (by omega)]; exact hh
theorem impl_areFinite_wp {ll : List (List Nat)} {K : Bool → Prop} (hll : ll.length ≤ 2 ^ 20) (hl : ∀ l ∈ ll, l.length ≤ 2 ^ 20) (h : K (ll.all pAll)) : impl_areFinite.wp ll K := by
  intro X hX
  refine all_loop ll pAll (X := X) (T := K true) (F := K false) (fun i hi hh => ?_) (fun ht => hX _ ⟨fun c => absurd c (by omega), fun _ => ht⟩) (fun e => by rw [e] at h; exact h) (fun e => by rw [e] at h; exact h)
  refine hX _ ⟨fun _ => ⟨⟨by omega, by omega⟩, fun Y hY => ?_⟩, fun c => absurd (show (i : Int) < ll.length by omega) c⟩
  have hlen := hl ll[i] (List.getElem_mem hi)
  rw [nn, gD hi, w1 (by omega)] at hY
  refine all_loop ll[i] pFin (X := Y) (T := X ((i + 1 : Nat) : Int)) (F := K false) (fun j hj h2 => ?_) (fun ht => hY _ ⟨fun c => absurd c (by omega), fun _ => ht⟩) (fun e => hh.1 e) (fun e => hh.2 e)
  refine hY _ ⟨fun _ => ⟨⟨by omega, by omega⟩, impl_IsFinite_wp ?_⟩, fun c => absurd (show (j : Int) < ll[i].length by omega) c⟩
  rw [nn, gD hj, w1 (by omega)]; exact h2
theorem impl_areFinite1_wp {l : List Nat} {K : Bool → Prop} (hl : l.length ≤ 2 ^ 20) (h : K (pAll l)) : impl_areFinite.wp [l] K := by
  refine impl_areFinite_wp (by simp) (fun x hx => by rw [List.mem_singleton] at hx; subst hx; exact hl) ?_
  rw [List.all_cons, List.all_nil, Bool.and_true]; exact h
theorem impl_within_wp {a b c : Int} {K : Bool → Prop} (h : K (decide (b ≤ a ∧ a ≤ c))) : impl_within.wp a b c K := by
  refine ⟨fun h1 => ?_, fun h1 => ?_⟩
  · have : decide (b ≤ a ∧ a ≤ c) = decide (a ≤ c) := by simp [h1]
    rw [this] at h; exact h
  · have : decide (b ≤ a ∧ a ≤ c) = false := by simp [h1]
    rw [this] at h; exact h
theorem spec_l00In_wp {a b c : Int} {K : Bool → Prop} (h : K (decide (b ≤ a ∧ a ≤ c))) : spec_l00In.wp a b c K := by
  refine ⟨fun h1 => ?_, fun h1 => ?_⟩
  · have : decide (b ≤ a ∧ a ≤ c) = decide (a ≤ c) := by simp [h1]
    rw [this] at h; exact h
  · have : decide (b ≤ a ∧ a ≤ c) = false := by simp [h1]
    rw [this] at h; exact h
theorem bT {b : Bool} {A B : Prop} (h1 : b = true → A) (h2 : b = false → B) : (b = true → A) ∧ (b = false → B) := ⟨h1, h2⟩
def isL (l : List Nat) : Bool := decide (1 ≤ l.length ∧ l.length ≤ 128) && pAll l
def isOver (x : Nat) : Bool := pFin x && fcmp .gtr .f32 x (cz .f32 0)
def isLeast (x : Nat) : Bool := pFin x && fcmp .geq .f32 x (cz .f32 0)
theorem spec_l02Above_wp {a : Nat} {K : Bool → Prop} (h : K (isOver a)) : spec_l02Above.wp a K := by
  refine spec_l01Finite_wp ⟨fun h1 => ?_, fun h1 => ?_⟩ <;> (rw [isOver, h1] at h; exact h)
theorem impl_isOver_wp {a : Nat} {K : Bool → Prop} (h : K (isOver a)) : impl_isOver.wp a K := by
  refine impl_IsFinite_wp ⟨fun h1 => ?_, fun h1 => ?_⟩ <;> (rw [isOver, h1] at h; exact h)
def isShare (x : Nat) : Bool := fcmp .geq .f32 x (cz .f32 0) && fcmp .leq .f32 x (cz .f32 1065353216)
/-! ### integers -/
def bnd (m : Int) (l : List Int) : Bool := l.all fun n => decide (-m ≤ n ∧ n ≤ m)
def isI (l : List Int) : Bool := decide (1 ≤ l.length ∧ l.length ≤ 128) && bnd 1000000 l

end Go.Proofs.YtcgiboeilcdonaaDoor.G

namespace Go.Proofs.YtcgiboeilcdonaaDoor.G
open Go Go.Ab
set_option maxRecDepth 100000
set_option linter.unusedVariables false
set_option linter.unusedSimpArgs false
set_option maxHeartbeats 1000000
/-- What is like itself is a number. -/
theorem num_of_eq {x : Nat} (h : fcmp .neq .f32 x x = false) : num .f32 x = true := by
  unfold num
  cases hd : (FloatKind.f32.decode x).isNaN with
  | false => rfl
  | true =>
    exfalso
    have h2 : Ieee.single.order x x = none := by
      unfold Ieee.Format.order
      have hd' : (Ieee.single.read x).isNaN = true := hd
      cases hr : Ieee.single.read x with
      | nan s t => rfl
      | _ => rw [hr] at hd'; cases hd'
    unfold fcmp at h
    rw [show FloatKind.f32.format = Ieee.single from rfl, h2] at h
    cases h
theorem ixor {a b : Nat} (ha : a < 2 ^ 32) (hb : b < 2 ^ 32) : ibits .xor .i64 (a : Int) (b : Int) = ((a ^^^ b : Nat) : Int) := by
  have hx : a ^^^ b < 2 ^ 32 := Nat.xor_lt_two_pow ha hb
  have ea : (BitVec.ofInt 64 (a : Int)).toNat = a := by rw [BitVec.ofInt_natCast, BitVec.toNat_ofNat]; omega
  have eb : (BitVec.ofInt 64 (b : Int)).toNat = b := by rw [BitVec.ofInt_natCast, BitVec.toNat_ofNat]; omega
  show IntKind.i64.wrap ((BitVec.ofInt 64 (a : Int) ^^^ BitVec.ofInt 64 (b : Int)).toNat : Int) = _
  rw [BitVec.toNat_xor, ea, eb]
  exact wI (by omega)
theorem ior {a b : Nat} (ha : a < 2 ^ 32) (hb : b < 2 ^ 32) : ibits .or .i64 (a : Int) (b : Int) = ((a ||| b : Nat) : Int) := by
  have hx : a ||| b < 2 ^ 32 := Nat.or_lt_two_pow ha hb
  have ea : (BitVec.ofInt 64 (a : Int)).toNat = a := by rw [BitVec.ofInt_natCast, BitVec.toNat_ofNat]; omega
  have eb : (BitVec.ofInt 64 (b : Int)).toNat = b := by rw [BitVec.ofInt_natCast, BitVec.toNat_ofNat]; omega
  show IntKind.i64.wrap ((BitVec.ofInt 64 (a : Int) ||| BitVec.ofInt 64 (b : Int)).toNat : Int) = _
  rw [BitVec.toNat_or, ea, eb]
  exact wI (by omega)
theorem p8 : (2 ^ (min (8 : Int).toNat IntKind.i64.bits) : Int) = 256 := by decide
theorem fdiv8 (m : Nat) : Int.fdiv (m : Int) (2 ^ (min (8 : Int).toNat IntKind.i64.bits)) = ((m / 256 : Nat) : Int) := by
  rw [p8, Int.fdiv_eq_ediv_of_nonneg _ (by decide)]; omega
theorem tdivN (m k : Nat) (h : m < 2 ^ 40) : IntKind.i64.wrap (Int.tdiv (m : Int) (k : Int)) = ((m / k : Nat) : Int) := by
  rw [show (m : Int).tdiv (k : Int) = ((m / k : Nat) : Int) by rw [Int.tdiv_eq_ediv_of_nonneg (by omega)]; rfl]
  have := Nat.div_le_self m k
  generalize m / k = d at this
  exact wI (by omega)
theorem u8wrap (m : Nat) : IntKind.u8.wrap (m : Int) = ((m % 256 : Nat) : Int) := by
  show (m : Int) % 256 = _
  omega
theorem tmod8 (m : Nat) : Int.tmod (m : Int) 256 = ((m % 256 : Nat) : Int) := by
  rw [Int.tmod_eq_emod_of_nonneg (by omega)]; rfl
/-- How many bytes a number fills. -/
def nb (x : Nat) : Nat := if x = 0 then 0 else if x < 256 then 1 else if x < 65536 then 2 else if x < 16777216 then 3 else 4
theorem nb_le (x : Nat) : nb x ≤ 4 := by unfold nb; repeat' split
                                         all_goals omega
theorem nb_div {m : Nat} (h : 0 < m) (h32 : m < 2 ^ 32) : nb (m / 256) + 1 = nb m := by
  unfold nb; repeat' split
  all_goals omega
def lowB : Nat → Nat → List Int
  | 0, _ => []
  | n + 1, x => ((x % 256 : Nat) : Int) :: lowB n (x / 256)
theorem lowB_len : ∀ n x, (lowB n x).length = n
  | 0, _ => rfl
  | n + 1, x => by rw [lowB, List.length_cons, lowB_len]
def bitsN (x : Nat) : Nat := if fcmp .neq .f32 x x = true then 2143289344 else x
theorem bitsN_lt {x : Nat} (h : x < 2 ^ 32) : bitsN x < 2 ^ 32 := by unfold bitsN; split <;> omega
def oneB (y : Nat) : List Int := ((4 - nb y : Nat) : Int) :: lowB (nb y) y
theorem oneB_len (y : Nat) : (oneB y).length ≤ 5 := by rw [oneB, List.length_cons, lowB_len]; have := nb_le y; omega
def packTo : List Nat → Nat → List Int
  | [], _ => []
  | x :: l, b => oneB (bitsN x ^^^ b) ++ packTo l (bitsN x)
def packL (l : List Nat) : List UInt8 := byts (packTo l 0)
/-- The loop over the values. -/
theorem pack_loop (l : List Nat) (hl : l.length ≤ 2 ^ 20) (hw : ∀ x ∈ l, x < 2 ^ 32) {X : List Int → Int → Int → Prop} (hX : ∀ (o : List Int) (b i : Nat) (hi : i < l.length), b < 2 ^ 32 → o.length ≤ 5 * i → X (o ++ oneB (bitsN l[i] ^^^ b)) (bitsN l[i] : Nat) ((i + 1 : Nat) : Int) → X o (b : Int) (i : Int)) (hend : ∀ b : Int, X (packTo l 0) b (l.length : Int)) : X [] ((0 : Nat) : Int) ((0 : Nat) : Int) := by
  have key : ∀ (m i : Nat) (o : List Int) (b : Nat), m + i = l.length → b < 2 ^ 32 → o.length ≤ 5 * i → o ++ packTo (l.drop i) b = packTo l 0 → X o (b : Int) (i : Int) := by
    intro m
    induction m with
    | zero => intro i o b h1 h2 h3 h4
              obtain rfl : i = l.length := by omega
              rw [List.drop_length, packTo, List.append_nil] at h4
              rw [h4]; exact hend _
    | succ m ih =>
      intro i o b h1 h2 h3 h4
      have hi : i < l.length := by omega
      refine hX o b i hi h2 h3 (ih (i + 1) _ _ (by omega) (bitsN_lt (hw _ (List.getElem_mem hi))) (by rw [List.length_append]; have := oneB_len (bitsN l[i] ^^^ b); omega) ?_)
      rw [dropC hi, packTo] at h4
      rw [List.append_assoc]; exact h4
  exact key l.length 0 [] 0 (by omega) (by decide) (by simp) rfl
/-- The loop over a number's bytes. -/
theorem bytes_loop (M : Nat) {X : List Int → Int → Int → Prop} {N : Nat} (hX : ∀ (o : List Int) (x k : Nat), k < N → x < 2 ^ 32 → o.length < M → X (o ++ [((x % 256 : Nat) : Int)]) ((x / 256 : Nat) : Int) ((k + 1 : Nat) : Int) → X o (x : Int) (k : Int)) : ∀ (n k x : Nat) (o : List Int), k + n = N → x < 2 ^ 32 → o.length + n ≤ M → (∀ x, X (o ++ lowB n x) x (N : Int) → True) → (∀ y : Int, X (o ++ lowB n x) y (N : Int)) → X o (x : Int) (k : Int) := by
  intro n
  induction n with
  | zero => intro k x o h1 h2 h3 _ h4
            obtain rfl : k = N := by omega
            have := h4 x
            rw [lowB, List.append_nil] at this; exact this
  | succ n ih =>
    intro k x o h1 h2 h3 _ h4
    refine hX o x k (by omega) h2 (by omega) (ih (k + 1) (x / 256) _ (by omega) (by omega) (by rw [List.length_append, List.length_singleton]; omega) (fun _ _ => trivial) fun y => ?_)
    have := h4 y
    rw [lowB] at this
    rw [List.append_assoc]; exact this
theorem spec_l01Bits_wp {x : Nat} {K : Int → Prop} (hx : x < 2 ^ 32) (h : K (bitsN x : Nat)) : spec_l01Bits.wp x K := by
  refine ⟨fun c => ?_, fun c => ⟨?_, ?_⟩⟩
  · rw [bitsN, if_pos c] at h; exact h
  · exact num_of_eq c
  · rw [bitsN, if_neg (by rw [c]; decide)] at h
    rw [wI (by omega)]; exact h
theorem impl_BitsOf_wp {x : Nat} {K : Int → Prop} (hx : x < 2 ^ 32) (h : K (bitsN x : Nat)) : impl_BitsOf.wp x K := by
  refine ⟨fun c => ?_, fun c => ⟨?_, ?_⟩⟩
  · rw [bitsN, if_pos c] at h; exact h
  · exact num_of_eq c
  · rw [bitsN, if_neg (by rw [c]; decide)] at h
    rw [wI (by omega)]; exact h

end Go.Proofs.YtcgiboeilcdonaaDoor.G

namespace Go.Proofs.YtcgiboeilcdonaaDoor.G
open Go Go.Ab
set_option maxRecDepth 100000
set_option linter.unusedVariables false
set_option linter.unusedSimpArgs false
set_option maxHeartbeats 1000000
theorem szFloat32S_wp {l : List Nat} {n : Int} {K : Int → Prop} (hl : l.length ≤ maxLen) (hn : 0 ≤ n ∧ n ≤ 2 ^ 40) (h0 : K (-1)) (h : (l.length : Int) ≤ n → K (n - (l.length : Int))) : laws_szFloat32S.wp l n K := by
  have hm : l.length < 2 ^ 63 := Nat.lt_of_le_of_lt hl (by decide)
  have e : IntKind.i64.wrap (n - (l.length : Int)) = n - (l.length : Int) := wI (by omega)
  refine ⟨fun c => h0, fun c => ?_⟩
  rw [e] at c ⊢; exact h (by omega)
def btOk (a : List UInt8) (i : Nat) : Bool := !decide (bt a i < 97) && !decide (122 < bt a i)
def isNm (a : List UInt8) : Bool := (List.range a.length).all (btOk a) && decide (1 ≤ (a.length : Int) ∧ (a.length : Int) ≤ 8)
theorem range_get2 {n i : Nat} (h : i < (List.range n).length) : (List.range n)[i] = i := List.getElem_range h
theorem nm_yes {a : List UInt8} (h : (List.range a.length).all (btOk a) = true) : isNm a = decide (1 ≤ (a.length : Int) ∧ (a.length : Int) ≤ 8) := by rw [isNm, h]; rfl
theorem nm_no {a : List UInt8} (h : (List.range a.length).all (btOk a) = false) : isNm a = false := by rw [isNm, h]; rfl
def isVals (l : List Nat) : Bool := decide (1 ≤ (l.length : Int) ∧ (l.length : Int) ≤ 128)
def isTk (a : List UInt8) (k : Int) (l : List Nat) : Bool := isNm a && decide (1 ≤ k ∧ k ≤ 65535) && isVals l

end Go.Proofs.YtcgiboeilcdonaaDoor.G

namespace Go.Proofs.YtcgiboeilcdonaaDoor.G
open Go Go.Ab
set_option maxRecDepth 100000
set_option linter.unusedVariables false
set_option linter.unusedSimpArgs false
set_option maxHeartbeats 1000000
theorem szBoolS_wp {l : List Bool} {n : Int} {K : Int → Prop} (hl : l.length ≤ maxLen) (hn : 0 ≤ n ∧ n ≤ 2 ^ 40) (h0 : K (-1)) (h : (l.length : Int) ≤ n → K (n - (l.length : Int))) : laws_szBoolS.wp l n K := by
  have hm : l.length < 2 ^ 63 := Nat.lt_of_le_of_lt hl (by decide)
  have e : IntKind.i64.wrap (n - (l.length : Int)) = n - (l.length : Int) := wI (by omega)
  refine ⟨fun c => h0, fun c => ?_⟩
  rw [e] at c ⊢; exact h (by omega)
theorem szScheme_wp {l : List Nat} {s : Nat} {n : Int} {K : Int → Prop} (hl : l.length ≤ maxLen) (hn : 0 ≤ n ∧ n ≤ 2 ^ 40) (h0 : K (-1)) (h : (l.length : Int) ≤ n → K (n - (l.length : Int))) : laws_szScheme.wp l s n K :=
  szFloat32S_wp hl hn (tP (by omega) h0) fun h1 => tN (by omega) (h h1)
theorem szPicture_wp {a b : Int} {l : List Nat} {n : Int} {K : Int → Prop} (hl : l.length ≤ maxLen) (hn : 0 ≤ n ∧ n ≤ 2 ^ 40) (h0 : K (-1)) (h : (l.length : Int) ≤ n → K (n - (l.length : Int))) : laws_szPicture.wp a b l n K :=
  szFloat32S_wp hl hn (tP (by omega) h0) fun h1 => tN (by omega) (h h1)
theorem szCoded_wp {a b : Int} {l : List Bool} {n : Int} {K : Int → Prop} (hl : l.length ≤ maxLen) (hn : 0 ≤ n ∧ n ≤ 2 ^ 40) (h0 : K (-1)) (h : (l.length : Int) ≤ n → K (n - (l.length : Int))) : laws_szCoded.wp a b l n K :=
  szBoolS_wp hl hn (tP (by omega) h0) fun h1 => tN (by omega) (h h1)
theorem toScheme_wp {l : List Nat} {s : Nat} {K : List Nat → Nat → Prop} (hl : l.length ≤ 2 ^ 20) (h : K l s) : laws_toScheme.wp l s K := toFloat32S_wp hl h
theorem toPicture_wp {a b : Int} {l : List Nat} {K : Int → Int → List Nat → Prop} (hl : l.length ≤ 2 ^ 20) (h : K a b l) : laws_toPicture.wp a b l K := toFloat32S_wp hl h
theorem toCoded_wp {a b : Int} {l : List Bool} {K : Int → Int → List Bool → Prop} (hl : l.length ≤ 2 ^ 20) (h : K a b l) : laws_toCoded.wp a b l K := toBoolS_wp hl h
theorem eqScheme_wp {l : List Nat} {s : Nat} {K : Bool → Prop} (hl : l.length ≤ 2 ^ 20) (h : K true) : laws_eqScheme.wp l s l s K := eqFloat32S_wp hl (tT (sameFloat_wp (tT h)))
theorem eqPicture_wp {a b : Int} {l : List Nat} {K : Bool → Prop} (hl : l.length ≤ 2 ^ 20) (h : K true) : laws_eqPicture.wp a b l a b l K := tP rfl (tP rfl (eqFloat32S_wp hl (tT h)))
theorem eqCoded_wp {a b : Int} {l : List Bool} {K : Bool → Prop} (hl : l.length ≤ 2 ^ 20) (h : K true) : laws_eqCoded.wp a b l a b l K := tP rfl (tP rfl (eqBoolS_wp hl (tT h)))
def isSch (l : List Nat) (s : Nat) : Bool := decide (1 ≤ (l.length : Int) ∧ (l.length : Int) ≤ 8) && pAll l && isOver s
theorem spec_l02Scheme_wp {l : List Nat} {s : Nat} {K : Bool → Prop} (hl : l.length ≤ 2 ^ 20) (h : K (isSch l s)) : spec_l02Scheme.wp l s K := by
  refine ⟨fun h1 => ⟨fun h2 => ?_, fun h2 => ?_⟩, fun h1 => ?_⟩
  · rw [isSch, decide_eq_true ⟨h1, h2⟩, Bool.true_and] at h
    refine spec_l02Finite_wp hl ⟨fun h3 => spec_l02Above_wp ?_, fun h3 => ?_⟩ <;> (rw [h3] at h; exact h)
  · rw [isSch, decide_eq_false (by omega)] at h; exact h
  · rw [isSch, decide_eq_false (by omega)] at h; exact h
theorem impl_ValidScheme_wp {l : List Nat} {s : Nat} {K : Bool → Prop} (hl : l.length ≤ 2 ^ 20) (h : K (isSch l s)) : impl_ValidScheme.wp l s K := by
  refine impl_within_wp ⟨fun h1 => impl_areFinite1_wp hl ⟨fun h3 => impl_isOver_wp ?_, fun h3 => ?_⟩, fun h1 => ?_⟩
  · rw [isSch, h1, h3] at h; exact h
  · rw [isSch, h1, h3] at h; exact h
  · rw [isSch, h1] at h; exact h
def isPic (a b : Int) (l : List Nat) : Bool := decide (1 ≤ a ∧ a ≤ 16) && decide (1 ≤ b ∧ b ≤ 16) && decide ((l.length : Int) = a * b) && pAll l
theorem w16 {a b : Int} (h1 : decide (1 ≤ a ∧ a ≤ 16) = true) (h2 : decide (1 ≤ b ∧ b ≤ 16) = true) : IntKind.i64.wrap (a * b) = a * b := by
  simp only [decide_eq_true_eq] at h1 h2
  obtain ⟨an, rfl⟩ : ∃ n : Nat, a = n := ⟨a.toNat, by omega⟩
  obtain ⟨bn, rfl⟩ : ∃ n : Nat, b = n := ⟨b.toNat, by omega⟩
  have : an * bn ≤ 16 * 16 := Nat.mul_le_mul (by omega) (by omega)
  rw [show (an : Int) * (bn : Int) = ((an * bn : Nat) : Int) from rfl]
  exact wI (by omega)
theorem spec_l04Sides_wp {a b : Int} {K : Bool → Prop} (h : K (decide (1 ≤ a ∧ a ≤ 16) && decide (1 ≤ b ∧ b ≤ 16))) : spec_l04Sides.wp a b K := by
  refine spec_l00In_wp ⟨fun h1 => spec_l00In_wp ?_, fun h1 => ?_⟩ <;> (rw [h1] at h; exact h)
theorem spec_l04Is_wp {a b : Int} {l : List Nat} {K : Bool → Prop} (hl : l.length ≤ 2 ^ 20) (h : K (isPic a b l)) : spec_l04Is.wp a b l K := by
  refine spec_l04Sides_wp ⟨fun h1 => ?_, fun h1 => ?_⟩
  · have h1' := h1
    rw [Bool.and_eq_true] at h1'
    rw [isPic, h1, Bool.true_and] at h
    rw [w16 h1'.1 h1'.2]
    refine ⟨fun h3 => spec_l02Finite_wp hl ?_, fun h3 => ?_⟩
    · rw [decide_eq_true h3] at h; exact h
    · rw [decide_eq_false h3] at h; exact h
  · rw [isPic, h1] at h; exact h
theorem impl_ValidPicture_wp {a b : Int} {l : List Nat} {K : Bool → Prop} (hl : l.length ≤ 2 ^ 20) (h : K (isPic a b l)) : impl_ValidPicture.wp a b l K := by
  refine impl_within_wp ⟨fun h1 => impl_within_wp ⟨fun h2 => ?_, fun h2 => ?_⟩, fun h1 => ?_⟩
  · rw [w16 h1 h2]
    rw [isPic, h1, h2, Bool.true_and, Bool.true_and] at h
    refine ⟨fun h3 => impl_areFinite1_wp hl ?_, fun h3 => ?_⟩
    · rw [decide_eq_true h3] at h; exact h
    · rw [decide_eq_false h3] at h; exact h
  · rw [isPic, h1, h2] at h; exact h
  · rw [isPic, h1] at h; exact h
def isCod (a b : Int) (l : List Bool) : Bool := decide (1 ≤ a ∧ a ≤ 128) && decide (0 ≤ b ∧ b ≤ 24) && decide ((l.length : Int) ≤ 32768)
theorem spec_l06Is_wp {a b : Int} {l : List Bool} {K : Bool → Prop} (h : K (isCod a b l)) : spec_l06Is.wp a b l K := by
  refine spec_l00In_wp ⟨fun h1 => spec_l00In_wp ⟨fun h2 => ?_, fun h2 => ?_⟩, fun h1 => ?_⟩
  · rw [isCod, h1, h2] at h; exact h
  · rw [isCod, h1, h2] at h; exact h
  · rw [isCod, h1] at h; exact h
theorem impl_ValidCoded_wp {a b : Int} {l : List Bool} {K : Bool → Prop} (h : K (isCod a b l)) : impl_ValidCoded.wp a b l K := by
  refine impl_within_wp ⟨fun h1 => impl_within_wp ⟨fun h2 => ?_, fun h2 => ?_⟩, fun h1 => ?_⟩
  · rw [isCod, h1, h2] at h; exact h
  · rw [isCod, h1, h2] at h; exact h
  · rw [isCod, h1] at h; exact h
def isDesk (l m : List Nat) (s : Nat) (w v : Int) (p : List Nat) (c t : Int) (b : List Bool) : Bool := isL l && isSch m s && isPic w v p && isCod c t b

end Go.Proofs.YtcgiboeilcdonaaDoor.G

namespace Go.Proofs.YtcgiboeilcdonaaDoor.G
open Go Go.Ab
set_option maxRecDepth 100000
set_option linter.unusedVariables false
set_option linter.unusedSimpArgs false
set_option maxHeartbeats 1000000
def dd (n : Nat) : List UInt8 := if n = 0 then [] else Lib.decDigits n
theorem dd_step (n : Nat) : Lib.decDigits n = dd (n / 10) ++ [UInt8.ofNat (48 + n % 10)] := by
  rw [Lib.decDigits]
  by_cases h : n < 10
  · rw [dif_pos h, dd, if_pos (by omega), Nat.mod_eq_of_lt h]; rfl
  · rw [dif_neg h, dd, if_neg (by omega)]
theorem dd_zero : dd 0 = [] := rfl
theorem dd_pos {n : Nat} (h : n ≠ 0) : dd n = dd (n / 10) ++ [UInt8.ofNat (48 + n % 10)] := by
  conv => lhs; rw [dd, if_neg h]
  exact dd_step n
theorem numsC (b : UInt8) (l : List UInt8) : nums (b :: l) = (b.toNat : Int) :: nums l := rfl
theorem nums_length (l : List UInt8) : (nums l).length = l.length := by simp [nums]
theorem byts_nums (l : List UInt8) : byts (nums l) = l := by
  induction l with
  | nil => rfl
  | cons b l ih =>
    show UInt8.ofNat ((b.toNat : Int)).toNat :: byts (nums l) = _
    rw [ih, Int.toNat_natCast, UInt8.ofNat_toNat]
def sgn (b : Bool) (n : Nat) : Int := bif b then -(n : Int) else n
theorem sgn_of (z : Int) : z = sgn (decide (z < 0)) z.natAbs := by
  unfold sgn
  by_cases h : z < 0
  · rw [decide_eq_true h, cond_true]; omega
  · rw [decide_eq_false h, cond_false]; omega
theorem tmodN (n m : Nat) : Int.tmod (n : Int) (m : Int) = ((n % m : Nat) : Int) := by rw [Int.tmod_eq_emod_of_nonneg (by omega)]; omega
theorem tdivN' (n m : Nat) : Int.tdiv (n : Int) (m : Int) = ((n / m : Nat) : Int) := by rw [Int.tdiv_eq_ediv_of_nonneg (by omega)]; omega
theorem tmod_sgn (b : Bool) (n : Nat) : Int.tmod (sgn b n) 10 = sgn b (n % 10) := by
  cases b
  · exact tmodN n 10
  · show Int.tmod (-(n : Int)) 10 = -((n % 10 : Nat) : Int)
    rw [Int.neg_tmod, show (10 : Int) = ((10 : Nat) : Int) from rfl, tmodN]
theorem tdiv_sgn (b : Bool) (n : Nat) : Int.tdiv (sgn b n) 10 = sgn b (n / 10) := by
  cases b
  · exact tdivN' n 10
  · show Int.tdiv (-(n : Int)) 10 = -((n / 10 : Nat) : Int)
    rw [Int.neg_tdiv, show (10 : Int) = ((10 : Nat) : Int) from rfl, tdivN']
theorem sgn_le (b : Bool) (n : Nat) : -(n : Int) ≤ sgn b n ∧ sgn b n ≤ n := by cases b <;> simp only [sgn, cond_true, cond_false] <;> omega
theorem u8W (n : Nat) (h : n < 256) : IntKind.u8.wrap (n : Int) = (n : Int) := by
  simp only [IntKind.wrap, IntKind.signed, IntKind.bits]
  simp
  omega
theorem digW (n : Nat) : IntKind.u8.wrap (IntKind.i64.wrap ((48 : Int) + ((n % 10 : Nat) : Int))) = ((UInt8.ofNat (48 + n % 10)).toNat : Int) := by
  rw [wI (by omega), show (48 : Int) + ((n % 10 : Nat) : Int) = ((48 + n % 10 : Nat) : Int) by omega, u8W _ (by omega)]
  show _ = (((48 + n % 10) % 256 : Nat) : Int)
  omega
theorem stepDec {X : List Int → Int → Prop} (b : Bool) (r : Nat) (ds : List UInt8) (hr : r ≤ 2 ^ 62) (hd : ds.length ≤ 100) (h : X (nums (UInt8.ofNat (48 + r % 10) :: ds)) (sgn b (r / 10))) :
    (((Int.tmod (sgn b r) (10 : Int)) < (0 : Int) → ((([(IntKind.u8.wrap (IntKind.i64.wrap ((48 : Int) + (IntKind.i64.wrap (0 - (Int.tmod (sgn b r) (10 : Int)))))))] : List (Int)).length + (nums ds).length) * 1 ≤ 2 ^ 40) ∧ X (([(IntKind.u8.wrap (IntKind.i64.wrap ((48 : Int) + (IntKind.i64.wrap (0 - (Int.tmod (sgn b r) (10 : Int)))))))] : List (Int)) ++ nums ds) (IntKind.i64.wrap (Int.tdiv (sgn b r) (10 : Int)))) ∧ (¬((Int.tmod (sgn b r) (10 : Int)) < (0 : Int)) → ((([(IntKind.u8.wrap (IntKind.i64.wrap ((48 : Int) + (Int.tmod (sgn b r) (10 : Int)))))] : List (Int)).length + (nums ds).length) * 1 ≤ 2 ^ 40) ∧ X (([(IntKind.u8.wrap (IntKind.i64.wrap ((48 : Int) + (Int.tmod (sgn b r) (10 : Int)))))] : List (Int)) ++ nums ds) (IntKind.i64.wrap (Int.tdiv (sgn b r) (10 : Int))))) := by
  have hs := sgn_le b (r / 10)
  rw [tmod_sgn, tdiv_sgn, wI (n := sgn b (r / 10)) (by omega), nums_length]
  rw [numsC] at h
  refine ⟨fun c => ⟨by rw [len1]; omega, ?_⟩, fun c => ⟨by rw [len1]; omega, ?_⟩⟩
  · have e : (0 : Int) - sgn b (r % 10) = ((r % 10 : Nat) : Int) := by cases b <;> simp only [sgn, cond_true, cond_false] at c ⊢ <;> omega
    rw [e, wI (n := ((r % 10 : Nat) : Int)) (by omega), digW]; exact h
  · have e : sgn b (r % 10) = ((r % 10 : Nat) : Int) := by cases b <;> simp only [sgn, cond_true, cond_false] at c ⊢ <;> omega
    rw [e, digW]; exact h
theorem dec_len (n : Nat) (h : n ≤ 2 ^ 62) : (Lib.decDigits n).length ≤ 21 := by
  have := Lib.itoa_length_le (n : Int) (by omega) (by omega)
  rwa [Lib.itoa, if_neg (by omega), Int.toNat_natCast] at this
theorem itoa_len (n : Int) (h : -2 ^ 62 ≤ n ∧ n ≤ 2 ^ 62) : (Lib.itoa n).length ≤ 21 := Lib.itoa_length_le n (by omega) (by omega)
theorem spec_l01Dec_wp {n : Int} {K : List UInt8 → Prop} (hn : -2 ^ 62 ≤ n ∧ n ≤ 2 ^ 62) (h : K (Lib.itoa n)) : spec_l01Dec.wp n K := by
  intro X hX
  have hN : n.natAbs ≤ 2 ^ 62 := by omega
  have hl := dec_len _ hN
  have loop : ∀ (m r : Nat) (ds : List UInt8), r ≤ m → ds ≠ [] → r ≤ 2 ^ 62 → dd r ++ ds = Lib.decDigits n.natAbs → X (nums ds) (sgn (decide (n < 0)) r) := by
    intro m
    induction m with
    | zero =>
      intro r ds hr hds h1 h2
      obtain rfl : r = 0 := by omega
      have hz : ¬ (((nums ds).length : Int) = 0) := by rw [nums_length]; have := List.length_pos_iff.2 hds; omega
      have e0 : sgn (decide (n < 0)) 0 = 0 := by cases decide (n < 0) <;> rfl
      refine hX _ _ ⟨fun c => absurd c hz, fun _ => ⟨fun _ => ?_, fun c => absurd e0 c⟩⟩
      rw [dd_zero, List.nil_append] at h2
      subst h2
      unfold Lib.itoa at h
      refine ⟨fun c => ⟨by rw [len1, nums_length]; omega, ?_⟩, fun c => ?_⟩
      · rw [if_pos c] at h
        rw [show ([(45 : Int)] : List Int) ++ nums (Lib.decDigits n.natAbs) = nums (45 :: Lib.decDigits n.natAbs) from rfl, byts_nums]; exact h
      · rw [if_neg c, show n.toNat = n.natAbs by omega] at h
        rw [byts_nums]; exact h
    | succ m ih =>
      intro r ds hr hds h1 h2
      by_cases hz0 : r = 0
      · exact ih r ds (by omega) hds h1 h2
      have hz : ¬ (((nums ds).length : Int) = 0) := by rw [nums_length]; have := List.length_pos_iff.2 hds; omega
      have hdl : ds.length ≤ 21 := by rw [← h2, List.length_append] at hl; omega
      refine hX _ _ ⟨fun c => absurd c hz, fun _ => ⟨fun c => ?_, fun _ => stepDec _ r ds h1 (by omega) (ih _ _ (by omega) (by simp) (by omega) ?_)⟩⟩
      · exfalso; cases hb : decide (n < 0) <;> rw [hb] at c <;> simp only [sgn, cond_true, cond_false] at c <;> omega
      · rw [← h2, dd_pos hz0, List.append_assoc]; rfl
  have first : X (nums []) (sgn (decide (n < 0)) n.natAbs) := by
    refine hX _ _ ⟨fun _ => stepDec _ _ [] hN (by decide) (loop _ _ _ (Nat.le_refl _) (by simp) (by omega) (dd_step _).symm), fun c => absurd rfl c⟩
  rw [← sgn_of] at first
  exact first
/-- The mark of a text. -/
def mkT (k : Nat) : List UInt8 := if k = 0 then [109, 48] else 109 :: dd k
theorem markText_wp {k : Nat} {K : List UInt8 → Prop} (hk : k ≤ 2 ^ 50) (h : K (mkT k)) : laws_markText.wp (k : Int) K := by
  unfold mkT at h
  have hl := dec_len k (by omega)
  refine ⟨fun c => ?_, fun c X hX => ?_⟩
  · rw [if_pos (by omega)] at h; exact h
  · rw [if_neg (by omega)] at h
    have loop : ∀ (m r : Nat) (ds : List UInt8), r ≤ m → r ≤ 2 ^ 50 → dd r ++ ds = dd k → X (r : Int) ds := by
      intro m
      induction m with
      | zero =>
        intro r ds hr h1 h2
        obtain rfl : r = 0 := by omega
        rw [dd_zero, List.nil_append] at h2
        have : ds.length ≤ 21 := by rw [h2, dd, if_neg (by omega)]; exact hl
        refine hX _ _ ⟨fun c => absurd c (by omega), fun _ => ⟨by rw [len1]; omega, ?_⟩⟩
        rw [h2]; exact h
      | succ m ih =>
        intro r ds hr h1 h2
        by_cases hz0 : r = 0
        · exact ih r ds (by omega) h1 h2
        have hdl : ds.length ≤ 21 := by
          have : (dd k).length ≤ 21 := by rw [dd, if_neg (by omega)]; exact hl
          rw [← h2, List.length_append] at this; omega
        have e : byts ([(IntKind.u8.wrap (IntKind.i64.wrap ((48 : Int) + (Int.tmod (r : Int) (10 : Int)))))] : List (Int)) = [UInt8.ofNat (48 + r % 10)] := by
          rw [show (10 : Int) = ((10 : Nat) : Int) from rfl, tmodN, digW]
          exact byts_nums [UInt8.ofNat (48 + r % 10)]
        refine hX _ _ ⟨fun _ => ?_, fun c => absurd (show (0 : Int) < r by omega) c⟩
        rw [e, show (10 : Int) = ((10 : Nat) : Int) from rfl, tdivN', wI (by omega), len1]
        refine ⟨by omega, ih _ _ (by omega) (by omega) ?_⟩
        rw [← h2, dd_pos hz0, List.append_assoc]
    have := loop k k [] (Nat.le_refl _) hk (List.append_nil _)
    exact this

end Go.Proofs.YtcgiboeilcdonaaDoor.G

namespace Go.Proofs.YtcgiboeilcdonaaDoor.G
open Go Go.Ab
set_option maxRecDepth 100000
set_option linter.unusedVariables false
set_option linter.unusedSimpArgs false
set_option maxHeartbeats 1000000
/-- The texts, with commas between them; "none" for none. -/
def commas : List (List UInt8) → List UInt8
  | [] => [110, 111, 110, 101]
  | x :: r => x ++ Lib.joinTail [44] r
def listT (l : List Int) : List UInt8 := commas (l.map Lib.itoa)
def okV (n : Int) : Bool := decide (-1000000000000000 ≤ n) && decide (n ≤ 1000000000000000)
theorem lens_le {l : List (List UInt8)} {m : Nat} (h : ∀ x ∈ l, x.length ≤ m) : (Lib.joinTail [44] l).length ≤ l.length * (m + 1) := by
  induction l with
  | nil => exact Nat.zero_le _
  | cons x l ih =>
    have h1 := h x (List.mem_cons_self ..)
    have h2 := ih fun y hy => h y (List.mem_cons_of_mem _ hy)
    show (([44] ++ x) ++ Lib.joinTail [44] l).length ≤ _
    rw [List.length_append, List.length_append, len1, List.length_cons, Nat.succ_mul]; omega
theorem commas_len {l : List (List UInt8)} {m : Nat} (h : ∀ x ∈ l, x.length ≤ m) : (commas l).length ≤ l.length * (m + 1) + 4 := by
  cases l with
  | nil => show 4 ≤ _; rw [List.length_nil, Nat.zero_mul]; exact Nat.le_refl _
  | cons x l =>
    have h1 := h x (List.mem_cons_self ..)
    have h2 := lens_le fun y hy => h y (List.mem_cons_of_mem _ hy)
    show (x ++ Lib.joinTail [44] l).length ≤ _
    rw [List.length_append, List.length_cons, Nat.succ_mul]; omega
theorem listT_len {l : List Int} (h : ∀ x ∈ l, -2 ^ 62 ≤ x ∧ x ≤ 2 ^ 62) : (listT l).length ≤ l.length * 22 + 4 := by
  have := commas_len (l := l.map Lib.itoa) (m := 21) fun x hx => by
    obtain ⟨y, hy, rfl⟩ := List.mem_map.1 hx
    exact itoa_len y (h y hy)
  rw [List.length_map] at this; exact this
theorem joinTail_succ (l : List (List UInt8)) (i : Nat) (h : i < l.length) : Lib.joinTail [44] (l.take (i + 1)) = Lib.joinTail [44] (l.take i) ++ (([44] : List UInt8) ++ l[i]) := by
  rw [Lib.joinTail_take_succ [44] l i l[i] (List.getElem?_eq_getElem h), List.append_assoc]
theorem spec_l01Text_wp {l : List Int} {K : List UInt8 → Prop} (hl : l.length ≤ 2 ^ 30) (hv : ∀ x ∈ l, -2 ^ 62 ≤ x ∧ x ≤ 2 ^ 62) (h : K (listT l)) : spec_l01Text.wp l K := by
  cases l with
  | nil => exact ⟨fun _ => h, fun c => absurd rfl c⟩
  | cons x l =>
    refine ⟨fun c => by rw [List.length_cons] at c; omega, fun _ => ⟨by rw [List.length_cons]; omega, spec_l01Dec_wp (hv x (List.mem_cons_self ..)) fun X hX => ?_⟩⟩
    have hx : ((x :: l).getD (0 : Int).toNat 0) = x := rfl
    rw [hx]
    rw [List.length_cons] at hl
    have lenL : ∀ i, i ≤ l.length → (Lib.joinTail [44] ((l.map Lib.itoa).take i)).length ≤ i * 22 := by
      intro i hi
      have := lens_le (l := (l.map Lib.itoa).take i) (m := 21) fun y hy => by
        obtain ⟨z, hz, rfl⟩ := List.mem_map.1 (List.mem_of_mem_take hy)
        exact itoa_len z (hv z (List.mem_cons_of_mem _ hz))
      rw [List.length_take, List.length_map, Nat.min_eq_left hi] at this; exact this
    have key : X (Lib.itoa x ++ Lib.joinTail [44] ((l.map Lib.itoa).take 0)) ((0 + 1 : Nat) : Int) := by
      refine up (Y := fun i => X (Lib.itoa x ++ Lib.joinTail [44] ((l.map Lib.itoa).take i)) ((i + 1 : Nat) : Int)) l.length ?_ fun i hi hn => ?_
      · refine hX _ _ ⟨fun c => absurd c (by rw [List.length_cons]; omega), fun _ => ?_⟩
        rw [List.take_of_length_le (by rw [List.length_map]; omega)]
        exact h
      · have hg : (x :: l).getD (((i + 1 : Nat) : Int)).toNat 0 = l[i] := by rw [nn, List.getD_cons_succ, gD hi]
        have hli := hv _ (List.mem_cons_of_mem x (List.getElem_mem hi))
        have h1 := lenL i (by omega)
        have h2 := itoa_len x (hv x (List.mem_cons_self ..))
        have h3 := itoa_len _ hli
        refine hX _ _ ⟨fun _ => ⟨by rw [List.length_cons]; omega, ?_⟩, fun c => absurd (show ((i + 1 : Nat) : Int) < _ by rw [List.length_cons]; omega) c⟩
        rw [hg]
        refine spec_l01Dec_wp hli ⟨by rw [len1]; omega, by rw [List.length_append, List.length_append, len1]; omega, ?_⟩
        rw [w1 (by omega), List.append_assoc]
        rw [joinTail_succ _ _ (by rw [List.length_map]; exact hi), List.getElem_map] at hn
        exact hn
    have e0 : Lib.itoa x ++ Lib.joinTail [44] ((l.map Lib.itoa).take 0) = Lib.itoa x := by rw [List.take_zero]; exact List.append_nil _
    rw [e0] at key; exact key
theorem impl_Dec_wp {n : Int} {K : List UInt8 → Prop} (hn : -2 ^ 63 ≤ n ∧ n < 2 ^ 63) (h : K (Lib.itoa n)) : impl_Decimal.wp n K := Or.inl ⟨rfl, by omega, h⟩
theorem impl_joined_wp {l : List (List UInt8)} {K : List UInt8 → Prop} {m : Nat} (hl : l.length ≤ 2 ^ 25) (hm : m ≤ 2 ^ 10) (hx : ∀ x ∈ l, x.length ≤ m) (h : K (commas l)) : impl_joined.wp l K := by
  have hc := commas_len hx
  have : l.length * (m + 1) ≤ 2 ^ 25 * (2 ^ 10 + 1) := Nat.mul_le_mul hl (by omega)
  cases l with
  | nil => exact ⟨fun _ => h, fun c => absurd rfl c⟩
  | cons x l =>
    refine ⟨fun c => by rw [List.length_cons] at c; omega, fun _ => ?_⟩
    have e : Lib.join (x :: l) [44] = commas (x :: l) := Lib.join_cons x l [44]
    refine ⟨⟨by omega, ?_⟩, ?_⟩
    · rw [e]; omega
    · rw [e]; exact h
theorem impl_listText_wp {l : List Int} {K : List UInt8 → Prop} (hl : l.length ≤ 2 ^ 25) (hv : ∀ x ∈ l, -2 ^ 62 ≤ x ∧ x ≤ 2 ^ 62) (h : K (listT l)) : impl_listText.wp l K := by
  intro X hX
  have key : X ((l.map Lib.itoa).take 0) ((0 : Nat) : Int) := by
    refine up (Y := fun i => X ((l.map Lib.itoa).take i) (i : Int)) l.length ?_ fun i hi hn => ?_
    · refine hX _ _ ⟨fun c => absurd c (by omega), fun _ => ?_⟩
      rw [List.take_of_length_le (by rw [List.length_map]; omega)]
      exact impl_joined_wp (m := 21) (by rw [List.length_map]; exact hl) (by decide) (fun x hx => by
        obtain ⟨y, hy, rfl⟩ := List.mem_map.1 hx
        exact itoa_len y (hv y hy)) h
    · refine hX _ _ ⟨fun _ => ⟨by omega, ?_⟩, fun c => absurd (show (i : Int) < _ by omega) c⟩
      rw [nn, gD hi]
      have hli := hv _ (List.getElem_mem hi)
      refine impl_Dec_wp (by omega) ⟨by rw [len1, List.length_take, List.length_map]; omega, ?_⟩
      rw [w1 (by omega)]
      rw [List.take_succ_eq_append_getElem (by rw [List.length_map]; exact hi), List.getElem_map] at hn
      exact hn
  exact key
theorem impl_isValue_wp {n : Int} {K : Bool → Prop} (h : K (okV n)) : impl_isValue.wp n K := by
  unfold okV at h
  refine ⟨fun c => ?_, fun c => ?_⟩
  · rw [decide_eq_true c, Bool.true_and] at h; exact h
  · rw [decide_eq_false c, Bool.false_and] at h; exact h
theorem impl_areValues_wp {l : List Int} {K : Bool → Prop} (hl : l.length ≤ 2 ^ 40) (h : K (l.all okV && decide ((l.length : Int) ≤ 64))) : impl_areValues.wp l K := by
  intro X hX
  have key : ∀ (m i : Nat), i + m = l.length → (l.take i).all okV = true → X (i : Int) := by
    intro m
    induction m with
    | zero =>
      intro i h1 h2
      refine hX _ ⟨fun c => absurd c (by omega), fun _ => ?_⟩
      rw [List.take_of_length_le (by omega)] at h2
      rw [h2, Bool.true_and] at h; exact h
    | succ m ih =>
      intro i h1 h2
      have hi : i < l.length := by omega
      refine hX _ ⟨fun _ => ⟨by omega, ?_⟩, fun c => absurd (show (i : Int) < _ by omega) c⟩
      rw [nn, gD hi]
      refine impl_isValue_wp ⟨fun c => ?_, fun c => ?_⟩
      · rw [w1 (by omega)]
        exact ih (i + 1) (by omega) (by rw [List.take_succ_eq_append_getElem hi, List.all_append, h2, List.all_cons, c]; rfl)
      · have : l.all okV = false := by
          rw [List.all_eq_false]; exact ⟨_, List.getElem_mem hi, by rw [c]; decide⟩
        rw [this, Bool.false_and] at h; exact h
  exact key l.length 0 (by omega) rfl
theorem impl_ListText_wp {l : List Int} {K : List UInt8 → Bool → Prop} (hl : l.length ≤ 2 ^ 25) (h1 : (l.all okV && decide ((l.length : Int) ≤ 64)) = true → K (listT l) true) (h2 : (l.all okV && decide ((l.length : Int) ≤ 64)) = false → K [] false) : impl_ListText.wp l K := by
  refine impl_areValues_wp (by omega) ⟨fun c => impl_listText_wp hl (fun x hx => ?_) (h1 c), fun c => h2 c⟩
  rw [Bool.and_eq_true] at c
  have := List.all_eq_true.1 c.1 x hx
  unfold okV at this
  rw [Bool.and_eq_true, decide_eq_true_eq, decide_eq_true_eq] at this
  omega

end Go.Proofs.YtcgiboeilcdonaaDoor.G

namespace Go.Proofs.YtcgiboeilcdonaaDoor.G
open Go Go.Ab
set_option maxRecDepth 100000
set_option linter.unusedVariables false
set_option linter.unusedSimpArgs false
set_option maxHeartbeats 1000000
def hxS : List UInt8 := [48, 49, 50, 51, 52, 53, 54, 55, 56, 57, 97, 98, 99, 100, 101, 102]
def hxL : List UInt8 := [48, 49, 50, 51, 52, 53, 54, 55, 56, 57, 97, 98, 99, 100, 101, 102, 103, 104, 105, 106, 107, 108, 109, 110, 111, 112, 113, 114, 115, 116, 117, 118, 119, 120, 121, 122]
def hxd (d : Nat) : UInt8 := hxS.getD d 0
theorem btS : ∀ d : Nat, d < 16 → bt hxS (d : Int) = ((hxd d).toNat : Int) := by decide +kernel
theorem btL : ∀ d : Nat, d < 16 → bt hxL (d : Int) = ((hxd d).toNat : Int) := by decide +kernel
/-- k digits, zeros in front. -/
def hx : Nat → Nat → List UInt8
  | 0, _ => []
  | k + 1, v => hx k (v / 16) ++ [hxd (v % 16)]
theorem hx_len : ∀ k v, (hx k v).length = k
  | 0, _ => rfl
  | k + 1, v => by rw [hx, List.length_append, hx_len, len1]
theorem hx_zero : ∀ k, hx k 0 = List.replicate k 48
  | 0 => rfl
  | k + 1 => by rw [hx, hx_zero, List.replicate_succ']; rfl
/-- As many digits as it takes. -/
def hexN (v : Nat) : List UInt8 := if _h : v < 16 then [hxd v] else hexN (v / 16) ++ [hxd (v % 16)]
theorem hexN_lt {v : Nat} (h : v < 16) : hexN v = [hxd v] := by rw [hexN, dif_pos h]
theorem hexN_ge {v : Nat} (h : ¬ v < 16) : hexN v = hexN (v / 16) ++ [hxd (v % 16)] := by rw [hexN, dif_neg h]
theorem hexN_pad : ∀ (k v : Nat), v < 16 ^ (k + 1) → (hexN v).length ≤ k + 1 ∧ List.replicate (k + 1 - (hexN v).length) 48 ++ hexN v = hx (k + 1) v
  | k, v, h => by
    by_cases h1 : v < 16
    · rw [hexN_lt h1, len1]
      refine ⟨by omega, ?_⟩
      rw [hx, Nat.div_eq_of_lt h1, Nat.mod_eq_of_lt h1, hx_zero]; rfl
    · rw [hexN_ge h1]
      cases k with
      | zero => exact absurd h (by omega)
      | succ k =>
        have h2 : v / 16 < 16 ^ (k + 1) := by rw [Nat.pow_succ] at h; omega
        obtain ⟨h3, h4⟩ := hexN_pad k (v / 16) h2
        rw [List.length_append, len1]
        refine ⟨by omega, ?_⟩
        rw [hx, ← h4, List.append_assoc]
        congr 2
        omega
theorem repl_L (c : Nat) : Lib.repeatL [48] c = List.replicate c 48 := by
  induction c with
  | zero => rfl
  | succ c ih => show [48] ++ Lib.repeatL [48] c = _; rw [ih]; rfl
theorem hex_pad {v : Nat} (h : v < 2 ^ 32) : (hexN v).length ≤ 8 ∧ Lib.repeatL [48] (8 - (hexN v).length) ++ hexN v = hx 8 v := by
  obtain ⟨h1, h2⟩ := hexN_pad 7 v (by rw [show (16 : Nat) ^ 8 = 2 ^ 32 from rfl]; exact h)
  exact ⟨h1, by rw [repl_L]; exact h2⟩
theorem u64W {k : Nat} (h : k < 2 ^ 63) : IntKind.u64.wrap (k : Int) = (k : Int) := by
  simp only [IntKind.wrap, IntKind.signed, IntKind.bits]
  simp
  omega
theorem iand15 {m : Nat} (hm : m < 2 ^ 63) : ibits .and .i64 (m : Int) (15 : Int) = ((m % 16 : Nat) : Int) := by
  have ea : (BitVec.ofInt 64 (m : Int)).toNat = m := by rw [BitVec.ofInt_natCast, BitVec.toNat_ofNat]; omega
  show IntKind.i64.wrap ((BitVec.ofInt 64 (m : Int) &&& BitVec.ofInt 64 15).toNat : Int) = _
  rw [BitVec.toNat_and, ea, show (BitVec.ofInt 64 15).toNat = 2 ^ 4 - 1 from rfl, Nat.and_two_pow_sub_one_eq_mod]
  exact wI (by omega)
theorem iand15u {m : Nat} (hm : m < 2 ^ 63) : ibits .and .u64 (m : Int) (15 : Int) = ((m % 16 : Nat) : Int) := by
  have ea : (BitVec.ofInt 64 (m : Int)).toNat = m := by rw [BitVec.ofInt_natCast, BitVec.toNat_ofNat]; omega
  show IntKind.u64.wrap ((BitVec.ofInt 64 (m : Int) &&& BitVec.ofInt 64 15).toNat : Int) = _
  rw [BitVec.toNat_and, ea, show (BitVec.ofInt 64 15).toNat = 2 ^ 4 - 1 from rfl, Nat.and_two_pow_sub_one_eq_mod]
  exact u64W (by omega)
theorem shr4 (v m : Nat) (hm : m < 8) : Int.fdiv (v : Int) (2 ^ (min (IntKind.u64.wrap (((4 * m : Nat)) : Int)).toNat IntKind.i64.bits)) = ((v / 16 ^ m : Nat) : Int) := by
  rw [u64W (by omega), nn, show min (4 * m) IntKind.i64.bits = 4 * m from by show min (4 * m) 64 = _; omega, Int.fdiv_eq_ediv_of_nonneg _ (by exact Int.pow_nonneg (by decide))]
  have e : (2 : Int) ^ (4 * m) = ((16 ^ m : Nat) : Int) := by
    rw [show (16 : Nat) = 2 ^ 4 from rfl, ← Nat.pow_mul]; simp
  rw [e]; rfl
theorem spec_l01Hex_wp {a : Nat} {K : List UInt8 → Prop} (ha : a < 2 ^ 32) (h : K (hx 8 (bitsN a))) : spec_l01Hex.wp a K := by
  refine spec_l01Bits_wp ha fun X hX => ?_
  have hv := bitsN_lt ha
  generalize bitsN a = v at h hX hv
  have key : ∀ m, m ≤ 8 → ∀ out, out = nums (hx (8 - m) (v / 16 ^ m)) → X out (((4 * m : Nat) : Int) - 4) := by
    intro m
    induction m with
    | zero =>
      intro _ out ho
      refine hX _ _ ⟨fun c => absurd c (by omega), fun _ => ?_⟩
      rw [ho, byts_nums]
      simpa using h
    | succ m ih =>
      intro hm out ho
      have e : (((4 * (m + 1) : Nat)) : Int) - 4 = ((4 * m : Nat) : Int) := by omega
      rw [e]
      have hd : v / 16 ^ m < 2 ^ 63 := Nat.lt_of_le_of_lt (Nat.div_le_self _ _) (by omega)
      refine hX _ _ ⟨fun _ => ⟨by rw [u64W (by omega)]; omega, ?_⟩, fun c => absurd (by omega) c⟩
      rw [shr4 v m (by omega), iand15 hd]
      have h16 : v / 16 ^ m % 16 < 16 := Nat.mod_lt _ (by decide)
      refine ⟨⟨by omega, ?_⟩, ?_, ?_⟩
      · show ((v / 16 ^ m % 16 : Nat) : Int) < 16; omega
      · rw [ho, nums_length, hx_len, len1]; omega
      · rw [show bt ([48, 49, 50, 51, 52, 53, 54, 55, 56, 57, 97, 98, 99, 100, 101, 102] : List UInt8) ((v / 16 ^ m % 16 : Nat) : Int) = _ from btS _ h16]
        rw [wI (by omega)]
        refine ih (by omega) _ ?_
        rw [ho, show 8 - m = (8 - (m + 1)) + 1 by omega, hx, show v / 16 ^ m / 16 = v / 16 ^ (m + 1) by rw [Nat.div_div_eq_div_mul, Nat.pow_succ]]
        simp [nums]
  have := key 8 (Nat.le_refl _) [] (by simp [hx, nums])
  exact this
theorem shr4u (v : Nat) : Int.fdiv (v : Int) (2 ^ (min (IntKind.u64.wrap ((Lib.ctz 64 (Int.toNat 16) : Nat) : Int)).toNat IntKind.u64.bits)) = ((v / 16 : Nat) : Int) := by
  rw [show (2 : Int) ^ (min (IntKind.u64.wrap ((Lib.ctz 64 (Int.toNat 16) : Nat) : Int)).toNat IntKind.u64.bits) = 16 from by decide +kernel, Int.fdiv_eq_ediv_of_nonneg _ (by decide)]; rfl
theorem drop_set {l : List Int} {i : Nat} (hi : i + 1 ≤ l.length) (x : Int) (ds : List Int) (h : l.drop (i + 1) = ds) : (l.set i x).drop i = x :: ds := by
  rw [List.drop_eq_getElem_cons (by rw [List.length_set]; omega), List.getElem_set_self, ← h, List.drop_set_of_lt (by omega)]
theorem formatBits_wp {v : Nat} {K : List Int → List UInt8 → Prop} (hv : v < 2 ^ 32) (h : K [] (hexN v)) : internal_strconv_formatBits.wp [] (v : Int) 16 false false K := by
  refine ⟨fun c => absurd c (by decide), fun _ => ⟨fun c => absurd c (by decide), fun _ => ⟨fun c => absurd c (by decide), fun _ => ⟨fun c => (by cases c), fun _ => ?_⟩⟩⟩⟩
  have e2 : decide (ibits .and .i64 (16 : Int) (IntKind.i64.wrap ((16 : Int) - (1 : Int))) = (0 : Int)) = true := by decide +kernel
  have e16 : IntKind.u64.wrap (16 : Int) = 16 := by decide
  have e15 : IntKind.u64.wrap ((16 : Int) - 1) = 15 := by decide
  refine tE e2 ⟨by decide, fun X hX => ?_⟩
  rw [e16, e15] at hX
  have lt1 : ∀ (u : Nat) (l : List Int) (ds : List UInt8), u < 16 → ds.length ≤ 7 → l.length = 65 → l.drop (65 - ds.length) = nums ds → hexN u ++ ds = hexN v → X l (u : Int) ((65 - ds.length : Nat) : Int) := by
    intro u l ds hu hk hl h1 h2
    have ei : IntKind.i64.wrap (((65 - ds.length : Nat) : Int) - 1) = ((64 - ds.length : Nat) : Int) := by rw [wI (by omega)]; omega
    refine hX _ _ _ ⟨fun c => absurd c (by omega), fun _ => ?_⟩
    rw [ei, show bt ([48, 49, 50, 51, 52, 53, 54, 55, 56, 57, 97, 98, 99, 100, 101, 102, 103, 104, 105, 106, 107, 108, 109, 110, 111, 112, 113, 114, 115, 116, 117, 118, 119, 120, 121, 122] : List UInt8) (u : Int) = _ from btL u hu, nn]
    refine ⟨⟨by omega, by show (u : Int) < 36; omega⟩, ⟨by omega, by rw [hl]; omega⟩, fun c => (by cases c), fun _ => ⟨⟨by omega, by rw [List.length_set, hl]; omega, Int.le_refl _⟩, ?_⟩⟩
    rw [List.length_set, hl]
    have ed : (l.set (64 - ds.length) ((hxd u).toNat : Int)).drop (64 - ds.length) = nums (hxd u :: ds) := by
      rw [numsC]
      exact drop_set (by omega) _ _ (by rw [show 64 - ds.length + 1 = 65 - ds.length by omega]; exact h1)
    rw [ed, show ((65 : Nat) : Int).toNat - (64 - ds.length) = (hxd u :: ds).length by rw [List.length_cons]; show 65 - _ = _; omega, ← nums_length, List.take_length, byts_nums]
    rw [hexN_lt hu] at h2
    rw [show hxd u :: ds = hexN v from h2]; exact h
  have key : ∀ (k u : Nat) (l : List Int) (ds : List UInt8), u < 16 ^ (k + 1) → ds.length + k ≤ 7 → l.length = 65 → l.drop (65 - ds.length) = nums ds → hexN u ++ ds = hexN v → X l (u : Int) ((65 - ds.length : Nat) : Int) := by
    intro k
    induction k with
    | zero =>
      intro u l ds hu hk hl h1 h2
      exact lt1 u l ds hu (by omega) hl h1 h2
    | succ k ih =>
      intro u l ds hu hk hl h1 h2
      by_cases hu1 : u < 16
      · exact lt1 u l ds hu1 (by omega) hl h1 h2
      have ei : IntKind.i64.wrap (((65 - ds.length : Nat) : Int) - 1) = ((64 - ds.length : Nat) : Int) := by rw [wI (by omega)]; omega
      have h16 : (16 : Nat) ^ (k + 1 + 1) ≤ 16 ^ 8 := Nat.pow_le_pow_right (by decide) (by omega)
      have hu63 : u < 2 ^ 63 := Nat.lt_of_lt_of_le hu (Nat.le_trans h16 (by decide))
      have hm : u % 16 < 16 := Nat.mod_lt _ (by decide)
      refine hX _ _ _ ⟨fun _ => ?_, fun c => absurd (show (16 : Int) ≤ u by omega) c⟩
      rw [iand15u hu63, ei, show bt ([48, 49, 50, 51, 52, 53, 54, 55, 56, 57, 97, 98, 99, 100, 101, 102, 103, 104, 105, 106, 107, 108, 109, 110, 111, 112, 113, 114, 115, 116, 117, 118, 119, 120, 121, 122] : List UInt8) ((u % 16 : Nat) : Int) = _ from btL _ hm, nn, shr4u]
      refine ⟨⟨by omega, by show ((u % 16 : Nat) : Int) < 36; omega⟩, ⟨by omega, by rw [hl]; omega⟩, by decide, ?_⟩
      have := ih (u / 16) (l.set (64 - ds.length) ((hxd (u % 16)).toNat : Int)) (hxd (u % 16) :: ds) (by rw [Nat.pow_succ] at hu; omega) (by rw [List.length_cons]; omega) (by rw [List.length_set]; exact hl) (by
        rw [numsC, List.length_cons, show 65 - (ds.length + 1) = 64 - ds.length by omega]
        exact drop_set (by omega) _ _ (by rw [show 64 - ds.length + 1 = 65 - ds.length by omega]; exact h1)) (by
        rw [← h2, hexN_ge hu1, List.append_assoc]; rfl)
      rw [List.length_cons, show 65 - (ds.length + 1) = 64 - ds.length by omega] at this
      exact this
  exact key 7 v (List.replicate 65 0) [] (by omega) (Nat.le_refl _) rfl rfl (List.append_nil _)
theorem impl_hexOf_wp {a : Nat} {K : List UInt8 → Prop} (ha : a < 2 ^ 32) (h : K (hx 8 (bitsN a))) : impl_hexOf.wp a K := by
  refine impl_BitsOf_wp ha ?_
  have hv := bitsN_lt ha
  generalize bitsN a = v at h hv
  obtain ⟨h1, h2⟩ := hex_pad hv
  refine Or.inr ⟨fun c => absurd c (by decide), fun _ => ?_⟩
  rw [u64W (by omega), decide_eq_false (by omega)]
  refine formatBits_wp hv ?_
  have e : IntKind.i64.wrap ((8 : Int) - ((hexN v).length : Int)) = ((8 - (hexN v).length : Nat) : Int) := by rw [wI (by omega)]; omega
  show strings_Repeat.wp [48] (IntKind.i64.wrap ((8 : Int) - ((hexN v).length : Int))) _
  rw [e]
  refine ⟨⟨by omega, by omega, by rw [nn, len1]; omega⟩, ?_, ?_⟩
  · rw [nn, Lib.repeatL_length, len1]; omega
  · rw [nn, h2]; exact h
/-- The text of a list of numbers. -/
def numsT (l : List Nat) : List UInt8 := commas (l.map fun x => hx 8 (bitsN x))
theorem numsT_len (l : List Nat) : (numsT l).length ≤ l.length * 9 + 4 := by
  have := commas_len (l := l.map fun x => hx 8 (bitsN x)) (m := 8) fun x hx => by
    obtain ⟨y, hy, rfl⟩ := List.mem_map.1 hx
    rw [hx_len]; exact Nat.le_refl _
  rw [List.length_map] at this; exact this
theorem spec_l01NText_wp {l : List Nat} {K : List UInt8 → Prop} (hl : l.length ≤ 2 ^ 30) (hw : ∀ x ∈ l, x < 2 ^ 32) (h : K (numsT l)) : spec_l01NText.wp l K := by
  cases l with
  | nil => exact ⟨fun _ => h, fun c => absurd rfl c⟩
  | cons x l =>
    refine ⟨fun c => by rw [List.length_cons] at c; omega, fun _ => ⟨by rw [List.length_cons]; omega, spec_l01Hex_wp (hw x (List.mem_cons_self ..)) fun X hX => ?_⟩⟩
    have hx0 : ((x :: l).getD (0 : Int).toNat 0) = x := rfl
    rw [hx0]
    rw [List.length_cons] at hl
    have lenL : ∀ i, i ≤ l.length → (Lib.joinTail [44] ((l.map fun x => hx 8 (bitsN x)).take i)).length ≤ i * 9 := by
      intro i hi
      have := lens_le (l := (l.map fun x => hx 8 (bitsN x)).take i) (m := 8) fun y hy => by
        obtain ⟨z, hz, rfl⟩ := List.mem_map.1 (List.mem_of_mem_take hy)
        rw [hx_len]; exact Nat.le_refl _
      rw [List.length_take, List.length_map, Nat.min_eq_left hi] at this; exact this
    have key : X (hx 8 (bitsN x) ++ Lib.joinTail [44] ((l.map fun x => hx 8 (bitsN x)).take 0)) ((0 + 1 : Nat) : Int) := by
      refine up (Y := fun i => X (hx 8 (bitsN x) ++ Lib.joinTail [44] ((l.map fun x => hx 8 (bitsN x)).take i)) ((i + 1 : Nat) : Int)) l.length ?_ fun i hi hn => ?_
      · refine hX _ _ ⟨fun c => absurd c (by rw [List.length_cons]; omega), fun _ => ?_⟩
        rw [List.take_of_length_le (by rw [List.length_map]; omega)]
        exact h
      · have hg : (x :: l).getD (((i + 1 : Nat) : Int)).toNat 0 = l[i] := by rw [nn, List.getD_cons_succ, gD hi]
        have h1 := lenL i (by omega)
        refine hX _ _ ⟨fun _ => ⟨by rw [List.length_cons]; omega, ?_⟩, fun c => absurd (show ((i + 1 : Nat) : Int) < _ by rw [List.length_cons]; omega) c⟩
        rw [hg]
        refine spec_l01Hex_wp (hw _ (List.mem_cons_of_mem _ (List.getElem_mem hi))) ⟨by rw [len1, hx_len]; decide, by rw [List.length_append, List.length_append, len1, hx_len, hx_len]; omega, ?_⟩
        rw [w1 (by omega), List.append_assoc]
        rw [joinTail_succ _ _ (by rw [List.length_map]; exact hi), List.getElem_map] at hn
        exact hn
    have e0 : hx 8 (bitsN x) ++ Lib.joinTail [44] ((l.map fun x => hx 8 (bitsN x)).take 0) = hx 8 (bitsN x) := by rw [List.take_zero]; exact List.append_nil _
    rw [e0] at key; exact key
theorem impl_NumbersText_wp {l : List Nat} {K : List UInt8 → Bool → Prop} (hl : l.length ≤ 2 ^ 30) (hw : ∀ x ∈ l, x < 2 ^ 32) (h0 : 256 < l.length → K [] false) (h : l.length ≤ 256 → K (numsT l) true) : impl_NumbersText.wp l K := by
  refine ⟨fun c => h0 (by omega), fun c X hX => ?_⟩
  have hl2 : l.length ≤ 256 := by omega
  have key : X ((l.map fun x => hx 8 (bitsN x)).take 0) ((0 : Nat) : Int) := by
    refine up (Y := fun i => X ((l.map fun x => hx 8 (bitsN x)).take i) (i : Int)) l.length ?_ fun i hi hn => ?_
    · refine hX _ _ ⟨fun c => absurd c (by omega), fun _ => ?_⟩
      rw [List.take_of_length_le (by rw [List.length_map]; omega)]
      exact impl_joined_wp (m := 8) (by rw [List.length_map]; omega) (by decide) (fun x hx => by
        obtain ⟨y, hy, rfl⟩ := List.mem_map.1 hx
        rw [hx_len]; exact Nat.le_refl _) (h hl2)
    · refine hX _ _ ⟨fun _ => ⟨by omega, ?_⟩, fun c => absurd (show (i : Int) < _ by omega) c⟩
      rw [nn, gD hi]
      refine impl_hexOf_wp (hw _ (List.getElem_mem hi)) ⟨by rw [len1, List.length_take, List.length_map]; omega, ?_⟩
      rw [w1 (by omega)]
      rw [List.take_succ_eq_append_getElem (by rw [List.length_map]; exact hi), List.getElem_map] at hn
      exact hn
  exact key

end Go.Proofs.YtcgiboeilcdonaaDoor.G

namespace Go.Proofs.YtcgiboeilcdonaaDoor.G
open Go Go.Ab
set_option maxRecDepth 100000
set_option linter.unusedVariables false
set_option linter.unusedSimpArgs false
set_option maxHeartbeats 1000000
-- HYPS: 2
-- HYPE: 0
theorem pict_both (a b : Int) (l : List Nat) (hl : l.length ≤ 2 ^ 20) (hw : ∀ y ∈ l, y < 2 ^ 32) : ∃ t ok, (∀ K : List UInt8 → Bool → Prop, K t ok → spec_PictureText.wp a b l K) ∧ (∀ K : List UInt8 → Bool → Prop, K t ok → impl_PictureText.wp a b l K) := by
  cases hc : isPic a b l with
  | false => exact ⟨[], false, fun K hK => spec_l04Is_wp hl (tG hc hK), fun K hK => impl_ValidPicture_wp hl (tG hc hK)⟩
  | true =>
    have hc2 := hc
    unfold isPic at hc2
    rw [Bool.and_eq_true, Bool.and_eq_true, Bool.and_eq_true, decide_eq_true_eq, decide_eq_true_eq, decide_eq_true_eq] at hc2
    obtain ⟨⟨⟨h1, h2⟩, h3⟩, _⟩ := hc2
    have h256 : l.length ≤ 256 := by
      obtain ⟨an, rfl⟩ : ∃ n : Nat, a = n := ⟨a.toNat, by omega⟩
      obtain ⟨bn, rfl⟩ : ∃ n : Nat, b = n := ⟨b.toNat, by omega⟩
      have h4 : an * bn ≤ 16 * 16 := Nat.mul_le_mul (by omega) (by omega)
      rw [show (an : Int) * (bn : Int) = ((an * bn : Nat) : Int) from rfl] at h3
      omega
    have hv : ∀ x ∈ [a, b], -2 ^ 62 ≤ x ∧ x ≤ 2 ^ 62 := by
      intro x hx
      rcases List.mem_cons.1 hx with rfl | hx
      · omega
      · rcases List.mem_cons.1 hx with rfl | hx
        · omega
        · exact absurd hx (List.not_mem_nil)
    have hlen := listT_len hv
    simp only [List.length_cons, List.length_nil] at hlen
    have hn := numsT_len l
    refine ⟨(listT [a, b] ++ [59]) ++ numsT l, true, fun K hK => spec_l04Is_wp hl (tE hc ⟨_, spec_l01Text_wp (l := [a, b]) (Nat.le_of_ble_eq_true rfl) hv rfl, ?_, _, spec_l01NText_wp (by omega) hw rfl, ?_, hK⟩), fun K hK => impl_ValidPicture_wp hl (tE hc (impl_ListText_wp (l := [a, b]) (Nat.le_of_ble_eq_true rfl) (fun _ => impl_NumbersText_wp (by omega) hw (fun c => absurd c (by omega)) (fun _ => ⟨?_, ?_, tT hK⟩)) (fun c => ?_)))⟩
    · rw [len1]; omega
    · rw [List.length_append, len1]; omega
    · rw [len1]; omega
    · rw [List.length_append, len1]; omega
    · exfalso
      have : ([a, b].all okV && decide ((([a, b] : List Int).length : Int) ≤ 64)) = true := by
        simp only [List.all_cons, List.all_nil, okV, Bool.and_true, Bool.and_eq_true, decide_eq_true_eq, List.length_cons, List.length_nil]
        omega
      rw [this] at c; cases c
theorem pureExactPictureText (a0 a1 : Int) (l2 : List Nat) (hm : l2.length ≤ maxLen) (hw : ∀ y ∈ l2, y < 2 ^ 32) : laws_FnExactPictureText.wp a0 a1 l2 (fun b => b = true) := by
  refine szPicture_wp hm (by omega) (tP (by omega) rfl) fun hn => tN (by omega) ?_
  have hl : l2.length ≤ 2 ^ 20 := by omega
  obtain ⟨t, ok, hsp, hi⟩ := pict_both a0 a1 l2 hl hw
  exact toPicture_wp hl (hsp _ (toPicture_wp hl (hi _ (tP rfl (tB (toPicture_wp hl ⟨_, eqPicture_wp hl rfl, tT rfl⟩))))))

end Go.Proofs.YtcgiboeilcdonaaDoor.G

