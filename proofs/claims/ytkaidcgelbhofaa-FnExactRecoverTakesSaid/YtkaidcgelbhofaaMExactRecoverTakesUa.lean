/-
  What the formulas say, over numbers and lists alone. Nothing here is trusted.
-/
import Derived.Test.YtkaidcgelbhofaaMExactRecoverTakesWa
import Derived.Lib.ItoaLen
namespace Go.Proofs.Ytkaidcgelbhofaa.G
open Go Go.Ab
set_option maxRecDepth 100000
set_option linter.unusedVariables false
set_option linter.unusedSimpArgs false
set_option maxHeartbeats 1000000
/-! ### truth -/
theorem tT {A B : Prop} (h : A) : (true = true → A) ∧ (true = false → B) := ⟨fun _ => h, fun c => (by cases c)⟩
theorem tF {A B : Prop} (h : B) : (false = true → A) ∧ (false = false → B) := ⟨fun c => (by cases c), fun _ => h⟩
theorem tB {A B : Prop} {b : Bool} (h : A) : ((b == b) = true → A) ∧ ((b == b) = false → B) := ⟨fun _ => h, fun c => (by simp at c)⟩
theorem tE {A B : Prop} {b : Bool} (e : b = true) (h : A) : (b = true → A) ∧ (b = false → B) := ⟨fun _ => h, fun c => (by rw [e] at c; cases c)⟩
theorem tG {A B : Prop} {b : Bool} (e : b = false) (h : B) : (b = true → A) ∧ (b = false → B) := ⟨fun c => (by rw [e] at c; cases c), fun _ => h⟩
theorem tP {p A B : Prop} (e : p) (h : A) : (p → A) ∧ (¬p → B) := ⟨fun _ => h, fun c => absurd e c⟩
theorem tN {p A B : Prop} (e : ¬p) (h : B) : (p → A) ∧ (¬p → B) := ⟨fun c => absurd c e, fun _ => h⟩
theorem tI {b : Bool} {K : Bool → Prop} {A B : Prop} (h1 : b = true → A) (h2 : b = false → B) : (b = true → A) ∧ (b = false → B) := ⟨h1, h2⟩
/-! ### loops -/
theorem up {Y : Nat → Prop} (n : Nat) (last : Y n) (step : ∀ i, i < n → Y (i + 1) → Y i) : Y 0 := by
  have key : ∀ d i, i + d = n → Y i := by
    intro d
    induction d with
    | zero => intro i h; obtain rfl : i = n := by omega
              exact last
    | succ d ih => intro i h; exact step i (by omega) (ih (i + 1) (by omega))
  exact key n 0 (by omega)
theorem upFrom {Y : Nat → Prop} (k n : Nat) (hk : k ≤ n) (last : Y n) (step : ∀ i, k ≤ i → i < n → Y (i + 1) → Y i) : Y k := by
  have key : ∀ d i, k ≤ i → i + d = n → Y i := by
    intro d
    induction d with
    | zero => intro i _ h; obtain rfl : i = n := by omega
              exact last
    | succ d ih => intro i h0 h; exact step i h0 (by omega) (ih (i + 1) (by omega) (by omega))
  exact key (n - k) k (Nat.le_refl _) (by omega)
theorem w1 {i : Nat} (h : i < 4611686018427387904) : IntKind.i64.wrap ((i : Int) + (1 : Int)) = ((i + 1 : Nat) : Int) := wrap_succ (by omega)
theorem wI {n : Int} (h : -9223372036854775808 ≤ n ∧ n < 9223372036854775808) : IntKind.i64.wrap n = n := wrap_i64 h.1 h.2
theorem nn (i : Nat) : ((i : Int)).toNat = i := rfl
theorem gD {α : Type} {l : List α} {i : Nat} (h : i < l.length) (d : α) : l.getD i d = l[i] := by rw [List.getD_eq_getElem?_getD, List.getElem?_eq_getElem h]; rfl
theorem dropC {α : Type} {l : List α} {i : Nat} (h : i < l.length) : l.drop i = l[i] :: l.drop (i + 1) := List.drop_eq_getElem_cons h
theorem len1 {α : Type} (a : α) : ([a] : List α).length = 1 := rfl
theorem cz32 (n : Nat) (h : (FloatKind.f32.decode n).isNaN = false) : cz .f32 n = n := by simp [cz, h]
theorem c0_32 : cz .f32 0 = 0 := cz_zero32
theorem c0_64 : cz .f64 0 = 0 := cz_zero64
/-! ### copies, comparisons, marks -/
theorem toFloat32S_wp {l : List Nat} {K : List Nat → Prop} (hl : l.length ≤ 2 ^ 20) (h : K l) : laws_toFloat32S.wp l K := by
  refine ⟨⟨by omega, by omega, by omega, by omega⟩, fun X hX => ?_⟩
  have key : X (l.take 0 ++ List.replicate (l.length - 0) (0 : Nat)) ((0 : Nat) : Int) := by
    refine up (Y := fun i => X (l.take i ++ List.replicate (l.length - i) (0 : Nat)) (i : Int)) l.length ?_ fun i hi hn => ?_
    · refine hX _ _ ⟨fun c => absurd c (by omega), fun _ => ?_⟩
      rw [List.take_length, Nat.sub_self, List.replicate_zero, List.append_nil]; exact h
    · refine hX _ _ ⟨fun _ => ⟨⟨by omega, by omega⟩, ⟨by omega, ?_⟩, ?_⟩, fun c => absurd (show (i : Int) < l.length by omega) c⟩
      · rw [List.length_append, List.length_take, List.length_replicate]; omega
      · rw [nn, w1 (by omega), gD hi, set_fill (0 : Nat) (by omega) hi]
        exact hn
  rw [List.take_zero, List.nil_append, Nat.sub_zero] at key; exact key
theorem toInt64S_wp {l : List Int} {K : List Int → Prop} (hl : l.length ≤ 2 ^ 20) (h : K l) : laws_toInt64S.wp l K := by
  refine ⟨⟨by omega, by omega, by omega, by omega⟩, fun X hX => ?_⟩
  have key : X (l.take 0 ++ List.replicate (l.length - 0) (0 : Int)) ((0 : Nat) : Int) := by
    refine up (Y := fun i => X (l.take i ++ List.replicate (l.length - i) (0 : Int)) (i : Int)) l.length ?_ fun i hi hn => ?_
    · refine hX _ _ ⟨fun c => absurd c (by omega), fun _ => ?_⟩
      rw [List.take_length, Nat.sub_self, List.replicate_zero, List.append_nil]; exact h
    · refine hX _ _ ⟨fun _ => ⟨⟨by omega, by omega⟩, ⟨by omega, ?_⟩, ?_⟩, fun c => absurd (show (i : Int) < l.length by omega) c⟩
      · rw [List.length_append, List.length_take, List.length_replicate]; omega
      · rw [nn, w1 (by omega), gD hi, set_fill (0 : Int) (by omega) hi]
        exact hn
  rw [List.take_zero, List.nil_append, Nat.sub_zero] at key; exact key
theorem toBoolS_wp {l : List Bool} {K : List Bool → Prop} (hl : l.length ≤ 2 ^ 20) (h : K l) : laws_toBoolS.wp l K := by
  refine ⟨⟨by omega, by omega, by omega, by omega⟩, fun X hX => ?_⟩
  have key : X (l.take 0 ++ List.replicate (l.length - 0) false) ((0 : Nat) : Int) := by
    refine up (Y := fun i => X (l.take i ++ List.replicate (l.length - i) false) (i : Int)) l.length ?_ fun i hi hn => ?_
    · refine hX _ _ ⟨fun c => absurd c (by omega), fun _ => ?_⟩
      rw [List.take_length, Nat.sub_self, List.replicate_zero, List.append_nil]; exact h
    · refine hX _ _ ⟨fun _ => ⟨⟨by omega, by omega⟩, ⟨by omega, ?_⟩, ?_⟩, fun c => absurd (show (i : Int) < l.length by omega) c⟩
      · rw [List.length_append, List.length_take, List.length_replicate]; omega
      · rw [nn, w1 (by omega), gD hi, set_fill false (by omega) hi]
        exact hn
  rw [List.take_zero, List.nil_append, Nat.sub_zero] at key; exact key
theorem sameFloat_wp {a : Nat} {K : Bool → Prop} (h : K true) : laws_sameFloat.wp a a K := by
  rcases order_self Ieee.double a with ho | ho
  · have e : fcmp .neq .f64 a a = true := by simp [fcmp, FloatKind.format, ho]
    exact tE e (by rw [e]; exact h)
  · have e : fcmp .neq .f64 a a = false := by simp [fcmp, FloatKind.format, ho]
    have e2 : fcmp .eql .f64 a a = true := by simp [fcmp, FloatKind.format, ho]
    refine tG e (tG e ⟨fun c => ⟨fun _ => by rw [BEq.rfl]; exact h, fun c2 => (by rw [c] at c2; cases c2)⟩, fun _ => by rw [e2]; exact h⟩)
theorem eqFloat32S_wp {l : List Nat} {K : Bool → Prop} (hl : l.length ≤ 2 ^ 20) (h : K true) : laws_eqFloat32S.wp l l K := by
  refine tP rfl fun X hX => ?_
  refine up (Y := fun i => X (i : Int)) l.length ?_ fun i hi hn => ?_
  · exact hX _ ⟨fun c => absurd c (by omega), fun _ => h⟩
  · refine hX _ ⟨fun _ => ⟨⟨by omega, by omega⟩, ⟨by omega, by omega⟩, sameFloat_wp (tT ?_)⟩, fun c => absurd (show (i : Int) < l.length by omega) c⟩
    rw [w1 (by omega)]; exact hn
theorem eqInt64S_wp {l : List Int} {K : Bool → Prop} (hl : l.length ≤ 2 ^ 20) (h : K true) : laws_eqInt64S.wp l l K := by
  refine tP rfl fun X hX => ?_
  refine up (Y := fun i => X (i : Int)) l.length ?_ fun i hi hn => ?_
  · exact hX _ ⟨fun c => absurd c (by omega), fun _ => h⟩
  · refine hX _ ⟨fun _ => ⟨⟨by omega, by omega⟩, ⟨by omega, by omega⟩, tP rfl ?_⟩, fun c => absurd (show (i : Int) < l.length by omega) c⟩
    rw [w1 (by omega)]; exact hn
theorem eqBoolS_wp {l : List Bool} {K : Bool → Prop} (hl : l.length ≤ 2 ^ 20) (h : K true) : laws_eqBoolS.wp l l K := by
  refine tP rfl fun X hX => ?_
  refine up (Y := fun i => X (i : Int)) l.length ?_ fun i hi hn => ?_
  · exact hX _ ⟨fun c => absurd c (by omega), fun _ => h⟩
  · refine hX _ ⟨fun _ => ⟨⟨by omega, by omega⟩, ⟨by omega, by omega⟩, tB ?_⟩, fun c => absurd (show (i : Int) < l.length by omega) c⟩
    rw [w1 (by omega)]; exact hn
theorem markFloat32S_wp {l : List Nat} {k : Nat} {K : Int → List Nat → Prop} (hl : l.length ≤ 2 ^ 20) (hk : k ≤ 2 ^ 40) (h : K ((k + l.length : Nat) : Int) (marks k l.length)) : laws_markFloat32S.wp l (k : Int) K := by
  intro X hX
  have key : X (marks k 0 ++ l.drop 0) ((k + 0 : Nat) : Int) ((0 : Nat) : Int) := by
    refine up (Y := fun i => X (marks k i ++ l.drop i) ((k + i : Nat) : Int) (i : Int)) l.length ?_ fun i hi hn => ?_
    · refine hX _ _ _ ⟨fun c => absurd c (by rw [List.length_append, marks_length, List.length_drop]; omega), fun _ => ?_⟩
      rw [List.drop_length, List.append_nil]; exact h
    · have hlen : (marks k i ++ l.drop i).length = l.length := by rw [List.length_append, marks_length, List.length_drop]; omega
      refine hX _ _ _ ⟨fun _ => ⟨⟨by omega, by rw [hlen]; omega⟩, ?_⟩, fun c => absurd (show (i : Int) < _ by rw [hlen]; omega) c⟩
      rw [nn, w1 (by omega), w1 (by omega)]
      have e := marks_step (l := l) (i := i) (m := l.length - i) k (by omega) hi
      rw [show (k : Int) + (i : Int) = ((k + i : Nat) : Int) by omega] at e
      rw [show itof .f32 ((k + i : Nat) : Int) = fl ((k + i : Nat) : Int) from rfl]
      rw [e]; exact hn
  exact key
theorem heldFloat32S_wp {k n : Nat} {K : Int → Prop} (hl : n ≤ 2 ^ 20) (hk : k ≤ 2 ^ 40) (h : K ((k + n : Nat) : Int)) : laws_heldFloat32S.wp (marks k n) (k : Int) K := by
  intro X hX
  have hlen : (marks k n).length = n := marks_length _ _
  have key : X ((k + 0 : Nat) : Int) ((0 : Nat) : Int) := by
    refine up (Y := fun i => X ((k + i : Nat) : Int) (i : Int)) n ?_ fun i hi hn => ?_
    · exact hX _ _ ⟨fun c => absurd c (by omega), fun _ => h⟩
    · refine hX _ _ ⟨fun _ => ⟨⟨by omega, by omega⟩, ?_⟩, fun c => absurd (show (i : Int) < _ by omega) c⟩
      rw [nn, gD (by omega), marks_at k n i (by omega), show (k : Int) + (i : Int) = ((k + i : Nat) : Int) by omega]
      refine tG (show fcmp .neq .f32 (fl ((k + i : Nat) : Int)) (itof .f32 ((k + i : Nat) : Int)) = false from fl_neq _) ?_
      rw [w1 (by omega), w1 (by omega)]; exact hn
  exact key
theorem markInt64S_wp {l : List Int} {k : Nat} {K : Int → List Int → Prop} (hl : l.length ≤ 2 ^ 20) (hk : k ≤ 2 ^ 40) (h : K ((k + l.length : Nat) : Int) (marksI k l.length)) : laws_markInt64S.wp l (k : Int) K := by
  intro X hX
  have key : X (marksI k 0 ++ l.drop 0) ((k + 0 : Nat) : Int) ((0 : Nat) : Int) := by
    refine up (Y := fun i => X (marksI k i ++ l.drop i) ((k + i : Nat) : Int) (i : Int)) l.length ?_ fun i hi hn => ?_
    · refine hX _ _ _ ⟨fun c => absurd c (by rw [List.length_append, marksI_length, List.length_drop]; omega), fun _ => ?_⟩
      rw [List.drop_length, List.append_nil]; exact h
    · have hlen : (marksI k i ++ l.drop i).length = l.length := by rw [List.length_append, marksI_length, List.length_drop]; omega
      refine hX _ _ _ ⟨fun _ => ⟨⟨by omega, by rw [hlen]; omega⟩, ?_⟩, fun c => absurd (show (i : Int) < _ by rw [hlen]; omega) c⟩
      rw [nn, w1 (by omega), w1 (by omega)]
      have e := marksI_step (l := l) (i := i) (m := l.length - i) k (by omega) hi
      rw [show (k : Int) + (i : Int) = ((k + i : Nat) : Int) by omega] at e
      
      rw [e]; exact hn
  exact key
theorem heldInt64S_wp {k n : Nat} {K : Int → Prop} (hl : n ≤ 2 ^ 20) (hk : k ≤ 2 ^ 40) (h : K ((k + n : Nat) : Int)) : laws_heldInt64S.wp (marksI k n) (k : Int) K := by
  intro X hX
  have hlen : (marksI k n).length = n := marksI_length _ _
  have key : X ((k + 0 : Nat) : Int) ((0 : Nat) : Int) := by
    refine up (Y := fun i => X ((k + i : Nat) : Int) (i : Int)) n ?_ fun i hi hn => ?_
    · exact hX _ _ ⟨fun c => absurd c (by omega), fun _ => h⟩
    · refine hX _ _ ⟨fun _ => ⟨⟨by omega, by omega⟩, ?_⟩, fun c => absurd (show (i : Int) < _ by omega) c⟩
      rw [nn, gD (by omega), marksI_at k n i (by omega), show (k : Int) + (i : Int) = ((k + i : Nat) : Int) by omega]
      refine tP rfl ?_
      rw [w1 (by omega), w1 (by omega)]; exact hn
  exact key

end Go.Proofs.Ytkaidcgelbhofaa.G

namespace Go.Proofs.Ytkaidcgelbhofaa.G
open Go Go.Ab
set_option maxRecDepth 100000
set_option linter.unusedVariables false
set_option linter.unusedSimpArgs false
set_option maxHeartbeats 1000000
def dd (n : Nat) : List UInt8 := if n = 0 then [] else Lib.decDigits n
theorem dd_step (n : Nat) : Lib.decDigits n = dd (n / 10) ++ [UInt8.ofNat (48 + n % 10)] := by
  rw [Lib.decDigits]
  by_cases h : n < 10
  · rw [dif_pos h, dd, if_pos (by omega), Nat.mod_eq_of_lt h]; rfl
  · rw [dif_neg h, dd, if_neg (by omega)]
theorem dd_zero : dd 0 = [] := rfl
theorem dd_pos {n : Nat} (h : n ≠ 0) : dd n = dd (n / 10) ++ [UInt8.ofNat (48 + n % 10)] := by
  conv => lhs; rw [dd, if_neg h]
  exact dd_step n
theorem numsC (b : UInt8) (l : List UInt8) : nums (b :: l) = (b.toNat : Int) :: nums l := rfl
theorem nums_length (l : List UInt8) : (nums l).length = l.length := by simp [nums]
theorem byts_nums (l : List UInt8) : byts (nums l) = l := by
  induction l with
  | nil => rfl
  | cons b l ih =>
    show UInt8.ofNat ((b.toNat : Int)).toNat :: byts (nums l) = _
    rw [ih, Int.toNat_natCast, UInt8.ofNat_toNat]
def sgn (b : Bool) (n : Nat) : Int := bif b then -(n : Int) else n
theorem sgn_of (z : Int) : z = sgn (decide (z < 0)) z.natAbs := by
  unfold sgn
  by_cases h : z < 0
  · rw [decide_eq_true h, cond_true]; omega
  · rw [decide_eq_false h, cond_false]; omega
theorem tmodN (n m : Nat) : Int.tmod (n : Int) (m : Int) = ((n % m : Nat) : Int) := by rw [Int.tmod_eq_emod_of_nonneg (by omega)]; omega
theorem tdivN' (n m : Nat) : Int.tdiv (n : Int) (m : Int) = ((n / m : Nat) : Int) := by rw [Int.tdiv_eq_ediv_of_nonneg (by omega)]; omega
theorem tmod_sgn (b : Bool) (n : Nat) : Int.tmod (sgn b n) 10 = sgn b (n % 10) := by
  cases b
  · exact tmodN n 10
  · show Int.tmod (-(n : Int)) 10 = -((n % 10 : Nat) : Int)
    rw [Int.neg_tmod, show (10 : Int) = ((10 : Nat) : Int) from rfl, tmodN]
theorem tdiv_sgn (b : Bool) (n : Nat) : Int.tdiv (sgn b n) 10 = sgn b (n / 10) := by
  cases b
  · exact tdivN' n 10
  · show Int.tdiv (-(n : Int)) 10 = -((n / 10 : Nat) : Int)
    rw [Int.neg_tdiv, show (10 : Int) = ((10 : Nat) : Int) from rfl, tdivN']
theorem sgn_le (b : Bool) (n : Nat) : -(n : Int) ≤ sgn b n ∧ sgn b n ≤ n := by cases b <;> simp only [sgn, cond_true, cond_false] <;> omega
theorem u8W (n : Nat) (h : n < 256) : IntKind.u8.wrap (n : Int) = (n : Int) := by
  simp only [IntKind.wrap, IntKind.signed, IntKind.bits]
  simp
  omega
theorem digW (n : Nat) : IntKind.u8.wrap (IntKind.i64.wrap ((48 : Int) + ((n % 10 : Nat) : Int))) = ((UInt8.ofNat (48 + n % 10)).toNat : Int) := by
  rw [wI (by omega), show (48 : Int) + ((n % 10 : Nat) : Int) = ((48 + n % 10 : Nat) : Int) by omega, u8W _ (by omega)]
  show _ = (((48 + n % 10) % 256 : Nat) : Int)
  omega
theorem stepDec {X : List Int → Int → Prop} (b : Bool) (r : Nat) (ds : List UInt8) (hr : r ≤ 2 ^ 62) (hd : ds.length ≤ 100) (h : X (nums (UInt8.ofNat (48 + r % 10) :: ds)) (sgn b (r / 10))) :
    (((Int.tmod (sgn b r) (10 : Int)) < (0 : Int) → ((([(IntKind.u8.wrap (IntKind.i64.wrap ((48 : Int) + (IntKind.i64.wrap (0 - (Int.tmod (sgn b r) (10 : Int)))))))] : List (Int)).length + (nums ds).length) * 1 ≤ 2 ^ 40) ∧ X (([(IntKind.u8.wrap (IntKind.i64.wrap ((48 : Int) + (IntKind.i64.wrap (0 - (Int.tmod (sgn b r) (10 : Int)))))))] : List (Int)) ++ nums ds) (IntKind.i64.wrap (Int.tdiv (sgn b r) (10 : Int)))) ∧ (¬((Int.tmod (sgn b r) (10 : Int)) < (0 : Int)) → ((([(IntKind.u8.wrap (IntKind.i64.wrap ((48 : Int) + (Int.tmod (sgn b r) (10 : Int)))))] : List (Int)).length + (nums ds).length) * 1 ≤ 2 ^ 40) ∧ X (([(IntKind.u8.wrap (IntKind.i64.wrap ((48 : Int) + (Int.tmod (sgn b r) (10 : Int)))))] : List (Int)) ++ nums ds) (IntKind.i64.wrap (Int.tdiv (sgn b r) (10 : Int))))) := by
  have hs := sgn_le b (r / 10)
  rw [tmod_sgn, tdiv_sgn, wI (n := sgn b (r / 10)) (by omega), nums_length]
  rw [numsC] at h
  refine ⟨fun c => ⟨by rw [len1]; omega, ?_⟩, fun c => ⟨by rw [len1]; omega, ?_⟩⟩
  · have e : (0 : Int) - sgn b (r % 10) = ((r % 10 : Nat) : Int) := by cases b <;> simp only [sgn, cond_true, cond_false] at c ⊢ <;> omega
    rw [e, wI (n := ((r % 10 : Nat) : Int)) (by omega), digW]; exact h
  · have e : sgn b (r % 10) = ((r % 10 : Nat) : Int) := by cases b <;> simp only [sgn, cond_true, cond_false] at c ⊢ <;> omega
    rw [e, digW]; exact h
theorem dec_len (n : Nat) (h : n ≤ 2 ^ 62) : (Lib.decDigits n).length ≤ 21 := by
  have := Lib.itoa_length_le (n : Int) (by omega) (by omega)
  rwa [Lib.itoa, if_neg (by omega), Int.toNat_natCast] at this
theorem itoa_len (n : Int) (h : -2 ^ 62 ≤ n ∧ n ≤ 2 ^ 62) : (Lib.itoa n).length ≤ 21 := Lib.itoa_length_le n (by omega) (by omega)
/-- The mark of a text. -/
def mkT (k : Nat) : List UInt8 := if k = 0 then [109, 48] else 109 :: dd k
theorem markText_wp {k : Nat} {K : List UInt8 → Prop} (hk : k ≤ 2 ^ 50) (h : K (mkT k)) : laws_markText.wp (k : Int) K := by
  unfold mkT at h
  have hl := dec_len k (by omega)
  refine ⟨fun c => ?_, fun c X hX => ?_⟩
  · rw [if_pos (by omega)] at h; exact h
  · rw [if_neg (by omega)] at h
    have loop : ∀ (m r : Nat) (ds : List UInt8), r ≤ m → r ≤ 2 ^ 50 → dd r ++ ds = dd k → X (r : Int) ds := by
      intro m
      induction m with
      | zero =>
        intro r ds hr h1 h2
        obtain rfl : r = 0 := by omega
        rw [dd_zero, List.nil_append] at h2
        have : ds.length ≤ 21 := by rw [h2, dd, if_neg (by omega)]; exact hl
        refine hX _ _ ⟨fun c => absurd c (by omega), fun _ => ⟨by rw [len1]; omega, ?_⟩⟩
        rw [h2]; exact h
      | succ m ih =>
        intro r ds hr h1 h2
        by_cases hz0 : r = 0
        · exact ih r ds (by omega) h1 h2
        have hdl : ds.length ≤ 21 := by
          have : (dd k).length ≤ 21 := by rw [dd, if_neg (by omega)]; exact hl
          rw [← h2, List.length_append] at this; omega
        have e : byts ([(IntKind.u8.wrap (IntKind.i64.wrap ((48 : Int) + (Int.tmod (r : Int) (10 : Int)))))] : List (Int)) = [UInt8.ofNat (48 + r % 10)] := by
          rw [show (10 : Int) = ((10 : Nat) : Int) from rfl, tmodN, digW]
          exact byts_nums [UInt8.ofNat (48 + r % 10)]
        refine hX _ _ ⟨fun _ => ?_, fun c => absurd (show (0 : Int) < r by omega) c⟩
        rw [e, show (10 : Int) = ((10 : Nat) : Int) from rfl, tdivN', wI (by omega), len1]
        refine ⟨by omega, ih _ _ (by omega) (by omega) ?_⟩
        rw [← h2, dd_pos hz0, List.append_assoc]
    have := loop k k [] (Nat.le_refl _) hk (List.append_nil _)
    exact this

end Go.Proofs.Ytkaidcgelbhofaa.G

namespace Go.Proofs.Ytkaidcgelbhofaa.G
open Go Go.Ab
set_option maxRecDepth 100000
set_option linter.unusedVariables false
set_option linter.unusedSimpArgs false
set_option maxHeartbeats 1000000
def pFin (x : Nat) : Bool := fcmp .eql .f32 (fop .sub .f32 x x) (cz .f32 0)
def pAll (l : List Nat) : Bool := l.all pFin
theorem pAll_cons (x : Nat) (l : List Nat) : pAll (x :: l) = (pFin x && pAll l) := rfl
/-- A loop that ends early where something does not hold. -/
theorem all_loop {α : Type} (l : List α) (p : α → Bool) {X : Int → Prop} {T F : Prop} (hX : ∀ (i : Nat) (h : i < l.length), ((p l[i] = true → X ((i + 1 : Nat) : Int)) ∧ (p l[i] = false → F)) → X (i : Int))
    (hend : T → X (l.length : Int)) (ht : l.all p = true → T) (hf : l.all p = false → F) : X (0 : Int) := by
  have key := up (Y := fun i => ((l.drop i).all p = true → T) → ((l.drop i).all p = false → F) → X (i : Int)) l.length (fun h _ => hend (h (by rw [List.drop_length]; rfl))) fun i hi hn h1 h2 => ?_
  · exact key (by rw [List.drop_zero]; exact ht) (by rw [List.drop_zero]; exact hf)
  · rw [dropC hi, List.all_cons] at h1 h2
    refine hX i hi ⟨fun e => hn (fun a => h1 (by rw [e, a]; rfl)) (fun a => h2 (by rw [e, a]; rfl)), fun e => h2 (by rw [e]; rfl)⟩
/-- A loop that makes a list, and ends early where something does not hold. -/
theorem map_loop {α β : Type} (l : List α) (p : α → Bool) (f : α → β) {X : List β → Int → Prop} {T F : Prop} (hX : ∀ (i : Nat) (h : i < l.length) (o : List β), o.length = i → ((p l[i] = true → X (o ++ [f l[i]]) ((i + 1 : Nat) : Int)) ∧ (p l[i] = false → F)) → X o (i : Int))
    (hend : T → X (l.map f) (l.length : Int)) (ht : l.all p = true → T) (hf : l.all p = false → F) : X [] (0 : Int) := by
  have key := up (Y := fun i => ((l.drop i).all p = true → T) → ((l.drop i).all p = false → F) → X ((l.take i).map f) (i : Int)) l.length (fun h _ => by rw [List.take_length]; exact hend (h (by rw [List.drop_length]; rfl))) fun i hi hn h1 h2 => ?_
  · have := key (by rw [List.drop_zero]; exact ht) (by rw [List.drop_zero]; exact hf)
    rw [List.take_zero] at this; exact this
  · rw [dropC hi, List.all_cons] at h1 h2
    refine hX i hi _ (by rw [List.length_map, List.length_take]; omega) ⟨fun e => ?_, fun e => h2 (by rw [e]; rfl)⟩
    have := hn (fun a => h1 (by rw [e, a]; rfl)) (fun a => h2 (by rw [e, a]; rfl))
    rw [List.take_succ_eq_append_getElem hi, List.map_append] at this
    exact this
theorem spec_l01Finite_wp {a : Nat} {K : Bool → Prop} (h : K (pFin a)) : spec_l01Finite.wp a K := h
theorem impl_IsFinite_wp {a : Nat} {K : Bool → Prop} (h : K (pFin a)) : impl_IsFinite.wp a K := h
theorem spec_l02Finite_wp {l : List Nat} {K : Bool → Prop} (hl : l.length ≤ 2 ^ 20) (h : K (pAll l)) : spec_l02Finite.wp l K := by
  intro X hX
  refine all_loop l pFin (X := X) (T := K true) (F := K false) (fun i hi hh => ?_) (fun ht => hX _ ⟨fun c => absurd c (by omega), fun _ => ht⟩) (fun e => by rw [pAll, e] at h; exact h) (fun e => by rw [pAll, e] at h; exact h)
  refine hX _ ⟨fun _ => ⟨⟨by omega, by omega⟩, spec_l01Finite_wp ?_⟩, fun c => absurd (show (i : Int) < l.length by omega) c⟩
  rw [nn, gD hi, w1 (by omega)]; exact hh
theorem impl_areFinite_wp {ll : List (List Nat)} {K : Bool → Prop} (hll : ll.length ≤ 2 ^ 20) (hl : ∀ l ∈ ll, l.length ≤ 2 ^ 20) (h : K (ll.all pAll)) : impl_areFinite.wp ll K := by
  intro X hX
  refine all_loop ll pAll (X := X) (T := K true) (F := K false) (fun i hi hh => ?_) (fun ht => hX _ ⟨fun c => absurd c (by omega), fun _ => ht⟩) (fun e => by rw [e] at h; exact h) (fun e => by rw [e] at h; exact h)
  refine hX _ ⟨fun _ => ⟨⟨by omega, by omega⟩, fun Y hY => ?_⟩, fun c => absurd (show (i : Int) < ll.length by omega) c⟩
  have hlen := hl ll[i] (List.getElem_mem hi)
  rw [nn, gD hi, w1 (by omega)] at hY
  refine all_loop ll[i] pFin (X := Y) (T := X ((i + 1 : Nat) : Int)) (F := K false) (fun j hj h2 => ?_) (fun ht => hY _ ⟨fun c => absurd c (by omega), fun _ => ht⟩) (fun e => hh.1 e) (fun e => hh.2 e)
  refine hY _ ⟨fun _ => ⟨⟨by omega, by omega⟩, impl_IsFinite_wp ?_⟩, fun c => absurd (show (j : Int) < ll[i].length by omega) c⟩
  rw [nn, gD hj, w1 (by omega)]; exact h2
theorem impl_areFinite1_wp {l : List Nat} {K : Bool → Prop} (hl : l.length ≤ 2 ^ 20) (h : K (pAll l)) : impl_areFinite.wp [l] K := by
  refine impl_areFinite_wp (by simp) (fun x hx => by rw [List.mem_singleton] at hx; subst hx; exact hl) ?_
  rw [List.all_cons, List.all_nil, Bool.and_true]; exact h
theorem impl_within_wp {a b c : Int} {K : Bool → Prop} (h : K (decide (b ≤ a ∧ a ≤ c))) : impl_within.wp a b c K := by
  refine ⟨fun h1 => ?_, fun h1 => ?_⟩
  · have : decide (b ≤ a ∧ a ≤ c) = decide (a ≤ c) := by simp [h1]
    rw [this] at h; exact h
  · have : decide (b ≤ a ∧ a ≤ c) = false := by simp [h1]
    rw [this] at h; exact h
theorem spec_l00In_wp {a b c : Int} {K : Bool → Prop} (h : K (decide (b ≤ a ∧ a ≤ c))) : spec_l00In.wp a b c K := by
  refine ⟨fun h1 => ?_, fun h1 => ?_⟩
  · have : decide (b ≤ a ∧ a ≤ c) = decide (a ≤ c) := by simp [h1]
    rw [this] at h; exact h
  · have : decide (b ≤ a ∧ a ≤ c) = false := by simp [h1]
    rw [this] at h; exact h
theorem bT {b : Bool} {A B : Prop} (h1 : b = true → A) (h2 : b = false → B) : (b = true → A) ∧ (b = false → B) := ⟨h1, h2⟩
def isL (l : List Nat) : Bool := decide (1 ≤ l.length ∧ l.length ≤ 128) && pAll l
theorem spec_l02Is_wp {l : List Nat} {K : Bool → Prop} (hl : l.length ≤ 2 ^ 20) (h : K (isL l)) : spec_l02Is.wp l K := by
  refine ⟨fun h1 => ⟨fun h2 => spec_l02Finite_wp hl ?_, fun h2 => ?_⟩, fun h1 => ?_⟩
  · rw [isL, decide_eq_true (show 1 ≤ l.length ∧ l.length ≤ 128 by omega), Bool.true_and] at h; exact h
  · rw [isL, decide_eq_false (show ¬(1 ≤ l.length ∧ l.length ≤ 128) by omega), Bool.false_and] at h; exact h
  · rw [isL, decide_eq_false (show ¬(1 ≤ l.length ∧ l.length ≤ 128) by omega), Bool.false_and] at h; exact h
theorem impl_IsList_wp {l : List Nat} {K : Bool → Prop} (hl : l.length ≤ 2 ^ 20) (h : K (isL l)) : impl_IsList.wp l K := by
  refine impl_within_wp ⟨fun h1 => ?_, fun h1 => ?_⟩
  · have h1 := of_decide_eq_true h1
    refine impl_areFinite1_wp hl ?_
    rw [isL, decide_eq_true (show 1 ≤ l.length ∧ l.length ≤ 128 by omega), Bool.true_and] at h; exact h
  · have h1 := of_decide_eq_false h1
    rw [isL, decide_eq_false (show ¬(1 ≤ l.length ∧ l.length ≤ 128) by omega), Bool.false_and] at h; exact h
def isOver (x : Nat) : Bool := pFin x && fcmp .gtr .f32 x (cz .f32 0)
def isLeast (x : Nat) : Bool := pFin x && fcmp .geq .f32 x (cz .f32 0)
theorem spec_l02Above_wp {a : Nat} {K : Bool → Prop} (h : K (isOver a)) : spec_l02Above.wp a K := by
  refine spec_l01Finite_wp ⟨fun h1 => ?_, fun h1 => ?_⟩ <;> (rw [isOver, h1] at h; exact h)
theorem impl_isOver_wp {a : Nat} {K : Bool → Prop} (h : K (isOver a)) : impl_isOver.wp a K := by
  refine impl_IsFinite_wp ⟨fun h1 => ?_, fun h1 => ?_⟩ <;> (rw [isOver, h1] at h; exact h)
theorem spec_l02Least_wp {a : Nat} {K : Bool → Prop} (h : K (isLeast a)) : spec_l02Least.wp a K := by
  refine spec_l01Finite_wp ⟨fun h1 => ?_, fun h1 => ?_⟩ <;> (rw [isLeast, h1] at h; exact h)
theorem impl_isLeast_wp {a : Nat} {K : Bool → Prop} (h : K (isLeast a)) : impl_isLeast.wp a K := by
  refine impl_IsFinite_wp ⟨fun h1 => ?_, fun h1 => ?_⟩ <;> (rw [isLeast, h1] at h; exact h)
def isShare (x : Nat) : Bool := fcmp .geq .f32 x (cz .f32 0) && fcmp .leq .f32 x (cz .f32 1065353216)
theorem spec_l02Share_wp {a : Nat} {K : Bool → Prop} (h : K (isShare a)) : spec_l02Share.wp a K := by
  refine ⟨fun h1 => ?_, fun h1 => ?_⟩ <;> (rw [isShare, h1] at h; exact h)
theorem impl_isShare_wp {a : Nat} {K : Bool → Prop} (h : K (isShare a)) : impl_isShare.wp a K := by
  refine ⟨fun h1 => ?_, fun h1 => ?_⟩ <;> (rw [isShare, h1] at h; exact h)
/-! ### integers -/
def bnd (m : Int) (l : List Int) : Bool := l.all fun n => decide (-m ≤ n ∧ n ≤ m)
def isI (l : List Int) : Bool := decide (1 ≤ l.length ∧ l.length ≤ 128) && bnd 1000000 l
theorem spec_l02Bound_wp {l : List Int} {m : Int} {K : Bool → Prop} (hl : l.length ≤ 2 ^ 20) (hm : 0 ≤ m ∧ m ≤ 2 ^ 40) (h : K (bnd m l)) : spec_l02Bound.wp l m K := by
  intro X hX
  refine all_loop l (fun n => decide (-m ≤ n ∧ n ≤ m)) (X := X) (T := K true) (F := K false) (fun i hi hh => ?_) (fun ht => hX _ ⟨fun c => absurd c (by omega), fun _ => ht⟩) (fun e => by rw [bnd, e] at h; exact h) (fun e => by rw [bnd, e] at h; exact h)
  refine hX _ ⟨fun _ => ⟨⟨by omega, by omega⟩, spec_l00In_wp ?_⟩, fun c => absurd (show (i : Int) < l.length by omega) c⟩
  rw [nn, gD hi, w1 (by omega), wI (show -9223372036854775808 ≤ (0 : Int) - m ∧ (0 : Int) - m < 9223372036854775808 by omega), Int.zero_sub]; exact hh
theorem impl_areWithin_wp {l : List Int} {m : Int} {K : Bool → Prop} (hl : l.length ≤ 2 ^ 20) (hm : 0 ≤ m ∧ m ≤ 2 ^ 40) (h : K (bnd m l)) : impl_areWithin.wp l m K := by
  intro X hX
  refine all_loop l (fun n => decide (-m ≤ n ∧ n ≤ m)) (X := X) (T := K true) (F := K false) (fun i hi hh => ?_) (fun ht => hX _ ⟨fun c => absurd c (by omega), fun _ => ht⟩) (fun e => by rw [bnd, e] at h; exact h) (fun e => by rw [bnd, e] at h; exact h)
  refine hX _ ⟨fun _ => ⟨⟨by omega, by omega⟩, impl_within_wp ?_⟩, fun c => absurd (show (i : Int) < l.length by omega) c⟩
  rw [nn, gD hi, w1 (by omega), wI (show -9223372036854775808 ≤ (0 : Int) - m ∧ (0 : Int) - m < 9223372036854775808 by omega), Int.zero_sub]; exact hh
theorem spec_l02Integers_wp {l : List Int} {K : Bool → Prop} (hl : l.length ≤ 2 ^ 20) (h : K (isI l)) : spec_l02Integers.wp l K := by
  refine ⟨fun h1 => ⟨fun h2 => spec_l02Bound_wp hl (by omega) ?_, fun h2 => ?_⟩, fun h1 => ?_⟩
  · rw [isI, decide_eq_true (show 1 ≤ l.length ∧ l.length ≤ 128 by omega), Bool.true_and] at h; exact h
  · rw [isI, decide_eq_false (show ¬(1 ≤ l.length ∧ l.length ≤ 128) by omega), Bool.false_and] at h; exact h
  · rw [isI, decide_eq_false (show ¬(1 ≤ l.length ∧ l.length ≤ 128) by omega), Bool.false_and] at h; exact h
theorem impl_AreIntegers_wp {l : List Int} {K : Bool → Prop} (hl : l.length ≤ 2 ^ 20) (h : K (isI l)) : impl_AreIntegers.wp l K := by
  refine impl_within_wp ⟨fun h1 => ?_, fun h1 => ?_⟩
  · have h1 := of_decide_eq_true h1
    refine impl_areWithin_wp hl (by omega) ?_
    rw [isI, decide_eq_true (show 1 ≤ l.length ∧ l.length ≤ 128 by omega), Bool.true_and] at h; exact h
  · have h1 := of_decide_eq_false h1
    rw [isI, decide_eq_false (show ¬(1 ≤ l.length ∧ l.length ≤ 128) by omega), Bool.false_and] at h; exact h
theorem impl_finiteList_wp {l : List Nat} {K : Bool → Bool → Prop} (hl : l.length ≤ 2 ^ 20) (h : K (pAll l) (pAll l)) : impl_finiteList.wp l K := by
  refine impl_areFinite1_wp hl ⟨fun h1 => ?_, fun h1 => ?_⟩ <;> (rw [h1] at h; exact h)
theorem spec_l02List_wp {l : List Nat} {K : Bool → Bool → Prop} (hl : l.length ≤ 2 ^ 20) (h : K (pAll l) (pAll l)) : spec_l02List.wp l K := by
  refine spec_l02Finite_wp hl ⟨fun h1 => ?_, fun h1 => ?_⟩ <;> (rw [h1] at h; exact h)

end Go.Proofs.Ytkaidcgelbhofaa.G

namespace Go.Proofs.Ytkaidcgelbhofaa.G
open Go Go.Ab
set_option maxRecDepth 100000
set_option linter.unusedVariables false
set_option linter.unusedSimpArgs false
set_option maxHeartbeats 1000000
/-- What is like itself is a number. -/
theorem num_of_eq {x : Nat} (h : fcmp .neq .f32 x x = false) : num .f32 x = true := by
  unfold num
  cases hd : (FloatKind.f32.decode x).isNaN with
  | false => rfl
  | true =>
    exfalso
    have h2 : Ieee.single.order x x = none := by
      unfold Ieee.Format.order
      have hd' : (Ieee.single.read x).isNaN = true := hd
      cases hr : Ieee.single.read x with
      | nan s t => rfl
      | _ => rw [hr] at hd'; cases hd'
    unfold fcmp at h
    rw [show FloatKind.f32.format = Ieee.single from rfl, h2] at h
    cases h
theorem ixor {a b : Nat} (ha : a < 2 ^ 32) (hb : b < 2 ^ 32) : ibits .xor .i64 (a : Int) (b : Int) = ((a ^^^ b : Nat) : Int) := by
  have hx : a ^^^ b < 2 ^ 32 := Nat.xor_lt_two_pow ha hb
  have ea : (BitVec.ofInt 64 (a : Int)).toNat = a := by rw [BitVec.ofInt_natCast, BitVec.toNat_ofNat]; omega
  have eb : (BitVec.ofInt 64 (b : Int)).toNat = b := by rw [BitVec.ofInt_natCast, BitVec.toNat_ofNat]; omega
  show IntKind.i64.wrap ((BitVec.ofInt 64 (a : Int) ^^^ BitVec.ofInt 64 (b : Int)).toNat : Int) = _
  rw [BitVec.toNat_xor, ea, eb]
  exact wI (by omega)
theorem ior {a b : Nat} (ha : a < 2 ^ 32) (hb : b < 2 ^ 32) : ibits .or .i64 (a : Int) (b : Int) = ((a ||| b : Nat) : Int) := by
  have hx : a ||| b < 2 ^ 32 := Nat.or_lt_two_pow ha hb
  have ea : (BitVec.ofInt 64 (a : Int)).toNat = a := by rw [BitVec.ofInt_natCast, BitVec.toNat_ofNat]; omega
  have eb : (BitVec.ofInt 64 (b : Int)).toNat = b := by rw [BitVec.ofInt_natCast, BitVec.toNat_ofNat]; omega
  show IntKind.i64.wrap ((BitVec.ofInt 64 (a : Int) ||| BitVec.ofInt 64 (b : Int)).toNat : Int) = _
  rw [BitVec.toNat_or, ea, eb]
  exact wI (by omega)
theorem p8 : (2 ^ (min (8 : Int).toNat IntKind.i64.bits) : Int) = 256 := by decide
theorem fdiv8 (m : Nat) : Int.fdiv (m : Int) (2 ^ (min (8 : Int).toNat IntKind.i64.bits)) = ((m / 256 : Nat) : Int) := by
  rw [p8, Int.fdiv_eq_ediv_of_nonneg _ (by decide)]; omega
theorem tdivN (m k : Nat) (h : m < 2 ^ 40) : IntKind.i64.wrap (Int.tdiv (m : Int) (k : Int)) = ((m / k : Nat) : Int) := by
  rw [show (m : Int).tdiv (k : Int) = ((m / k : Nat) : Int) by rw [Int.tdiv_eq_ediv_of_nonneg (by omega)]; rfl]
  have := Nat.div_le_self m k
  generalize m / k = d at this
  exact wI (by omega)
theorem u8wrap (m : Nat) : IntKind.u8.wrap (m : Int) = ((m % 256 : Nat) : Int) := by
  show (m : Int) % 256 = _
  omega
theorem tmod8 (m : Nat) : Int.tmod (m : Int) 256 = ((m % 256 : Nat) : Int) := by
  rw [Int.tmod_eq_emod_of_nonneg (by omega)]; rfl
/-- How many bytes a number fills. -/
def nb (x : Nat) : Nat := if x = 0 then 0 else if x < 256 then 1 else if x < 65536 then 2 else if x < 16777216 then 3 else 4
theorem nb_le (x : Nat) : nb x ≤ 4 := by unfold nb; repeat' split
                                         all_goals omega
theorem nb_div {m : Nat} (h : 0 < m) (h32 : m < 2 ^ 32) : nb (m / 256) + 1 = nb m := by
  unfold nb; repeat' split
  all_goals omega
def lowB : Nat → Nat → List Int
  | 0, _ => []
  | n + 1, x => ((x % 256 : Nat) : Int) :: lowB n (x / 256)
theorem lowB_len : ∀ n x, (lowB n x).length = n
  | 0, _ => rfl
  | n + 1, x => by rw [lowB, List.length_cons, lowB_len]
def bitsN (x : Nat) : Nat := if fcmp .neq .f32 x x = true then 2143289344 else x
theorem bitsN_lt {x : Nat} (h : x < 2 ^ 32) : bitsN x < 2 ^ 32 := by unfold bitsN; split <;> omega
def oneB (y : Nat) : List Int := ((4 - nb y : Nat) : Int) :: lowB (nb y) y
theorem oneB_len (y : Nat) : (oneB y).length ≤ 5 := by rw [oneB, List.length_cons, lowB_len]; have := nb_le y; omega
def packTo : List Nat → Nat → List Int
  | [], _ => []
  | x :: l, b => oneB (bitsN x ^^^ b) ++ packTo l (bitsN x)
def packL (l : List Nat) : List UInt8 := byts (packTo l 0)
/-- The loop over the values. -/
theorem pack_loop (l : List Nat) (hl : l.length ≤ 2 ^ 20) (hw : ∀ x ∈ l, x < 2 ^ 32) {X : List Int → Int → Int → Prop} (hX : ∀ (o : List Int) (b i : Nat) (hi : i < l.length), b < 2 ^ 32 → o.length ≤ 5 * i → X (o ++ oneB (bitsN l[i] ^^^ b)) (bitsN l[i] : Nat) ((i + 1 : Nat) : Int) → X o (b : Int) (i : Int)) (hend : ∀ b : Int, X (packTo l 0) b (l.length : Int)) : X [] ((0 : Nat) : Int) ((0 : Nat) : Int) := by
  have key : ∀ (m i : Nat) (o : List Int) (b : Nat), m + i = l.length → b < 2 ^ 32 → o.length ≤ 5 * i → o ++ packTo (l.drop i) b = packTo l 0 → X o (b : Int) (i : Int) := by
    intro m
    induction m with
    | zero => intro i o b h1 h2 h3 h4
              obtain rfl : i = l.length := by omega
              rw [List.drop_length, packTo, List.append_nil] at h4
              rw [h4]; exact hend _
    | succ m ih =>
      intro i o b h1 h2 h3 h4
      have hi : i < l.length := by omega
      refine hX o b i hi h2 h3 (ih (i + 1) _ _ (by omega) (bitsN_lt (hw _ (List.getElem_mem hi))) (by rw [List.length_append]; have := oneB_len (bitsN l[i] ^^^ b); omega) ?_)
      rw [dropC hi, packTo] at h4
      rw [List.append_assoc]; exact h4
  exact key l.length 0 [] 0 (by omega) (by decide) (by simp) rfl
/-- The loop over a number's bytes. -/
theorem bytes_loop (M : Nat) {X : List Int → Int → Int → Prop} {N : Nat} (hX : ∀ (o : List Int) (x k : Nat), k < N → x < 2 ^ 32 → o.length < M → X (o ++ [((x % 256 : Nat) : Int)]) ((x / 256 : Nat) : Int) ((k + 1 : Nat) : Int) → X o (x : Int) (k : Int)) : ∀ (n k x : Nat) (o : List Int), k + n = N → x < 2 ^ 32 → o.length + n ≤ M → (∀ x, X (o ++ lowB n x) x (N : Int) → True) → (∀ y : Int, X (o ++ lowB n x) y (N : Int)) → X o (x : Int) (k : Int) := by
  intro n
  induction n with
  | zero => intro k x o h1 h2 h3 _ h4
            obtain rfl : k = N := by omega
            have := h4 x
            rw [lowB, List.append_nil] at this; exact this
  | succ n ih =>
    intro k x o h1 h2 h3 _ h4
    refine hX o x k (by omega) h2 (by omega) (ih (k + 1) (x / 256) _ (by omega) (by omega) (by rw [List.length_append, List.length_singleton]; omega) (fun _ _ => trivial) fun y => ?_)
    have := h4 y
    rw [lowB] at this
    rw [List.append_assoc]; exact this
theorem spec_l01Bits_wp {x : Nat} {K : Int → Prop} (hx : x < 2 ^ 32) (h : K (bitsN x : Nat)) : spec_l01Bits.wp x K := by
  refine ⟨fun c => ?_, fun c => ⟨?_, ?_⟩⟩
  · rw [bitsN, if_pos c] at h; exact h
  · exact num_of_eq c
  · rw [bitsN, if_neg (by rw [c]; decide)] at h
    rw [wI (by omega)]; exact h
theorem impl_BitsOf_wp {x : Nat} {K : Int → Prop} (hx : x < 2 ^ 32) (h : K (bitsN x : Nat)) : impl_BitsOf.wp x K := by
  refine ⟨fun c => ?_, fun c => ⟨?_, ?_⟩⟩
  · rw [bitsN, if_pos c] at h; exact h
  · exact num_of_eq c
  · rw [bitsN, if_neg (by rw [c]; decide)] at h
    rw [wI (by omega)]; exact h
theorem impl_packed_wp {l : List Nat} {K : List UInt8 → Prop} (hl : l.length ≤ 2 ^ 20) (hw : ∀ x ∈ l, x < 2 ^ 32) (h : K (packL l)) : impl_packed.wp l K := by
  intro X hX
  refine pack_loop l hl hw (X := X) (fun o b i hi hb ho hn => hX _ _ _ ⟨fun _ => ⟨⟨by omega, by omega⟩, ?_⟩, fun c => absurd (show (i : Int) < l.length by omega) c⟩) (fun b => hX _ _ _ ⟨fun c => absurd c (by omega), fun _ => h⟩)
  have hxi := hw _ (List.getElem_mem hi)
  rw [nn, gD hi]
  refine impl_BitsOf_wp hxi ?_
  have hbi := bitsN_lt hxi
  rw [ixor hbi hb, w1 (by omega)]
  generalize hy : bitsN l[i] ^^^ b = y at hn
  have hy32 : y < 2 ^ 32 := by rw [← hy]; exact Nat.xor_lt_two_pow hbi hb
  have hnb := nb_le y
  intro Z hZ
  have key : ∀ (n z m : Nat), nb m = n → z + nb y = 4 + n → m < 2 ^ 32 → Z (z : Int) (m : Int) := by
    intro n
    induction n with
    | zero =>
      intro z m h1 h2 h3
      obtain rfl : m = 0 := by
        unfold nb at h1; repeat' split at h1
        all_goals first | assumption | omega
      refine hZ _ _ ⟨fun c => absurd c (by omega), fun _ => ⟨by rw [len1]; omega, fun Y hY => ?_⟩⟩
      have e1 : IntKind.u8.wrap (z : Int) = ((4 - nb y : Nat) : Int) := by rw [u8wrap]; omega
      have e2 : IntKind.i64.wrap ((4 : Int) - (z : Int)) = ((nb y : Nat) : Int) := by rw [wI (by omega)]; omega
      rw [e1]
      refine bytes_loop (5 * i + 5) (X := Y) (N := nb y) (fun q x k hk hx hq hn2 => hY _ _ _ ⟨fun _ => ⟨by rw [len1]; omega, ?_⟩, fun c => absurd (by rw [e2]; omega) c⟩) (nb y) 0 y _ (by omega) hy32 (by rw [List.length_append, List.length_singleton]; omega) (fun _ _ => trivial) (fun w => hY _ _ _ ⟨fun c => absurd c (by rw [e2]; omega), fun _ => ?_⟩)
      · rw [u8wrap, fdiv8, w1 (by omega)]; exact hn2
      · rw [List.append_assoc]; exact hn
    | succ n ih =>
      intro z m h1 h2 h3
      have hm : 0 < m := by
        unfold nb at h1; repeat' split at h1
        all_goals omega
      have := nb_div hm h3
      have := nb_le m
      refine hZ _ _ ⟨fun _ => ?_, fun c => absurd (show (0 : Int) < m by omega) c⟩
      rw [fdiv8, show IntKind.i64.wrap ((z : Int) - 1) = ((z - 1 : Nat) : Int) by rw [wI (by omega)]; omega]
      exact ih (z - 1) (m / 256) (by omega) (by omega) (by omega)
  exact key (nb y) 4 y rfl (by omega) hy32
theorem spec_l07Pack_wp {l : List Nat} {K : List UInt8 → Prop} (hl : l.length ≤ 2 ^ 20) (hw : ∀ x ∈ l, x < 2 ^ 32) (h : K (packL l)) : spec_l07Pack.wp l K := by
  intro X hX
  refine pack_loop l hl hw (X := X) (fun o b i hi hb ho hn => hX _ _ _ ⟨fun _ => ⟨⟨by omega, by omega⟩, ?_⟩, fun c => absurd (show (i : Int) < l.length by omega) c⟩) (fun b => hX _ _ _ ⟨fun c => absurd c (by omega), fun _ => h⟩)
  have hxi := hw _ (List.getElem_mem hi)
  rw [nn, gD hi]
  refine spec_l01Bits_wp hxi ?_
  have hbi := bitsN_lt hxi
  rw [ixor hbi hb, w1 (by omega)]
  generalize hy : bitsN l[i] ^^^ b = y at hn
  have hy32 : y < 2 ^ 32 := by rw [← hy]; exact Nat.xor_lt_two_pow hbi hb
  have hnb := nb_le y
  intro Z hZ
  have fin : ∀ (z : Nat), z + nb y = 4 → ∀ Y : List Int → Int → Int → Prop, (∀ (q : List Int) (x k : Int), ((k < 4 → ((q.length + ([(IntKind.u8.wrap (Int.tmod x 256))] : List (Int)).length) * 1 ≤ 2 ^ 40) ∧ Y (q ++ ([(IntKind.u8.wrap (Int.tmod x 256))] : List (Int))) (IntKind.i64.wrap (Int.tdiv x 256)) (IntKind.i64.wrap (k + 1))) ∧ (¬(k < 4) → X q (bitsN l[i] : Nat) ((i + 1 : Nat) : Int))) → Y q x k) → Y (o ++ ([(z : Int)] : List Int)) (y : Int) (z : Int) := by
    intro z hz Y hY
    refine bytes_loop (5 * i + 5) (X := Y) (N := 4) (fun q x k hk hx hq hn2 => hY _ _ _ ⟨fun _ => ⟨by rw [len1]; omega, ?_⟩, fun c => absurd (show (k : Int) < 4 by omega) c⟩) (nb y) z y _ hz hy32 (by rw [List.length_append, List.length_singleton]; omega) (fun _ _ => trivial) (fun w => hY _ _ _ ⟨fun c => absurd c (by omega), fun _ => ?_⟩)
    · rw [tmod8, u8wrap, Nat.mod_mod, show (256 : Int) = ((256 : Nat) : Int) from rfl, tdivN _ _ (by omega), w1 (by omega)]; exact hn2
    · rw [List.append_assoc]
      rw [oneB, show 4 - nb y = z by omega] at hn; exact hn
  have wz : ∀ z : Nat, z ≤ 4 → IntKind.u8.wrap (z : Int) = (z : Int) := fun z hz => by rw [u8wrap]; omega
  have q3 : y < 256 → Z ((3 : Nat) : Int) ((1 : Nat) : Int) := fun hy3 => by
    refine hZ _ _ ⟨fun _ => ⟨by decide, ?_⟩, fun c => absurd (by decide) c⟩
    rw [tdivN _ _ (by omega), Nat.div_one]
    refine ⟨fun c => ⟨fun _ => ⟨by rw [len1]; omega, ?_⟩, fun c2 => absurd rfl c2⟩, fun c => ⟨by rw [len1]; omega, ?_⟩⟩
    · rw [w1 (by decide), wz 4 (by decide)]
      exact fin 4 (by unfold nb; rw [if_pos (by omega)])
    · rw [wz 3 (by decide)]
      exact fin 3 (by unfold nb; rw [if_neg (by omega), if_pos (by omega)])
  have q2 : y < 65536 → Z ((2 : Nat) : Int) ((256 : Nat) : Int) := fun hy3 => by
    refine hZ _ _ ⟨fun _ => ⟨by decide, ?_⟩, fun c => absurd (by decide) c⟩
    rw [tdivN _ _ (by omega), w1 (by decide), show IntKind.i64.wrap (Int.tdiv ((256 : Nat) : Int) 256) = ((1 : Nat) : Int) by decide]
    refine ⟨fun c => ⟨fun c2 => absurd c2 (by decide), fun _ => q3 (by omega)⟩, fun c => ⟨by rw [len1]; omega, ?_⟩⟩
    rw [wz 2 (by decide)]
    exact fin 2 (by unfold nb; rw [if_neg (by omega), if_neg (by omega), if_pos (by omega)])
  have q1 : y < 16777216 → Z ((1 : Nat) : Int) ((65536 : Nat) : Int) := fun hy3 => by
    refine hZ _ _ ⟨fun _ => ⟨by decide, ?_⟩, fun c => absurd (by decide) c⟩
    rw [tdivN _ _ (by omega), w1 (by decide), show IntKind.i64.wrap (Int.tdiv ((65536 : Nat) : Int) 256) = ((256 : Nat) : Int) by decide]
    refine ⟨fun c => ⟨fun c2 => absurd c2 (by decide), fun _ => q2 (by omega)⟩, fun c => ⟨by rw [len1]; omega, ?_⟩⟩
    rw [wz 1 (by decide)]
    exact fin 1 (by unfold nb; rw [if_neg (by omega), if_neg (by omega), if_neg (by omega), if_pos (by omega)])
  show Z ((0 : Nat) : Int) ((16777216 : Nat) : Int)
  refine hZ _ _ ⟨fun _ => ⟨by decide, ?_⟩, fun c => absurd (by decide) c⟩
  rw [tdivN _ _ (by omega), w1 (by decide), show IntKind.i64.wrap (Int.tdiv ((16777216 : Nat) : Int) 256) = ((65536 : Nat) : Int) by decide]
  refine ⟨fun c => ⟨fun c2 => absurd c2 (by decide), fun _ => q1 (by omega)⟩, fun c => ⟨by rw [len1]; omega, ?_⟩⟩
  rw [wz 0 (by decide)]
  exact fin 0 (by unfold nb; rw [if_neg (by omega), if_neg (by omega), if_neg (by omega), if_neg (by omega)])

end Go.Proofs.Ytkaidcgelbhofaa.G

namespace Go.Proofs.Ytkaidcgelbhofaa.G
open Go Go.Ab
set_option maxRecDepth 100000
set_option linter.unusedVariables false
set_option linter.unusedSimpArgs false
set_option maxHeartbeats 1000000
theorem szFloat32S_wp {l : List Nat} {n : Int} {K : Int → Prop} (hl : l.length ≤ maxLen) (hn : 0 ≤ n ∧ n ≤ 2 ^ 40) (h0 : K (-1)) (h : (l.length : Int) ≤ n → K (n - (l.length : Int))) : laws_szFloat32S.wp l n K := by
  have hm : l.length < 2 ^ 63 := Nat.lt_of_le_of_lt hl (by decide)
  have e : IntKind.i64.wrap (n - (l.length : Int)) = n - (l.length : Int) := wI (by omega)
  refine ⟨fun c => h0, fun c => ?_⟩
  rw [e] at c ⊢; exact h (by omega)
theorem eqTake_wp {a : List UInt8} {k : Int} {l : List Nat} {K : Bool → Prop} (hl : l.length ≤ 2 ^ 20) (h : K true) : laws_eqTake.wp a k l a k l K :=
  tP rfl (tP rfl (eqFloat32S_wp hl (tT h)))
def btOk (a : List UInt8) (i : Nat) : Bool := !decide (bt a i < 97) && !decide (122 < bt a i)
def isNm (a : List UInt8) : Bool := (List.range a.length).all (btOk a) && decide (1 ≤ (a.length : Int) ∧ (a.length : Int) ≤ 8)
theorem range_get2 {n i : Nat} (h : i < (List.range n).length) : (List.range n)[i] = i := List.getElem_range h
theorem nm_yes {a : List UInt8} (h : (List.range a.length).all (btOk a) = true) : isNm a = decide (1 ≤ (a.length : Int) ∧ (a.length : Int) ≤ 8) := by rw [isNm, h]; rfl
theorem nm_no {a : List UInt8} (h : (List.range a.length).all (btOk a) = false) : isNm a = false := by rw [isNm, h]; rfl
theorem spec_l07Name_wp {a : List UInt8} {K : Bool → Prop} (ha : a.length ≤ 2 ^ 40) (h : K (isNm a)) : spec_l07Name.wp a K := by
  intro X hX
  refine all_loop (List.range a.length) (btOk a) (X := X) (T := K (decide (1 ≤ (a.length : Int) ∧ (a.length : Int) ≤ 8))) (F := K false) (fun i hi hh => ?_) (fun ht => hX _ ⟨fun c => absurd c (by rw [List.length_range]; omega), fun _ => ⟨fun h1 => ?_, fun h1 => ?_⟩⟩) (fun e => by rw [nm_yes e] at h; exact h) (fun e => by rw [nm_no e] at h; exact h)
  · rw [range_get2] at hh; rw [List.length_range] at hi
    refine hX _ ⟨fun _ => ⟨⟨by omega, by omega⟩, ?_⟩, fun c => absurd (show (i : Int) < a.length by omega) c⟩
    rw [w1 (by omega)]
    refine ⟨fun c1 => hh.2 (by rw [btOk, decide_eq_true c1]; rfl), fun c1 => ⟨fun c2 => hh.2 (by rw [btOk, decide_eq_true c2, Bool.not_true, Bool.and_false]), fun c2 => hh.1 (by rw [btOk, decide_eq_false c1, decide_eq_false c2]; rfl)⟩⟩
  · rw [show decide (1 ≤ (a.length : Int) ∧ (a.length : Int) ≤ 8) = decide ((a.length : Int) ≤ 8) by simp [h1]] at ht; exact ht
  · rw [show decide (1 ≤ (a.length : Int) ∧ (a.length : Int) ≤ 8) = false by simp [h1]] at ht; exact ht
theorem impl_IsName_wp {a : List UInt8} {K : Bool → Prop} (ha : a.length ≤ 2 ^ 40) (h : K (isNm a)) : impl_IsName.wp a K := by
  intro X hX
  refine all_loop (List.range a.length) (btOk a) (X := X) (T := K (decide (1 ≤ (a.length : Int) ∧ (a.length : Int) ≤ 8))) (F := K false) (fun i hi hh => ?_) (fun ht => hX _ ⟨fun c => absurd c (by rw [List.length_range]; omega), fun _ => ⟨fun h1 => ?_, fun h1 => ?_⟩⟩) (fun e => by rw [nm_yes e] at h; exact h) (fun e => by rw [nm_no e] at h; exact h)
  · rw [range_get2] at hh; rw [List.length_range] at hi
    refine hX _ ⟨fun _ => ⟨⟨by omega, by omega⟩, ?_⟩, fun c => absurd (show (i : Int) < a.length by omega) c⟩
    rw [w1 (by omega)]
    refine ⟨fun c1 => hh.2 (by rw [btOk, decide_eq_true c1]; rfl), fun c1 => ⟨fun c2 => hh.2 (by rw [btOk, decide_eq_true c2, Bool.not_true, Bool.and_false]), fun c2 => hh.1 (by rw [btOk, decide_eq_false c1, decide_eq_false c2]; rfl)⟩⟩
  · rw [show decide (1 ≤ (a.length : Int) ∧ (a.length : Int) ≤ 8) = decide ((a.length : Int) ≤ 8) by simp [h1]] at ht; exact ht
  · rw [show decide (1 ≤ (a.length : Int) ∧ (a.length : Int) ≤ 8) = false by simp [h1]] at ht; exact ht
def isVals (l : List Nat) : Bool := decide (1 ≤ (l.length : Int) ∧ (l.length : Int) ≤ 128)
theorem spec_l07Values_wp {l : List Nat} {K : Bool → Prop} (h : K (isVals l)) : spec_l07Values.wp l K := by
  unfold isVals at h
  refine ⟨fun h1 => ?_, fun h1 => ?_⟩
  · rw [show decide (1 ≤ (l.length : Int) ∧ (l.length : Int) ≤ 128) = decide ((l.length : Int) ≤ 128) by simp [h1]] at h; exact h
  · rw [show decide (1 ≤ (l.length : Int) ∧ (l.length : Int) ≤ 128) = false by simp [h1]] at h; exact h
def isTk (a : List UInt8) (k : Int) (l : List Nat) : Bool := isNm a && decide (1 ≤ k ∧ k ≤ 65535) && isVals l
theorem spec_l07Take_wp {a : List UInt8} {k : Int} {l : List Nat} {K : Bool → Prop} (ha : a.length ≤ 2 ^ 40) (h : K (isTk a k l)) : spec_l07Take.wp a k l K := by
  refine spec_l07Name_wp ha ⟨fun h1 => spec_l00In_wp ⟨fun h2 => spec_l07Values_wp ?_, fun h2 => ?_⟩, fun h1 => ?_⟩
  · rw [isTk, h1, h2] at h; exact h
  · rw [isTk, h1, h2] at h; exact h
  · rw [isTk, h1] at h; exact h
theorem impl_ValidTake_wp {a : List UInt8} {k : Int} {l : List Nat} {K : Bool → Prop} (ha : a.length ≤ 2 ^ 40) (h : K (isTk a k l)) : impl_ValidTake.wp a k l K := by
  refine impl_IsName_wp ha ⟨fun h1 => impl_within_wp ⟨fun h2 => impl_within_wp ?_, fun h2 => ?_⟩, fun h1 => ?_⟩
  · rw [isTk, h1, h2] at h; exact h
  · rw [isTk, h1, h2] at h; exact h
  · rw [isTk, h1] at h; exact h

end Go.Proofs.Ytkaidcgelbhofaa.G

namespace Go.Proofs.Ytkaidcgelbhofaa.G
open Go Go.Ab
set_option maxRecDepth 100000
set_option linter.unusedVariables false
set_option linter.unusedSimpArgs false
set_option maxHeartbeats 1000000
theorem nums_len (l : List UInt8) : (nums l).length = l.length := by simp [nums]
theorem byts_len (l : List Int) : (byts l).length = l.length := by simp [byts]
def chkTo : List UInt8 → Nat → Nat
  | [], n => n
  | c :: l, n => chkTo l ((853 * n + c.toNat + 139) % 65003)
theorem chkTo_lt : ∀ (l : List UInt8) (n : Nat), n < 65003 → chkTo l n < 65003
  | [], n, h => h
  | c :: l, n, h => chkTo_lt l _ (Nat.mod_lt _ (by decide))
theorem chk_loop (a : List UInt8) {X : Int → Int → Prop} (hX : ∀ n i : Nat, n < 65003 → ∀ hi : i < a.length, X (((853 * n + (a[i]).toNat + 139) % 65003 : Nat) : Int) ((i + 1 : Nat) : Int) → X n i) (n : Nat) (hn : n < 65003) (hend : X (chkTo a n : Nat) (a.length : Int)) : X (n : Int) ((0 : Nat) : Int) := by
  have key : ∀ (m i n : Nat), m + i = a.length → n < 65003 → chkTo (a.drop i) n = chkTo a (chkTo [] 0 + 0) ∨ True → X (chkTo (a.drop i) n : Nat) (a.length : Int) → X (n : Int) (i : Int) := by
    intro m
    induction m with
    | zero => intro i n h1 h2 _ h3
              obtain rfl : i = a.length := by omega
              rw [List.drop_length] at h3; exact h3
    | succ m ih =>
      intro i n h1 h2 _ h3
      have hi : i < a.length := by omega
      rw [dropC hi] at h3
      exact hX n i h2 hi (ih (i + 1) _ (by omega) (Nat.mod_lt _ (by decide)) (.inr trivial) h3)
  exact key a.length 0 n (by omega) hn (.inr trivial) hend
theorem chk_step (n b : Nat) (hn : n < 65003) (hb : b < 256) : Int.tmod (IntKind.i64.wrap ((IntKind.i64.wrap ((IntKind.i64.wrap (853 * (n : Int))) + (IntKind.i64.wrap ((b : Nat) : Int)))) + 139)) 65003 = ((((853 * n + b + 139) % 65003 : Nat)) : Int) := by
  rw [wI (n := 853 * (n : Int)) (by omega), wI (n := (b : Int)) (by omega), wI (n := 853 * (n : Int) + (b : Int)) (by omega), wI (n := 853 * (n : Int) + (b : Int) + 139) (by omega), Int.tmod_eq_emod_of_nonneg (by omega)]
  omega
theorem bt_at {a : List UInt8} {i : Nat} (hi : i < a.length) : bt a (i : Int) = ((a[i]).toNat : Int) := by
  unfold bt; rw [nn, gD hi]
theorem spec_l01Check_wp {n : Nat} {a : List UInt8} {K : Int → Prop} (ha : a.length ≤ 2 ^ 40) (hn : n < 65003) (h : K (chkTo a n : Nat)) : spec_l01Check.wp (n : Int) a K := by
  intro X hX
  refine chk_loop a (X := X) (fun n i hn hi h2 => hX _ _ ⟨fun _ => ⟨⟨by omega, by omega⟩, ?_⟩, fun c => absurd (show (i : Int) < a.length by omega) c⟩) n hn (hX _ _ ⟨fun c => absurd c (by omega), fun _ => h⟩)
  rw [bt_at hi, chk_step n _ hn (UInt8.toNat_lt _), w1 (by omega)]; exact h2
theorem impl_CheckOf_wp {n : Nat} {a : List UInt8} {K : Int → Bool → Prop} (ha : a.length ≤ 2 ^ 40) (hn : n < 65003) (h : K (chkTo a n : Nat) true) : impl_CheckOf.wp (n : Int) a K := by
  refine impl_within_wp (tE (decide_eq_true (by omega)) fun X hX => ?_)
  refine chk_loop a (X := X) (fun n i hn hi h2 => hX _ _ ⟨fun _ => ⟨⟨by omega, by omega⟩, ?_⟩, fun c => absurd (show (i : Int) < a.length by omega) c⟩) n hn (hX _ _ ⟨fun c => absurd c (by omega), fun _ => h⟩)
  rw [bt_at hi, chk_step n _ hn (UInt8.toNat_lt _), w1 (by omega)]; exact h2
def loB (k : Nat) : List Int := [((k % 256 : Nat) : Int), ((k / 256 % 256 : Nat) : Int)]
theorem loB_s (k : Nat) (hk : k < 2 ^ 40) : [(IntKind.u8.wrap (Int.tmod (k : Int) 256)), (IntKind.u8.wrap (IntKind.i64.wrap (Int.tdiv (k : Int) 256)))] = loB k := by
  rw [tmod8, u8wrap, Nat.mod_mod, show (256 : Int) = ((256 : Nat) : Int) from rfl, tdivN _ _ hk, u8wrap]; rfl
theorem loB_i (k : Nat) : [(IntKind.u8.wrap (k : Int)), (IntKind.u8.wrap (Int.fdiv (k : Int) (2 ^ (min (8 : Int).toNat IntKind.i64.bits))))] = loB k := by
  rw [fdiv8, u8wrap, u8wrap]; rfl
theorem loB_len (k : Nat) : (loB k).length = 2 := rfl
def stBody (a : List UInt8) (k : Nat) (l : List Nat) : List Int := ((([84, 65, 75, 49] ++ [((a.length % 256 : Nat) : Int)]) ++ nums a) ++ (loB k ++ loB (packL l).length)) ++ nums (packL l)
def storeL (a : List UInt8) (k : Nat) (l : List Nat) : List UInt8 := byts (stBody a k l ++ loB (chkTo (byts (stBody a k l)) 0))
theorem packTo_len : ∀ (l : List Nat) (b : Nat), (packTo l b).length ≤ 5 * l.length
  | [], _ => Nat.le_refl _
  | x :: l, b => by
    have h1 := packTo_len l (bitsN x)
    have h2 := oneB_len (bitsN x ^^^ b)
    rw [packTo, List.length_append, List.length_cons]; omega
theorem packL_len (l : List Nat) : (packL l).length ≤ 5 * l.length := by rw [packL, byts_len]; exact packTo_len l 0
theorem stBody_len (a : List UInt8) (k : Nat) (l : List Nat) : (stBody a k l).length ≤ 9 + a.length + 5 * l.length := by
  have := packL_len l
  simp only [stBody, List.length_append, nums_len, loB_len, List.length_cons, List.length_nil]; omega
theorem storeL_len (a : List UInt8) (k : Nat) (l : List Nat) : (storeL a k l).length ≤ 11 + a.length + 5 * l.length := by
  have := stBody_len a k l
  rw [storeL, byts_len, List.length_append, loB_len]; omega
theorem lB_app (k m : Nat) : loB k ++ loB m = [((k % 256 : Nat) : Int), ((k / 256 % 256 : Nat) : Int), ((m % 256 : Nat) : Int), ((m / 256 % 256 : Nat) : Int)] := rfl
theorem four_s (k m : Nat) (hk : k < 2 ^ 40) (hm : m < 2 ^ 40) : [(IntKind.u8.wrap (Int.tmod (k : Int) 256)), (IntKind.u8.wrap (IntKind.i64.wrap (Int.tdiv (k : Int) 256))), (IntKind.u8.wrap (Int.tmod (m : Int) 256)), (IntKind.u8.wrap (IntKind.i64.wrap (Int.tdiv (m : Int) 256)))] = loB k ++ loB m := by
  rw [← loB_s k hk, ← loB_s m hm]; rfl
theorem spec_l07Store_wp {a : List UInt8} {k : Nat} {l : List Nat} {K : List UInt8 → Prop} (ha : a.length ≤ 8) (hk : k < 2 ^ 16) (hl : l.length ≤ 128) (hw : ∀ x ∈ l, x < 2 ^ 32) (h : K (storeL a k l)) : spec_l07Store.wp a (k : Int) l K := by
  have hp := packL_len l
  have hb := stBody_len a k l
  have hc := chkTo_lt (byts (stBody a k l)) 0 (by decide)
  refine ⟨by decide, by simp only [List.length_cons, List.length_nil]; decide, ?_, spec_l07Pack_wp (by omega) hw ⟨?_, ?_, ?_⟩⟩
  · simp only [List.length_append, nums_len, List.length_cons, List.length_nil]; omega
  · simp only [List.length_append, nums_len, List.length_cons, List.length_nil]; omega
  · simp only [List.length_append, nums_len, List.length_cons, List.length_nil]; omega
  · rw [four_s k _ (by omega) (by omega), u8wrap]
    rw [show ((((([84, 65, 75, 49] : List Int) ++ ([((a.length % 256 : Nat) : Int)] : List Int)) ++ nums a) ++ (loB k ++ loB (packL l).length)) ++ nums (packL l)) = stBody a k l from rfl]
    refine spec_l01Check_wp (n := 0) (by rw [byts_len]; omega) (by decide) ⟨?_, ?_⟩
    · simp only [List.length_append, List.length_cons, List.length_nil]; omega
    · rw [loB_s _ (by omega)]; exact h
theorem impl_lowBytes_wp {k : Nat} {K : List Int → Prop} (h : K (loB k)) : impl_lowBytes.wp (k : Int) K := by
  unfold impl_lowBytes.wp
  rw [loB_i]; exact h

end Go.Proofs.Ytkaidcgelbhofaa.G

namespace Go.Proofs.Ytkaidcgelbhofaa.G
open Go Go.Ab
set_option maxRecDepth 100000
set_option linter.unusedVariables false
set_option linter.unusedSimpArgs false
set_option maxHeartbeats 1000000
theorem impl_StoreTake_wp {a : List UInt8} {k : Int} {l : List Nat} {K : List UInt8 → Bool → Prop} (ha : a.length ≤ 2 ^ 20) (hl : l.length ≤ 2 ^ 20) (hw : ∀ x ∈ l, x < 2 ^ 32) (h : K (if isTk a k l = true then storeL a k.toNat l else []) (isTk a k l)) : impl_StoreTake.wp a k l K := by
  refine impl_ValidTake_wp (by omega) ⟨fun h1 => ?_, fun h1 => by rw [h1, if_neg (by decide)] at h; exact h⟩
  rw [h1, if_pos rfl] at h
  simp only [isTk, isNm, isVals, Bool.and_eq_true, decide_eq_true_eq] at h1
  obtain ⟨kn, rfl⟩ : ∃ kn : Nat, k = kn := ⟨k.toNat, by omega⟩
  have hp := packL_len l
  have hb := stBody_len a kn l
  have hc := chkTo_lt (byts (stBody a kn l)) 0 (by decide)
  refine impl_packed_wp hl hw ⟨by decide, by simp only [List.length_cons, List.length_nil]; decide, ?_, impl_lowBytes_wp ⟨?_, impl_lowBytes_wp ⟨?_, ?_, ?_⟩⟩⟩
  · simp only [List.length_append, List.length_cons, List.length_nil]; omega
  · simp only [List.length_append, nums_len, loB_len, List.length_cons, List.length_nil]; omega
  · simp only [List.length_append, nums_len, loB_len, List.length_cons, List.length_nil]; omega
  · simp only [List.length_append, nums_len, loB_len, List.length_cons, List.length_nil]; omega
  · rw [u8wrap]
    rw [show (((((([84, 65, 75, 49] : List Int) ++ ([((a.length % 256 : Nat) : Int)] : List Int)) ++ nums a) ++ loB kn) ++ loB (packL l).length) ++ nums (packL l)) = stBody a kn l by rw [stBody, List.append_assoc _ (loB kn)]]
    refine impl_CheckOf_wp (n := 0) (by rw [byts_len]; omega) (by decide) (impl_lowBytes_wp ⟨?_, ?_⟩)
    · simp only [List.length_append, loB_len]; omega
    · exact h

end Go.Proofs.Ytkaidcgelbhofaa.G

namespace Go.Proofs.Ytkaidcgelbhofaa.G
open Go Go.Ab
set_option maxRecDepth 100000
set_option linter.unusedVariables false
set_option linter.unusedSimpArgs false
set_option maxHeartbeats 1000000
abbrev Tk := List UInt8 × Int × List Nat
def tk0 : Tk := (([] : List UInt8), (0 : Int), ([] : List Nat))
/-- What a law is handed. -/
def TkIn (l : List Tk) : Prop := ∀ z ∈ l, z.1.length ≤ maxLen ∧ z.2.2.length ≤ maxLen ∧ (∀ y ∈ z.2.2, y < 2 ^ 32) ∧ True
/-- What is small. -/
def TkOk (l : List Tk) : Prop := l.length ≤ 2 ^ 20 ∧ ∀ z ∈ l, z.1.length ≤ 2 ^ 20 ∧ z.2.2.length ≤ 2 ^ 20 ∧ ∀ y ∈ z.2.2, y < 2 ^ 32
theorem eqTakeS_wp {l : List Tk} {K : Bool → Prop} (hl : TkOk l) (h : K true) : laws_eqTakeS.wp l l K := by
  obtain ⟨hl, hz⟩ := hl
  refine tP rfl fun X hX => ?_
  refine up (Y := fun i => X (i : Int)) l.length ?_ fun i hi hn => ?_
  · exact hX _ ⟨fun c => absurd c (by omega), fun _ => h⟩
  · refine hX _ ⟨fun _ => ⟨⟨by omega, by omega⟩, ⟨by omega, by omega⟩, ?_⟩, fun c => absurd (show (i : Int) < l.length by omega) c⟩
    rw [nn, gD hi, w1 (by omega)]
    exact eqTake_wp (hz _ (List.getElem_mem hi)).2.1 (tT hn)

end Go.Proofs.Ytkaidcgelbhofaa.G

namespace Go.Proofs.Ytkaidcgelbhofaa.G
open Go Go.Ab
set_option maxRecDepth 100000
set_option linter.unusedVariables false
set_option linter.unusedSimpArgs false
set_option maxHeartbeats 1000000
def bN (a : List UInt8) (i : Nat) : Nat := (a.getD i 0).toNat
theorem bt_nat (a : List UInt8) (i : Nat) : bt a (i : Int) = (bN a i : Int) := rfl
theorem bN_lt (a : List UInt8) (i : Nat) : bN a i < 256 := UInt8.toNat_lt _
/-- A number from its bytes, the lowest first. -/
def lowN (a : List UInt8) : Nat → Nat → Nat
  | _, 0 => 0
  | s, n + 1 => bN a s + 256 * lowN a (s + 1) n
theorem lowN_lt (a : List UInt8) : ∀ n s, lowN a s n < 256 ^ n
  | 0, _ => by simp [lowN]
  | n + 1, s => by
    have h1 := lowN_lt a n (s + 1)
    have h2 := bN_lt a s
    rw [lowN, Nat.pow_succ]; omega
theorem lowN_lt4 (a : List UInt8) (n s : Nat) (h : n ≤ 4) : lowN a s n < 2 ^ 32 := by
  have h1 := lowN_lt a n s
  have h2 : 256 ^ n ≤ 256 ^ 4 := Nat.pow_le_pow_right (by decide) h
  have h3 : (256 : Nat) ^ 4 = 2 ^ 32 := by decide
  omega
theorem lowN_sub {a : List UInt8} {s m : Nat} (h : s + m ≤ a.length) : ∀ n i, i + n = m → lowN ((a.drop s).take m) i n = lowN a (s + i) n
  | 0, _, _ => rfl
  | n + 1, i, hi => by
    rw [lowN, lowN, lowN_sub h n (i + 1) (by omega)]
    have : bN ((a.drop s).take m) i = bN a (s + i) := by
      unfold bN
      rw [List.getD_eq_getElem?_getD, List.getD_eq_getElem?_getD, List.getElem?_take, if_pos (by omega), List.getElem?_drop]
    rw [this, Nat.add_assoc]
theorem impl_lowNumber_wp {c : List UInt8} {K : Int → Prop} (hc : c.length ≤ 4) (h : K (lowN c 0 c.length : Nat)) : impl_lowNumber.wp c K := by
  intro X hX
  have key := up (Y := fun m => m ≤ c.length → X (lowN c (c.length - m) m : Nat) ((c.length : Int) - m - 1)) c.length (fun _ => ?_) (fun m hm hn _ => ?_)
  · have := key (by omega)
    rw [wI (by omega)]
    rw [lowN, show ((c.length : Int) - ((0 : Nat) : Int) - 1) = (c.length : Int) - 1 by omega] at this
    exact this
  · refine hX _ _ ⟨fun c2 => absurd c2 (by omega), fun _ => ?_⟩
    rw [Nat.sub_self]; exact h
  · have hn := hn (by omega)
    have e : (c.length : Int) - (m : Int) - 1 = ((c.length - (m + 1) : Nat) : Int) := by omega
    rw [e]
    refine hX _ _ ⟨fun _ => ⟨⟨by omega, by omega⟩, ?_⟩, fun c2 => absurd (show (0 : Int) ≤ ((c.length - (m + 1) : Nat) : Int) by omega) c2⟩
    have hb := bN_lt c (c.length - (m + 1))
    have hl := lowN_lt c m (c.length - m)
    have h2 : 256 ^ m ≤ 256 ^ 3 := Nat.pow_le_pow_right (by decide) (by omega)
    have h3 : (256 : Nat) ^ 3 = 2 ^ 24 := by decide
    rw [bt_nat, p8]
    have e1 : IntKind.i64.wrap (((lowN c (c.length - m) m : Nat) : Int) * 256) = ((lowN c (c.length - m) m * 256 : Nat) : Int) := by rw [wI (by omega)]; omega
    have e2 : IntKind.i64.wrap ((bN c (c.length - (m + 1)) : Nat) : Int) = ((bN c (c.length - (m + 1)) : Nat) : Int) := wI (by omega)
    have e3 : IntKind.i64.wrap (((c.length - (m + 1) : Nat) : Int) - 1) = (c.length : Int) - ((m + 1 : Nat) : Int) - 1 := by rw [wI (by omega)]; omega
    rw [e1, e2, e3, ior (by omega) (by omega)]
    have e4 : lowN c (c.length - m) m * 256 ||| bN c (c.length - (m + 1)) = lowN c (c.length - (m + 1)) (m + 1) := by
      have := Nat.two_pow_add_eq_or_of_lt (i := 8) hb (lowN c (c.length - m) m)
      rw [show (2 : Nat) ^ 8 = 256 from rfl, Nat.mul_comm 256] at this
      rw [← this, lowN, show c.length - (m + 1) + 1 = c.length - m by omega, Nat.mul_comm 256]; omega
    rw [e4]; exact hn
theorem impl_FromBits_wp {n : Nat} {K : Nat → Bool → Prop} (hn : n < 2 ^ 32) (h : K (cz .f32 n) true) : impl_FromBits.wp (n : Int) K := by
  refine impl_within_wp (tE (decide_eq_true (by omega)) ?_)
  show K (cz .f32 (IntKind.u32.wrap (n : Int)).toNat) true
  have : IntKind.u32.wrap (n : Int) = (n : Int) := by show (n : Int) % 4294967296 = _; omega
  rw [this]; exact h
theorem spec_l01From_wp {n : Nat} {K : Nat → Prop} (hn : n < 2 ^ 32) (h : K (cz .f32 n)) : spec_l01From.wp (n : Int) K := by
  show K (cz .f32 (IntKind.u32.wrap (n : Int)).toNat)
  have : IntKind.u32.wrap (n : Int) = (n : Int) := by show (n : Int) % 4294967296 = _; omega
  rw [this]; exact h
theorem cz_lt {n : Nat} (h : n < 2 ^ 32) : cz .f32 n < 2 ^ 32 := by
  unfold cz; split
  · decide
  · exact h
def unp (a : List UInt8) : Nat → Nat → Nat → List Nat → Option (List Nat)
  | 0, _, _, _ => none
  | f + 1, i, b, o => if i < a.length then (if 4 < bN a i then none else if a.length < i + 5 - bN a i then none else if o.length = 128 then none else unp a f (i + 5 - bN a i) (b ^^^ lowN a (i + 1) (4 - bN a i)) (o ++ [cz .f32 (b ^^^ lowN a (i + 1) (4 - bN a i))])) else if o.length = 0 then none else if packL o = a then some o else none
theorem unp_len (a : List UInt8) : ∀ f i b o, o.length ≤ 128 → ∀ r, unp a f i b o = some r → r.length ≤ 128
  | 0, _, _, _, _, r, h => by cases h
  | f + 1, i, b, o, ho, r, h => by
    rw [unp] at h
    split at h
    · split at h
      · cases h
      · split at h
        · cases h
        · split at h
          · cases h
          · exact unp_len a f _ _ _ (by rw [List.length_append, List.length_singleton]; omega) r h
    · split at h
      · cases h
      · split at h
        · cases h; exact ho
        · cases h
def unpR (a : List UInt8) : Option (List Nat) := unp a (a.length + 1) 0 0 []
def endR (K : List Nat → Bool → Prop) : Option (List Nat) → Prop
  | some o => K o true
  | none => K [] false
/-- What both loops do. -/
theorem unp_loop (a : List UInt8) (ha : a.length ≤ 2 ^ 20) {K : List Nat → Bool → Prop} {X : List Nat → Int → Int → Prop}
    (hX : ∀ (o : List Nat) (b i : Nat), b < 2 ^ 32 → (∀ x ∈ o, x < 2 ^ 32) → o.length ≤ 128 → i ≤ a.length →
      (i < a.length → 4 < bN a i → K [] false) → (i < a.length → ¬ 4 < bN a i → a.length < i + 5 - bN a i → K [] false) →
      (i < a.length → ¬ 4 < bN a i → ¬ a.length < i + 5 - bN a i → o.length = 128 → K [] false) →
      (i < a.length → ¬ 4 < bN a i → ¬ a.length < i + 5 - bN a i → ¬ o.length = 128 → X (o ++ [cz .f32 (b ^^^ lowN a (i + 1) (4 - bN a i))]) ((b ^^^ lowN a (i + 1) (4 - bN a i) : Nat) : Int) ((i + 5 - bN a i : Nat) : Int)) →
      (¬ i < a.length → endR K (if o.length = 0 then none else if packL o = a then some o else none)) → X o (b : Int) (i : Int)) (h : endR K (unpR a)) : X [] ((0 : Nat) : Int) ((0 : Nat) : Int) := by
  have key : ∀ (f i b : Nat) (o : List Nat), a.length < f + i → b < 2 ^ 32 → (∀ x ∈ o, x < 2 ^ 32) → o.length ≤ 128 → i ≤ a.length → endR K (unp a f i b o) → X o (b : Int) (i : Int) := by
    intro f
    induction f with
    | zero => intro i b o h1 h2 h3 h4 h5; omega
    | succ f ih =>
      intro i b o h1 h2 h3 h4 h5 h6
      rw [unp] at h6
      have hx : b ^^^ lowN a (i + 1) (4 - bN a i) < 2 ^ 32 := Nat.xor_lt_two_pow h2 (lowN_lt4 a _ _ (by omega))
      refine hX o b i h2 h3 h4 h5 (fun c1 c2 => ?_) (fun c1 c2 c3 => ?_) (fun c1 c2 c3 c4 => ?_) (fun c1 c2 c3 c4 => ?_) (fun c1 => ?_)
      · rw [if_pos c1, if_pos c2] at h6; exact h6
      · rw [if_pos c1, if_neg c2, if_pos c3] at h6; exact h6
      · rw [if_pos c1, if_neg c2, if_neg c3, if_pos c4] at h6; exact h6
      · rw [if_pos c1, if_neg c2, if_neg c3, if_neg c4] at h6
        refine ih _ _ _ (by omega) hx (fun x hxx => ?_) (by rw [List.length_append, List.length_singleton]; omega) (by omega) h6
        rw [List.mem_append, List.mem_singleton] at hxx
        rcases hxx with hxx | rfl
        · exact h3 x hxx
        · exact cz_lt hx
      · rw [if_neg c1] at h6; exact h6
  exact key (a.length + 1) 0 0 [] (by omega) (by decide) (fun x hx => by cases hx) (by simp) (by omega) h
theorem impl_UnpackTake_wp {a : List UInt8} {K : List Nat → Bool → Prop} (ha : a.length ≤ 2 ^ 20) (h : endR K (unpR a)) : impl_UnpackTake.wp a K := by
  intro X hX
  refine unp_loop a ha (X := X) (fun o b i hb hw ho hi h1 h2 h3 h4 h5 => hX _ _ _ ⟨fun c => ?_, fun c => ?_⟩) h
  · have c : i < a.length := by omega
    have hbN := bN_lt a i
    refine ⟨⟨by omega, by omega⟩, ?_⟩
    rw [bt_nat, wI (show -9223372036854775808 ≤ ((bN a i : Nat) : Int) ∧ ((bN a i : Nat) : Int) < 9223372036854775808 by omega), wI (show -9223372036854775808 ≤ (i : Int) + 5 ∧ (i : Int) + 5 < 9223372036854775808 by omega), w1 (by omega)]
    refine ⟨fun c1 => h1 c (by omega), fun c1 => ?_⟩
    rw [show IntKind.i64.wrap ((i : Int) + 5 - ((bN a i : Nat) : Int)) = ((i + 5 - bN a i : Nat) : Int) by rw [wI (by omega)]; omega]
    refine ⟨fun c2 => h2 c (by omega) (by omega), fun c2 => ⟨fun c3 => h3 c (by omega) (by omega) (by omega), fun c3 => ⟨⟨by omega, by omega, by omega⟩, ?_⟩⟩⟩
    have h4 := h4 c (by omega) (by omega) (by omega)
    rw [nn, nn, show i + 5 - bN a i - (i + 1) = 4 - bN a i by omega]
    have hlen : ((a.drop (i + 1)).take (4 - bN a i)).length = 4 - bN a i := by rw [List.length_take, List.length_drop]; omega
    refine impl_lowNumber_wp (by rw [hlen]; omega) ?_
    rw [hlen, lowN_sub (by omega) _ 0 (by omega), Nat.add_zero, ixor hb (lowN_lt4 a _ _ (by omega))]
    refine impl_FromBits_wp (Nat.xor_lt_two_pow hb (lowN_lt4 a _ _ (by omega))) ⟨by rw [len1]; omega, h4⟩
  · have h5 := h5 (by omega)
    refine ⟨fun c1 => ?_, fun c1 => ?_⟩
    · rw [if_pos (by omega)] at h5; exact h5
    · rw [if_neg (by omega)] at h5
      refine impl_packed_wp (by omega) hw ⟨fun c2 => ?_, fun c2 => ?_⟩
      · rw [if_pos c2] at h5; exact h5
      · rw [if_neg c2] at h5; exact h5
/-- The bytes of one value, read upwards. -/
theorem up_bytes (a : List UInt8) {X : Int → Int → Int → Int → Prop} (hX : ∀ (s x sc k : Nat), k < 4 → s < a.length → x + bN a s * sc < 2 ^ 32 → sc * 256 ≤ 2 ^ 32 → X ((s + 1 : Nat) : Int) ((x + bN a s * sc : Nat) : Int) ((sc * 256 : Nat) : Int) ((k + 1 : Nat) : Int) → X s x sc k) : ∀ (n s x sc k : Nat), k + n = 4 → s + n ≤ a.length → x + sc * lowN a s n < 2 ^ 32 → sc * 256 ^ n ≤ 2 ^ 32 → (∀ t : Int, X ((s + n : Nat) : Int) ((x + sc * lowN a s n : Nat) : Int) t 4) → X s x sc k
  | 0, s, x, sc, k, h1, h2, h3, h4, h5 => by
    obtain rfl : k = 4 := by omega
    have := h5 sc
    rw [lowN, Nat.mul_zero, Nat.add_zero, Nat.add_zero] at this; exact this
  | n + 1, s, x, sc, k, h1, h2, h3, h4, h5 => by
    have e : sc * lowN a s (n + 1) = bN a s * sc + sc * 256 * lowN a (s + 1) n := by
      rw [lowN, Nat.mul_add, Nat.mul_comm sc, ← Nat.mul_assoc]
    have hp : sc * 256 ^ (n + 1) = sc * 256 * 256 ^ n := by rw [Nat.pow_succ, Nat.mul_comm (256 ^ n), ← Nat.mul_assoc]
    have hp1 : sc * 256 ≤ sc * 256 * 256 ^ n := Nat.le_mul_of_pos_right _ (Nat.pow_pos (by decide))
    rw [e] at h3
    refine hX s x sc k (by omega) (by omega) (by omega) (by omega) (up_bytes a hX n (s + 1) _ _ (k + 1) (by omega) (by omega) (by omega) (by omega) fun t => ?_)
    have := h5 t
    rw [e] at this
    rw [show s + 1 + n = s + (n + 1) by omega, Nat.add_assoc x]; exact this
theorem spec_l07Unpack_wp {a : List UInt8} {K : List Nat → Bool → Prop} (ha : a.length ≤ 2 ^ 20) (h : endR K (unpR a)) : spec_l07Unpack.wp a K := by
  intro X hX
  have last : ∀ o : List Nat, o.length ≤ 128 → (∀ x ∈ o, x < 2 ^ 32) → endR K (if o.length = 0 then none else if packL o = a then some o else none) → spec_l07Values.wp o fun y176 => ((y176 = true → spec_l07Pack.wp o fun y179 => ((y179 = a → K (o) (true)) ∧ (¬(y179 = a) → K ([] : List (Nat)) (false)))) ∧ (y176 = false → K ([] : List (Nat)) (false))) := by
    intro o ho hw h5
    refine spec_l07Values_wp ⟨fun c => ?_, fun c => ?_⟩
    · have c := of_decide_eq_true c
      rw [if_neg (by omega)] at h5
      refine spec_l07Pack_wp (by omega) hw ⟨fun c2 => ?_, fun c2 => ?_⟩
      · rw [if_pos c2] at h5; exact h5
      · rw [if_neg c2] at h5; exact h5
    · have c := of_decide_eq_false c
      rw [if_pos (by omega)] at h5; exact h5
  refine unp_loop a ha (X := X) (fun o b i hb hw ho hi h1 h2 h3 h4 h5 => hX _ _ _ ⟨fun c => ⟨fun c0 => ?_, fun c0 => absurd (show (o.length : Int) ≤ 128 by omega) c0⟩, fun c => last o ho hw (h5 (by omega))⟩) h
  have c : i < a.length := by omega
  have hbN := bN_lt a i
  refine ⟨⟨by omega, by omega⟩, ?_⟩
  rw [bt_nat, wI (show -9223372036854775808 ≤ ((bN a i : Nat) : Int) ∧ ((bN a i : Nat) : Int) < 9223372036854775808 by omega), w1 (by omega), wI (show -9223372036854775808 ≤ ((i + 1 : Nat) : Int) + 4 ∧ ((i + 1 : Nat) : Int) + 4 < 9223372036854775808 by omega)]
  refine ⟨fun c1 => h1 c (by omega), fun c1 => ?_⟩
  rw [show IntKind.i64.wrap (((i + 1 : Nat) : Int) + 4 - ((bN a i : Nat) : Int)) = ((i + 5 - bN a i : Nat) : Int) by rw [wI (by omega)]; omega]
  refine ⟨fun c2 => h2 c (by omega) (by omega), fun c2 => ?_⟩
  intro Y hY
  have hx : b ^^^ lowN a (i + 1) (4 - bN a i) < 2 ^ 32 := Nat.xor_lt_two_pow hb (lowN_lt4 a _ _ (by omega))
  refine up_bytes a (X := Y) (fun s x sc k hk hs hx2 hsc hn => hY _ _ _ _ ⟨fun _ => ⟨⟨by omega, by omega⟩, ?_⟩, fun c3 => absurd (show (k : Int) < 4 by omega) c3⟩) (4 - bN a i) (i + 1) 0 1 (bN a i) (by omega) (by omega) (by have := lowN_lt4 a (4 - bN a i) (i + 1) (by omega); omega) ?_ (fun t => hY _ _ _ _ ⟨fun c3 => absurd c3 (by decide), fun _ => ?_⟩)
  · have hs2 := bN_lt a s
    generalize hg : bN a s * sc = g at hx2 hn
    rw [bt_nat, wI (show -9223372036854775808 ≤ ((bN a s : Nat) : Int) ∧ ((bN a s : Nat) : Int) < 9223372036854775808 by omega), w1 (by omega), w1 (by omega), show ((bN a s : Nat) : Int) * (sc : Int) = (g : Int) by rw [← hg]; rfl, wI (show -9223372036854775808 ≤ (g : Int) ∧ (g : Int) < 9223372036854775808 by omega), show IntKind.i64.wrap ((x : Int) + (g : Int)) = ((x + g : Nat) : Int) by rw [wI (by omega)]; omega, show IntKind.i64.wrap ((sc : Int) * 256) = ((sc * 256 : Nat) : Int) by rw [wI (by omega)]; omega]
    exact hn
  · rw [Nat.one_mul]
    have h2 : 256 ^ (4 - bN a i) ≤ 256 ^ 4 := Nat.pow_le_pow_right (by decide) (by omega)
    have h3 : (256 : Nat) ^ 4 = 2 ^ 32 := by decide
    omega
  · rw [Nat.one_mul, Nat.zero_add, ixor hb (lowN_lt4 a _ _ (by omega)), show i + 1 + (4 - bN a i) = i + 5 - bN a i by omega]
    refine spec_l01From_wp hx ⟨by rw [len1]; omega, ?_⟩
    by_cases c4 : o.length = 128
    · have h3 := h3 c (by omega) (by omega) c4
      have hlen : (o ++ [cz .f32 (b ^^^ lowN a (i + 1) (4 - bN a i))]).length = 129 := by rw [List.length_append, List.length_singleton]; omega
      have hno : spec_l07Values.wp (o ++ [cz .f32 (b ^^^ lowN a (i + 1) (4 - bN a i))]) fun y176 => ((y176 = true → spec_l07Pack.wp (o ++ [cz .f32 (b ^^^ lowN a (i + 1) (4 - bN a i))]) fun y179 => ((y179 = a → K ((o ++ [cz .f32 (b ^^^ lowN a (i + 1) (4 - bN a i))])) (true)) ∧ (¬(y179 = a) → K ([] : List (Nat)) (false)))) ∧ (y176 = false → K ([] : List (Nat)) (false))) :=
        spec_l07Values_wp (tG (decide_eq_false (by rw [hlen]; omega)) h3)
      exact hX _ _ _ ⟨fun _ => ⟨fun c5 => absurd c5 (by rw [hlen]; decide), fun _ => hno⟩, fun _ => hno⟩
    · exact h4 c (by omega) (by omega) c4

end Go.Proofs.Ytkaidcgelbhofaa.G

namespace Go.Proofs.Ytkaidcgelbhofaa.G
open Go Go.Ab
set_option maxRecDepth 100000
set_option linter.unusedVariables false
set_option linter.unusedSimpArgs false
set_option maxHeartbeats 1000000
theorem unp_lt (a : List UInt8) : ∀ f i b o, b < 2 ^ 32 → (∀ x ∈ o, x < 2 ^ 32) → ∀ r, unp a f i b o = some r → ∀ x ∈ r, x < 2 ^ 32
  | 0, _, _, _, _, _, r, h => by cases h
  | f + 1, i, b, o, hb, ho, r, h => by
    rw [unp] at h
    split at h
    · split at h
      · cases h
      · split at h
        · cases h
        · split at h
          · cases h
          · have hx : b ^^^ lowN a (i + 1) (4 - bN a i) < 2 ^ 32 := Nat.xor_lt_two_pow hb (lowN_lt4 a _ _ (by omega))
            exact unp_lt a f _ _ _ hx (fun x hx' => by
              rcases List.mem_append.1 hx' with h' | h'
              · exact ho x h'
              · rw [List.mem_singleton.1 h']; exact cz_lt hx) r h
    · split at h
      · cases h
      · split at h
        · cases h; exact ho
        · cases h
theorem unpR_lt {a : List UInt8} {r : List Nat} (h : unpR a = some r) : ∀ x ∈ r, x < 2 ^ 32 := unp_lt a _ _ _ _ (by decide) (fun x hx => by cases hx) r h
theorem unpR_len {a : List UInt8} {r : List Nat} (h : unpR a = some r) : r.length ≤ 128 := unp_len a _ _ _ _ (by simp) r h
/-- Where the rate lies, where the values end. -/
def atA (s : List UInt8) : Nat := 5 + bN s 4
def enA (s : List UInt8) : Nat := atA s + 4 + (bN s (atA s + 2) + 256 * bN s (atA s + 3))
def longA (s : List UInt8) : Nat := if s.length < 5 then 0 else if s.length < atA s + 4 then 0 else if s.length < enA s + 2 then 0 else enA s + 2
def nmA (s : List UInt8) : List UInt8 := (s.drop 5).take (bN s 4)
def rtA (s : List UInt8) : Nat := bN s (atA s) + 256 * bN s (atA s + 1)
def vlA (s : List UInt8) : List UInt8 := (s.drop (atA s + 4)).take (enA s - (atA s + 4))
def takeA (s : List UInt8) (v : List Nat) : Option Tk := if isTk (nmA s) (rtA s : Int) v = true ∧ storeL (nmA s) (rtA s) v = s.take (enA s + 2) then some (nmA s, (rtA s : Int), v) else none
/-- The take that bytes begin with. -/
def ahead (s : List UInt8) : Option Tk := if longA s = 0 then none else (unpR (vlA s)).bind (takeA s)
theorem ahead0 {s : List UInt8} (h : longA s = 0) : ahead s = none := by rw [ahead, if_pos h]
theorem bt_b (s : List UInt8) (i : Nat) : IntKind.i64.wrap (bt s (i : Int)) = (bN s i : Int) := by
  have := bN_lt s i
  rw [bt_nat]; exact wI (by omega)
theorem at_w (s : List UInt8) : IntKind.i64.wrap (5 + IntKind.i64.wrap (bt s 4)) = (atA s : Int) := by
  have := bN_lt s 4
  rw [show (4 : Int) = ((4 : Nat) : Int) from rfl, bt_b, wI (by omega), atA]; omega
theorem at_lt (s : List UInt8) : 5 ≤ atA s ∧ atA s < 261 := by have := bN_lt s 4; unfold atA; omega
theorem en_lt (s : List UInt8) : atA s + 4 ≤ enA s ∧ enA s < 66000 := by
  have := at_lt s; have := bN_lt s (atA s + 2); have := bN_lt s (atA s + 3); unfold enA; omega
theorem at_p (s : List UInt8) (k : Nat) (hk : k < 100) : IntKind.i64.wrap ((atA s : Int) + (k : Int)) = ((atA s + k : Nat) : Int) := by
  have := at_lt s
  rw [wI (by omega)]; omega
theorem at_2 (s : List UInt8) : IntKind.i64.wrap ((atA s : Int) + 2) = ((atA s + 2 : Nat) : Int) := at_p s 2 (by decide)
theorem at_3 (s : List UInt8) : IntKind.i64.wrap ((atA s : Int) + 3) = ((atA s + 3 : Nat) : Int) := at_p s 3 (by decide)
theorem at_4 (s : List UInt8) : IntKind.i64.wrap ((atA s : Int) + 4) = ((atA s + 4 : Nat) : Int) := at_p s 4 (by decide)
theorem at_1 (s : List UInt8) : IntKind.i64.wrap ((atA s : Int) + 1) = ((atA s + 1 : Nat) : Int) := at_p s 1 (by decide)
theorem at_6 (s : List UInt8) : IntKind.i64.wrap ((atA s : Int) + 6) = ((atA s + 6 : Nat) : Int) := at_p s 6 (by decide)
theorem m256 (b : Nat) (h : b < 256) : IntKind.i64.wrap (256 * (b : Int)) = ((256 * b : Nat) : Int) := by rw [wI (by omega)]; omega
theorem spec_l07Long_wp {s : List UInt8} {K : Int → Prop} (h : K (longA s : Nat)) : spec_l07Long.wp s K := by
  have h2 := bN_lt s (atA s + 2)
  have h3 := bN_lt s (atA s + 3)
  have ha := at_lt s
  have he := en_lt s
  have e : IntKind.i64.wrap ((IntKind.i64.wrap (((atA s + 6 : Nat) : Int) + ((bN s (atA s + 2) : Nat) : Int))) + ((256 * bN s (atA s + 3) : Nat) : Int)) = ((enA s + 2 : Nat) : Int) := by
    rw [wI (n := ((atA s + 6 : Nat) : Int) + ((bN s (atA s + 2) : Nat) : Int)) (by omega), wI (by omega), enA]; omega
  refine ⟨fun c => ?_, fun c => ⟨⟨by omega, by omega⟩, ?_⟩⟩
  · rw [longA, if_pos (by omega)] at h; exact h
  rw [at_w, at_4]
  refine ⟨fun c1 => ?_, fun c1 => ?_⟩
  · rw [longA, if_neg (by omega), if_pos (by omega)] at h; exact h
  rw [at_2, at_3]
  refine ⟨⟨by omega, by omega⟩, ⟨by omega, by omega⟩, ?_⟩
  rw [at_6, bt_b, bt_b, m256 _ h3, e]
  refine ⟨fun c2 => ?_, fun c2 => ?_⟩
  · rw [longA, if_neg (by omega), if_neg (by omega), if_pos (by omega)] at h; exact h
  · rw [longA, if_neg (by omega), if_neg (by omega), if_neg (by omega)] at h; exact h
def endA (K : List UInt8 → Int → List Nat → Bool → Prop) : Option Tk → Prop
  | some t => K t.1 t.2.1 t.2.2 true
  | none => K [] 0 [] false
theorem nm_e (s : List UInt8) : ((s.drop (5 : Int).toNat).take (((atA s : Nat) : Int).toNat - (5 : Int).toNat)) = nmA s := by
  show (s.drop 5).take (atA s - 5) = _
  rw [show atA s - 5 = bN s 4 by unfold atA; omega]; rfl
theorem nmA_len (s : List UInt8) : (nmA s).length ≤ 255 := by
  have := bN_lt s 4
  unfold nmA; rw [List.length_take]; omega
theorem spec_l07Load_wp {s : List UInt8} {K : List UInt8 → Int → List Nat → Bool → Prop} (hs : s.length ≤ 2 ^ 20) (h : endA K (if longA s = s.length then ahead s else none)) : spec_l07Load.wp s K := by
  refine spec_l07Long_wp ⟨fun c => ?_, fun c => ⟨fun c1 => ?_, fun c1 => ?_⟩⟩
  · have c' : longA s = 0 := by omega
    rw [ahead, if_pos c', ite_self] at h; exact h
  rotate_left
  · rw [if_neg (by omega)] at h; exact h
  have c' : longA s ≠ 0 := by omega
  have c1' : longA s = s.length := by omega
  rw [if_pos c1', ahead, if_neg c'] at h
  have ha := at_lt s
  have he := en_lt s
  have hr1 := bN_lt s (atA s)
  have hr2 := bN_lt s (atA s + 1)
  obtain ⟨l5, l9, l11, hlen⟩ : ¬ s.length < 5 ∧ ¬ s.length < atA s + 4 ∧ ¬ s.length < enA s + 2 ∧ longA s = enA s + 2 := by
    unfold longA at c' ⊢
    split at c'
    · exact absurd rfl c'
    · split at c'
      · exact absurd rfl c'
      · split at c'
        · exact absurd rfl c'
        · rename_i a b c; exact ⟨a, b, c, by rw [if_neg a, if_neg b, if_neg c]⟩
  refine ⟨⟨by omega, by omega⟩, ?_⟩
  rw [at_w, at_4, hlen, show IntKind.i64.wrap (((enA s + 2 : Nat) : Int) - 2) = ((enA s : Nat) : Int) by rw [wI (by omega)]; omega]
  refine ⟨⟨by omega, by omega, by omega⟩, ?_⟩
  show spec_l07Unpack.wp (vlA s) _
  refine spec_l07Unpack_wp (by unfold vlA; rw [List.length_take, List.length_drop]; omega) ?_
  have rest : ∀ v ok, (∀ x ∈ v, x < 2 ^ 32) → v.length ≤ 128 → endA K (if ok = true then takeA s v else none) → ((0 : Int) ≤ 5 ∧ (5 : Int) ≤ (atA s : Nat) ∧ ((atA s : Nat) : Int) ≤ (s.length : Int)) ∧ ((0 : Int) ≤ (atA s : Nat) ∧ ((atA s : Nat) : Int) < (s.length : Int)) ∧ ((0 : Int) ≤ IntKind.i64.wrap (((atA s : Nat) : Int) + 1) ∧ IntKind.i64.wrap (((atA s : Nat) : Int) + 1) < (s.length : Int)) ∧
      ((ok = true → spec_l07Take.wp ((s.drop (5 : Int).toNat).take (((atA s : Nat) : Int).toNat - (5 : Int).toNat)) (IntKind.i64.wrap ((IntKind.i64.wrap (bt s (atA s : Nat))) + (IntKind.i64.wrap (256 * (IntKind.i64.wrap (bt s (IntKind.i64.wrap (((atA s : Nat) : Int) + 1)))))))) v fun y124 => ((y124 = true → spec_l07Store.wp ((s.drop (5 : Int).toNat).take (((atA s : Nat) : Int).toNat - (5 : Int).toNat)) (IntKind.i64.wrap ((IntKind.i64.wrap (bt s (atA s : Nat))) + (IntKind.i64.wrap (256 * (IntKind.i64.wrap (bt s (IntKind.i64.wrap (((atA s : Nat) : Int) + 1)))))))) v fun y127 => ((y127 = s → K ((s.drop (5 : Int).toNat).take (((atA s : Nat) : Int).toNat - (5 : Int).toNat)) (IntKind.i64.wrap ((IntKind.i64.wrap (bt s (atA s : Nat))) + (IntKind.i64.wrap (256 * (IntKind.i64.wrap (bt s (IntKind.i64.wrap (((atA s : Nat) : Int) + 1)))))))) (v) (true)) ∧ (¬(y127 = s) → K ([] : List UInt8) 0 ([] : List (Nat)) (false)))) ∧ (y124 = false → K ([] : List UInt8) 0 ([] : List (Nat)) (false)))) ∧ (ok = false → K ([] : List UInt8) 0 ([] : List (Nat)) (false))) := by
    intro v ok hv hvl hk
    rw [at_1]
    refine ⟨⟨by omega, by omega, by omega⟩, ⟨by omega, by omega⟩, ⟨by omega, by omega⟩, fun c => ?_, fun c => by rw [c, if_neg (by decide)] at hk; exact hk⟩
    rw [if_pos c] at hk
    rw [nm_e, bt_b, bt_b, m256 _ hr2, show IntKind.i64.wrap (((bN s (atA s) : Nat) : Int) + ((256 * bN s (atA s + 1) : Nat) : Int)) = ((rtA s : Nat) : Int) by rw [wI (by omega), rtA]; omega]
    have hnl := nmA_len s
    have htk : s.take (enA s + 2) = s := List.take_of_length_le (by omega)
    refine spec_l07Take_wp (by omega) ⟨fun c2 => ?_, fun c2 => ?_⟩
    · have h3 := c2
      simp only [isTk, isNm, isVals, Bool.and_eq_true, decide_eq_true_eq] at h3
      refine spec_l07Store_wp (by omega) (by omega) hvl hv ⟨fun c3 => ?_, fun c3 => ?_⟩
      · rw [takeA, if_pos ⟨c2, by rw [htk]; exact c3⟩] at hk; exact hk
      · rw [takeA, if_neg (fun c4 => c3 (c4.2.trans htk))] at hk; exact hk
    · rw [takeA, if_neg (fun c4 => by rw [c2] at c4; exact Bool.false_ne_true c4.1)] at hk; exact hk
  cases hu : unpR (vlA s) with
  | none => exact rest [] false (fun x hx => by cases hx) (by simp) (by rw [hu] at h; exact h)
  | some v => exact rest v true (unpR_lt hu) (unpR_len hu) (by rw [hu] at h; exact h)
theorem storeL_pre (a : List UInt8) (k : Nat) (l : List Nat) : (storeL a k l).take 4 = [84, 65, 75, 49] := by
  unfold storeL stBody byts
  simp only [List.map_append, List.append_assoc]
  rfl
def endB (K : List UInt8 → Int → List Nat → Int → Bool → Prop) (n : Nat) : Option Tk → Prop
  | some t => K t.1 t.2.1 t.2.2 (n : Int) true
  | none => K [] 0 [] 0 false
theorem low2 {s : List UInt8} {i : Nat} (h : i + 2 ≤ s.length) {K : Int → Prop} (hk : K ((bN s i + 256 * bN s (i + 1) : Nat) : Int)) : impl_lowNumber.wp ((s.drop i).take (i + 2 - i)) K := by
  have e : i + 2 - i = 2 := by omega
  rw [e]
  have hl : ((s.drop i).take 2).length = 2 := by rw [List.length_take, List.length_drop]; omega
  refine impl_lowNumber_wp (by omega) ?_
  rw [hl, lowN_sub (m := 2) (by omega) 2 0 rfl]
  rw [lowN, lowN, lowN, Nat.mul_zero, Nat.add_zero, Nat.add_zero]; exact hk
theorem impl_takeAhead_wp {s : List UInt8} {K : List UInt8 → Int → List Nat → Int → Bool → Prop} (hs : s.length ≤ 2 ^ 20) (h : endB K (longA s) (ahead s)) : impl_takeAhead.wp s K := by
  have ha := at_lt s
  have he := en_lt s
  have hr1 := bN_lt s (atA s)
  have hr2 := bN_lt s (atA s + 1)
  have hr3 := bN_lt s (atA s + 2)
  have hr4 := bN_lt s (atA s + 3)
  have hnl := nmA_len s
  have no : ∀ {o : Option Tk}, ahead s = o → o = none → K [] 0 [] 0 false := fun e1 e2 => by rw [e1, e2] at h; exact h
  refine ⟨fun c => no rfl (ahead0 (by rw [longA, if_pos (by omega)])), fun c => ?_⟩
  show internal_stringslite_HasPrefix.wp s ([84, 65, 75, 49] : List UInt8) _
  refine ⟨fun _ => ⟨⟨by decide, by decide, by simp only [List.length_cons, List.length_nil]; omega⟩, ?_⟩, fun c2 => absurd (show ((([84, 65, 75, 49] : List UInt8).length : Nat) : Int) ≤ s.length by simp only [List.length_cons, List.length_nil]; omega) c2⟩
  refine ⟨fun hp => ?_, fun hp => no rfl ?_⟩
  rotate_left
  · have hp := of_decide_eq_false hp
    rw [ahead]
    split
    · rfl
    · rename_i hl
      cases hu : unpR (vlA s) with
      | none => rfl
      | some v =>
        show takeA s v = none
        refine if_neg fun c3 => hp ?_
        have := storeL_pre (nmA s) (rtA s) v
        rw [c3.2, List.take_take, Nat.min_eq_left (by omega)] at this
        exact this
  refine ⟨⟨by omega, by omega⟩, ?_⟩
  rw [at_w, at_4]
  refine ⟨fun c1 => no rfl (ahead0 (by rw [longA, if_neg (by omega), if_pos (by omega)])), fun c1 => ?_⟩
  rw [at_2]
  refine ⟨⟨by omega, by omega, by omega⟩, ⟨by omega, by omega, by omega⟩, (rtA s : Int), low2 (i := atA s) (by omega) rfl, ⟨by omega, by omega, by omega⟩, low2 (i := atA s + 2) (by omega) ?_⟩
  rw [show atA s + 2 + 1 = atA s + 3 from rfl]
  rw [show IntKind.i64.wrap (((atA s + 4 : Nat) : Int) + ((bN s (atA s + 2) + 256 * bN s (atA s + 3) : Nat) : Int)) = ((enA s : Nat) : Int) by rw [wI (by omega), enA]; omega]
  rw [show IntKind.i64.wrap (((enA s : Nat) : Int) + 2) = ((enA s + 2 : Nat) : Int) by rw [wI (by omega)]; omega]
  refine ⟨fun c2 => no rfl (ahead0 (by rw [longA, if_neg (by omega), if_neg (by omega), if_pos (by omega)])), fun c2 => ⟨⟨by omega, by omega, by omega⟩, ?_⟩⟩
  have hlen : longA s = enA s + 2 := by rw [longA, if_neg (by omega), if_neg (by omega), if_neg (by omega)]
  show impl_UnpackTake.wp (vlA s) _
  rw [hlen, ahead, if_neg (by omega)] at h
  refine impl_UnpackTake_wp (by unfold vlA; rw [List.length_take, List.length_drop]; omega) ?_
  cases hu : unpR (vlA s) with
  | none => exact ⟨fun c3 => (by cases c3), fun _ => by rw [hu] at h; exact h⟩
  | some v =>
    rw [hu] at h
    have h : endB K (enA s + 2) (takeA s v) := h
    have hvl := unpR_len hu
    refine ⟨fun _ => ?_, fun c3 => (by cases c3)⟩
    rw [nm_e]
    refine impl_StoreTake_wp (by omega) (by omega) (unpR_lt hu) ⟨fun c3 => ⟨⟨by omega, by omega, by omega⟩, ?_⟩, fun c3 => ?_⟩
    · rw [if_pos c3]
      show ((storeL (nmA s) (rtA s) v = s.take (enA s + 2)) → _) ∧ _
      refine ⟨fun c4 => ?_, fun c4 => ?_⟩
      · rw [takeA, if_pos ⟨c3, c4⟩] at h; exact h
      · rw [takeA, if_neg fun c5 => c4 c5.2] at h; exact h
    · rw [takeA, if_neg fun c5 => by rw [c3] at c5; exact Bool.false_ne_true c5.1] at h; exact h

end Go.Proofs.Ytkaidcgelbhofaa.G

namespace Go.Proofs.Ytkaidcgelbhofaa.G
open Go Go.Ab
set_option maxRecDepth 100000
set_option linter.unusedVariables false
set_option linter.unusedSimpArgs false
set_option maxHeartbeats 1000000
theorem bN_take {u : List UInt8} {n i : Nat} (h : i < n) : bN (u.take n) i = bN u i := by
  unfold bN
  rw [List.getD_eq_getElem?_getD, List.getD_eq_getElem?_getD, List.getElem?_take, if_pos h]
theorem longA_pos {u : List UInt8} (h : longA u ≠ 0) : longA u = enA u + 2 ∧ enA u + 2 ≤ u.length := by
  unfold longA at h ⊢
  split at h
  · exact absurd rfl h
  · split at h
    · exact absurd rfl h
    · split at h
      · exact absurd rfl h
      · rename_i h1 h2 h3
        rw [if_neg h1, if_neg h2, if_neg h3]; omega
theorem longA_of {s : List UInt8} (h : s.length = enA s + 2) : longA s = enA s + 2 := by
  have ha := at_lt s
  have he := en_lt s
  unfold longA
  rw [if_neg (by omega), if_neg (by omega), if_neg (by omega)]
/-- The take at the front says the same where the rest is cut off. -/
theorem ahead_take {u : List UInt8} (h : longA u ≠ 0) : longA (u.take (longA u)) = longA u ∧ ahead (u.take (longA u)) = ahead u := by
  obtain ⟨h1, h2⟩ := longA_pos h
  have ha := at_lt u
  have he := en_lt u
  have eat : atA (u.take (longA u)) = atA u := by
    unfold atA; rw [bN_take (by omega)]
  have een : enA (u.take (longA u)) = enA u := by
    unfold enA; rw [eat, bN_take (by omega), bN_take (by omega)]
  have hl : (u.take (longA u)).length = enA u + 2 := by rw [List.length_take, h1]; omega
  have elong : longA (u.take (longA u)) = longA u := by
    rw [longA_of (by rw [hl, een]), een]; exact h1.symm
  refine ⟨elong, ?_⟩
  have ev : vlA (u.take (longA u)) = vlA u := by
    unfold vlA
    rw [eat, een, h1, List.drop_take, List.take_take]
    congr 1; omega
  have enm : nmA (u.take (longA u)) = nmA u := by
    unfold nmA
    have : bN u 4 < 256 := bN_lt u 4
    have e5 : atA u = 5 + bN u 4 := rfl
    rw [bN_take (by omega), h1, List.drop_take, List.take_take]
    congr 1; omega
  have ert : rtA (u.take (longA u)) = rtA u := by
    unfold rtA
    rw [eat, bN_take (by omega), bN_take (by omega)]
  have etk : takeA (u.take (longA u)) = takeA u := by
    funext v
    unfold takeA
    rw [enm, ert, een, h1, List.take_take, Nat.min_self]
  unfold ahead
  rw [elong, ev, etk]
theorem ahead_len {u : List UInt8} {t : Tk} (h : ahead u = some t) : longA u ≠ 0 ∧ t.2.2.length ≤ 128 ∧ t.1.length ≤ 255 ∧ ∀ y ∈ t.2.2, y < 2 ^ 32 := by
  unfold ahead at h
  split at h
  · cases h
  · rename_i hne
    refine ⟨hne, ?_⟩
    cases hu : unpR (vlA u) with
    | none => rw [hu] at h; cases h
    | some r =>
      rw [hu, Option.bind_some] at h
      unfold takeA at h
      split at h
      · cases h; exact ⟨unpR_len hu, nmA_len u, unpR_lt hu⟩
      · cases h
/-- What is read: the takes, and where it ends. -/
def recT (s : List UInt8) : Nat → List Tk → Nat → List Tk × Nat
  | 0, out, a => (out, a)
  | f + 1, out, a =>
    match ahead (s.drop a) with
    | none => (out, a)
    | some t => recT s f (out ++ [t]) (a + longA (s.drop a))
theorem recT_ok (s : List UInt8) : ∀ (f : Nat) (out : List Tk) (a : Nat), out.length + f ≤ 8 → (∀ t ∈ out, t.2.2.length ≤ 128 ∧ t.1.length ≤ 255 ∧ ∀ y ∈ t.2.2, y < 2 ^ 32) → (recT s f out a).1.length ≤ 8 ∧ ∀ t ∈ (recT s f out a).1, t.2.2.length ≤ 128 ∧ t.1.length ≤ 255 ∧ ∀ y ∈ t.2.2, y < 2 ^ 32
  | 0, out, a, h, ho => ⟨by show out.length ≤ 8; omega, ho⟩
  | f + 1, out, a, h, ho => by
    rw [recT]
    cases ha : ahead (s.drop a) with
    | none => exact ⟨by show out.length ≤ 8; omega, ho⟩
    | some t =>
      refine recT_ok s f _ _ (by rw [List.length_append, len1]; omega) fun y hy => ?_
      rcases List.mem_append.1 hy with hy | hy
      · exact ho y hy
      · rw [List.mem_singleton.1 hy]; exact (ahead_len ha).2
theorem recT_both (s : List UInt8) (hs : s.length ≤ 2 ^ 20) : (∀ K : List Tk → Int → Bool → Prop, K (recT s 8 [] 0).1 ((recT s 8 [] 0).2 : Int) true → spec_RecoverTakes.wp s K) ∧ (∀ K : List Tk → Int → Bool → Prop, K (recT s 8 [] 0).1 ((recT s 8 [] 0).2 : Int) true → impl_RecoverTakes.wp s K) := by
  have cut : ∀ a : Nat, a ≤ s.length → (s.drop ((a : Int)).toNat).take (((s.length : Int)).toNat - ((a : Int)).toNat) = s.drop a := fun a ha => by
    rw [nn, nn]
    exact List.take_of_length_le (by rw [List.length_drop]; omega)
  have fit : ∀ (a : Nat) t, ahead (s.drop a) = some t → a + longA (s.drop a) ≤ s.length := fun a t h => by
    obtain ⟨h1, h2⟩ := longA_pos (ahead_len h).1
    rw [List.length_drop] at h2
    omega
  refine ⟨fun K hK X hX => ?_, fun K hK X hX => ?_⟩
  · have key : ∀ (f : Nat) (out : List Tk) (a : Nat), out.length + f = 8 → a ≤ s.length → K (recT s f out a).1 ((recT s f out a).2 : Int) true → X out (a : Int) := by
      intro f
      induction f with
      | zero =>
        intro out a h1 h2 h3
        exact hX _ _ ⟨fun c => absurd c (by omega), fun _ => h3⟩
      | succ f ih =>
        intro out a h1 h2 h3
        refine hX _ _ ⟨fun _ => ⟨⟨by omega, by omega, by omega⟩, ?_⟩, fun c => absurd (show (out.length : Int) < 8 by omega) c⟩
        rw [cut a h2, recT] at *
        refine spec_l07Long_wp ⟨fun c => ?_, fun c => ?_⟩
        · rw [ahead0 (by omega)] at h3; exact h3
        · have hne : longA (s.drop a) ≠ 0 := by omega
          obtain ⟨g1, g2⟩ := longA_pos hne
          rw [List.length_drop] at g2
          have ew : IntKind.i64.wrap ((a : Int) + (longA (s.drop a) : Int)) = ((a + longA (s.drop a) : Nat) : Int) := by rw [wI (by omega)]; omega
          rw [ew]
          obtain ⟨q1, q2⟩ := ahead_take hne
          have ec : (s.drop ((a : Int)).toNat).take ((((a + longA (s.drop a) : Nat) : Int)).toNat - ((a : Int)).toNat) = (s.drop a).take (longA (s.drop a)) := by
            rw [nn, nn]; congr 1; omega
          rw [ec]
          refine ⟨⟨by omega, by omega, by omega⟩, spec_l07Load_wp (by rw [List.length_take, List.length_drop]; omega) ?_⟩
          have hlt : ((s.drop a).take (longA (s.drop a))).length = longA (s.drop a) := by rw [List.length_take, List.length_drop]; omega
          rw [q1, hlt, if_pos rfl, q2]
          cases hah : ahead (s.drop a) with
          | none =>
            rw [hah] at h3
            exact ⟨fun c => (by cases c), fun _ => h3⟩
          | some t =>
            rw [hah] at h3
            exact tT ⟨by rw [len1]; omega, ih _ _ (by rw [List.length_append, len1]; omega) (fit a t hah) h3⟩
    exact key 8 [] 0 rfl (Nat.zero_le _) hK
  · have key : ∀ (f : Nat) (out : List Tk) (a : Nat), out.length + f = 8 → a ≤ s.length → K (recT s f out a).1 ((recT s f out a).2 : Int) true → X out (a : Int) := by
      intro f
      induction f with
      | zero =>
        intro out a h1 h2 h3
        exact hX _ _ ⟨fun c => absurd c (by omega), fun _ => h3⟩
      | succ f ih =>
        intro out a h1 h2 h3
        refine hX _ _ ⟨fun _ => ⟨⟨by omega, by omega, by omega⟩, ?_⟩, fun c => absurd (show (out.length : Int) < 8 by omega) c⟩
        rw [cut a h2]
        rw [recT] at h3
        refine impl_takeAhead_wp (by rw [List.length_drop]; omega) ?_
        cases hah : ahead (s.drop a) with
        | none =>
          rw [hah] at h3
          exact ⟨fun c => (by cases c), fun _ => h3⟩
        | some t =>
          rw [hah] at h3
          have hf := fit a t hah
          refine tT ⟨by rw [len1]; omega, ?_⟩
          rw [show IntKind.i64.wrap ((a : Int) + (longA (s.drop a) : Int)) = ((a + longA (s.drop a) : Nat) : Int) by rw [wI (by omega)]; omega]
          exact ih _ _ (by rw [List.length_append, len1]; omega) hf h3
    exact key 8 [] 0 rfl (Nat.zero_le _) hK
/-! ### marks -/
def mTS : Nat → List Tk → List Tk
  | _, [] => []
  | k, t :: l => (mkT k, ((k + 1 : Nat) : Int), marks (k + 2) t.2.2.length) :: mTS (k + 2 + t.2.2.length) l
def eTS : Nat → List Tk → Nat
  | k, [] => k
  | k, t :: l => eTS (k + 2 + t.2.2.length) l
theorem getD_mid {α : Type} (a : List α) (x : α) (b : List α) (d : α) : (a ++ x :: b).getD a.length d = x := by
  rw [List.getD_eq_getElem?_getD, List.getElem?_append_right (Nat.le_refl _), Nat.sub_self]; rfl
theorem set_mid {α : Type} (a : List α) (x y : α) (b : List α) : (a ++ x :: b).set a.length y = a ++ y :: b := by
  rw [List.set_append_right _ _ (Nat.le_refl _), Nat.sub_self]; rfl
theorem markTakeS_wp {l : List Tk} {K : Int → List Tk → Prop} (hl : l.length ≤ 8) (h8 : ∀ t ∈ l, t.2.2.length ≤ 128) (h : K (eTS 1 l : Int) (mTS 1 l)) : laws_markTakeS.wp l 1 K := by
  intro X hX
  have key : ∀ (rest done : List Tk) (k : Nat), done.length + rest.length ≤ 8 → k ≤ 130 * done.length + 1 → (∀ t ∈ rest, t.2.2.length ≤ 128) → K (eTS k rest : Int) (done ++ mTS k rest) → X (done ++ rest) (k : Int) (done.length : Int) := by
    intro rest
    induction rest with
    | nil =>
      intro done k h1 h2 h3 h4
      refine hX _ _ _ ⟨fun c => absurd c (by rw [List.append_nil]; omega), fun _ => ?_⟩
      exact h4
    | cons t rest ih =>
      intro done k h1 h2 h3 h4
      rw [List.length_cons] at h1
      have ht := h3 t (List.mem_cons_self ..)
      have hlen : ∀ x : Tk, (done ++ x :: rest).length = done.length + rest.length + 1 := fun x => by rw [List.length_append, List.length_cons]; omega
      refine hX _ _ _ ⟨fun _ => markText_wp (by omega) ?_, fun c => absurd (show (done.length : Int) < ((done ++ t :: rest).length : Int) by rw [hlen]; omega) c⟩
      rw [nn]
      simp only [getD_mid, set_mid, hlen]
      rw [w1 (by omega), w1 (by omega), w1 (by omega)]
      refine ⟨⟨by omega, by omega⟩, ⟨by omega, by omega⟩, ⟨by omega, by omega⟩, markFloat32S_wp (k := k + 1 + 1) (by omega) (by omega) ?_⟩
      have := ih (done ++ [(mkT k, ((k + 1 : Nat) : Int), marks (k + 2) t.2.2.length)]) (k + 2 + t.2.2.length) (by rw [List.length_append, len1]; omega) (by rw [List.length_append, len1]; omega) (fun y hy => h3 y (List.mem_cons_of_mem _ hy)) (by rw [List.append_assoc]; exact h4)
      rw [List.append_assoc, List.length_append, len1] at this
      exact this
  have := key l [] 1 (by rw [List.length_nil]; omega) (by decide) h8 h
  exact this
theorem heldTakeS_wp {l : List Tk} {K : Int → Prop} (hl : l.length ≤ 8) (h8 : ∀ t ∈ l, t.2.2.length ≤ 128) (h : K (eTS 1 l : Int)) : laws_heldTakeS.wp (mTS 1 l) 1 K := by
  intro X hX
  have key : ∀ (rest : List Tk) (done : List Tk) (k : Nat), done ++ mTS k rest = mTS 1 l → done.length + rest.length ≤ 8 → k ≤ 130 * done.length + 1 → (∀ t ∈ rest, t.2.2.length ≤ 128) → K (eTS k rest : Int) → X (k : Int) (done.length : Int) := by
    intro rest
    induction rest with
    | nil =>
      intro done k h0 h1 h2 h3 h4
      refine hX _ _ ⟨fun c => absurd c (by rw [← h0]; show ¬ (done.length : Int) < ((done ++ []).length : Int); rw [List.append_nil]; omega), fun _ => h4⟩
    | cons t rest ih =>
      intro done k h0 h1 h2 h3 h4
      rw [List.length_cons] at h1
      have ht := h3 t (List.mem_cons_self ..)
      rw [← h0] at hX
      have e0 : mTS k (t :: rest) = (mkT k, ((k + 1 : Nat) : Int), marks (k + 2) t.2.2.length) :: mTS (k + 2 + t.2.2.length) rest := rfl
      rw [e0] at hX h0
      have hlt : (done.length : Int) < ((done ++ (mkT k, ((k + 1 : Nat) : Int), marks (k + 2) t.2.2.length) :: mTS (k + 2 + t.2.2.length) rest).length : Int) := by rw [List.length_append, List.length_cons]; omega
      refine hX _ _ ⟨fun _ => ⟨⟨by omega, hlt⟩, markText_wp (by omega) ?_⟩, fun c => absurd hlt c⟩
      rw [nn]
      simp only [getD_mid]
      rw [w1 (by omega), w1 (by omega), w1 (by omega)]
      refine tP trivial (tP rfl (heldFloat32S_wp (k := k + 1 + 1) (by omega) (by omega) (tN (by omega) ?_)))
      have := ih (done ++ [(mkT k, ((k + 1 : Nat) : Int), marks (k + 2) t.2.2.length)]) (k + 2 + t.2.2.length) (by rw [List.append_assoc]; exact h0) (by rw [List.length_append, len1]; omega) (by rw [List.length_append, len1]; omega) (fun y hy => h3 y (List.mem_cons_of_mem _ hy)) h4
      rw [List.length_append, len1] at this
      exact this
  exact key l [] 1 rfl (by rw [List.length_nil]; omega) (by decide) h8 h

end Go.Proofs.Ytkaidcgelbhofaa.G

namespace Go.Proofs.Ytkaidcgelbhofaa.G
open Go Go.Ab
set_option maxRecDepth 100000
set_option linter.unusedVariables false
set_option linter.unusedSimpArgs false
set_option maxHeartbeats 1000000
theorem pureExactRecoverTakes (a0 : List UInt8) : laws_FnExactRecoverTakes.wp a0 (fun b => b = true) := by
  refine ⟨fun _ => rfl, fun hb => ?_⟩
  obtain ⟨hs, hi⟩ := recT_both a0 (by omega)
  obtain ⟨h1, h2⟩ := recT_ok a0 8 [] 0 (by decide) (fun t ht => absurd ht (List.not_mem_nil))
  generalize (recT a0 8 [] 0).1 = l at hs hi h1 h2
  generalize (recT a0 8 [] 0).2 = n at hs hi
  have hok : TkOk l := ⟨by omega, fun t ht => by
    obtain ⟨g1, g2, g3⟩ := h2 t ht
    exact ⟨by omega, by omega, g3⟩⟩
  replace h2 : ∀ t ∈ l, t.2.2.length ≤ 128 := fun t ht => (h2 t ht).1
  refine hs _ (hi _ (eqTakeS_wp hok (tT (tP rfl (tB (markTakeS_wp h1 h2 (heldTakeS_wp h1 h2 (tN (by omega) (tP rfl ?_)))))))))
  exact hi _ (eqTakeS_wp hok (tT (tP rfl (tB (heldTakeS_wp h1 h2 (tN (by omega) (tP rfl rfl)))))))

end Go.Proofs.Ytkaidcgelbhofaa.G

