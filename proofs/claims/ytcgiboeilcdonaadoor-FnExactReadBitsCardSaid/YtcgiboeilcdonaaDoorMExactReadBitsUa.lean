/-
  What the formulas say, over numbers and lists alone. Nothing here is trusted.
-/
import Derived.Test.YtcgiboeilcdonaaDoorMExactReadBitsWa
import Derived.Lib.ItoaLen
import Derived.Lib.SlTrimSet
namespace Go.Proofs.YtcgiboeilcdonaaDoor.G
open Go Go.Ab
set_option maxRecDepth 100000
set_option linter.unusedVariables false
set_option linter.unusedSimpArgs false
set_option maxHeartbeats 1000000
/-! ### truth -/
theorem tT {A B : Prop} (h : A) : (true = true → A) ∧ (true = false → B) := ⟨fun _ => h, fun c => (by cases c)⟩
theorem tF {A B : Prop} (h : B) : (false = true → A) ∧ (false = false → B) := ⟨fun c => (by cases c), fun _ => h⟩
theorem tB {A B : Prop} {b : Bool} (h : A) : ((b == b) = true → A) ∧ ((b == b) = false → B) := ⟨fun _ => h, fun c => (by simp at c)⟩
theorem tE {A B : Prop} {b : Bool} (e : b = true) (h : A) : (b = true → A) ∧ (b = false → B) := ⟨fun _ => h, fun c => (by rw [e] at c; cases c)⟩
theorem tG {A B : Prop} {b : Bool} (e : b = false) (h : B) : (b = true → A) ∧ (b = false → B) := ⟨fun c => (by rw [e] at c; cases c), fun _ => h⟩
theorem tP {p A B : Prop} (e : p) (h : A) : (p → A) ∧ (¬p → B) := ⟨fun _ => h, fun c => absurd e c⟩
theorem tN {p A B : Prop} (e : ¬p) (h : B) : (p → A) ∧ (¬p → B) := ⟨fun c => absurd c e, fun _ => h⟩
theorem tI {b : Bool} {K : Bool → Prop} {A B : Prop} (h1 : b = true → A) (h2 : b = false → B) : (b = true → A) ∧ (b = false → B) := ⟨h1, h2⟩
/-! ### loops -/
theorem up {Y : Nat → Prop} (n : Nat) (last : Y n) (step : ∀ i, i < n → Y (i + 1) → Y i) : Y 0 := by
  have key : ∀ d i, i + d = n → Y i := by
    intro d
    induction d with
    | zero => intro i h; obtain rfl : i = n := by omega
              exact last
    | succ d ih => intro i h; exact step i (by omega) (ih (i + 1) (by omega))
  exact key n 0 (by omega)
theorem upFrom {Y : Nat → Prop} (k n : Nat) (hk : k ≤ n) (last : Y n) (step : ∀ i, k ≤ i → i < n → Y (i + 1) → Y i) : Y k := by
  have key : ∀ d i, k ≤ i → i + d = n → Y i := by
    intro d
    induction d with
    | zero => intro i _ h; obtain rfl : i = n := by omega
              exact last
    | succ d ih => intro i h0 h; exact step i h0 (by omega) (ih (i + 1) (by omega) (by omega))
  exact key (n - k) k (Nat.le_refl _) (by omega)
theorem w1 {i : Nat} (h : i < 4611686018427387904) : IntKind.i64.wrap ((i : Int) + (1 : Int)) = ((i + 1 : Nat) : Int) := wrap_succ (by omega)
theorem wI {n : Int} (h : -9223372036854775808 ≤ n ∧ n < 9223372036854775808) : IntKind.i64.wrap n = n := wrap_i64 h.1 h.2
theorem nn (i : Nat) : ((i : Int)).toNat = i := rfl
theorem gD {α : Type} {l : List α} {i : Nat} (h : i < l.length) (d : α) : l.getD i d = l[i] := by rw [List.getD_eq_getElem?_getD, List.getElem?_eq_getElem h]; rfl
theorem dropC {α : Type} {l : List α} {i : Nat} (h : i < l.length) : l.drop i = l[i] :: l.drop (i + 1) := List.drop_eq_getElem_cons h
theorem len1 {α : Type} (a : α) : ([a] : List α).length = 1 := rfl
theorem cz32 (n : Nat) (h : (FloatKind.f32.decode n).isNaN = false) : cz .f32 n = n := by simp [cz, h]
theorem c0_32 : cz .f32 0 = 0 := cz_zero32
theorem c0_64 : cz .f64 0 = 0 := cz_zero64
/-! ### copies, comparisons, marks -/
theorem toFloat32S_wp {l : List Nat} {K : List Nat → Prop} (hl : l.length ≤ 2 ^ 20) (h : K l) : laws_toFloat32S.wp l K := by
  refine ⟨⟨by omega, by omega, by omega, by omega⟩, fun X hX => ?_⟩
  have key : X (l.take 0 ++ List.replicate (l.length - 0) (0 : Nat)) ((0 : Nat) : Int) := by
    refine up (Y := fun i => X (l.take i ++ List.replicate (l.length - i) (0 : Nat)) (i : Int)) l.length ?_ fun i hi hn => ?_
    · refine hX _ _ ⟨fun c => absurd c (by omega), fun _ => ?_⟩
      rw [List.take_length, Nat.sub_self, List.replicate_zero, List.append_nil]; exact h
    · refine hX _ _ ⟨fun _ => ⟨⟨by omega, by omega⟩, ⟨by omega, ?_⟩, ?_⟩, fun c => absurd (show (i : Int) < l.length by omega) c⟩
      · rw [List.length_append, List.length_take, List.length_replicate]; omega
      · rw [nn, w1 (by omega), gD hi, set_fill (0 : Nat) (by omega) hi]
        exact hn
  rw [List.take_zero, List.nil_append, Nat.sub_zero] at key; exact key
theorem toBoolS_wp {l : List Bool} {K : List Bool → Prop} (hl : l.length ≤ 2 ^ 20) (h : K l) : laws_toBoolS.wp l K := by
  refine ⟨⟨by omega, by omega, by omega, by omega⟩, fun X hX => ?_⟩
  have key : X (l.take 0 ++ List.replicate (l.length - 0) false) ((0 : Nat) : Int) := by
    refine up (Y := fun i => X (l.take i ++ List.replicate (l.length - i) false) (i : Int)) l.length ?_ fun i hi hn => ?_
    · refine hX _ _ ⟨fun c => absurd c (by omega), fun _ => ?_⟩
      rw [List.take_length, Nat.sub_self, List.replicate_zero, List.append_nil]; exact h
    · refine hX _ _ ⟨fun _ => ⟨⟨by omega, by omega⟩, ⟨by omega, ?_⟩, ?_⟩, fun c => absurd (show (i : Int) < l.length by omega) c⟩
      · rw [List.length_append, List.length_take, List.length_replicate]; omega
      · rw [nn, w1 (by omega), gD hi, set_fill false (by omega) hi]
        exact hn
  rw [List.take_zero, List.nil_append, Nat.sub_zero] at key; exact key
theorem sameFloat_wp {a : Nat} {K : Bool → Prop} (h : K true) : laws_sameFloat.wp a a K := by
  rcases order_self Ieee.double a with ho | ho
  · have e : fcmp .neq .f64 a a = true := by simp [fcmp, FloatKind.format, ho]
    exact tE e (by rw [e]; exact h)
  · have e : fcmp .neq .f64 a a = false := by simp [fcmp, FloatKind.format, ho]
    have e2 : fcmp .eql .f64 a a = true := by simp [fcmp, FloatKind.format, ho]
    refine tG e (tG e ⟨fun c => ⟨fun _ => by rw [BEq.rfl]; exact h, fun c2 => (by rw [c] at c2; cases c2)⟩, fun _ => by rw [e2]; exact h⟩)
theorem eqFloat32S_wp {l : List Nat} {K : Bool → Prop} (hl : l.length ≤ 2 ^ 20) (h : K true) : laws_eqFloat32S.wp l l K := by
  refine tP rfl fun X hX => ?_
  refine up (Y := fun i => X (i : Int)) l.length ?_ fun i hi hn => ?_
  · exact hX _ ⟨fun c => absurd c (by omega), fun _ => h⟩
  · refine hX _ ⟨fun _ => ⟨⟨by omega, by omega⟩, ⟨by omega, by omega⟩, sameFloat_wp (tT ?_)⟩, fun c => absurd (show (i : Int) < l.length by omega) c⟩
    rw [w1 (by omega)]; exact hn
theorem eqBoolS_wp {l : List Bool} {K : Bool → Prop} (hl : l.length ≤ 2 ^ 20) (h : K true) : laws_eqBoolS.wp l l K := by
  refine tP rfl fun X hX => ?_
  refine up (Y := fun i => X (i : Int)) l.length ?_ fun i hi hn => ?_
  · exact hX _ ⟨fun c => absurd c (by omega), fun _ => h⟩
  · refine hX _ ⟨fun _ => ⟨⟨by omega, by omega⟩, ⟨by omega, by omega⟩, tB ?_⟩, fun c => absurd (show (i : Int) < l.length by omega) c⟩
    rw [w1 (by omega)]; exact hn
theorem markFloat32S_wp {l : List Nat} {k : Nat} {K : Int → List Nat → Prop} (hl : l.length ≤ 2 ^ 20) (hk : k ≤ 2 ^ 40) (h : K ((k + l.length : Nat) : Int) (marks k l.length)) : laws_markFloat32S.wp l (k : Int) K := by
  intro X hX
  have key : X (marks k 0 ++ l.drop 0) ((k + 0 : Nat) : Int) ((0 : Nat) : Int) := by
    refine up (Y := fun i => X (marks k i ++ l.drop i) ((k + i : Nat) : Int) (i : Int)) l.length ?_ fun i hi hn => ?_
    · refine hX _ _ _ ⟨fun c => absurd c (by rw [List.length_append, marks_length, List.length_drop]; omega), fun _ => ?_⟩
      rw [List.drop_length, List.append_nil]; exact h
    · have hlen : (marks k i ++ l.drop i).length = l.length := by rw [List.length_append, marks_length, List.length_drop]; omega
      refine hX _ _ _ ⟨fun _ => ⟨⟨by omega, by rw [hlen]; omega⟩, ?_⟩, fun c => absurd (show (i : Int) < _ by rw [hlen]; omega) c⟩
      rw [nn, w1 (by omega), w1 (by omega)]
      have e := marks_step (l := l) (i := i) (m := l.length - i) k (by omega) hi
      rw [show (k : Int) + (i : Int) = ((k + i : Nat) : Int) by omega] at e
      rw [show itof .f32 ((k + i : Nat) : Int) = fl ((k + i : Nat) : Int) from rfl]
      rw [e]; exact hn
  exact key
theorem heldFloat32S_wp {k n : Nat} {K : Int → Prop} (hl : n ≤ 2 ^ 20) (hk : k ≤ 2 ^ 40) (h : K ((k + n : Nat) : Int)) : laws_heldFloat32S.wp (marks k n) (k : Int) K := by
  intro X hX
  have hlen : (marks k n).length = n := marks_length _ _
  have key : X ((k + 0 : Nat) : Int) ((0 : Nat) : Int) := by
    refine up (Y := fun i => X ((k + i : Nat) : Int) (i : Int)) n ?_ fun i hi hn => ?_
    · exact hX _ _ ⟨fun c => absurd c (by omega), fun _ => h⟩
    · refine hX _ _ ⟨fun _ => ⟨⟨by omega, by omega⟩, ?_⟩, fun c => absurd (show (i : Int) < _ by omega) c⟩
      rw [nn, gD (by omega), marks_at k n i (by omega), show (k : Int) + (i : Int) = ((k + i : Nat) : Int) by omega]
      refine tG (show fcmp .neq .f32 (fl ((k + i : Nat) : Int)) (itof .f32 ((k + i : Nat) : Int)) = false from fl_neq _) ?_
      rw [w1 (by omega), w1 (by omega)]; exact hn
  exact key

end Go.Proofs.YtcgiboeilcdonaaDoor.G

namespace Go.Proofs.YtcgiboeilcdonaaDoor.G
open Go Go.Ab
set_option maxRecDepth 100000
set_option linter.unusedVariables false
set_option linter.unusedSimpArgs false
set_option maxHeartbeats 1000000
def dd (n : Nat) : List UInt8 := if n = 0 then [] else Lib.decDigits n
theorem dd_step (n : Nat) : Lib.decDigits n = dd (n / 10) ++ [UInt8.ofNat (48 + n % 10)] := by
  rw [Lib.decDigits]
  by_cases h : n < 10
  · rw [dif_pos h, dd, if_pos (by omega), Nat.mod_eq_of_lt h]; rfl
  · rw [dif_neg h, dd, if_neg (by omega)]
theorem dd_zero : dd 0 = [] := rfl
theorem dd_pos {n : Nat} (h : n ≠ 0) : dd n = dd (n / 10) ++ [UInt8.ofNat (48 + n % 10)] := by
  conv => lhs; rw [dd, if_neg h]
  exact dd_step n
theorem numsC (b : UInt8) (l : List UInt8) : nums (b :: l) = (b.toNat : Int) :: nums l := rfl
theorem nums_length (l : List UInt8) : (nums l).length = l.length := by simp [nums]
theorem byts_nums (l : List UInt8) : byts (nums l) = l := by
  induction l with
  | nil => rfl
  | cons b l ih =>
    show UInt8.ofNat ((b.toNat : Int)).toNat :: byts (nums l) = _
    rw [ih, Int.toNat_natCast, UInt8.ofNat_toNat]
def sgn (b : Bool) (n : Nat) : Int := bif b then -(n : Int) else n
theorem sgn_of (z : Int) : z = sgn (decide (z < 0)) z.natAbs := by
  unfold sgn
  by_cases h : z < 0
  · rw [decide_eq_true h, cond_true]; omega
  · rw [decide_eq_false h, cond_false]; omega
theorem tmodN (n m : Nat) : Int.tmod (n : Int) (m : Int) = ((n % m : Nat) : Int) := by rw [Int.tmod_eq_emod_of_nonneg (by omega)]; omega
theorem tdivN' (n m : Nat) : Int.tdiv (n : Int) (m : Int) = ((n / m : Nat) : Int) := by rw [Int.tdiv_eq_ediv_of_nonneg (by omega)]; omega
theorem tmod_sgn (b : Bool) (n : Nat) : Int.tmod (sgn b n) 10 = sgn b (n % 10) := by
  cases b
  · exact tmodN n 10
  · show Int.tmod (-(n : Int)) 10 = -((n % 10 : Nat) : Int)
    rw [Int.neg_tmod, show (10 : Int) = ((10 : Nat) : Int) from rfl, tmodN]
theorem tdiv_sgn (b : Bool) (n : Nat) : Int.tdiv (sgn b n) 10 = sgn b (n / 10) := by
  cases b
  · exact tdivN' n 10
  · show Int.tdiv (-(n : Int)) 10 = -((n / 10 : Nat) : Int)
    rw [Int.neg_tdiv, show (10 : Int) = ((10 : Nat) : Int) from rfl, tdivN']
theorem sgn_le (b : Bool) (n : Nat) : -(n : Int) ≤ sgn b n ∧ sgn b n ≤ n := by cases b <;> simp only [sgn, cond_true, cond_false] <;> omega
theorem u8W (n : Nat) (h : n < 256) : IntKind.u8.wrap (n : Int) = (n : Int) := by
  simp only [IntKind.wrap, IntKind.signed, IntKind.bits]
  simp
  omega
theorem digW (n : Nat) : IntKind.u8.wrap (IntKind.i64.wrap ((48 : Int) + ((n % 10 : Nat) : Int))) = ((UInt8.ofNat (48 + n % 10)).toNat : Int) := by
  rw [wI (by omega), show (48 : Int) + ((n % 10 : Nat) : Int) = ((48 + n % 10 : Nat) : Int) by omega, u8W _ (by omega)]
  show _ = (((48 + n % 10) % 256 : Nat) : Int)
  omega
theorem stepDec {X : List Int → Int → Prop} (b : Bool) (r : Nat) (ds : List UInt8) (hr : r ≤ 2 ^ 62) (hd : ds.length ≤ 100) (h : X (nums (UInt8.ofNat (48 + r % 10) :: ds)) (sgn b (r / 10))) :
    (((Int.tmod (sgn b r) (10 : Int)) < (0 : Int) → ((([(IntKind.u8.wrap (IntKind.i64.wrap ((48 : Int) + (IntKind.i64.wrap (0 - (Int.tmod (sgn b r) (10 : Int)))))))] : List (Int)).length + (nums ds).length) * 1 ≤ 2 ^ 40) ∧ X (([(IntKind.u8.wrap (IntKind.i64.wrap ((48 : Int) + (IntKind.i64.wrap (0 - (Int.tmod (sgn b r) (10 : Int)))))))] : List (Int)) ++ nums ds) (IntKind.i64.wrap (Int.tdiv (sgn b r) (10 : Int)))) ∧ (¬((Int.tmod (sgn b r) (10 : Int)) < (0 : Int)) → ((([(IntKind.u8.wrap (IntKind.i64.wrap ((48 : Int) + (Int.tmod (sgn b r) (10 : Int)))))] : List (Int)).length + (nums ds).length) * 1 ≤ 2 ^ 40) ∧ X (([(IntKind.u8.wrap (IntKind.i64.wrap ((48 : Int) + (Int.tmod (sgn b r) (10 : Int)))))] : List (Int)) ++ nums ds) (IntKind.i64.wrap (Int.tdiv (sgn b r) (10 : Int))))) := by
  have hs := sgn_le b (r / 10)
  rw [tmod_sgn, tdiv_sgn, wI (n := sgn b (r / 10)) (by omega), nums_length]
  rw [numsC] at h
  refine ⟨fun c => ⟨by rw [len1]; omega, ?_⟩, fun c => ⟨by rw [len1]; omega, ?_⟩⟩
  · have e : (0 : Int) - sgn b (r % 10) = ((r % 10 : Nat) : Int) := by cases b <;> simp only [sgn, cond_true, cond_false] at c ⊢ <;> omega
    rw [e, wI (n := ((r % 10 : Nat) : Int)) (by omega), digW]; exact h
  · have e : sgn b (r % 10) = ((r % 10 : Nat) : Int) := by cases b <;> simp only [sgn, cond_true, cond_false] at c ⊢ <;> omega
    rw [e, digW]; exact h
theorem dec_len (n : Nat) (h : n ≤ 2 ^ 62) : (Lib.decDigits n).length ≤ 21 := by
  have := Lib.itoa_length_le (n : Int) (by omega) (by omega)
  rwa [Lib.itoa, if_neg (by omega), Int.toNat_natCast] at this
theorem itoa_len (n : Int) (h : -2 ^ 62 ≤ n ∧ n ≤ 2 ^ 62) : (Lib.itoa n).length ≤ 21 := Lib.itoa_length_le n (by omega) (by omega)
theorem spec_l01Dec_wp {n : Int} {K : List UInt8 → Prop} (hn : -2 ^ 62 ≤ n ∧ n ≤ 2 ^ 62) (h : K (Lib.itoa n)) : spec_l01Dec.wp n K := by
  intro X hX
  have hN : n.natAbs ≤ 2 ^ 62 := by omega
  have hl := dec_len _ hN
  have loop : ∀ (m r : Nat) (ds : List UInt8), r ≤ m → ds ≠ [] → r ≤ 2 ^ 62 → dd r ++ ds = Lib.decDigits n.natAbs → X (nums ds) (sgn (decide (n < 0)) r) := by
    intro m
    induction m with
    | zero =>
      intro r ds hr hds h1 h2
      obtain rfl : r = 0 := by omega
      have hz : ¬ (((nums ds).length : Int) = 0) := by rw [nums_length]; have := List.length_pos_iff.2 hds; omega
      have e0 : sgn (decide (n < 0)) 0 = 0 := by cases decide (n < 0) <;> rfl
      refine hX _ _ ⟨fun c => absurd c hz, fun _ => ⟨fun _ => ?_, fun c => absurd e0 c⟩⟩
      rw [dd_zero, List.nil_append] at h2
      subst h2
      unfold Lib.itoa at h
      refine ⟨fun c => ⟨by rw [len1, nums_length]; omega, ?_⟩, fun c => ?_⟩
      · rw [if_pos c] at h
        rw [show ([(45 : Int)] : List Int) ++ nums (Lib.decDigits n.natAbs) = nums (45 :: Lib.decDigits n.natAbs) from rfl, byts_nums]; exact h
      · rw [if_neg c, show n.toNat = n.natAbs by omega] at h
        rw [byts_nums]; exact h
    | succ m ih =>
      intro r ds hr hds h1 h2
      by_cases hz0 : r = 0
      · exact ih r ds (by omega) hds h1 h2
      have hz : ¬ (((nums ds).length : Int) = 0) := by rw [nums_length]; have := List.length_pos_iff.2 hds; omega
      have hdl : ds.length ≤ 21 := by rw [← h2, List.length_append] at hl; omega
      refine hX _ _ ⟨fun c => absurd c hz, fun _ => ⟨fun c => ?_, fun _ => stepDec _ r ds h1 (by omega) (ih _ _ (by omega) (by simp) (by omega) ?_)⟩⟩
      · exfalso; cases hb : decide (n < 0) <;> rw [hb] at c <;> simp only [sgn, cond_true, cond_false] at c <;> omega
      · rw [← h2, dd_pos hz0, List.append_assoc]; rfl
  have first : X (nums []) (sgn (decide (n < 0)) n.natAbs) := by
    refine hX _ _ ⟨fun _ => stepDec _ _ [] hN (by decide) (loop _ _ _ (Nat.le_refl _) (by simp) (by omega) (dd_step _).symm), fun c => absurd rfl c⟩
  rw [← sgn_of] at first
  exact first
/-- The mark of a text. -/
def mkT (k : Nat) : List UInt8 := if k = 0 then [109, 48] else 109 :: dd k
theorem markText_wp {k : Nat} {K : List UInt8 → Prop} (hk : k ≤ 2 ^ 50) (h : K (mkT k)) : laws_markText.wp (k : Int) K := by
  unfold mkT at h
  have hl := dec_len k (by omega)
  refine ⟨fun c => ?_, fun c X hX => ?_⟩
  · rw [if_pos (by omega)] at h; exact h
  · rw [if_neg (by omega)] at h
    have loop : ∀ (m r : Nat) (ds : List UInt8), r ≤ m → r ≤ 2 ^ 50 → dd r ++ ds = dd k → X (r : Int) ds := by
      intro m
      induction m with
      | zero =>
        intro r ds hr h1 h2
        obtain rfl : r = 0 := by omega
        rw [dd_zero, List.nil_append] at h2
        have : ds.length ≤ 21 := by rw [h2, dd, if_neg (by omega)]; exact hl
        refine hX _ _ ⟨fun c => absurd c (by omega), fun _ => ⟨by rw [len1]; omega, ?_⟩⟩
        rw [h2]; exact h
      | succ m ih =>
        intro r ds hr h1 h2
        by_cases hz0 : r = 0
        · exact ih r ds (by omega) h1 h2
        have hdl : ds.length ≤ 21 := by
          have : (dd k).length ≤ 21 := by rw [dd, if_neg (by omega)]; exact hl
          rw [← h2, List.length_append] at this; omega
        have e : byts ([(IntKind.u8.wrap (IntKind.i64.wrap ((48 : Int) + (Int.tmod (r : Int) (10 : Int)))))] : List (Int)) = [UInt8.ofNat (48 + r % 10)] := by
          rw [show (10 : Int) = ((10 : Nat) : Int) from rfl, tmodN, digW]
          exact byts_nums [UInt8.ofNat (48 + r % 10)]
        refine hX _ _ ⟨fun _ => ?_, fun c => absurd (show (0 : Int) < r by omega) c⟩
        rw [e, show (10 : Int) = ((10 : Nat) : Int) from rfl, tdivN', wI (by omega), len1]
        refine ⟨by omega, ih _ _ (by omega) (by omega) ?_⟩
        rw [← h2, dd_pos hz0, List.append_assoc]
    have := loop k k [] (Nat.le_refl _) hk (List.append_nil _)
    exact this

end Go.Proofs.YtcgiboeilcdonaaDoor.G

namespace Go.Proofs.YtcgiboeilcdonaaDoor.G
open Go Go.Ab
set_option maxRecDepth 100000
set_option linter.unusedVariables false
set_option linter.unusedSimpArgs false
set_option maxHeartbeats 1000000
def mB (k : Nat) : Nat → List Bool
  | 0 => []
  | n + 1 => decide (Int.tmod (k : Int) 3 = 0) :: mB (k + 1) n
theorem mB_len (k : Nat) : ∀ n, (mB k n).length = n
  | 0 => rfl
  | n + 1 => by rw [mB, List.length_cons, mB_len]
theorem mB_app (k : Nat) : ∀ n, mB k (n + 1) = mB k n ++ [decide (Int.tmod ((k + n : Nat) : Int) 3 = 0)] := by
  intro n
  induction n generalizing k with
  | zero => rfl
  | succ n ih => rw [mB, ih, show mB k (n + 1) = decide (Int.tmod (k : Int) 3 = 0) :: mB (k + 1) n from rfl, List.cons_append, show k + 1 + n = k + (n + 1) by omega]
theorem mB_at (k : Nat) : ∀ (n i : Nat), i < n → (mB k n).getD i false = decide (Int.tmod ((k + i : Nat) : Int) 3 = 0) := by
  intro n
  induction n generalizing k with
  | zero => intro i h; omega
  | succ n ih =>
    intro i h
    cases i with
    | zero => rfl
    | succ i => rw [mB, List.getD_cons_succ, ih (k + 1) i (by omega), show k + 1 + i = k + (i + 1) by omega]
theorem setB {α : Type} (p : List α) (a b : α) (q : List α) : ((p ++ a :: q).set p.length b) = p ++ b :: q := by
  rw [List.set_append_right _ _ (Nat.le_refl _), Nat.sub_self]; rfl
theorem markBoolS_wp {l : List Bool} {k : Nat} {K : Int → List Bool → Prop} (hl : l.length ≤ 2 ^ 20) (hk : k ≤ 2 ^ 40) (h : K ((k + l.length : Nat) : Int) (mB k l.length)) : laws_markBoolS.wp l (k : Int) K := by
  intro X hX
  have key : X (mB k 0 ++ l.drop 0) ((k + 0 : Nat) : Int) ((0 : Nat) : Int) := by
    refine up (Y := fun i => X (mB k i ++ l.drop i) ((k + i : Nat) : Int) (i : Int)) l.length ?_ fun i hi hn => ?_
    · refine hX _ _ _ ⟨fun c => absurd c (by rw [List.length_append, mB_len, List.length_drop]; omega), fun _ => ?_⟩
      rw [List.drop_length, List.append_nil]; exact h
    · have hlen : (mB k i ++ l.drop i).length = l.length := by rw [List.length_append, mB_len, List.length_drop]; omega
      refine hX _ _ _ ⟨fun _ => ⟨⟨by omega, by rw [hlen]; omega⟩, ?_⟩, fun c => absurd (show (i : Int) < _ by rw [hlen]; omega) c⟩
      rw [nn, w1 (by omega), w1 (by omega)]
      have e1 : (mB k i ++ l.drop i) = mB k i ++ l[i] :: l.drop (i + 1) := by rw [dropC hi]
      have e2 : (mB k i ++ l[i] :: l.drop (i + 1)).set i (decide (Int.tmod ((k + i : Nat) : Int) 3 = 0)) = mB k i ++ decide (Int.tmod ((k + i : Nat) : Int) 3 = 0) :: l.drop (i + 1) := by
        have := setB (mB k i) l[i] (decide (Int.tmod ((k + i : Nat) : Int) 3 = 0)) (l.drop (i + 1)); rw [mB_len] at this; exact this
      rw [e1, e2]
      rw [mB_app, List.append_assoc, List.singleton_append] at hn
      exact hn
  exact key
theorem heldBoolS_wp {k n : Nat} {K : Int → Prop} (hl : n ≤ 2 ^ 20) (hk : k ≤ 2 ^ 40) (h : K ((k + n : Nat) : Int)) : laws_heldBoolS.wp (mB k n) (k : Int) K := by
  intro X hX
  have hlen : (mB k n).length = n := mB_len _ _
  have key : X ((k + 0 : Nat) : Int) ((0 : Nat) : Int) := by
    refine up (Y := fun i => X ((k + i : Nat) : Int) (i : Int)) n ?_ fun i hi hn => ?_
    · exact hX _ _ ⟨fun c => absurd c (by omega), fun _ => h⟩
    · refine hX _ _ ⟨fun _ => ⟨⟨by omega, by omega⟩, ?_⟩, fun c => absurd (show (i : Int) < _ by omega) c⟩
      rw [nn, mB_at k n i hi]
      refine tB ?_
      rw [w1 (by omega), w1 (by omega)]; exact hn
  exact key

end Go.Proofs.YtcgiboeilcdonaaDoor.G

namespace Go.Proofs.YtcgiboeilcdonaaDoor.G
open Go Go.Ab
set_option maxRecDepth 100000
set_option linter.unusedVariables false
set_option linter.unusedSimpArgs false
set_option maxHeartbeats 1000000
def isBits (t : List UInt8) : Bool := t.all fun b => b == 48 || b == 49
def bitsOf (t : List UInt8) : List Bool := t.map fun b => decide ((b.toNat : Int) = 49)
theorem bitsOf_len (t : List UInt8) : (bitsOf t).length = t.length := by simp [bitsOf]
theorem bitsOf_succ (t : List UInt8) (i : Nat) (h : i < t.length) : bitsOf (t.take (i + 1)) = bitsOf (t.take i) ++ [decide (((t[i]).toNat : Int) = 49)] := by
  rw [List.take_succ_eq_append_getElem h, bitsOf, List.map_append]; rfl
theorem bt_get {a : List UInt8} {i : Nat} (hi : i < a.length) : bt a (i : Int) = ((a[i]).toNat : Int) := by
  unfold bt; rw [nn, gD hi]
theorem mem_dropWhile {p : UInt8 → Bool} {x : UInt8} : ∀ {l : List UInt8}, x ∈ l → p x = false → x ∈ l.dropWhile p
  | y :: l, h, hp => by
    rw [List.dropWhile_cons]
    split
    · rename_i hy
      rcases List.mem_cons.1 h with rfl | h
      · rw [hp] at hy; cases hy
      · exact mem_dropWhile h hp
    · exact h
theorem drop_nil {p : UInt8 → Bool} : ∀ {l : List UInt8}, (∀ x ∈ l, p x = true) → l.dropWhile p = []
  | [], _ => rfl
  | y :: l, h => by rw [List.dropWhile_cons, if_pos (h y (List.mem_cons_self ..))]; exact drop_nil fun x hx => h x (List.mem_cons_of_mem _ hx)
theorem trim_bits (t : List UInt8) : Lib.trimS t [48, 49] = [] ↔ isBits t = true := by
  have hp : ∀ b : UInt8, ([48, 49] : List UInt8).contains b = (b == 48 || b == 49) := fun b => by
    show (b == 48 || (b == 49 || false)) = _
    rw [Bool.or_false]
  have e : (fun b : UInt8 => ([48, 49] : List UInt8).contains b) = fun b => b == 48 || b == 49 := funext hp
  unfold Lib.trimS Lib.trimLeftS Lib.trimRightS isBits
  rw [show (fun x => ([48, 49] : List UInt8).contains x) = fun b => b == 48 || b == 49 from e]
  constructor
  · intro h
    rw [List.all_eq_true]
    intro x hx
    cases hc : (x == 48 || x == 49) with
    | true => rfl
    | false =>
      have h1 : x ∈ t.reverse.dropWhile (fun b => b == 48 || b == 49) := mem_dropWhile (List.mem_reverse.2 hx) hc
      have h2 := mem_dropWhile (p := fun b => b == 48 || b == 49) (List.mem_reverse.2 h1) hc
      rw [h] at h2; exact absurd h2 (List.not_mem_nil)
  · intro h
    rw [List.all_eq_true] at h
    have : t.reverse.dropWhile (fun b => b == 48 || b == 49) = [] := drop_nil fun x hx => h x (List.mem_reverse.1 hx)
    rw [this]; rfl
theorem impl_ReadBits_wp {t : List UInt8} {K : List Bool → Bool → Prop} (ht : t.length ≤ 2 ^ 30) (h1 : t.length ≤ 32768 ∧ isBits t = true → K (bitsOf t) true) (h2 : ¬ (t.length ≤ 32768 ∧ isBits t = true) → K [] false) : impl_ReadBits.wp t K := by
  refine ⟨fun c => h2 (by omega), fun c => ⟨⟨by omega, by decide, rfl⟩, fun c2 X hX => ?_, fun c2 => h2 fun g => c2 ((trim_bits t).2 g.2)⟩⟩
  have key : X (bitsOf (t.take 0)) ((0 : Nat) : Int) := by
    refine up (Y := fun i => X (bitsOf (t.take i)) (i : Int)) t.length ?_ fun i hi hn => ?_
    · refine hX _ _ ⟨fun c => absurd c (by omega), fun _ => ?_⟩
      rw [List.take_length]; exact h1 ⟨by omega, (trim_bits t).1 c2⟩
    · refine hX _ _ ⟨fun _ => ⟨by omega, by rw [len1, bitsOf_len, List.length_take]; omega, ?_⟩, fun c => absurd (show (i : Int) < t.length by omega) c⟩
      rw [w1 (by omega), bt_get hi, ← bitsOf_succ t i hi]; exact hn
  exact key
theorem spec_l06Read_wp {t : List UInt8} {K : List Bool → Bool → Prop} (ht : t.length ≤ 2 ^ 30) (h1 : t.length ≤ 32768 ∧ isBits t = true → K (bitsOf t) true) (h2 : ¬ (t.length ≤ 32768 ∧ isBits t = true) → K [] false) : spec_l06Read.wp t K := by
  intro X hX
  by_cases hl : t.length ≤ 32768
  · have key : ∀ (m i : Nat), i + m = t.length → isBits (t.take i) = true → X (bitsOf (t.take i)) (i : Int) := by
      intro m
      induction m with
      | zero =>
        intro i hi hb
        refine hX _ _ ⟨fun c => absurd c (by omega), fun _ => ⟨fun c => absurd c (by omega), fun _ => ?_⟩⟩
        rw [List.take_of_length_le (by omega)] at hb ⊢
        exact h1 ⟨hl, hb⟩
      | succ m ih =>
        intro i hi hb
        have hi' : i < t.length := by omega
        have go : (t[i] == 48 || t[i] == 49) = true → X (bitsOf (t.take i) ++ [decide (((t[i]).toNat : Int) = 49)]) (IntKind.i64.wrap ((i : Int) + 1)) := fun hc => by
          rw [w1 (by omega), ← bitsOf_succ t i hi']
          refine ih (i + 1) (by omega) ?_
          unfold isBits at hb ⊢
          rw [List.take_succ_eq_append_getElem hi', List.all_append, hb, List.all_cons, hc]; rfl
        refine hX _ _ ⟨fun _ => ⟨fun _ => ⟨by omega, ?_⟩, fun c => absurd (show (t.length : Int) ≤ 32768 by omega) c⟩, fun c => absurd (show (i : Int) < t.length by omega) c⟩
        rw [bt_get hi']
        have e48 : ((t[i]).toNat : Int) = 48 → t[i] = 48 := fun h => UInt8.toNat_inj.1 (Int.ofNat_inj.1 h)
        have e49 : ((t[i]).toNat : Int) = 49 → t[i] = 49 := fun h => UInt8.toNat_inj.1 (Int.ofNat_inj.1 h)
        refine ⟨fun c => ⟨by rw [len1, bitsOf_len, List.length_take]; omega, go (by rw [e48 c]; rfl)⟩, fun c => ⟨fun d => ⟨by rw [len1, bitsOf_len, List.length_take]; omega, go (by rw [e49 d]; rfl)⟩, fun d => h2 fun g => ?_⟩⟩
        have := List.all_eq_true.1 g.2 t[i] (List.getElem_mem hi')
        rw [Bool.or_eq_true, beq_iff_eq, beq_iff_eq] at this
        rcases this with h | h
        · exact c (by rw [h]; rfl)
        · exact d (by rw [h]; rfl)
    exact key t.length 0 (by omega) rfl
  · refine hX _ _ ⟨fun _ => ⟨fun c => absurd c (by omega), fun _ => ⟨fun _ => h2 (by omega), fun c => absurd (show (32768 : Int) < t.length by omega) c⟩⟩, fun c => ⟨fun _ => h2 (by omega), fun c => absurd (show (32768 : Int) < t.length by omega) c⟩⟩

end Go.Proofs.YtcgiboeilcdonaaDoor.G

namespace Go.Proofs.YtcgiboeilcdonaaDoor.G
open Go Go.Ab
set_option maxRecDepth 100000
set_option linter.unusedVariables false
set_option linter.unusedSimpArgs false
set_option maxHeartbeats 1000000
theorem rb_both (t : List UInt8) (ht : t.length ≤ 2 ^ 20) : ∃ out ok, (∀ K : List Bool → Bool → Prop, K out ok → spec_ReadBits.wp t K) ∧ (∀ K : List Bool → Bool → Prop, K out ok → impl_ReadBits.wp t K) ∧ out.length ≤ 2 ^ 20 := by
  by_cases h : t.length ≤ 32768 ∧ isBits t = true
  · exact ⟨bitsOf t, true, fun K hK => spec_l06Read_wp (by omega) (fun _ => hK) fun c => absurd h c, fun K hK => impl_ReadBits_wp (by omega) (fun _ => hK) fun c => absurd h c, by rw [bitsOf_len]; exact ht⟩
  · exact ⟨[], false, fun K hK => spec_l06Read_wp (by omega) (fun c => absurd c h) fun _ => hK, fun K hK => impl_ReadBits_wp (by omega) (fun c => absurd c h) fun _ => hK, Nat.zero_le _⟩
theorem pureExactReadBits (l0 : List UInt8) : laws_FnExactReadBits.wp l0 (fun b => b = true) := by
  refine ⟨fun _ => rfl, fun hb => ?_⟩
  obtain ⟨out, ok, hs, hi, ho⟩ := rb_both l0 (by omega)
  refine hs _ (hi _ (eqBoolS_wp ho (tT (tB ?_))))
  refine markBoolS_wp (k := 1) ho (by omega) (heldBoolS_wp (k := 1) ho (by omega) (tN (by omega) (tP rfl ?_)))
  exact hi _ (eqBoolS_wp ho (tT (tB (heldBoolS_wp (k := 1) ho (by omega) (tN (by omega) (tP rfl rfl))))))

end Go.Proofs.YtcgiboeilcdonaaDoor.G

