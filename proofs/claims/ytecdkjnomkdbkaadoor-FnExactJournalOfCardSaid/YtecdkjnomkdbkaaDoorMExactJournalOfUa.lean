/-
  What the formulas say, over numbers and lists alone. Nothing here is trusted.
-/
import Derived.Test.YtecdkjnomkdbkaaDoorMExactJournalOfWa
import Derived.Lib.ItoaLen
namespace Go.Proofs.YtecdkjnomkdbkaaDoor.G
open Go Go.Ab
set_option maxRecDepth 100000
set_option linter.unusedVariables false
set_option linter.unusedSimpArgs false
set_option maxHeartbeats 1000000
/-! ### truth -/
theorem tT {A B : Prop} (h : A) : (true = true → A) ∧ (true = false → B) := ⟨fun _ => h, fun c => (by cases c)⟩
theorem tF {A B : Prop} (h : B) : (false = true → A) ∧ (false = false → B) := ⟨fun c => (by cases c), fun _ => h⟩
theorem tB {A B : Prop} {b : Bool} (h : A) : ((b == b) = true → A) ∧ ((b == b) = false → B) := ⟨fun _ => h, fun c => (by simp at c)⟩
theorem tE {A B : Prop} {b : Bool} (e : b = true) (h : A) : (b = true → A) ∧ (b = false → B) := ⟨fun _ => h, fun c => (by rw [e] at c; cases c)⟩
theorem tG {A B : Prop} {b : Bool} (e : b = false) (h : B) : (b = true → A) ∧ (b = false → B) := ⟨fun c => (by rw [e] at c; cases c), fun _ => h⟩
theorem tP {p A B : Prop} (e : p) (h : A) : (p → A) ∧ (¬p → B) := ⟨fun _ => h, fun c => absurd e c⟩
theorem tN {p A B : Prop} (e : ¬p) (h : B) : (p → A) ∧ (¬p → B) := ⟨fun c => absurd c e, fun _ => h⟩
theorem tI {b : Bool} {K : Bool → Prop} {A B : Prop} (h1 : b = true → A) (h2 : b = false → B) : (b = true → A) ∧ (b = false → B) := ⟨h1, h2⟩
/-! ### loops -/
theorem up {Y : Nat → Prop} (n : Nat) (last : Y n) (step : ∀ i, i < n → Y (i + 1) → Y i) : Y 0 := by
  have key : ∀ d i, i + d = n → Y i := by
    intro d
    induction d with
    | zero => intro i h; obtain rfl : i = n := by omega
              exact last
    | succ d ih => intro i h; exact step i (by omega) (ih (i + 1) (by omega))
  exact key n 0 (by omega)
theorem upFrom {Y : Nat → Prop} (k n : Nat) (hk : k ≤ n) (last : Y n) (step : ∀ i, k ≤ i → i < n → Y (i + 1) → Y i) : Y k := by
  have key : ∀ d i, k ≤ i → i + d = n → Y i := by
    intro d
    induction d with
    | zero => intro i _ h; obtain rfl : i = n := by omega
              exact last
    | succ d ih => intro i h0 h; exact step i h0 (by omega) (ih (i + 1) (by omega) (by omega))
  exact key (n - k) k (Nat.le_refl _) (by omega)
theorem w1 {i : Nat} (h : i < 4611686018427387904) : IntKind.i64.wrap ((i : Int) + (1 : Int)) = ((i + 1 : Nat) : Int) := wrap_succ (by omega)
theorem wI {n : Int} (h : -9223372036854775808 ≤ n ∧ n < 9223372036854775808) : IntKind.i64.wrap n = n := wrap_i64 h.1 h.2
theorem nn (i : Nat) : ((i : Int)).toNat = i := rfl
theorem gD {α : Type} {l : List α} {i : Nat} (h : i < l.length) (d : α) : l.getD i d = l[i] := by rw [List.getD_eq_getElem?_getD, List.getElem?_eq_getElem h]; rfl
theorem dropC {α : Type} {l : List α} {i : Nat} (h : i < l.length) : l.drop i = l[i] :: l.drop (i + 1) := List.drop_eq_getElem_cons h
theorem len1 {α : Type} (a : α) : ([a] : List α).length = 1 := rfl
theorem cz32 (n : Nat) (h : (FloatKind.f32.decode n).isNaN = false) : cz .f32 n = n := by simp [cz, h]
theorem c0_32 : cz .f32 0 = 0 := cz_zero32
theorem c0_64 : cz .f64 0 = 0 := cz_zero64
/-! ### copies, comparisons, marks -/

end Go.Proofs.YtecdkjnomkdbkaaDoor.G

namespace Go.Proofs.YtecdkjnomkdbkaaDoor.G
open Go Go.Ab
set_option maxRecDepth 100000
set_option linter.unusedVariables false
set_option linter.unusedSimpArgs false
set_option maxHeartbeats 1000000
theorem nums_len (l : List UInt8) : (nums l).length = l.length := by simp [nums]
theorem byts_len (l : List Int) : (byts l).length = l.length := by simp [byts]
def chkTo : List UInt8 → Nat → Nat
  | [], n => n
  | c :: l, n => chkTo l ((853 * n + c.toNat + 139) % 65003)
theorem chkTo_lt : ∀ (l : List UInt8) (n : Nat), n < 65003 → chkTo l n < 65003
  | [], n, h => h
  | c :: l, n, h => chkTo_lt l _ (Nat.mod_lt _ (by decide))
theorem chk_loop (a : List UInt8) {X : Int → Int → Prop} (hX : ∀ n i : Nat, n < 65003 → ∀ hi : i < a.length, X (((853 * n + (a[i]).toNat + 139) % 65003 : Nat) : Int) ((i + 1 : Nat) : Int) → X n i) (n : Nat) (hn : n < 65003) (hend : X (chkTo a n : Nat) (a.length : Int)) : X (n : Int) ((0 : Nat) : Int) := by
  have key : ∀ (m i n : Nat), m + i = a.length → n < 65003 → chkTo (a.drop i) n = chkTo a (chkTo [] 0 + 0) ∨ True → X (chkTo (a.drop i) n : Nat) (a.length : Int) → X (n : Int) (i : Int) := by
    intro m
    induction m with
    | zero => intro i n h1 h2 _ h3
              obtain rfl : i = a.length := by omega
              rw [List.drop_length] at h3; exact h3
    | succ m ih =>
      intro i n h1 h2 _ h3
      have hi : i < a.length := by omega
      rw [dropC hi] at h3
      exact hX n i h2 hi (ih (i + 1) _ (by omega) (Nat.mod_lt _ (by decide)) (.inr trivial) h3)
  exact key a.length 0 n (by omega) hn (.inr trivial) hend
theorem chk_step (n b : Nat) (hn : n < 65003) (hb : b < 256) : Int.tmod (IntKind.i64.wrap ((IntKind.i64.wrap ((IntKind.i64.wrap (853 * (n : Int))) + (IntKind.i64.wrap ((b : Nat) : Int)))) + 139)) 65003 = ((((853 * n + b + 139) % 65003 : Nat)) : Int) := by
  rw [wI (n := 853 * (n : Int)) (by omega), wI (n := (b : Int)) (by omega), wI (n := 853 * (n : Int) + (b : Int)) (by omega), wI (n := 853 * (n : Int) + (b : Int) + 139) (by omega), Int.tmod_eq_emod_of_nonneg (by omega)]
  omega
theorem bt_at {a : List UInt8} {i : Nat} (hi : i < a.length) : bt a (i : Int) = ((a[i]).toNat : Int) := by
  unfold bt; rw [nn, gD hi]
theorem spec_l01Check_wp {n : Nat} {a : List UInt8} {K : Int → Prop} (ha : a.length ≤ 2 ^ 40) (hn : n < 65003) (h : K (chkTo a n : Nat)) : spec_l01Check.wp (n : Int) a K := by
  intro X hX
  refine chk_loop a (X := X) (fun n i hn hi h2 => hX _ _ ⟨fun _ => ⟨⟨by omega, by omega⟩, ?_⟩, fun c => absurd (show (i : Int) < a.length by omega) c⟩) n hn (hX _ _ ⟨fun c => absurd c (by omega), fun _ => h⟩)
  rw [bt_at hi, chk_step n _ hn (UInt8.toNat_lt _), w1 (by omega)]; exact h2
theorem impl_within_chk {a b c : Int} {K : Bool → Prop} (h1 : b ≤ a) (h2 : a ≤ c) (h : K true) : impl_within.wp a b c K := ⟨fun _ => by rw [decide_eq_true h2]; exact h, fun e => absurd h1 e⟩
theorem impl_CheckOf_wp {n : Nat} {a : List UInt8} {K : Int → Bool → Prop} (ha : a.length ≤ 2 ^ 40) (hn : n < 65003) (h : K (chkTo a n : Nat) true) : impl_CheckOf.wp (n : Int) a K := by
  refine impl_within_chk (by omega) (by omega) (tT fun X hX => ?_)
  refine chk_loop a (X := X) (fun n i hn hi h2 => hX _ _ ⟨fun _ => ⟨⟨by omega, by omega⟩, ?_⟩, fun c => absurd (show (i : Int) < a.length by omega) c⟩) n hn (hX _ _ ⟨fun c => absurd c (by omega), fun _ => h⟩)
  rw [bt_at hi, chk_step n _ hn (UInt8.toNat_lt _), w1 (by omega)]; exact h2

end Go.Proofs.YtecdkjnomkdbkaaDoor.G

namespace Go.Proofs.YtecdkjnomkdbkaaDoor.G
open Go Go.Ab
set_option maxRecDepth 100000
set_option linter.unusedVariables false
set_option linter.unusedSimpArgs false
set_option maxHeartbeats 1000000
def dd (n : Nat) : List UInt8 := if n = 0 then [] else Lib.decDigits n
theorem dd_step (n : Nat) : Lib.decDigits n = dd (n / 10) ++ [UInt8.ofNat (48 + n % 10)] := by
  rw [Lib.decDigits]
  by_cases h : n < 10
  · rw [dif_pos h, dd, if_pos (by omega), Nat.mod_eq_of_lt h]; rfl
  · rw [dif_neg h, dd, if_neg (by omega)]
theorem dd_zero : dd 0 = [] := rfl
theorem dd_pos {n : Nat} (h : n ≠ 0) : dd n = dd (n / 10) ++ [UInt8.ofNat (48 + n % 10)] := by
  conv => lhs; rw [dd, if_neg h]
  exact dd_step n
theorem numsC (b : UInt8) (l : List UInt8) : nums (b :: l) = (b.toNat : Int) :: nums l := rfl
theorem nums_length (l : List UInt8) : (nums l).length = l.length := by simp [nums]
theorem byts_nums (l : List UInt8) : byts (nums l) = l := by
  induction l with
  | nil => rfl
  | cons b l ih =>
    show UInt8.ofNat ((b.toNat : Int)).toNat :: byts (nums l) = _
    rw [ih, Int.toNat_natCast, UInt8.ofNat_toNat]
def sgn (b : Bool) (n : Nat) : Int := bif b then -(n : Int) else n
theorem sgn_of (z : Int) : z = sgn (decide (z < 0)) z.natAbs := by
  unfold sgn
  by_cases h : z < 0
  · rw [decide_eq_true h, cond_true]; omega
  · rw [decide_eq_false h, cond_false]; omega
theorem tmodN (n m : Nat) : Int.tmod (n : Int) (m : Int) = ((n % m : Nat) : Int) := by rw [Int.tmod_eq_emod_of_nonneg (by omega)]; omega
theorem tdivN' (n m : Nat) : Int.tdiv (n : Int) (m : Int) = ((n / m : Nat) : Int) := by rw [Int.tdiv_eq_ediv_of_nonneg (by omega)]; omega
theorem tmod_sgn (b : Bool) (n : Nat) : Int.tmod (sgn b n) 10 = sgn b (n % 10) := by
  cases b
  · exact tmodN n 10
  · show Int.tmod (-(n : Int)) 10 = -((n % 10 : Nat) : Int)
    rw [Int.neg_tmod, show (10 : Int) = ((10 : Nat) : Int) from rfl, tmodN]
theorem tdiv_sgn (b : Bool) (n : Nat) : Int.tdiv (sgn b n) 10 = sgn b (n / 10) := by
  cases b
  · exact tdivN' n 10
  · show Int.tdiv (-(n : Int)) 10 = -((n / 10 : Nat) : Int)
    rw [Int.neg_tdiv, show (10 : Int) = ((10 : Nat) : Int) from rfl, tdivN']
theorem sgn_le (b : Bool) (n : Nat) : -(n : Int) ≤ sgn b n ∧ sgn b n ≤ n := by cases b <;> simp only [sgn, cond_true, cond_false] <;> omega
theorem u8W (n : Nat) (h : n < 256) : IntKind.u8.wrap (n : Int) = (n : Int) := by
  simp only [IntKind.wrap, IntKind.signed, IntKind.bits]
  simp
  omega
theorem digW (n : Nat) : IntKind.u8.wrap (IntKind.i64.wrap ((48 : Int) + ((n % 10 : Nat) : Int))) = ((UInt8.ofNat (48 + n % 10)).toNat : Int) := by
  rw [wI (by omega), show (48 : Int) + ((n % 10 : Nat) : Int) = ((48 + n % 10 : Nat) : Int) by omega, u8W _ (by omega)]
  show _ = (((48 + n % 10) % 256 : Nat) : Int)
  omega
theorem stepDec {X : List Int → Int → Prop} (b : Bool) (r : Nat) (ds : List UInt8) (hr : r ≤ 2 ^ 62) (hd : ds.length ≤ 100) (h : X (nums (UInt8.ofNat (48 + r % 10) :: ds)) (sgn b (r / 10))) :
    (((Int.tmod (sgn b r) (10 : Int)) < (0 : Int) → ((([(IntKind.u8.wrap (IntKind.i64.wrap ((48 : Int) + (IntKind.i64.wrap (0 - (Int.tmod (sgn b r) (10 : Int)))))))] : List (Int)).length + (nums ds).length) * 1 ≤ 2 ^ 40) ∧ X (([(IntKind.u8.wrap (IntKind.i64.wrap ((48 : Int) + (IntKind.i64.wrap (0 - (Int.tmod (sgn b r) (10 : Int)))))))] : List (Int)) ++ nums ds) (IntKind.i64.wrap (Int.tdiv (sgn b r) (10 : Int)))) ∧ (¬((Int.tmod (sgn b r) (10 : Int)) < (0 : Int)) → ((([(IntKind.u8.wrap (IntKind.i64.wrap ((48 : Int) + (Int.tmod (sgn b r) (10 : Int)))))] : List (Int)).length + (nums ds).length) * 1 ≤ 2 ^ 40) ∧ X (([(IntKind.u8.wrap (IntKind.i64.wrap ((48 : Int) + (Int.tmod (sgn b r) (10 : Int)))))] : List (Int)) ++ nums ds) (IntKind.i64.wrap (Int.tdiv (sgn b r) (10 : Int))))) := by
  have hs := sgn_le b (r / 10)
  rw [tmod_sgn, tdiv_sgn, wI (n := sgn b (r / 10)) (by omega), nums_length]
  rw [numsC] at h
  refine ⟨fun c => ⟨by rw [len1]; omega, ?_⟩, fun c => ⟨by rw [len1]; omega, ?_⟩⟩
  · have e : (0 : Int) - sgn b (r % 10) = ((r % 10 : Nat) : Int) := by cases b <;> simp only [sgn, cond_true, cond_false] at c ⊢ <;> omega
    rw [e, wI (n := ((r % 10 : Nat) : Int)) (by omega), digW]; exact h
  · have e : sgn b (r % 10) = ((r % 10 : Nat) : Int) := by cases b <;> simp only [sgn, cond_true, cond_false] at c ⊢ <;> omega
    rw [e, digW]; exact h
theorem dec_len (n : Nat) (h : n ≤ 2 ^ 62) : (Lib.decDigits n).length ≤ 21 := by
  have := Lib.itoa_length_le (n : Int) (by omega) (by omega)
  rwa [Lib.itoa, if_neg (by omega), Int.toNat_natCast] at this
theorem itoa_len (n : Int) (h : -2 ^ 62 ≤ n ∧ n ≤ 2 ^ 62) : (Lib.itoa n).length ≤ 21 := Lib.itoa_length_le n (by omega) (by omega)
theorem spec_l01Dec_wp {n : Int} {K : List UInt8 → Prop} (hn : -2 ^ 62 ≤ n ∧ n ≤ 2 ^ 62) (h : K (Lib.itoa n)) : spec_l01Dec.wp n K := by
  intro X hX
  have hN : n.natAbs ≤ 2 ^ 62 := by omega
  have hl := dec_len _ hN
  have loop : ∀ (m r : Nat) (ds : List UInt8), r ≤ m → ds ≠ [] → r ≤ 2 ^ 62 → dd r ++ ds = Lib.decDigits n.natAbs → X (nums ds) (sgn (decide (n < 0)) r) := by
    intro m
    induction m with
    | zero =>
      intro r ds hr hds h1 h2
      obtain rfl : r = 0 := by omega
      have hz : ¬ (((nums ds).length : Int) = 0) := by rw [nums_length]; have := List.length_pos_iff.2 hds; omega
      have e0 : sgn (decide (n < 0)) 0 = 0 := by cases decide (n < 0) <;> rfl
      refine hX _ _ ⟨fun c => absurd c hz, fun _ => ⟨fun _ => ?_, fun c => absurd e0 c⟩⟩
      rw [dd_zero, List.nil_append] at h2
      subst h2
      unfold Lib.itoa at h
      refine ⟨fun c => ⟨by rw [len1, nums_length]; omega, ?_⟩, fun c => ?_⟩
      · rw [if_pos c] at h
        rw [show ([(45 : Int)] : List Int) ++ nums (Lib.decDigits n.natAbs) = nums (45 :: Lib.decDigits n.natAbs) from rfl, byts_nums]; exact h
      · rw [if_neg c, show n.toNat = n.natAbs by omega] at h
        rw [byts_nums]; exact h
    | succ m ih =>
      intro r ds hr hds h1 h2
      by_cases hz0 : r = 0
      · exact ih r ds (by omega) hds h1 h2
      have hz : ¬ (((nums ds).length : Int) = 0) := by rw [nums_length]; have := List.length_pos_iff.2 hds; omega
      have hdl : ds.length ≤ 21 := by rw [← h2, List.length_append] at hl; omega
      refine hX _ _ ⟨fun c => absurd c hz, fun _ => ⟨fun c => ?_, fun _ => stepDec _ r ds h1 (by omega) (ih _ _ (by omega) (by simp) (by omega) ?_)⟩⟩
      · exfalso; cases hb : decide (n < 0) <;> rw [hb] at c <;> simp only [sgn, cond_true, cond_false] at c <;> omega
      · rw [← h2, dd_pos hz0, List.append_assoc]; rfl
  have first : X (nums []) (sgn (decide (n < 0)) n.natAbs) := by
    refine hX _ _ ⟨fun _ => stepDec _ _ [] hN (by decide) (loop _ _ _ (Nat.le_refl _) (by simp) (by omega) (dd_step _).symm), fun c => absurd rfl c⟩
  rw [← sgn_of] at first
  exact first
/-- The mark of a text. -/
def mkT (k : Nat) : List UInt8 := if k = 0 then [109, 48] else 109 :: dd k

end Go.Proofs.YtecdkjnomkdbkaaDoor.G

namespace Go.Proofs.YtecdkjnomkdbkaaDoor.G
open Go Go.Ab
set_option maxRecDepth 100000
set_option linter.unusedVariables false
set_option linter.unusedSimpArgs false
set_option maxHeartbeats 1000000
def mS (k n : Nat) : List (List UInt8) := (List.range n).map fun i => mkT (k + i)
theorem mS_len (k n : Nat) : (mS k n).length = n := by simp [mS]
theorem mS_at (k n i : Nat) (h : i < n) : (mS k n)[i]? = some (mkT (k + i)) := by simp [mS, h]
theorem mS_succ (k n : Nat) : mS k (n + 1) = mS k n ++ [mkT (k + n)] := by simp [mS, List.range_succ]
theorem eqStringS_wp {l : List (List UInt8)} {K : Bool → Prop} (hl : l.length ≤ 2 ^ 40) (h : K true) : laws_eqStringS.wp l l K := by
  refine tP rfl fun X hX => ?_
  refine up (Y := fun i => X (i : Int)) l.length ?_ fun i hi hn => ?_
  · exact hX _ ⟨fun c => absurd c (by omega), fun _ => h⟩
  · refine hX _ ⟨fun _ => ⟨⟨by omega, by omega⟩, ⟨by omega, by omega⟩, tP rfl ?_⟩, fun c => absurd (show (i : Int) < l.length by omega) c⟩
    rw [w1 (by omega)]; exact hn

end Go.Proofs.YtecdkjnomkdbkaaDoor.G

namespace Go.Proofs.YtecdkjnomkdbkaaDoor.G
open Go Go.Ab
set_option maxRecDepth 100000
set_option linter.unusedVariables false
set_option linter.unusedSimpArgs false
set_option maxHeartbeats 1000000
/-- The pieces of a text between the bytes c; cur: what has been read of the first. -/
def cutF (c : UInt8) : List UInt8 → List UInt8 → List (List UInt8)
  | cur, [] => [cur]
  | cur, b :: l => if b = c then cur :: cutF c [] l else cutF c (cur ++ [b]) l
def cutL (c : UInt8) (l : List UInt8) : List (List UInt8) := cutF c [] l
theorem cutF_len (c : UInt8) : ∀ (cur l : List UInt8), (cutF c cur l).length = l.count c + 1
  | cur, [] => rfl
  | cur, b :: l => by
    rw [cutF, List.count_cons]
    by_cases h : b = c
    · rw [if_pos h, List.length_cons, cutF_len c [] l, if_pos (by simp [h])]
    · rw [if_neg h, cutF_len c _ l, if_neg (by simp [h]), Nat.add_zero]
theorem cutF_none (c : UInt8) : ∀ (cur l : List UInt8), l.count c = 0 → cutF c cur l = [cur ++ l]
  | cur, [], _ => by rw [cutF, List.append_nil]
  | cur, b :: l, h => by
    rw [List.count_cons] at h
    by_cases hb : b = c
    · rw [if_pos (by simp [hb])] at h; omega
    · rw [if_neg (by simp [hb])] at h
      rw [cutF, if_neg hb, cutF_none c _ l (by omega), List.append_assoc]; rfl
/-- The first c. -/
theorem idx_spec (c : UInt8) : ∀ (l : List UInt8), (Lib.indexByte l c = -1 ∧ l.count c = 0) ∨ ∃ m : Nat, Lib.indexByte l c = m ∧ m < l.length ∧ (l.take m).count c = 0 ∧ l[m]? = some c
  | [] => .inl ⟨rfl, rfl⟩
  | b :: l => by
    rw [Lib.indexByte]
    by_cases hb : b = c
    · right
      refine ⟨0, by rw [if_pos (by simp [hb])]; rfl, by simp, rfl, by simp [hb]⟩
    · rw [if_neg (by simp [hb])]
      rcases idx_spec c l with ⟨h1, h2⟩ | ⟨m, h1, h2, h3, h4⟩
      · left
        rw [h1]
        exact ⟨rfl, by rw [List.count_cons, if_neg (by simp [hb])]; omega⟩
      · right
        refine ⟨m + 1, ?_, by simp; omega, ?_, by simpa using h4⟩
        · rw [h1, if_neg (by simp)] <;> rfl
        · rw [List.take_succ_cons, List.count_cons, if_neg (by simp [hb])]; omega
theorem cutF_idx (c : UInt8) : ∀ (cur l : List UInt8) (m : Nat), m < l.length → (l.take m).count c = 0 → l[m]? = some c → cutF c cur l = (cur ++ l.take m) :: cutF c [] (l.drop (m + 1))
  | cur, b :: l, 0, _, _, h => by
    have : b = c := by simpa using h
    rw [cutF, if_pos this, List.take_zero, List.append_nil]; rfl
  | cur, b :: l, m + 1, h1, h2, h3 => by
    rw [List.take_succ_cons, List.count_cons] at h2
    have hb : ¬ b = c := fun e => by rw [if_pos (by simp [e])] at h2; omega
    rw [if_neg (by simp [hb])] at h2
    rw [cutF, if_neg hb, cutF_idx c _ l m (by simpa using h1) (by omega) (by simpa using h3), List.append_assoc]
    rfl
theorem count_idx (c : UInt8) (l : List UInt8) (m : Nat) (h1 : m < l.length) (h2 : (l.take m).count c = 0) (h3 : l[m]? = some c) : l.count c = (l.drop (m + 1)).count c + 1 := by
  have e : l = l.take m ++ l[m] :: l.drop (m + 1) := by rw [← List.drop_eq_getElem_cons h1, List.take_append_drop]
  have e2 : l[m] = c := by rw [List.getElem?_eq_getElem h1] at h3; exact Option.some.inj h3
  rw [e2] at e
  conv => lhs; rw [e]
  rw [List.count_append, List.count_cons, if_pos (by simp), h2]; omega
def cutI (l : List UInt8) : List (List UInt8) := (cutL 10 l).take ((cutL 10 l).length - 1)
def cutE (l : List UInt8) : List UInt8 := (cutL 10 l).getD ((cutL 10 l).length - 1) []
theorem cutL_len (l : List UInt8) (hl : l.length ≤ 2 ^ 20) : 1 ≤ (cutL 10 l).length ∧ (cutL 10 l).length ≤ 2 ^ 20 + 1 := by
  have h : (cutL 10 l).length = l.count 10 + 1 := cutF_len ..
  have := List.count_le_length (a := (10 : UInt8)) (l := l)
  omega

end Go.Proofs.YtecdkjnomkdbkaaDoor.G

namespace Go.Proofs.YtecdkjnomkdbkaaDoor.G
open Go Go.Ab
set_option maxRecDepth 100000
set_option linter.unusedVariables false
set_option linter.unusedSimpArgs false
set_option maxHeartbeats 1000000
abbrev Ls := List (List UInt8)
def lnJ (l : Ls) (i : Nat) : List UInt8 := l.getD i ([] : List UInt8)
def ckJ (l : Ls) : Nat → Nat
  | 0 => 0
  | i + 1 => chkTo (lnJ l i) (ckJ l i)
def jbJ (l : Ls) : Nat → List UInt8
  | 0 => []
  | i + 1 => jbJ l i ++ (Lib.itoa (ckJ l (i + 1) : Nat) ++ [32] ++ lnJ l i ++ [10])
def totJ (l : Ls) : Nat → Nat
  | 0 => 0
  | i + 1 => totJ l i + ((lnJ l i).length + 3)
theorem ckJ_lt (l : Ls) : ∀ i, ckJ l i < 65003
  | 0 => by show 0 < 65003; decide
  | i + 1 => chkTo_lt _ _ (ckJ_lt l i)
theorem itoa_one (n : Nat) : 1 ≤ (Lib.itoa (n : Int)).length := by
  rw [Lib.itoa, if_neg (by omega), Int.toNat_natCast, dd_step, List.length_append]
  simp
theorem jbJ_len (l : Ls) (i : Nat) : (jbJ l (i + 1)).length = (jbJ l i).length + ((Lib.itoa (ckJ l (i + 1) : Nat)).length + (lnJ l i).length + 2) := by
  rw [jbJ]; simp only [List.length_append, List.length_cons, List.length_nil]; omega
theorem jbJ_tot (l : Ls) : ∀ i, totJ l i ≤ (jbJ l i).length
  | 0 => Nat.le_refl _
  | i + 1 => by
    have h1 := jbJ_tot l i
    have h2 := itoa_one (ckJ l (i + 1))
    rw [jbJ_len, totJ]; omega
theorem jbJ_mono (l : Ls) (i : Nat) : ∀ d, (jbJ l i).length ≤ (jbJ l (i + d)).length
  | 0 => Nat.le_refl _
  | d + 1 => by
    have h1 := jbJ_mono l i d
    have h2 := jbJ_len l (i + d)
    rw [← Nat.add_assoc]; omega
theorem totJ_mono (l : Ls) (i : Nat) : ∀ d, totJ l i ≤ totJ l (i + d)
  | 0 => Nat.le_refl _
  | d + 1 => by
    have h1 := totJ_mono l i d
    rw [← Nat.add_assoc, totJ]; omega
def LsIn (l : Ls) : Prop := ∀ z ∈ l, z.length ≤ maxLen ∧ True
def LsOk (l : Ls) : Prop := l.length ≤ 2 ^ 20 ∧ ∀ z ∈ l, z.length ≤ 2 ^ 20
theorem LsOk.at {l : Ls} (h : LsOk l) (i : Nat) : (lnJ l i).length ≤ 2 ^ 20 := by
  unfold lnJ
  by_cases c : i < l.length
  · rw [gD c]; exact h.2 _ (List.getElem_mem c)
  · rw [List.getD_eq_getElem?_getD, List.getElem?_eq_none (by omega)]; exact Nat.zero_le _
theorem jbJ_le {l : Ls} (h : LsOk l) : ∀ i, (jbJ l i).length ≤ i * (2 ^ 20 + 30)
  | 0 => by rw [jbJ]; simp
  | i + 1 => by
    have h1 := jbJ_le h i
    have h2 := h.at i
    have h3 := itoa_len (ckJ l (i + 1) : Nat) (by have := ckJ_lt l (i + 1); omega)
    rw [jbJ_len, Nat.add_mul]; omega
def goodJ (l : Ls) : Prop := (∀ i, i < l.length → (lnJ l i).count 10 = 0) ∧ (jbJ l l.length).length ≤ 16000
open Classical in
noncomputable def resJ (l : Ls) : List UInt8 := if goodJ l then jbJ l l.length else []
open Classical in
noncomputable def okJ (l : Ls) : Bool := decide (goodJ l)
open Classical in
theorem endN {l : Ls} {K : List UInt8 → Bool → Prop} (h : K (resJ l) (okJ l)) (c : ¬ goodJ l) : K [] false := by
  unfold resJ okJ at h
  rw [if_neg c, decide_eq_false c] at h; exact h
open Classical in
theorem endY {l : Ls} {K : List UInt8 → Bool → Prop} (h : K (resJ l) (okJ l)) (c : goodJ l) : K (jbJ l l.length) true := by
  unfold resJ okJ at h
  rw [if_pos c, decide_eq_true c] at h; exact h
theorem szStringS_wp {l : Ls} {K : Int → Prop} (hl : l.length ≤ maxLen) (hin : LsIn l) (h0 : K (-1)) (h : LsOk l → ∀ m, 0 ≤ m → K m) : laws_szStringS.wp l 1048576 K := by
  have hm : l.length < 2 ^ 63 := Nat.lt_of_le_of_lt hl (by decide)
  have e : IntKind.i64.wrap (1048576 - (l.length : Int)) = 1048576 - (l.length : Int) := wI (by omega)
  refine ⟨fun c => h0, fun c => ?_⟩
  rw [e] at c ⊢
  intro X hX
  have key : ∀ (m i : Nat) (r : Int), m + i = l.length → 0 ≤ r → r ≤ 1048576 → (∀ z ∈ l.take i, z.length ≤ 2 ^ 20) → X r (i : Int) := by
    intro m
    induction m with
    | zero => intro i r h1 h2 h2' h3
              obtain rfl : i = l.length := by omega
              rw [List.take_length] at h3
              exact hX _ _ ⟨fun c => absurd c (by omega), fun _ => h ⟨by omega, h3⟩ r h2⟩
    | succ m ih =>
      intro i r h1 h2 h2' h3
      have hi : i < l.length := by omega
      have hz := (hin _ (List.getElem_mem hi)).1
      have hz2 : l[i].length < 2 ^ 63 := Nat.lt_of_le_of_lt hz (by decide)
      refine hX _ _ ⟨fun _ => ⟨⟨by omega, by omega⟩, ?_⟩, fun c => absurd (show (i : Int) < l.length by omega) c⟩
      rw [nn, gD hi, w1 (by omega)]
      have e2 : IntKind.i64.wrap (r - (l[i].length : Int)) = r - (l[i].length : Int) := wI (by omega)
      rw [e2]
      refine ⟨fun _ => h0, fun c2 => ih (i + 1) _ (by omega) (by omega) (by omega) fun z hzz => ?_⟩
      rw [List.take_succ_eq_append_getElem hi, List.mem_append, List.mem_singleton] at hzz
      rcases hzz with hzz | rfl
      · exact h3 z hzz
      · omega
  exact key l.length 0 _ (by omega) (by omega) (by omega) (fun z hz => by cases hz)
theorem toStringS_wp {l : Ls} {K : Ls → Prop} (hl : l.length ≤ 2 ^ 20) (h : K l) : laws_toStringS.wp l K := by
  refine ⟨⟨by omega, by omega, by omega, by omega⟩, fun X hX => ?_⟩
  have key : X (l.take 0 ++ List.replicate (l.length - 0) ([] : List UInt8)) ((0 : Nat) : Int) := by
    refine up (Y := fun i => X (l.take i ++ List.replicate (l.length - i) ([] : List UInt8)) (i : Int)) l.length ?_ fun i hi hn => ?_
    · refine hX _ _ ⟨fun c => absurd c (by omega), fun _ => ?_⟩
      rw [List.take_length, Nat.sub_self, List.replicate_zero, List.append_nil]; exact h
    · refine hX _ _ ⟨fun _ => ⟨⟨by omega, by omega⟩, ⟨by omega, ?_⟩, ?_⟩, fun c => absurd (show (i : Int) < l.length by omega) c⟩
      · rw [List.length_append, List.length_take, List.length_replicate]; omega
      · rw [nn, w1 (by omega), gD hi, set_fill ([] : List UInt8) (by omega) hi]
        exact hn
  rw [List.take_zero, List.nil_append, Nat.sub_zero] at key; exact key
theorem spec_jn {l : Ls} {K : List UInt8 → Prop} (hl : LsOk l) (h : K (jbJ l l.length)) : spec_l08Journal.wp l K := by
  have h20 := hl.1
  intro X hX
  refine up (Y := fun i => X (jbJ l i) (ckJ l i : Nat) (i : Int)) l.length ?_ ?_
  · exact hX _ _ _ (tN (by omega) h)
  · intro i hi hh
    have hln := hl.at i
    have hb := jbJ_le hl i
    have hb2 : i * (2 ^ 20 + 30) ≤ 2 ^ 20 * (2 ^ 20 + 30) := Nat.mul_le_mul_right _ (by omega)
    have hc := ckJ_lt l (i + 1)
    have hit := itoa_len (ckJ l (i + 1) : Nat) (by omega)
    have e0 : l.getD ((i : Int)).toNat ([] : List UInt8) = lnJ l i := rfl
    refine hX _ _ _ (tP (by omega) ⟨⟨by omega, by omega⟩, ?_⟩)
    rw [e0]
    refine spec_l01Check_wp (by omega) (ckJ_lt l i) (spec_l01Dec_wp (by have := ckJ_lt l (i + 1); rw [ckJ] at this; omega) ?_)
    have ec : chkTo (lnJ l i) (ckJ l i) = ckJ l (i + 1) := rfl
    rw [ec, w1 (by omega)]
    refine ⟨?_, ?_, ?_, ?_, hh⟩
    · rw [len1]; omega
    · rw [List.length_append, len1]; omega
    · rw [List.length_append, List.length_append, len1, len1]; omega
    · rw [List.length_append, List.length_append, List.length_append, len1, len1]; omega
theorem spec_jo {l : Ls} {K : List UInt8 → Bool → Prop} (hl : LsOk l) (h : K (resJ l) (okJ l)) : spec_JournalOf.wp l K := by
  have h20 := hl.1
  intro X hX
  have key : ∀ m i : Nat, m + i = l.length → (∀ j, j < i → (lnJ l j).count 10 = 0) → totJ l i ≤ 16000 → X (totJ l i : Nat) (i : Int) := by
    intro m
    induction m with
    | zero =>
      intro i h1 h2 h3
      obtain rfl : i = l.length := by omega
      refine hX _ _ (tN (by omega) (spec_jn hl ⟨fun c => endN h fun g => ?_, fun c => endY h ⟨h2, by omega⟩⟩))
      have := g.2; omega
    | succ m ih =>
      intro i h1 h2 h3
      have hln := hl.at i
      have e0 : l.getD ((i : Int)).toNat ([] : List UInt8) = lnJ l i := rfl
      refine hX _ _ (tP (by omega) ⟨⟨by omega, by omega⟩, ?_⟩)
      rw [e0, wI (n := ((lnJ l i).length : Int) + 3) (by omega), wI (by omega)]
      have et : (totJ l i : Int) + (((lnJ l i).length : Int) + 3) = ((totJ l (i + 1) : Nat) : Int) := by rw [totJ]; omega
      rw [et]
      refine ⟨fun c => endN h fun g => ?_, fun c => ?_⟩
      · have g1 := jbJ_tot l l.length
        have g2 := totJ_mono l (i + 1) m
        rw [show i + 1 + m = l.length by omega] at g2
        have := g.2; omega
      · intro Y hY
        have key2 : ∀ p k : Nat, p + k = (lnJ l i).length → (∀ j, j < k → (lnJ l i)[j]? ≠ some 10) → Y (k : Int) := by
          intro p
          induction p with
          | zero =>
            intro k g1 g2
            obtain rfl : k = (lnJ l i).length := by omega
            refine hY _ (tN (by omega) ?_)
            rw [w1 (by omega)]
            refine ih (i + 1) (by omega) (fun j hj => ?_) (by omega)
            by_cases c2 : j = i
            · subst c2
              refine List.count_eq_zero.2 fun hm => ?_
              obtain ⟨q, hq, e⟩ := List.mem_iff_getElem.1 hm
              exact g2 q hq (by rw [List.getElem?_eq_getElem hq, e])
            · exact h2 j (by omega)
          | succ p ihp =>
            intro k g1 g2
            have hk : k < (lnJ l i).length := by omega
            refine hY _ (tP (by omega) ⟨⟨by omega, by omega⟩, fun c2 => endN h fun g => ?_, fun c2 => ?_⟩)
            · rw [bt_at hk] at c2
              have e : (lnJ l i)[k] = 10 := UInt8.toNat_inj.1 (by show _ = 10; omega)
              have := List.count_eq_zero.1 (g.1 i (by omega))
              exact this (e ▸ List.getElem_mem hk)
            · rw [w1 (by omega)]
              refine ihp (k + 1) (by omega) fun j hj => ?_
              by_cases c3 : j = k
              · subst c3
                rw [List.getElem?_eq_getElem hk]
                intro e
                rw [bt_at hk, Option.some.inj e] at c2
                exact c2 rfl
              · exact g2 j (by omega)
        exact key2 (lnJ l i).length 0 (by omega) fun j hj => absurd hj (Nat.not_lt_zero _)
  exact key l.length 0 (by omega) (fun j hj => absurd hj (Nat.not_lt_zero _)) (by rw [totJ]; omega)
theorem impl_jo {l : Ls} {K : List UInt8 → Bool → Prop} (hl : LsOk l) (h : K (resJ l) (okJ l)) : impl_JournalOf.wp l K := by
  have h20 := hl.1
  refine ⟨by omega, fun X hX => ?_⟩
  have key : ∀ m i : Nat, m + i = l.length → (∀ j, j < i → (lnJ l j).count 10 = 0) → (jbJ l i).length ≤ 16000 → X (jbJ l i) (ckJ l i : Nat) i := by
    intro m
    induction m with
    | zero =>
      intro i h1 h2 h3
      obtain rfl : i = l.length := by omega
      exact hX _ _ _ ⟨fun c => absurd c (Nat.lt_irrefl _), fun _ => endY h ⟨h2, h3⟩⟩
    | succ m ih =>
      intro i h1 h2 h3
      have hi : i < l.length := by omega
      have hln := hl.at i
      have hc := ckJ_lt l (i + 1)
      have e0 : l.getD i [] = lnJ l i := rfl
      refine hX _ _ _ ⟨fun _ => ?_, fun c => absurd hi c⟩
      rw [e0]
      refine ⟨⟨h3, by omega⟩, 10, rfl, fun c => endN h fun g => ?_, fun c => ?_⟩
      · have g1 := g.1 i hi
        rcases idx_spec 10 (lnJ l i) with ⟨k1, _⟩ | ⟨q, k1, k2, k3, k4⟩
        · rw [k1] at c; exact absurd (of_decide_eq_true c) (by decide)
        · exact List.count_eq_zero.1 g1 (List.mem_of_getElem? k4)
      · have hz : (lnJ l i).count 10 = 0 := by
          rcases idx_spec 10 (lnJ l i) with ⟨_, k2⟩ | ⟨q, k1, _⟩
          · exact k2
          · rw [k1] at c; exact absurd (of_decide_eq_false c) (by omega)
        refine impl_CheckOf_wp (by omega) (ckJ_lt l i) (Or.inl ⟨rfl, ?_, ?_⟩)
        · have ec : chkTo (lnJ l i) (ckJ l i) = ckJ l (i + 1) := rfl
          rw [ec]; omega
        have ec : chkTo (lnJ l i) (ckJ l i) = ckJ l (i + 1) := rfl
        rw [ec]
        have ej : jbJ l i ++ (Lib.itoa (ckJ l (i + 1) : Nat) ++ [32] ++ lnJ l i ++ [10]) = jbJ l (i + 1) := rfl
        have hit := itoa_len (ckJ l (i + 1) : Nat) (by omega)
        show (Lib.itoa (ckJ l (i + 1) : Nat)).length ≤ 2 ^ 40 ∧ ((16000 : Int) < ((jbJ l (i + 1)).length : Int) → K [] false) ∧ (¬ (16000 : Int) < ((jbJ l (i + 1)).length : Int) → X (jbJ l (i + 1)) (ckJ l (i + 1) : Nat) (i + 1))
        refine ⟨by omega, fun c2 => endN h fun g => ?_, fun c2 => ?_⟩
        · have g2 := jbJ_mono l (i + 1) m
          rw [show i + 1 + m = l.length by omega] at g2
          have := g.2; omega
        · refine ih (i + 1) (by omega) (fun j hj => ?_) (by omega)
          by_cases c3 : j = i
          · rw [c3]; exact hz
          · exact h2 j (by omega)
  exact key l.length 0 (by omega) (fun j hj => absurd hj (Nat.not_lt_zero _)) (by rw [jbJ]; simp)
-- HYPS: 0
-- HYPE: 0
theorem pureExactJournalOf (l0 : List (List UInt8)) (hm : l0.length ≤ maxLen) (hin : LsIn l0) : laws_FnExactJournalOf.wp l0 (fun b => b = true) := by
  refine szStringS_wp hm hin (tP (by omega) rfl) fun hl m hm => tN (by omega) ?_
  have h20 := hl.1
  exact toStringS_wp h20 (spec_jo hl (toStringS_wp h20 (impl_jo hl (tP rfl (tB (toStringS_wp h20 (eqStringS_wp (by omega) (tT rfl))))))))

end Go.Proofs.YtecdkjnomkdbkaaDoor.G

