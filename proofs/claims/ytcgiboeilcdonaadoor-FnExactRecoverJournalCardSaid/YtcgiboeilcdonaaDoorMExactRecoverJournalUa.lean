/-
  What the formulas say, over numbers and lists alone. Nothing here is trusted.
-/
import Derived.Test.YtcgiboeilcdonaaDoorMExactRecoverJournalWa
import Derived.Lib.ItoaLen
namespace Go.Proofs.YtcgiboeilcdonaaDoor.G
open Go Go.Ab
set_option maxRecDepth 100000
set_option linter.unusedVariables false
set_option linter.unusedSimpArgs false
set_option maxHeartbeats 1000000
/-! ### truth -/
theorem tT {A B : Prop} (h : A) : (true = true → A) ∧ (true = false → B) := ⟨fun _ => h, fun c => (by cases c)⟩
theorem tF {A B : Prop} (h : B) : (false = true → A) ∧ (false = false → B) := ⟨fun c => (by cases c), fun _ => h⟩
theorem tB {A B : Prop} {b : Bool} (h : A) : ((b == b) = true → A) ∧ ((b == b) = false → B) := ⟨fun _ => h, fun c => (by simp at c)⟩
theorem tE {A B : Prop} {b : Bool} (e : b = true) (h : A) : (b = true → A) ∧ (b = false → B) := ⟨fun _ => h, fun c => (by rw [e] at c; cases c)⟩
theorem tG {A B : Prop} {b : Bool} (e : b = false) (h : B) : (b = true → A) ∧ (b = false → B) := ⟨fun c => (by rw [e] at c; cases c), fun _ => h⟩
theorem tP {p A B : Prop} (e : p) (h : A) : (p → A) ∧ (¬p → B) := ⟨fun _ => h, fun c => absurd e c⟩
theorem tN {p A B : Prop} (e : ¬p) (h : B) : (p → A) ∧ (¬p → B) := ⟨fun c => absurd c e, fun _ => h⟩
theorem tI {b : Bool} {K : Bool → Prop} {A B : Prop} (h1 : b = true → A) (h2 : b = false → B) : (b = true → A) ∧ (b = false → B) := ⟨h1, h2⟩
/-! ### loops -/
theorem up {Y : Nat → Prop} (n : Nat) (last : Y n) (step : ∀ i, i < n → Y (i + 1) → Y i) : Y 0 := by
  have key : ∀ d i, i + d = n → Y i := by
    intro d
    induction d with
    | zero => intro i h; obtain rfl : i = n := by omega
              exact last
    | succ d ih => intro i h; exact step i (by omega) (ih (i + 1) (by omega))
  exact key n 0 (by omega)
theorem upFrom {Y : Nat → Prop} (k n : Nat) (hk : k ≤ n) (last : Y n) (step : ∀ i, k ≤ i → i < n → Y (i + 1) → Y i) : Y k := by
  have key : ∀ d i, k ≤ i → i + d = n → Y i := by
    intro d
    induction d with
    | zero => intro i _ h; obtain rfl : i = n := by omega
              exact last
    | succ d ih => intro i h0 h; exact step i h0 (by omega) (ih (i + 1) (by omega) (by omega))
  exact key (n - k) k (Nat.le_refl _) (by omega)
theorem w1 {i : Nat} (h : i < 4611686018427387904) : IntKind.i64.wrap ((i : Int) + (1 : Int)) = ((i + 1 : Nat) : Int) := wrap_succ (by omega)
theorem wI {n : Int} (h : -9223372036854775808 ≤ n ∧ n < 9223372036854775808) : IntKind.i64.wrap n = n := wrap_i64 h.1 h.2
theorem nn (i : Nat) : ((i : Int)).toNat = i := rfl
theorem gD {α : Type} {l : List α} {i : Nat} (h : i < l.length) (d : α) : l.getD i d = l[i] := by rw [List.getD_eq_getElem?_getD, List.getElem?_eq_getElem h]; rfl
theorem dropC {α : Type} {l : List α} {i : Nat} (h : i < l.length) : l.drop i = l[i] :: l.drop (i + 1) := List.drop_eq_getElem_cons h
theorem len1 {α : Type} (a : α) : ([a] : List α).length = 1 := rfl
theorem cz32 (n : Nat) (h : (FloatKind.f32.decode n).isNaN = false) : cz .f32 n = n := by simp [cz, h]
theorem c0_32 : cz .f32 0 = 0 := cz_zero32
theorem c0_64 : cz .f64 0 = 0 := cz_zero64
/-! ### copies, comparisons, marks -/
theorem toFloat32S_wp {l : List Nat} {K : List Nat → Prop} (hl : l.length ≤ 2 ^ 20) (h : K l) : laws_toFloat32S.wp l K := by
  refine ⟨⟨by omega, by omega, by omega, by omega⟩, fun X hX => ?_⟩
  have key : X (l.take 0 ++ List.replicate (l.length - 0) (0 : Nat)) ((0 : Nat) : Int) := by
    refine up (Y := fun i => X (l.take i ++ List.replicate (l.length - i) (0 : Nat)) (i : Int)) l.length ?_ fun i hi hn => ?_
    · refine hX _ _ ⟨fun c => absurd c (by omega), fun _ => ?_⟩
      rw [List.take_length, Nat.sub_self, List.replicate_zero, List.append_nil]; exact h
    · refine hX _ _ ⟨fun _ => ⟨⟨by omega, by omega⟩, ⟨by omega, ?_⟩, ?_⟩, fun c => absurd (show (i : Int) < l.length by omega) c⟩
      · rw [List.length_append, List.length_take, List.length_replicate]; omega
      · rw [nn, w1 (by omega), gD hi, set_fill (0 : Nat) (by omega) hi]
        exact hn
  rw [List.take_zero, List.nil_append, Nat.sub_zero] at key; exact key
theorem toBoolS_wp {l : List Bool} {K : List Bool → Prop} (hl : l.length ≤ 2 ^ 20) (h : K l) : laws_toBoolS.wp l K := by
  refine ⟨⟨by omega, by omega, by omega, by omega⟩, fun X hX => ?_⟩
  have key : X (l.take 0 ++ List.replicate (l.length - 0) false) ((0 : Nat) : Int) := by
    refine up (Y := fun i => X (l.take i ++ List.replicate (l.length - i) false) (i : Int)) l.length ?_ fun i hi hn => ?_
    · refine hX _ _ ⟨fun c => absurd c (by omega), fun _ => ?_⟩
      rw [List.take_length, Nat.sub_self, List.replicate_zero, List.append_nil]; exact h
    · refine hX _ _ ⟨fun _ => ⟨⟨by omega, by omega⟩, ⟨by omega, ?_⟩, ?_⟩, fun c => absurd (show (i : Int) < l.length by omega) c⟩
      · rw [List.length_append, List.length_take, List.length_replicate]; omega
      · rw [nn, w1 (by omega), gD hi, set_fill false (by omega) hi]
        exact hn
  rw [List.take_zero, List.nil_append, Nat.sub_zero] at key; exact key
theorem sameFloat_wp {a : Nat} {K : Bool → Prop} (h : K true) : laws_sameFloat.wp a a K := by
  rcases order_self Ieee.double a with ho | ho
  · have e : fcmp .neq .f64 a a = true := by simp [fcmp, FloatKind.format, ho]
    exact tE e (by rw [e]; exact h)
  · have e : fcmp .neq .f64 a a = false := by simp [fcmp, FloatKind.format, ho]
    have e2 : fcmp .eql .f64 a a = true := by simp [fcmp, FloatKind.format, ho]
    refine tG e (tG e ⟨fun c => ⟨fun _ => by rw [BEq.rfl]; exact h, fun c2 => (by rw [c] at c2; cases c2)⟩, fun _ => by rw [e2]; exact h⟩)
theorem eqFloat32S_wp {l : List Nat} {K : Bool → Prop} (hl : l.length ≤ 2 ^ 20) (h : K true) : laws_eqFloat32S.wp l l K := by
  refine tP rfl fun X hX => ?_
  refine up (Y := fun i => X (i : Int)) l.length ?_ fun i hi hn => ?_
  · exact hX _ ⟨fun c => absurd c (by omega), fun _ => h⟩
  · refine hX _ ⟨fun _ => ⟨⟨by omega, by omega⟩, ⟨by omega, by omega⟩, sameFloat_wp (tT ?_)⟩, fun c => absurd (show (i : Int) < l.length by omega) c⟩
    rw [w1 (by omega)]; exact hn
theorem eqBoolS_wp {l : List Bool} {K : Bool → Prop} (hl : l.length ≤ 2 ^ 20) (h : K true) : laws_eqBoolS.wp l l K := by
  refine tP rfl fun X hX => ?_
  refine up (Y := fun i => X (i : Int)) l.length ?_ fun i hi hn => ?_
  · exact hX _ ⟨fun c => absurd c (by omega), fun _ => h⟩
  · refine hX _ ⟨fun _ => ⟨⟨by omega, by omega⟩, ⟨by omega, by omega⟩, tB ?_⟩, fun c => absurd (show (i : Int) < l.length by omega) c⟩
    rw [w1 (by omega)]; exact hn
theorem markFloat32S_wp {l : List Nat} {k : Nat} {K : Int → List Nat → Prop} (hl : l.length ≤ 2 ^ 20) (hk : k ≤ 2 ^ 40) (h : K ((k + l.length : Nat) : Int) (marks k l.length)) : laws_markFloat32S.wp l (k : Int) K := by
  intro X hX
  have key : X (marks k 0 ++ l.drop 0) ((k + 0 : Nat) : Int) ((0 : Nat) : Int) := by
    refine up (Y := fun i => X (marks k i ++ l.drop i) ((k + i : Nat) : Int) (i : Int)) l.length ?_ fun i hi hn => ?_
    · refine hX _ _ _ ⟨fun c => absurd c (by rw [List.length_append, marks_length, List.length_drop]; omega), fun _ => ?_⟩
      rw [List.drop_length, List.append_nil]; exact h
    · have hlen : (marks k i ++ l.drop i).length = l.length := by rw [List.length_append, marks_length, List.length_drop]; omega
      refine hX _ _ _ ⟨fun _ => ⟨⟨by omega, by rw [hlen]; omega⟩, ?_⟩, fun c => absurd (show (i : Int) < _ by rw [hlen]; omega) c⟩
      rw [nn, w1 (by omega), w1 (by omega)]
      have e := marks_step (l := l) (i := i) (m := l.length - i) k (by omega) hi
      rw [show (k : Int) + (i : Int) = ((k + i : Nat) : Int) by omega] at e
      rw [show itof .f32 ((k + i : Nat) : Int) = fl ((k + i : Nat) : Int) from rfl]
      rw [e]; exact hn
  exact key
theorem heldFloat32S_wp {k n : Nat} {K : Int → Prop} (hl : n ≤ 2 ^ 20) (hk : k ≤ 2 ^ 40) (h : K ((k + n : Nat) : Int)) : laws_heldFloat32S.wp (marks k n) (k : Int) K := by
  intro X hX
  have hlen : (marks k n).length = n := marks_length _ _
  have key : X ((k + 0 : Nat) : Int) ((0 : Nat) : Int) := by
    refine up (Y := fun i => X ((k + i : Nat) : Int) (i : Int)) n ?_ fun i hi hn => ?_
    · exact hX _ _ ⟨fun c => absurd c (by omega), fun _ => h⟩
    · refine hX _ _ ⟨fun _ => ⟨⟨by omega, by omega⟩, ?_⟩, fun c => absurd (show (i : Int) < _ by omega) c⟩
      rw [nn, gD (by omega), marks_at k n i (by omega), show (k : Int) + (i : Int) = ((k + i : Nat) : Int) by omega]
      refine tG (show fcmp .neq .f32 (fl ((k + i : Nat) : Int)) (itof .f32 ((k + i : Nat) : Int)) = false from fl_neq _) ?_
      rw [w1 (by omega), w1 (by omega)]; exact hn
  exact key

end Go.Proofs.YtcgiboeilcdonaaDoor.G

namespace Go.Proofs.YtcgiboeilcdonaaDoor.G
open Go Go.Ab
set_option maxRecDepth 100000
set_option linter.unusedVariables false
set_option linter.unusedSimpArgs false
set_option maxHeartbeats 1000000
theorem nums_len (l : List UInt8) : (nums l).length = l.length := by simp [nums]
theorem byts_len (l : List Int) : (byts l).length = l.length := by simp [byts]
def chkTo : List UInt8 → Nat → Nat
  | [], n => n
  | c :: l, n => chkTo l ((853 * n + c.toNat + 139) % 65003)
theorem chkTo_lt : ∀ (l : List UInt8) (n : Nat), n < 65003 → chkTo l n < 65003
  | [], n, h => h
  | c :: l, n, h => chkTo_lt l _ (Nat.mod_lt _ (by decide))
theorem chk_loop (a : List UInt8) {X : Int → Int → Prop} (hX : ∀ n i : Nat, n < 65003 → ∀ hi : i < a.length, X (((853 * n + (a[i]).toNat + 139) % 65003 : Nat) : Int) ((i + 1 : Nat) : Int) → X n i) (n : Nat) (hn : n < 65003) (hend : X (chkTo a n : Nat) (a.length : Int)) : X (n : Int) ((0 : Nat) : Int) := by
  have key : ∀ (m i n : Nat), m + i = a.length → n < 65003 → chkTo (a.drop i) n = chkTo a (chkTo [] 0 + 0) ∨ True → X (chkTo (a.drop i) n : Nat) (a.length : Int) → X (n : Int) (i : Int) := by
    intro m
    induction m with
    | zero => intro i n h1 h2 _ h3
              obtain rfl : i = a.length := by omega
              rw [List.drop_length] at h3; exact h3
    | succ m ih =>
      intro i n h1 h2 _ h3
      have hi : i < a.length := by omega
      rw [dropC hi] at h3
      exact hX n i h2 hi (ih (i + 1) _ (by omega) (Nat.mod_lt _ (by decide)) (.inr trivial) h3)
  exact key a.length 0 n (by omega) hn (.inr trivial) hend
theorem chk_step (n b : Nat) (hn : n < 65003) (hb : b < 256) : Int.tmod (IntKind.i64.wrap ((IntKind.i64.wrap ((IntKind.i64.wrap (853 * (n : Int))) + (IntKind.i64.wrap ((b : Nat) : Int)))) + 139)) 65003 = ((((853 * n + b + 139) % 65003 : Nat)) : Int) := by
  rw [wI (n := 853 * (n : Int)) (by omega), wI (n := (b : Int)) (by omega), wI (n := 853 * (n : Int) + (b : Int)) (by omega), wI (n := 853 * (n : Int) + (b : Int) + 139) (by omega), Int.tmod_eq_emod_of_nonneg (by omega)]
  omega
theorem bt_at {a : List UInt8} {i : Nat} (hi : i < a.length) : bt a (i : Int) = ((a[i]).toNat : Int) := by
  unfold bt; rw [nn, gD hi]
theorem spec_l01Check_wp {n : Nat} {a : List UInt8} {K : Int → Prop} (ha : a.length ≤ 2 ^ 40) (hn : n < 65003) (h : K (chkTo a n : Nat)) : spec_l01Check.wp (n : Int) a K := by
  intro X hX
  refine chk_loop a (X := X) (fun n i hn hi h2 => hX _ _ ⟨fun _ => ⟨⟨by omega, by omega⟩, ?_⟩, fun c => absurd (show (i : Int) < a.length by omega) c⟩) n hn (hX _ _ ⟨fun c => absurd c (by omega), fun _ => h⟩)
  rw [bt_at hi, chk_step n _ hn (UInt8.toNat_lt _), w1 (by omega)]; exact h2
theorem impl_within_chk {a b c : Int} {K : Bool → Prop} (h1 : b ≤ a) (h2 : a ≤ c) (h : K true) : impl_within.wp a b c K := ⟨fun _ => by rw [decide_eq_true h2]; exact h, fun e => absurd h1 e⟩
theorem impl_CheckOf_wp {n : Nat} {a : List UInt8} {K : Int → Bool → Prop} (ha : a.length ≤ 2 ^ 40) (hn : n < 65003) (h : K (chkTo a n : Nat) true) : impl_CheckOf.wp (n : Int) a K := by
  refine impl_within_chk (by omega) (by omega) (tT fun X hX => ?_)
  refine chk_loop a (X := X) (fun n i hn hi h2 => hX _ _ ⟨fun _ => ⟨⟨by omega, by omega⟩, ?_⟩, fun c => absurd (show (i : Int) < a.length by omega) c⟩) n hn (hX _ _ ⟨fun c => absurd c (by omega), fun _ => h⟩)
  rw [bt_at hi, chk_step n _ hn (UInt8.toNat_lt _), w1 (by omega)]; exact h2

end Go.Proofs.YtcgiboeilcdonaaDoor.G

namespace Go.Proofs.YtcgiboeilcdonaaDoor.G
open Go Go.Ab
set_option maxRecDepth 100000
set_option linter.unusedVariables false
set_option linter.unusedSimpArgs false
set_option maxHeartbeats 1000000
def dd (n : Nat) : List UInt8 := if n = 0 then [] else Lib.decDigits n
theorem dd_step (n : Nat) : Lib.decDigits n = dd (n / 10) ++ [UInt8.ofNat (48 + n % 10)] := by
  rw [Lib.decDigits]
  by_cases h : n < 10
  · rw [dif_pos h, dd, if_pos (by omega), Nat.mod_eq_of_lt h]; rfl
  · rw [dif_neg h, dd, if_neg (by omega)]
theorem dd_zero : dd 0 = [] := rfl
theorem dd_pos {n : Nat} (h : n ≠ 0) : dd n = dd (n / 10) ++ [UInt8.ofNat (48 + n % 10)] := by
  conv => lhs; rw [dd, if_neg h]
  exact dd_step n
theorem numsC (b : UInt8) (l : List UInt8) : nums (b :: l) = (b.toNat : Int) :: nums l := rfl
theorem nums_length (l : List UInt8) : (nums l).length = l.length := by simp [nums]
theorem byts_nums (l : List UInt8) : byts (nums l) = l := by
  induction l with
  | nil => rfl
  | cons b l ih =>
    show UInt8.ofNat ((b.toNat : Int)).toNat :: byts (nums l) = _
    rw [ih, Int.toNat_natCast, UInt8.ofNat_toNat]
def sgn (b : Bool) (n : Nat) : Int := bif b then -(n : Int) else n
theorem sgn_of (z : Int) : z = sgn (decide (z < 0)) z.natAbs := by
  unfold sgn
  by_cases h : z < 0
  · rw [decide_eq_true h, cond_true]; omega
  · rw [decide_eq_false h, cond_false]; omega
theorem tmodN (n m : Nat) : Int.tmod (n : Int) (m : Int) = ((n % m : Nat) : Int) := by rw [Int.tmod_eq_emod_of_nonneg (by omega)]; omega
theorem tdivN' (n m : Nat) : Int.tdiv (n : Int) (m : Int) = ((n / m : Nat) : Int) := by rw [Int.tdiv_eq_ediv_of_nonneg (by omega)]; omega
theorem tmod_sgn (b : Bool) (n : Nat) : Int.tmod (sgn b n) 10 = sgn b (n % 10) := by
  cases b
  · exact tmodN n 10
  · show Int.tmod (-(n : Int)) 10 = -((n % 10 : Nat) : Int)
    rw [Int.neg_tmod, show (10 : Int) = ((10 : Nat) : Int) from rfl, tmodN]
theorem tdiv_sgn (b : Bool) (n : Nat) : Int.tdiv (sgn b n) 10 = sgn b (n / 10) := by
  cases b
  · exact tdivN' n 10
  · show Int.tdiv (-(n : Int)) 10 = -((n / 10 : Nat) : Int)
    rw [Int.neg_tdiv, show (10 : Int) = ((10 : Nat) : Int) from rfl, tdivN']
theorem sgn_le (b : Bool) (n : Nat) : -(n : Int) ≤ sgn b n ∧ sgn b n ≤ n := by cases b <;> simp only [sgn, cond_true, cond_false] <;> omega
theorem u8W (n : Nat) (h : n < 256) : IntKind.u8.wrap (n : Int) = (n : Int) := by
  simp only [IntKind.wrap, IntKind.signed, IntKind.bits]
  simp
  omega
theorem digW (n : Nat) : IntKind.u8.wrap (IntKind.i64.wrap ((48 : Int) + ((n % 10 : Nat) : Int))) = ((UInt8.ofNat (48 + n % 10)).toNat : Int) := by
  rw [wI (by omega), show (48 : Int) + ((n % 10 : Nat) : Int) = ((48 + n % 10 : Nat) : Int) by omega, u8W _ (by omega)]
  show _ = (((48 + n % 10) % 256 : Nat) : Int)
  omega
theorem stepDec {X : List Int → Int → Prop} (b : Bool) (r : Nat) (ds : List UInt8) (hr : r ≤ 2 ^ 62) (hd : ds.length ≤ 100) (h : X (nums (UInt8.ofNat (48 + r % 10) :: ds)) (sgn b (r / 10))) :
    (((Int.tmod (sgn b r) (10 : Int)) < (0 : Int) → ((([(IntKind.u8.wrap (IntKind.i64.wrap ((48 : Int) + (IntKind.i64.wrap (0 - (Int.tmod (sgn b r) (10 : Int)))))))] : List (Int)).length + (nums ds).length) * 1 ≤ 2 ^ 40) ∧ X (([(IntKind.u8.wrap (IntKind.i64.wrap ((48 : Int) + (IntKind.i64.wrap (0 - (Int.tmod (sgn b r) (10 : Int)))))))] : List (Int)) ++ nums ds) (IntKind.i64.wrap (Int.tdiv (sgn b r) (10 : Int)))) ∧ (¬((Int.tmod (sgn b r) (10 : Int)) < (0 : Int)) → ((([(IntKind.u8.wrap (IntKind.i64.wrap ((48 : Int) + (Int.tmod (sgn b r) (10 : Int)))))] : List (Int)).length + (nums ds).length) * 1 ≤ 2 ^ 40) ∧ X (([(IntKind.u8.wrap (IntKind.i64.wrap ((48 : Int) + (Int.tmod (sgn b r) (10 : Int)))))] : List (Int)) ++ nums ds) (IntKind.i64.wrap (Int.tdiv (sgn b r) (10 : Int))))) := by
  have hs := sgn_le b (r / 10)
  rw [tmod_sgn, tdiv_sgn, wI (n := sgn b (r / 10)) (by omega), nums_length]
  rw [numsC] at h
  refine ⟨fun c => ⟨by rw [len1]; omega, ?_⟩, fun c => ⟨by rw [len1]; omega, ?_⟩⟩
  · have e : (0 : Int) - sgn b (r % 10) = ((r % 10 : Nat) : Int) := by cases b <;> simp only [sgn, cond_true, cond_false] at c ⊢ <;> omega
    rw [e, wI (n := ((r % 10 : Nat) : Int)) (by omega), digW]; exact h
  · have e : sgn b (r % 10) = ((r % 10 : Nat) : Int) := by cases b <;> simp only [sgn, cond_true, cond_false] at c ⊢ <;> omega
    rw [e, digW]; exact h
theorem dec_len (n : Nat) (h : n ≤ 2 ^ 62) : (Lib.decDigits n).length ≤ 21 := by
  have := Lib.itoa_length_le (n : Int) (by omega) (by omega)
  rwa [Lib.itoa, if_neg (by omega), Int.toNat_natCast] at this
theorem itoa_len (n : Int) (h : -2 ^ 62 ≤ n ∧ n ≤ 2 ^ 62) : (Lib.itoa n).length ≤ 21 := Lib.itoa_length_le n (by omega) (by omega)
theorem spec_l01Dec_wp {n : Int} {K : List UInt8 → Prop} (hn : -2 ^ 62 ≤ n ∧ n ≤ 2 ^ 62) (h : K (Lib.itoa n)) : spec_l01Dec.wp n K := by
  intro X hX
  have hN : n.natAbs ≤ 2 ^ 62 := by omega
  have hl := dec_len _ hN
  have loop : ∀ (m r : Nat) (ds : List UInt8), r ≤ m → ds ≠ [] → r ≤ 2 ^ 62 → dd r ++ ds = Lib.decDigits n.natAbs → X (nums ds) (sgn (decide (n < 0)) r) := by
    intro m
    induction m with
    | zero =>
      intro r ds hr hds h1 h2
      obtain rfl : r = 0 := by omega
      have hz : ¬ (((nums ds).length : Int) = 0) := by rw [nums_length]; have := List.length_pos_iff.2 hds; omega
      have e0 : sgn (decide (n < 0)) 0 = 0 := by cases decide (n < 0) <;> rfl
      refine hX _ _ ⟨fun c => absurd c hz, fun _ => ⟨fun _ => ?_, fun c => absurd e0 c⟩⟩
      rw [dd_zero, List.nil_append] at h2
      subst h2
      unfold Lib.itoa at h
      refine ⟨fun c => ⟨by rw [len1, nums_length]; omega, ?_⟩, fun c => ?_⟩
      · rw [if_pos c] at h
        rw [show ([(45 : Int)] : List Int) ++ nums (Lib.decDigits n.natAbs) = nums (45 :: Lib.decDigits n.natAbs) from rfl, byts_nums]; exact h
      · rw [if_neg c, show n.toNat = n.natAbs by omega] at h
        rw [byts_nums]; exact h
    | succ m ih =>
      intro r ds hr hds h1 h2
      by_cases hz0 : r = 0
      · exact ih r ds (by omega) hds h1 h2
      have hz : ¬ (((nums ds).length : Int) = 0) := by rw [nums_length]; have := List.length_pos_iff.2 hds; omega
      have hdl : ds.length ≤ 21 := by rw [← h2, List.length_append] at hl; omega
      refine hX _ _ ⟨fun c => absurd c hz, fun _ => ⟨fun c => ?_, fun _ => stepDec _ r ds h1 (by omega) (ih _ _ (by omega) (by simp) (by omega) ?_)⟩⟩
      · exfalso; cases hb : decide (n < 0) <;> rw [hb] at c <;> simp only [sgn, cond_true, cond_false] at c <;> omega
      · rw [← h2, dd_pos hz0, List.append_assoc]; rfl
  have first : X (nums []) (sgn (decide (n < 0)) n.natAbs) := by
    refine hX _ _ ⟨fun _ => stepDec _ _ [] hN (by decide) (loop _ _ _ (Nat.le_refl _) (by simp) (by omega) (dd_step _).symm), fun c => absurd rfl c⟩
  rw [← sgn_of] at first
  exact first
/-- The mark of a text. -/
def mkT (k : Nat) : List UInt8 := if k = 0 then [109, 48] else 109 :: dd k
theorem markText_wp {k : Nat} {K : List UInt8 → Prop} (hk : k ≤ 2 ^ 50) (h : K (mkT k)) : laws_markText.wp (k : Int) K := by
  unfold mkT at h
  have hl := dec_len k (by omega)
  refine ⟨fun c => ?_, fun c X hX => ?_⟩
  · rw [if_pos (by omega)] at h; exact h
  · rw [if_neg (by omega)] at h
    have loop : ∀ (m r : Nat) (ds : List UInt8), r ≤ m → r ≤ 2 ^ 50 → dd r ++ ds = dd k → X (r : Int) ds := by
      intro m
      induction m with
      | zero =>
        intro r ds hr h1 h2
        obtain rfl : r = 0 := by omega
        rw [dd_zero, List.nil_append] at h2
        have : ds.length ≤ 21 := by rw [h2, dd, if_neg (by omega)]; exact hl
        refine hX _ _ ⟨fun c => absurd c (by omega), fun _ => ⟨by rw [len1]; omega, ?_⟩⟩
        rw [h2]; exact h
      | succ m ih =>
        intro r ds hr h1 h2
        by_cases hz0 : r = 0
        · exact ih r ds (by omega) h1 h2
        have hdl : ds.length ≤ 21 := by
          have : (dd k).length ≤ 21 := by rw [dd, if_neg (by omega)]; exact hl
          rw [← h2, List.length_append] at this; omega
        have e : byts ([(IntKind.u8.wrap (IntKind.i64.wrap ((48 : Int) + (Int.tmod (r : Int) (10 : Int)))))] : List (Int)) = [UInt8.ofNat (48 + r % 10)] := by
          rw [show (10 : Int) = ((10 : Nat) : Int) from rfl, tmodN, digW]
          exact byts_nums [UInt8.ofNat (48 + r % 10)]
        refine hX _ _ ⟨fun _ => ?_, fun c => absurd (show (0 : Int) < r by omega) c⟩
        rw [e, show (10 : Int) = ((10 : Nat) : Int) from rfl, tdivN', wI (by omega), len1]
        refine ⟨by omega, ih _ _ (by omega) (by omega) ?_⟩
        rw [← h2, dd_pos hz0, List.append_assoc]
    have := loop k k [] (Nat.le_refl _) hk (List.append_nil _)
    exact this

end Go.Proofs.YtcgiboeilcdonaaDoor.G

namespace Go.Proofs.YtcgiboeilcdonaaDoor.G
open Go Go.Ab
set_option maxRecDepth 100000
set_option linter.unusedVariables false
set_option linter.unusedSimpArgs false
set_option maxHeartbeats 1000000
def mS (k n : Nat) : List (List UInt8) := (List.range n).map fun i => mkT (k + i)
theorem mS_len (k n : Nat) : (mS k n).length = n := by simp [mS]
theorem mS_at (k n i : Nat) (h : i < n) : (mS k n)[i]? = some (mkT (k + i)) := by simp [mS, h]
theorem mS_succ (k n : Nat) : mS k (n + 1) = mS k n ++ [mkT (k + n)] := by simp [mS, List.range_succ]
theorem eqStringS_wp {l : List (List UInt8)} {K : Bool → Prop} (hl : l.length ≤ 2 ^ 40) (h : K true) : laws_eqStringS.wp l l K := by
  refine tP rfl fun X hX => ?_
  refine up (Y := fun i => X (i : Int)) l.length ?_ fun i hi hn => ?_
  · exact hX _ ⟨fun c => absurd c (by omega), fun _ => h⟩
  · refine hX _ ⟨fun _ => ⟨⟨by omega, by omega⟩, ⟨by omega, by omega⟩, tP rfl ?_⟩, fun c => absurd (show (i : Int) < l.length by omega) c⟩
    rw [w1 (by omega)]; exact hn
theorem markStringS_wp {l : List (List UInt8)} {k : Nat} {K : Int → List (List UInt8) → Prop} (hl : l.length ≤ 2 ^ 40) (hk : k ≤ 2 ^ 40) (h : K ((k + l.length : Nat) : Int) (mS k l.length)) : laws_markStringS.wp l (k : Int) K := by
  intro X hX
  have key : X (mS k 0 ++ l.drop 0) ((k + 0 : Nat) : Int) ((0 : Nat) : Int) := by
    refine up (Y := fun i => X (mS k i ++ l.drop i) ((k + i : Nat) : Int) (i : Int)) l.length ?_ fun i hi hn => ?_
    · refine hX _ _ _ ⟨fun c => absurd c (by rw [List.length_append, mS_len, List.length_drop]; omega), fun _ => ?_⟩
      rw [List.drop_length, List.append_nil]; exact h
    · have hlen : (mS k i ++ l.drop i).length = l.length := by rw [List.length_append, mS_len, List.length_drop]; omega
      refine hX _ _ _ ⟨fun _ => markText_wp (by omega) ⟨⟨by omega, by rw [hlen]; omega⟩, ?_⟩, fun c => absurd (show (i : Int) < _ by rw [hlen]; omega) c⟩
      rw [nn, w1 (by omega), w1 (by omega)]
      have e : (mS k i ++ l.drop i).set i (mkT (k + i)) = mS k (i + 1) ++ l.drop (i + 1) := by
        rw [dropC hi, mS_succ, List.append_assoc, List.set_append_right _ _ (by rw [mS_len]; omega), mS_len, Nat.sub_self]; rfl
      rw [e]; exact hn
  exact key
theorem heldStringS_wp {k n : Nat} {K : Int → Prop} (hl : n ≤ 2 ^ 40) (hk : k ≤ 2 ^ 40) (h : K ((k + n : Nat) : Int)) : laws_heldStringS.wp (mS k n) (k : Int) K := by
  intro X hX
  have hlen : (mS k n).length = n := mS_len _ _
  have key : X ((k + 0 : Nat) : Int) ((0 : Nat) : Int) := by
    refine up (Y := fun i => X ((k + i : Nat) : Int) (i : Int)) n ?_ fun i hi hn => ?_
    · exact hX _ _ ⟨fun c => absurd c (by omega), fun _ => h⟩
    · refine hX _ _ ⟨fun _ => ⟨⟨by omega, by omega⟩, markText_wp (by omega) ?_⟩, fun c => absurd (show (i : Int) < _ by omega) c⟩
      rw [nn]
      have e : (mS k n).getD i [] = mkT (k + i) := by rw [List.getD_eq_getElem?_getD, mS_at k n i hi]; rfl
      refine tP e ?_
      rw [w1 (by omega), w1 (by omega)]; exact hn
  exact key

end Go.Proofs.YtcgiboeilcdonaaDoor.G

namespace Go.Proofs.YtcgiboeilcdonaaDoor.G
open Go Go.Ab
set_option maxRecDepth 100000
set_option linter.unusedVariables false
set_option linter.unusedSimpArgs false
set_option maxHeartbeats 1000000
/-- The pieces of a text between the bytes c; cur: what has been read of the first. -/
def cutF (c : UInt8) : List UInt8 → List UInt8 → List (List UInt8)
  | cur, [] => [cur]
  | cur, b :: l => if b = c then cur :: cutF c [] l else cutF c (cur ++ [b]) l
def cutL (c : UInt8) (l : List UInt8) : List (List UInt8) := cutF c [] l
theorem cutF_len (c : UInt8) : ∀ (cur l : List UInt8), (cutF c cur l).length = l.count c + 1
  | cur, [] => rfl
  | cur, b :: l => by
    rw [cutF, List.count_cons]
    by_cases h : b = c
    · rw [if_pos h, List.length_cons, cutF_len c [] l, if_pos (by simp [h])]
    · rw [if_neg h, cutF_len c _ l, if_neg (by simp [h]), Nat.add_zero]
theorem cutF_none (c : UInt8) : ∀ (cur l : List UInt8), l.count c = 0 → cutF c cur l = [cur ++ l]
  | cur, [], _ => by rw [cutF, List.append_nil]
  | cur, b :: l, h => by
    rw [List.count_cons] at h
    by_cases hb : b = c
    · rw [if_pos (by simp [hb])] at h; omega
    · rw [if_neg (by simp [hb])] at h
      rw [cutF, if_neg hb, cutF_none c _ l (by omega), List.append_assoc]; rfl
/-- The first c. -/
theorem idx_spec (c : UInt8) : ∀ (l : List UInt8), (Lib.indexByte l c = -1 ∧ l.count c = 0) ∨ ∃ m : Nat, Lib.indexByte l c = m ∧ m < l.length ∧ (l.take m).count c = 0 ∧ l[m]? = some c
  | [] => .inl ⟨rfl, rfl⟩
  | b :: l => by
    rw [Lib.indexByte]
    by_cases hb : b = c
    · right
      refine ⟨0, by rw [if_pos (by simp [hb])]; rfl, by simp, rfl, by simp [hb]⟩
    · rw [if_neg (by simp [hb])]
      rcases idx_spec c l with ⟨h1, h2⟩ | ⟨m, h1, h2, h3, h4⟩
      · left
        rw [h1]
        exact ⟨rfl, by rw [List.count_cons, if_neg (by simp [hb])]; omega⟩
      · right
        refine ⟨m + 1, ?_, by simp; omega, ?_, by simpa using h4⟩
        · rw [h1, if_neg (by simp)] <;> rfl
        · rw [List.take_succ_cons, List.count_cons, if_neg (by simp [hb])]; omega
theorem cutF_idx (c : UInt8) : ∀ (cur l : List UInt8) (m : Nat), m < l.length → (l.take m).count c = 0 → l[m]? = some c → cutF c cur l = (cur ++ l.take m) :: cutF c [] (l.drop (m + 1))
  | cur, b :: l, 0, _, _, h => by
    have : b = c := by simpa using h
    rw [cutF, if_pos this, List.take_zero, List.append_nil]; rfl
  | cur, b :: l, m + 1, h1, h2, h3 => by
    rw [List.take_succ_cons, List.count_cons] at h2
    have hb : ¬ b = c := fun e => by rw [if_pos (by simp [e])] at h2; omega
    rw [if_neg (by simp [hb])] at h2
    rw [cutF, if_neg hb, cutF_idx c _ l m (by simpa using h1) (by omega) (by simpa using h3), List.append_assoc]
    rfl
theorem count_idx (c : UInt8) (l : List UInt8) (m : Nat) (h1 : m < l.length) (h2 : (l.take m).count c = 0) (h3 : l[m]? = some c) : l.count c = (l.drop (m + 1)).count c + 1 := by
  have e : l = l.take m ++ l[m] :: l.drop (m + 1) := by rw [← List.drop_eq_getElem_cons h1, List.take_append_drop]
  have e2 : l[m] = c := by rw [List.getElem?_eq_getElem h1] at h3; exact Option.some.inj h3
  rw [e2] at e
  conv => lhs; rw [e]
  rw [List.count_append, List.count_cons, if_pos (by simp), h2]; omega
def cutI (l : List UInt8) : List (List UInt8) := (cutL 10 l).take ((cutL 10 l).length - 1)
def cutE (l : List UInt8) : List UInt8 := (cutL 10 l).getD ((cutL 10 l).length - 1) []
theorem cutL_len (l : List UInt8) (hl : l.length ≤ 2 ^ 20) : 1 ≤ (cutL 10 l).length ∧ (cutL 10 l).length ≤ 2 ^ 20 + 1 := by
  have h : (cutL 10 l).length = l.count 10 + 1 := cutF_len ..
  have := List.count_le_length (a := (10 : UInt8)) (l := l)
  omega
theorem spec_l01Cut_wp {l : List UInt8} {c : UInt8} {K : List (List UInt8) → Prop} (hl : l.length ≤ 2 ^ 20) (h : K (cutL c l)) : spec_l01Cut.wp l (c.toNat : Int) K := by
  intro X hX
  have hlen : (cutL c l).length ≤ 2 ^ 20 + 1 := by unfold cutL; rw [cutF_len]; have := List.count_le_length (a := c) (l := l); omega
  have key : ∀ (m i fr : Nat) (out : List (List UInt8)), i + m = l.length → fr ≤ i → out ++ cutF c ((l.drop fr).take (i - fr)) (l.drop i) = cutL c l → X out (fr : Int) (i : Int) := by
    intro m
    induction m with
    | zero =>
      intro i fr out h1 h2 h3
      obtain rfl : i = l.length := by omega
      rw [List.drop_of_length_le (Nat.le_refl _), cutF] at h3
      have ho : out.length + 1 = (cutL c l).length := by rw [← h3, List.length_append]; rfl
      refine hX _ _ _ ⟨fun _ => ⟨fun _ => ⟨by omega, by rw [len1]; omega, ?_⟩, fun c => absurd rfl c⟩, fun c => absurd (Int.le_refl _) c⟩
      rw [w1 (by omega), nn, nn, h3]
      exact hX _ _ _ ⟨fun c => absurd c (by omega), fun _ => h⟩
    | succ m ih =>
      intro i fr out h1 h2 h3
      have hi : i < l.length := by omega
      have ho : out.length + 1 ≤ (cutL c l).length := by rw [← h3, List.length_append, cutF_len]; omega
      rw [List.drop_eq_getElem_cons hi, cutF] at h3
      refine hX _ _ _ ⟨fun _ => ⟨fun c => absurd c (by omega), fun _ => ⟨by omega, fun c2 => ⟨by omega, by rw [len1]; omega, ?_⟩, fun c2 => ?_⟩⟩, fun c => absurd (show (i : Int) ≤ l.length by omega) c⟩
      · have hb : l[i] = c := by
          have : ((bt l i : Int)) = ((l[i].toNat : Nat) : Int) := by unfold bt; rw [nn, gD hi]
          rw [this] at c2
          exact UInt8.toNat_inj.1 (by omega)
        rw [if_pos hb] at h3
        rw [w1 (by omega), nn, nn]
        refine ih (i + 1) (i + 1) _ (by omega) (Nat.le_refl _) ?_
        rw [← h3, List.append_assoc, Nat.sub_self]; rfl
      · have hb : ¬ l[i] = c := by
          intro e
          apply c2
          unfold bt; rw [nn, gD hi, e]
        rw [if_neg hb] at h3
        rw [w1 (by omega)]
        refine ih (i + 1) fr _ (by omega) (by omega) ?_
        rw [← h3, show i + 1 - fr = (i - fr) + 1 by omega, List.take_succ_eq_append_getElem (by rw [List.length_drop]; omega)]
        congr 2
        rw [List.getElem_drop]
        congr 2
        congr 1
        omega
  exact key l.length 0 0 [] (by omega) (Nat.le_refl _) (by simp [cutL])
theorem strings_Index_wp {l : List UInt8} {c : UInt8} {K : Int → Prop} (h : K (Lib.indexByte l c)) : strings_Index.wp l [c] K := ⟨c, rfl, h⟩
theorem strings_Split_wp {l : List UInt8} {c : UInt8} {K : List (List UInt8) → Prop} (hl : l.length ≤ 2 ^ 20) (h : K (cutL c l)) : strings_Split.wp l [c] K := by
  have hcl := List.count_le_length (a := c) (l := l)
  have hlen : (cutL c l).length = l.count c + 1 := cutF_len ..
  refine ⟨fun c => absurd c (by decide), fun _ => ⟨fun c => (by cases c), fun _ => ⟨fun _ => ⟨c, rfl, ?_⟩, fun c => absurd (show (-1 : Int) < 0 by decide) c⟩⟩⟩
  have e0 : Lib.countByte l c = l.count c := rfl
  have e1 : mnI (IntKind.i64.wrap (((Lib.countByte l c : Nat) : Int) + 1)) (IntKind.i64.wrap ((l.length : Int) + 1)) = ((l.count c + 1 : Nat) : Int) := by
    rw [e0, wI (by omega), wI (by omega)]; unfold mnI; split <;> omega
  dsimp only
  rw [e1]
  refine ⟨by omega, fun X hX => ?_⟩
  have e2 : IntKind.i64.wrap (((l.count c + 1 : Nat) : Int) - 1) = ((l.count c : Nat) : Int) := by rw [wI (by omega)]; omega
  rw [e2] at hX
  rw [nn]
  have key : ∀ (m i : Nat) (a : List (List UInt8)) (s : List UInt8), i + m = l.count c → a.length = l.count c + 1 → s.length ≤ l.length → s.count c = m → a.take i ++ cutF c [] s = cutL c l → X a s (i : Int) := by
    intro m
    induction m with
    | zero =>
      intro i a s h1 h2 h3 h4 h5
      rw [cutF_none c [] s h4] at h5
      refine hX _ _ _ ⟨fun c => absurd c (by omega), fun _ => ⟨by omega, ⟨by omega, by rw [w1 (by omega)]; omega, by rw [w1 (by omega), List.length_set]; omega⟩, ?_⟩⟩
      rw [w1 (by omega), nn, nn]
      have : ((a.set i s).drop (0 : Int).toNat).take ((i + 1) - (0 : Int).toNat) = cutL c l := by
        show ((a.set i s).drop 0).take (i + 1) = _
        rw [List.drop_zero, List.take_succ_eq_append_getElem (by rw [List.length_set]; omega), List.take_set_of_le (by omega), List.getElem_set_self, ← h5]; rfl
      rw [this]; exact h
    | succ m ih =>
      intro i a s h1 h2 h3 h4 h5
      refine hX _ _ _ ⟨fun _ => strings_Index_wp ?_, fun c => absurd (show (i : Int) < (l.count _ : Nat) by omega) c⟩
      rcases idx_spec c s with ⟨g1, g2⟩ | ⟨k, g1, g2, g3, g4⟩
      · omega
      · have g5 := count_idx c s k g2 g3 g4
        rw [cutF_idx c [] s k g2 g3 g4] at h5
        rw [g1]
        refine ⟨fun c => absurd c (by omega), fun _ => ?_⟩
        have k1 : IntKind.i64.wrap ((k : Int) + 0) = (k : Int) := by rw [wI (by omega)]; omega
        have k2 : IntKind.i64.wrap ((k : Int) + (([c] : List UInt8).length : Int)) = ((k + 1 : Nat) : Int) := by rw [len1, wI (by omega)]; omega
        rw [k1, k2, w1 (by omega)]
        simp only [nn]
        refine ⟨by omega, by omega, by omega, ?_⟩
        have s1 : (s.drop (0 : Int).toNat).take (k - (0 : Int).toNat) = s.take k := by show (s.drop 0).take k = _; rw [List.drop_zero]
        have s2 : (s.drop (k + 1)).take (s.length - (k + 1)) = s.drop (k + 1) := by
          exact List.take_of_length_le (by rw [List.length_drop]; omega)
        rw [s1, s2]
        refine ih (i + 1) _ _ (by omega) (by rw [List.length_set]; exact h2) (by rw [List.length_drop]; omega) (by omega) ?_
        rw [← h5, List.take_succ_eq_append_getElem (by rw [List.length_set]; omega), List.take_set_of_le (by omega), List.getElem_set_self, List.append_assoc]; rfl
  exact key (l.count c) 0 _ l (by omega) (by simp) (Nat.le_refl _) rfl (by simp [cutL])

end Go.Proofs.YtcgiboeilcdonaaDoor.G

namespace Go.Proofs.YtcgiboeilcdonaaDoor.G
open Go Go.Ab
set_option maxRecDepth 100000
set_option linter.unusedVariables false
set_option linter.unusedSimpArgs false
set_option maxHeartbeats 1000000
def lineOf (x : List UInt8) : List UInt8 := x.drop ((Lib.indexByte x 32).toNat + 1)
def goodL (c : Nat) (x : List UInt8) : Prop := 0 ≤ Lib.indexByte x 32 ∧ x.take (Lib.indexByte x 32).toNat = Lib.itoa (chkTo (lineOf x) c : Nat)
open Classical in
noncomputable def recF : List (List UInt8) → Nat → List (List UInt8) × Nat
  | [], _ => ([], 0)
  | x :: ls, c => if goodL c x then (lineOf x :: (recF ls (chkTo (lineOf x) c)).1, x.length + 1 + (recF ls (chkTo (lineOf x) c)).2) else ([], 0)
theorem recF_yes {x : List UInt8} {ls : List (List UInt8)} {c : Nat} (h : goodL c x) : recF (x :: ls) c = (lineOf x :: (recF ls (chkTo (lineOf x) c)).1, x.length + 1 + (recF ls (chkTo (lineOf x) c)).2) := by rw [recF, if_pos h]
theorem recF_no {x : List UInt8} {ls : List (List UInt8)} {c : Nat} (h : ¬ goodL c x) : recF (x :: ls) c = ([], 0) := by rw [recF, if_neg h]
def lensN (ls : List (List UInt8)) : Nat := (ls.map fun x => x.length + 1).sum
theorem lensN_cons (x : List UInt8) (ls : List (List UInt8)) : lensN (x :: ls) = x.length + 1 + lensN ls := by simp [lensN]
theorem recF_le : ∀ (ls : List (List UInt8)) (c : Nat), (recF ls c).1.length ≤ ls.length ∧ (recF ls c).2 ≤ lensN ls
  | [], c => ⟨Nat.le_refl _, Nat.le_refl _⟩
  | x :: ls, c => by
    by_cases h : goodL c x
    · rw [recF_yes h, lensN_cons]
      have := recF_le ls (chkTo (lineOf x) c)
      exact ⟨by simp only [List.length_cons]; omega, by simp only; omega⟩
    · rw [recF_no h]; exact ⟨Nat.zero_le _, Nat.zero_le _⟩
theorem lensN_cut (c : UInt8) : ∀ (cur l : List UInt8), lensN (cutF c cur l) = cur.length + l.length + 1
  | cur, [] => by rw [cutF, lensN_cons]; rfl
  | cur, b :: l => by
    rw [cutF]
    split
    · rw [lensN_cons, lensN_cut c [] l, List.length_nil, List.length_cons]; omega
    · rw [lensN_cut c _ l, List.length_append, List.length_cons, List.length_cons, List.length_nil]; omega
theorem lensN_take : ∀ (ls : List (List UInt8)) (n : Nat), lensN (ls.take n) ≤ lensN ls
  | [], n => by simp
  | x :: ls, 0 => Nat.zero_le _
  | x :: ls, n + 1 => by rw [List.take_succ_cons, lensN_cons, lensN_cons]; have := lensN_take ls n; omega
theorem cutI_lens (l : List UInt8) : lensN (cutI l) ≤ l.length + 1 := by
  have := lensN_take (cutL 10 l) ((cutL 10 l).length - 1)
  rw [show lensN (cutL 10 l) = 0 + l.length + 1 from lensN_cut 10 [] l] at this
  unfold cutI; omega
theorem cutI_none {l : List UInt8} (h : l.count 10 = 0) : cutI l = [] := by
  unfold cutI cutL; rw [cutF_none 10 [] l h]; rfl
theorem cutI_some {l : List UInt8} {m : Nat} (h1 : m < l.length) (h2 : (l.take m).count 10 = 0) (h3 : l[m]? = some 10) : cutI l = l.take m :: cutI (l.drop (m + 1)) := by
  unfold cutI cutL
  rw [cutF_idx 10 [] l m h1 h2 h3, List.length_cons, List.nil_append]
  have : 1 ≤ (cutF 10 [] (l.drop (m + 1))).length := by rw [cutF_len]; omega
  rw [show (cutF 10 [] (l.drop (m + 1))).length + 1 - 1 = ((cutF 10 [] (l.drop (m + 1))).length - 1) + 1 by omega, List.take_succ_cons]
/-- A byte is looked for. -/
def idxN (x : List UInt8) (c : UInt8) : Nat := if Lib.indexByte x c < 0 then x.length else (Lib.indexByte x c).toNat
theorem idxN_spec (x : List UInt8) (c : UInt8) : idxN x c ≤ x.length ∧ (idxN x c < x.length → x[idxN x c]? = some c) ∧ (∀ j, j < idxN x c → ∀ b, x[j]? = some b → b ≠ c) ∧ (Lib.indexByte x c < 0 ↔ idxN x c = x.length) ∧ (0 ≤ Lib.indexByte x c → Lib.indexByte x c = (idxN x c : Nat)) := by
  have nc : ∀ (l : List UInt8), l.count c = 0 → ∀ (j : Nat) (b : UInt8), l[j]? = some b → b ≠ c := by
    intro l hl j b hj e
    subst e
    have := List.mem_of_getElem? hj
    exact absurd (List.count_pos_iff.2 this) (by omega)
  unfold idxN
  rcases idx_spec c x with ⟨h1, h2⟩ | ⟨m, h1, h2, h3, h4⟩
  · rw [if_pos (by omega)]
    exact ⟨Nat.le_refl _, fun h => absurd h (Nat.lt_irrefl _), fun j _ b hb => nc x h2 j b hb, ⟨fun _ => rfl, fun _ => by omega⟩, fun h => by omega⟩
  · rw [if_neg (by omega), h1, Int.toNat_natCast]
    refine ⟨by omega, fun _ => h4, fun j hj b hb => nc _ h3 j b ?_, ⟨fun h => by omega, fun h => by omega⟩, fun _ => rfl⟩
    rw [List.getElem?_take, if_pos hj]; exact hb
theorem find_loop {x : List UInt8} {c : UInt8} {X : Int → Prop} {F : Nat → Prop} (stop : ∀ j : Nat, j ≤ x.length → (j < x.length → bt x (j : Int) = (c.toNat : Int)) → F j → X (j : Int))
    (go : ∀ j : Nat, j < x.length → bt x (j : Int) ≠ (c.toNat : Int) → X ((j + 1 : Nat) : Int) → X (j : Int)) (hF : F (idxN x c)) : X ((0 : Nat) : Int) := by
  obtain ⟨h1, h2, h3, _, _⟩ := idxN_spec x c
  refine up (Y := fun i => X (i : Int)) (idxN x c) (stop _ h1 (fun h => ?_) hF) fun i hi hn => go i (by omega) ?_ hn
  · have := h2 h
    rw [List.getElem?_eq_getElem h] at this
    unfold bt; rw [nn, gD h, Option.some.inj this]
  · intro e
    have hi' : i < x.length := by omega
    unfold bt at e; rw [nn, gD hi'] at e
    exact h3 i hi _ (List.getElem?_eq_getElem hi') (UInt8.toNat_inj.1 (by omega))
theorem lineOf_idx {x : List UInt8} (h : idxN x 32 ≠ x.length) : lineOf x = x.drop (idxN x 32 + 1) ∧ 0 ≤ Lib.indexByte x 32 ∧ (Lib.indexByte x 32).toNat = idxN x 32 := by
  obtain ⟨_, _, _, h4, h5⟩ := idxN_spec x 32
  have h6 : 0 ≤ Lib.indexByte x 32 := by
    by_cases h' : Lib.indexByte x 32 < 0
    · exact absurd (h4.1 h') h
    · omega
  have h7 : (Lib.indexByte x 32).toNat = idxN x 32 := by rw [h5 h6]; rfl
  exact ⟨by unfold lineOf; rw [h7], h6, h7⟩

end Go.Proofs.YtcgiboeilcdonaaDoor.G

namespace Go.Proofs.YtcgiboeilcdonaaDoor.G
open Go Go.Ab
set_option maxRecDepth 100000
set_option linter.unusedVariables false
set_option linter.unusedSimpArgs false
set_option maxHeartbeats 1000000
theorem spec_l08Recover_wp {t : List UInt8} {K : List (List UInt8) → Int → Prop} (ht : t.length ≤ 2 ^ 20) (h : K (recF (cutI t) 0).1 ((recF (cutI t) 0).2 : Nat)) : spec_l08Recover.wp t K := by
  have hc := cutL_len t ht
  have e1 : IntKind.i64.wrap (((cutL 10 t).length : Int) - 1) = (((cutL 10 t).length - 1 : Nat) : Int) := by rw [wI (by omega)]; omega
  have e2 : ((cutL 10 t).drop (0 : Int).toNat).take ((cutL 10 t).length - 1 - (0 : Int).toNat) = cutI t := by show ((cutL 10 t).drop 0).take ((cutL 10 t).length - 1) = _; rw [List.drop_zero]; rfl
  have hI := cutI_lens t
  have hIl : (cutI t).length ≤ 2 ^ 20 := by unfold cutI; rw [List.length_take]; omega
  refine spec_l01Cut_wp (c := 10) ht ?_
  rw [e1]
  refine ⟨by omega, by omega, ?_⟩
  rw [nn, e2]
  intro X hX
  have loop : ∀ (m i c n : Nat) (out : List (List UInt8)), i + m = (cutI t).length → c < 65003 → out.length ≤ i → n + lensN ((cutI t).drop i) ≤ 2 ^ 21 → K (out ++ (recF ((cutI t).drop i) c).1) ((n + (recF ((cutI t).drop i) c).2 : Nat) : Int) → X out (c : Int) (n : Int) (i : Int) := by
    intro m
    induction m with
    | zero =>
      intro i c n out h1 h2 h3 h4 h5
      refine hX _ _ _ _ ⟨fun h => absurd h (by omega), fun _ => ?_⟩
      rw [List.drop_of_length_le (by omega)] at h5
      rw [show recF [] c = ([], 0) from rfl, List.append_nil, Nat.add_zero] at h5; exact h5
    | succ m ih =>
      intro i c n out h1 h2 h3 h4 h5
      have hi : i < (cutI t).length := by omega
      refine hX _ _ _ _ ⟨fun _ Y hY => ?_, fun h => absurd (show (i : Int) < (cutI t).length by omega) h⟩
      rw [nn, gD hi] at hY
      rw [dropC hi] at h4 h5
      generalize (cutI t)[i] = x at hY h4 h5
      rw [lensN_cons] at h4
      -- behind the search
      have fin : ∀ j : Nat, j ≤ x.length → j = idxN x 32 → ((j : Int) = (x.length : Int) → K out (n : Int)) ∧ (¬ (j : Int) = (x.length : Int) → (0 ≤ (IntKind.i64.wrap ((j : Int) + (1 : Int))) ∧ (IntKind.i64.wrap ((j : Int) + (1 : Int))) ≤ (x.length : Int) ∧ (x.length : Int) ≤ (x.length : Int)) ∧ spec_l01Check.wp (c : Int) ((x.drop ((IntKind.i64.wrap ((j : Int) + (1 : Int)))).toNat).take (((x.length : Int)).toNat - ((IntKind.i64.wrap ((j : Int) + (1 : Int)))).toNat)) fun y167 => (0 ≤ (0 : Int) ∧ (0 : Int) ≤ (j : Int) ∧ (j : Int) ≤ (x.length : Int)) ∧ spec_l01Dec.wp y167 fun y170 => ((((x.drop ((0 : Int)).toNat).take (((j : Int)).toNat - ((0 : Int)).toNat)) = y170 → ((out.length + ([((x.drop ((IntKind.i64.wrap ((j : Int) + (1 : Int)))).toNat).take (((x.length : Int)).toNat - ((IntKind.i64.wrap ((j : Int) + (1 : Int)))).toNat))] : List (List UInt8)).length) * 16 ≤ 2 ^ 40) ∧ X (out ++ ([((x.drop ((IntKind.i64.wrap ((j : Int) + (1 : Int)))).toNat).take (((x.length : Int)).toNat - ((IntKind.i64.wrap ((j : Int) + (1 : Int)))).toNat))] : List (List UInt8))) (y167) (IntKind.i64.wrap ((n : Int) + (IntKind.i64.wrap ((x.length : Int) + (1 : Int))))) (IntKind.i64.wrap ((i : Int) + (1 : Int)))) ∧ (¬(((x.drop ((0 : Int)).toNat).take (((j : Int)).toNat - ((0 : Int)).toNat)) = y170) → K (out) (n : Int)))) := by
        intro j hj hjx
        have e3 : ((x.drop (0 : Int).toNat).take ((j : Int).toNat - (0 : Int).toNat)) = x.take j := by show (x.drop 0).take j = _; rw [List.drop_zero]
        refine ⟨fun hh => ?_, fun hh => ?_⟩
        · have hg : ¬ goodL c x := fun g => by
            have := (idxN_spec x 32).2.2.2.1.2 (by omega)
            have := g.1; omega
          rw [recF_no hg, List.append_nil, Nat.add_zero] at h5; exact h5
        · obtain ⟨k1, k2, k3⟩ := lineOf_idx (x := x) (by omega)
          rw [w1 (by omega), nn, nn, e3]
          have e4 : (x.drop (j + 1)).take (x.length - (j + 1)) = lineOf x := by rw [k1, hjx]; exact List.take_of_length_le (by rw [List.length_drop]; omega)
          rw [e4]
          have hll : (lineOf x).length ≤ x.length := by rw [k1, List.length_drop]; omega
          have hck := chkTo_lt (lineOf x) c h2
          refine ⟨by omega, spec_l01Check_wp (by omega) h2 ⟨by omega, spec_l01Dec_wp (by omega) ⟨fun hg => ?_, fun hg => ?_⟩⟩⟩
          · have hgl : goodL c x := ⟨k2, by rw [k3, ← hjx]; exact hg⟩
            rw [recF_yes hgl] at h5
            refine ⟨by rw [len1]; omega, ?_⟩
            rw [wI (n := (x.length : Int) + 1) (by omega), wI (by omega), w1 (by omega), show (n : Int) + ((x.length : Int) + 1) = ((n + (x.length + 1) : Nat) : Int) by omega]
            refine ih (i + 1) _ _ _ (by omega) hck (by rw [List.length_append, len1]; omega) (by omega) ?_
            rw [List.append_assoc, List.singleton_append, show n + (x.length + 1) + (recF ((cutI t).drop (i + 1)) (chkTo (lineOf x) c)).2 = n + (x.length + 1 + (recF ((cutI t).drop (i + 1)) (chkTo (lineOf x) c)).2) by omega]
            exact h5
          · have hgl : ¬ goodL c x := fun g => hg (by rw [hjx, ← k3]; exact g.2)
            rw [recF_no hgl, List.append_nil, Nat.add_zero] at h5; exact h5
      refine find_loop (x := x) (c := 32) (X := Y) (F := fun j => j = idxN x 32) (fun j hj hb hF => hY _ ⟨⟨by omega, by omega⟩, fun hjl => ⟨by omega, fun _ => fin j hj hF, fun hne => absurd (hb (by omega)) hne⟩, fun _ => fin j hj hF⟩) (fun j hj hb hn => hY _ ⟨⟨by omega, by omega⟩, fun _ => ⟨by omega, fun e => absurd e hb, fun _ => ?_⟩, fun hh => absurd (show (j : Int) < x.length by omega) hh⟩) rfl
      rw [w1 (by omega)]; exact hn
  refine loop _ 0 0 0 [] (by rw [Nat.zero_add]) (by decide) (Nat.le_refl _) (by rw [List.drop_zero]; omega) ?_
  rw [List.drop_zero, List.nil_append, Nat.zero_add]; exact h
theorem impl_Decimal_wp {n : Int} {K : List UInt8 → Prop} (hn : -2 ^ 63 ≤ n ∧ n < 2 ^ 63) (h : K (Lib.itoa n)) : impl_Decimal.wp n K := ⟨rfl, by omega, h⟩
theorem strings_Cut_wp {x : List UInt8} {c : UInt8} {K : List UInt8 → List UInt8 → Bool → Prop} (hx : x.length ≤ 2 ^ 40) (h1 : Lib.indexByte x c < 0 → K x [] false) (h2 : 0 ≤ Lib.indexByte x c → K (x.take (idxN x c)) (x.drop (idxN x c + 1)) true) : strings_Cut.wp x [c] K := by
  obtain ⟨k1, k2, k3, k4, k5⟩ := idxN_spec x c
  refine ⟨c, rfl, fun hh => ?_, fun hh => h1 (by omega)⟩
  have := h2 hh
  have hlt : idxN x c < x.length := by
    rcases Nat.lt_or_ge (idxN x c) x.length with h | h
    · exact h
    · have := k4.2 (by omega); omega
  rw [k5 hh, len1, show ((idxN x c : Nat) : Int) + ((1 : Nat) : Int) = (idxN x c : Int) + 1 from rfl, w1 (by omega), nn, nn, nn]
  have e1 : ((x.drop (0 : Int).toNat).take (idxN x c - (0 : Int).toNat)) = x.take (idxN x c) := by show (x.drop 0).take _ = _; rw [List.drop_zero]; rfl
  have e2 : (x.drop (idxN x c + 1)).take (x.length - (idxN x c + 1)) = x.drop (idxN x c + 1) := List.take_of_length_le (by rw [List.length_drop]; omega)
  rw [e1, e2]
  exact ⟨by omega, by omega, this⟩
theorem indexByte_10 {s : List UInt8} {K : Int → Prop} (h : K (Lib.indexByte s 10)) : strings_IndexByte.wp s (10 : Int) K := h
theorem impl_recovered_wp {t : List UInt8} {K : List (List UInt8) → Int → Prop} (ht : t.length ≤ 2 ^ 20) (h : K (recF (cutI t) 0).1 ((recF (cutI t) 0).2 : Nat)) : impl_recovered.wp t K := by
  intro X hX
  have loop : ∀ (m at_ c : Nat) (out : List (List UInt8)), m + at_ = t.length → c < 65003 → out.length ≤ at_ → K (out ++ (recF (cutI (t.drop at_)) c).1) ((at_ + (recF (cutI (t.drop at_)) c).2 : Nat) : Int) → X out (c : Int) (at_ : Int) := by
    intro m
    induction m using Nat.strongRecOn with
    | _ m ih =>
      intro at_ c out h1 h2 h3 h5
      refine hX _ _ _ ⟨by omega, ?_⟩
      simp only [nn]
      have e0 : (t.drop at_).take (t.length - at_) = t.drop at_ := List.take_of_length_le (by rw [List.length_drop]; omega)
      rw [e0]
      refine indexByte_10 ?_
      rcases idx_spec 10 (t.drop at_) with ⟨g1, g2⟩ | ⟨k, g1, g2, g3, g4⟩
      · rw [g1]
        refine ⟨fun _ => ?_, fun hh => absurd (show (-1 : Int) < 0 by decide) hh⟩
        rw [cutI_none g2, show recF [] c = ([], 0) from rfl, List.append_nil, Nat.add_zero] at h5; exact h5
      · rw [g1]
        refine ⟨fun hh => by omega, fun _ => ?_⟩
        rw [List.length_drop] at g2
        rw [cutI_some (by rw [List.length_drop]; exact g2) g3 g4, List.drop_drop] at h5
        rw [wI (n := (at_ : Int) + (k : Int)) (by omega), show (at_ : Int) + (k : Int) = ((at_ + k : Nat) : Int) by omega, nn, show at_ + k - at_ = k by omega]
        refine ⟨by omega, ?_⟩
        have hxl : ((t.drop at_).take k).length = k := by rw [List.length_take, List.length_drop]; omega
        generalize (t.drop at_).take k = x at hxl h5
        refine strings_Cut_wp (by omega) (fun hneg => ?_) (fun hpos => ?_)
        · have hg : ¬ goodL c x := fun g => by have := g.1; omega
          rw [recF_no hg, List.append_nil, Nat.add_zero] at h5
          exact impl_CheckOf_wp (by show 0 ≤ _; exact Nat.zero_le _) h2 ⟨fun e => (by cases e), fun _ => h5⟩
        · have hne : idxN x 32 ≠ x.length := fun e => by have := (idxN_spec x 32).2.2.2.1.2 e; omega
          obtain ⟨k1, k2, k3⟩ := lineOf_idx hne
          have hll : (lineOf x).length ≤ x.length := by rw [k1, List.length_drop]; omega
          have hck := chkTo_lt (lineOf x) c h2
          rw [← k1]
          refine impl_CheckOf_wp (by omega) h2 ⟨fun _ => impl_Decimal_wp (by omega) ⟨fun hg => ?_, fun hg => ?_⟩, fun e => (by cases e)⟩
          · have hgl : goodL c x := ⟨k2, by rw [k3]; exact hg⟩
            rw [recF_yes hgl] at h5
            refine ⟨by rw [len1]; omega, ?_⟩
            rw [w1 (by omega), wI (by omega), show (at_ : Int) + ((k + 1 : Nat) : Int) = ((at_ + (k + 1) : Nat) : Int) by omega]
            refine ih (t.length - (at_ + (k + 1))) (by omega) _ _ _ (by omega) hck (by rw [List.length_append, len1]; omega) ?_
            rw [List.append_assoc, List.singleton_append]
            rw [hxl] at h5
            rw [show at_ + (k + 1) + (recF (cutI (t.drop (at_ + (k + 1)))) (chkTo (lineOf x) c)).2 = at_ + (k + 1 + (recF (cutI (t.drop (at_ + (k + 1)))) (chkTo (lineOf x) c)).2) by omega]
            exact h5
          · have hgl : ¬ goodL c x := fun g => hg (by rw [← k3]; exact g.2)
            rw [recF_no hgl, List.append_nil, Nat.add_zero] at h5; exact h5
  refine loop t.length 0 0 [] (by omega) (by decide) (Nat.le_refl _) ?_
  rw [List.drop_zero, List.nil_append, Nat.zero_add]; exact h
theorem rj_both (t : List UInt8) (ht : t.length ≤ 2 ^ 20) : ∃ out n ok, (∀ K : List (List UInt8) → Int → Bool → Prop, K out n ok → spec_RecoverJournal.wp t K) ∧ (∀ K : List (List UInt8) → Int → Bool → Prop, K out n ok → impl_RecoverJournal.wp t K) ∧ out.length ≤ 2 ^ 21 := by
  by_cases h : (16000 : Int) < (t.length : Int)
  · exact ⟨[], 0, false, fun K hK => ⟨fun _ => hK, fun c => absurd h c⟩, fun K hK => ⟨fun _ => hK, fun c => absurd h c⟩, Nat.zero_le _⟩
  · refine ⟨(recF (cutI t) 0).1, ((recF (cutI t) 0).2 : Nat), true, fun K hK => ⟨fun c => absurd c h, fun _ => spec_l08Recover_wp ht hK⟩, fun K hK => ⟨fun c => absurd c h, fun _ => impl_recovered_wp ht hK⟩, ?_⟩
    have := (recF_le (cutI t) 0).1
    have hIl : (cutI t).length ≤ 2 ^ 20 + 1 := by have := cutL_len t ht; unfold cutI; rw [List.length_take]; omega
    omega

end Go.Proofs.YtcgiboeilcdonaaDoor.G

namespace Go.Proofs.YtcgiboeilcdonaaDoor.G
open Go Go.Ab
set_option maxRecDepth 100000
set_option linter.unusedVariables false
set_option linter.unusedSimpArgs false
set_option maxHeartbeats 1000000
theorem pureExactRecoverJournal (l0 : List UInt8) : laws_FnExactRecoverJournal.wp l0 (fun b => b = true) := by
  refine ⟨fun _ => rfl, fun hb => ?_⟩
  have hl : l0.length ≤ 2 ^ 20 := by omega
  obtain ⟨out, n, ok, hs, hi, ho⟩ := rj_both l0 hl
  refine hs _ (hi _ (eqStringS_wp (by omega) (tT (tP rfl (tB ?_)))))
  refine markStringS_wp (k := 1) (by omega) (by omega) (heldStringS_wp (k := 1) (by omega) (by omega) (tN (by omega) (tP rfl ?_)))
  exact hi _ (eqStringS_wp (by omega) (tT (tP rfl (tB (heldStringS_wp (k := 1) (by omega) (by omega) (tN (by omega) (tP rfl rfl)))))))

end Go.Proofs.YtcgiboeilcdonaaDoor.G

