/-
  What the formulas say, over numbers and lists alone. Nothing here is trusted.
-/
import Derived.Test.YtecdkjnomkdbkaaDoorMStreamsWa
import Derived.Lib.ItoaLen
import Derived.Lib.SlTrimSet
namespace Go.Proofs.YtecdkjnomkdbkaaDoor.G
open Go Go.Ab
set_option maxRecDepth 100000
set_option linter.unusedVariables false
set_option linter.unusedSimpArgs false
set_option maxHeartbeats 1000000
/-! ### truth -/
theorem tT {A B : Prop} (h : A) : (true = true → A) ∧ (true = false → B) := ⟨fun _ => h, fun c => (by cases c)⟩
theorem tF {A B : Prop} (h : B) : (false = true → A) ∧ (false = false → B) := ⟨fun c => (by cases c), fun _ => h⟩
theorem tB {A B : Prop} {b : Bool} (h : A) : ((b == b) = true → A) ∧ ((b == b) = false → B) := ⟨fun _ => h, fun c => (by simp at c)⟩
theorem tE {A B : Prop} {b : Bool} (e : b = true) (h : A) : (b = true → A) ∧ (b = false → B) := ⟨fun _ => h, fun c => (by rw [e] at c; cases c)⟩
theorem tG {A B : Prop} {b : Bool} (e : b = false) (h : B) : (b = true → A) ∧ (b = false → B) := ⟨fun c => (by rw [e] at c; cases c), fun _ => h⟩
theorem tP {p A B : Prop} (e : p) (h : A) : (p → A) ∧ (¬p → B) := ⟨fun _ => h, fun c => absurd e c⟩
theorem tN {p A B : Prop} (e : ¬p) (h : B) : (p → A) ∧ (¬p → B) := ⟨fun c => absurd c e, fun _ => h⟩
theorem tI {b : Bool} {K : Bool → Prop} {A B : Prop} (h1 : b = true → A) (h2 : b = false → B) : (b = true → A) ∧ (b = false → B) := ⟨h1, h2⟩
/-! ### loops -/
theorem up {Y : Nat → Prop} (n : Nat) (last : Y n) (step : ∀ i, i < n → Y (i + 1) → Y i) : Y 0 := by
  have key : ∀ d i, i + d = n → Y i := by
    intro d
    induction d with
    | zero => intro i h; obtain rfl : i = n := by omega
              exact last
    | succ d ih => intro i h; exact step i (by omega) (ih (i + 1) (by omega))
  exact key n 0 (by omega)
theorem upFrom {Y : Nat → Prop} (k n : Nat) (hk : k ≤ n) (last : Y n) (step : ∀ i, k ≤ i → i < n → Y (i + 1) → Y i) : Y k := by
  have key : ∀ d i, k ≤ i → i + d = n → Y i := by
    intro d
    induction d with
    | zero => intro i _ h; obtain rfl : i = n := by omega
              exact last
    | succ d ih => intro i h0 h; exact step i h0 (by omega) (ih (i + 1) (by omega) (by omega))
  exact key (n - k) k (Nat.le_refl _) (by omega)
theorem w1 {i : Nat} (h : i < 4611686018427387904) : IntKind.i64.wrap ((i : Int) + (1 : Int)) = ((i + 1 : Nat) : Int) := wrap_succ (by omega)
theorem wI {n : Int} (h : -9223372036854775808 ≤ n ∧ n < 9223372036854775808) : IntKind.i64.wrap n = n := wrap_i64 h.1 h.2
theorem nn (i : Nat) : ((i : Int)).toNat = i := rfl
theorem gD {α : Type} {l : List α} {i : Nat} (h : i < l.length) (d : α) : l.getD i d = l[i] := by rw [List.getD_eq_getElem?_getD, List.getElem?_eq_getElem h]; rfl
theorem dropC {α : Type} {l : List α} {i : Nat} (h : i < l.length) : l.drop i = l[i] :: l.drop (i + 1) := List.drop_eq_getElem_cons h
theorem len1 {α : Type} (a : α) : ([a] : List α).length = 1 := rfl
theorem cz32 (n : Nat) (h : (FloatKind.f32.decode n).isNaN = false) : cz .f32 n = n := by simp [cz, h]
theorem c0_32 : cz .f32 0 = 0 := cz_zero32
theorem c0_64 : cz .f64 0 = 0 := cz_zero64
/-! ### copies, comparisons, marks -/

end Go.Proofs.YtecdkjnomkdbkaaDoor.G

namespace Go.Proofs.YtecdkjnomkdbkaaDoor.G
open Go Go.Ab
set_option maxRecDepth 100000
set_option linter.unusedVariables false
set_option linter.unusedSimpArgs false
set_option maxHeartbeats 1000000
def pFin (x : Nat) : Bool := fcmp .eql .f32 (fop .sub .f32 x x) (cz .f32 0)
def pAll (l : List Nat) : Bool := l.all pFin
theorem pAll_cons (x : Nat) (l : List Nat) : pAll (x :: l) = (pFin x && pAll l) := rfl
/-- A loop that ends early where something does not hold. -/
theorem all_loop {α : Type} (l : List α) (p : α → Bool) {X : Int → Prop} {T F : Prop} (hX : ∀ (i : Nat) (h : i < l.length), ((p l[i] = true → X ((i + 1 : Nat) : Int)) ∧ (p l[i] = false → F)) → X (i : Int))
    (hend : T → X (l.length : Int)) (ht : l.all p = true → T) (hf : l.all p = false → F) : X (0 : Int) := by
  have key := up (Y := fun i => ((l.drop i).all p = true → T) → ((l.drop i).all p = false → F) → X (i : Int)) l.length (fun h _ => hend (h (by rw [List.drop_length]; rfl))) fun i hi hn h1 h2 => ?_
  · exact key (by rw [List.drop_zero]; exact ht) (by rw [List.drop_zero]; exact hf)
  · rw [dropC hi, List.all_cons] at h1 h2
    refine hX i hi ⟨fun e => hn (fun a => h1 (by rw [e, a]; rfl)) (fun a => h2 (by rw [e, a]; rfl)), fun e => h2 (by rw [e]; rfl)⟩
/-- A loop that makes a list, and ends early where something does not hold. -/
theorem map_loop {α β : Type} (l : List α) (p : α → Bool) (f : α → β) {X : List β → Int → Prop} {T F : Prop} (hX : ∀ (i : Nat) (h : i < l.length) (o : List β), o.length = i → ((p l[i] = true → X (o ++ [f l[i]]) ((i + 1 : Nat) : Int)) ∧ (p l[i] = false → F)) → X o (i : Int))
    (hend : T → X (l.map f) (l.length : Int)) (ht : l.all p = true → T) (hf : l.all p = false → F) : X [] (0 : Int) := by
  have key := up (Y := fun i => ((l.drop i).all p = true → T) → ((l.drop i).all p = false → F) → X ((l.take i).map f) (i : Int)) l.length (fun h _ => by rw [List.take_length]; exact hend (h (by rw [List.drop_length]; rfl))) fun i hi hn h1 h2 => ?_
  · have := key (by rw [List.drop_zero]; exact ht) (by rw [List.drop_zero]; exact hf)
    rw [List.take_zero] at this; exact this
  · rw [dropC hi, List.all_cons] at h1 h2
    refine hX i hi _ (by rw [List.length_map, List.length_take]; omega) ⟨fun e => ?_, fun e => h2 (by rw [e]; rfl)⟩
    have := hn (fun a => h1 (by rw [e, a]; rfl)) (fun a => h2 (by rw [e, a]; rfl))
    rw [List.take_succ_eq_append_getElem hi, List.map_append] at this
    exact this
theorem impl_IsFinite_wp {a : Nat} {K : Bool → Prop} (h : K (pFin a)) : impl_IsFinite.wp a K := h
theorem impl_within_wp {a b c : Int} {K : Bool → Prop} (h : K (decide (b ≤ a ∧ a ≤ c))) : impl_within.wp a b c K := by
  refine ⟨fun h1 => ?_, fun h1 => ?_⟩
  · have : decide (b ≤ a ∧ a ≤ c) = decide (a ≤ c) := by simp [h1]
    rw [this] at h; exact h
  · have : decide (b ≤ a ∧ a ≤ c) = false := by simp [h1]
    rw [this] at h; exact h
theorem bT {b : Bool} {A B : Prop} (h1 : b = true → A) (h2 : b = false → B) : (b = true → A) ∧ (b = false → B) := ⟨h1, h2⟩
def isL (l : List Nat) : Bool := decide (1 ≤ l.length ∧ l.length ≤ 128) && pAll l
def isOver (x : Nat) : Bool := pFin x && fcmp .gtr .f32 x (cz .f32 0)
def isLeast (x : Nat) : Bool := pFin x && fcmp .geq .f32 x (cz .f32 0)
def isShare (x : Nat) : Bool := fcmp .geq .f32 x (cz .f32 0) && fcmp .leq .f32 x (cz .f32 1065353216)
/-! ### integers -/
def bnd (m : Int) (l : List Int) : Bool := l.all fun n => decide (-m ≤ n ∧ n ≤ m)
def isI (l : List Int) : Bool := decide (1 ≤ l.length ∧ l.length ≤ 128) && bnd 1000000 l
theorem impl_areWithin_wp {l : List Int} {m : Int} {K : Bool → Prop} (hl : l.length ≤ 2 ^ 20) (hm : 0 ≤ m ∧ m ≤ 2 ^ 40) (h : K (bnd m l)) : impl_areWithin.wp l m K := by
  intro X hX
  refine all_loop l (fun n => decide (-m ≤ n ∧ n ≤ m)) (X := X) (T := K true) (F := K false) (fun i hi hh => ?_) (fun ht => hX _ ⟨fun c => absurd c (by omega), fun _ => ht⟩) (fun e => by rw [bnd, e] at h; exact h) (fun e => by rw [bnd, e] at h; exact h)
  refine hX _ ⟨fun _ => ⟨⟨by omega, by omega⟩, impl_within_wp ?_⟩, fun c => absurd (show (i : Int) < l.length by omega) c⟩
  rw [nn, gD hi, w1 (by omega), wI (show -9223372036854775808 ≤ (0 : Int) - m ∧ (0 : Int) - m < 9223372036854775808 by omega), Int.zero_sub]; exact hh
theorem impl_AreIntegers_wp {l : List Int} {K : Bool → Prop} (hl : l.length ≤ 2 ^ 20) (h : K (isI l)) : impl_AreIntegers.wp l K := by
  refine impl_within_wp ⟨fun h1 => ?_, fun h1 => ?_⟩
  · have h1 := of_decide_eq_true h1
    refine impl_areWithin_wp hl (by omega) ?_
    rw [isI, decide_eq_true (show 1 ≤ l.length ∧ l.length ≤ 128 by omega), Bool.true_and] at h; exact h
  · have h1 := of_decide_eq_false h1
    rw [isI, decide_eq_false (show ¬(1 ≤ l.length ∧ l.length ≤ 128) by omega), Bool.false_and] at h; exact h

end Go.Proofs.YtecdkjnomkdbkaaDoor.G

namespace Go.Proofs.YtecdkjnomkdbkaaDoor.G
open Go Go.Ab
set_option maxRecDepth 100000
set_option linter.unusedVariables false
set_option linter.unusedSimpArgs false
set_option maxHeartbeats 1000000
def Byt (l : List Int) : Prop := l.length ≤ 2 ^ 30 ∧ ∀ x ∈ l, 0 ≤ x ∧ x < 256
theorem iand255 (x : Int) : 0 ≤ IntKind.i64.wrap (ibits .and .u64 x 255) ∧ IntKind.i64.wrap (ibits .and .u64 x 255) < 256 := by
  have h : (BitVec.ofInt 64 x &&& BitVec.ofInt 64 255).toNat < 256 := by
    rw [BitVec.toNat_and]
    exact Nat.lt_of_le_of_lt Nat.and_le_right (by decide)
  have e : ibits .and .u64 x 255 = ((BitVec.ofInt 64 x &&& BitVec.ofInt 64 255).toNat : Int) := by
    show IntKind.u64.wrap ((BitVec.ofInt 64 x &&& BitVec.ofInt 64 255).toNat : Int) = _
    show _ % 18446744073709551616 = _
    omega
  rw [e, wI (by omega)]; omega
theorem spec_next_wp {l : List Int} {a s : Int} {K : Int → Int → Int → Prop} (hl : Byt l) (ha : 0 ≤ a ∧ a ≤ 2 ^ 40) (h : ∀ v t, 0 ≤ v ∧ v < 256 → K v (a + 1) t) : spec_l00Src_next.wp l a s K := by
  have ea : IntKind.i64.wrap (a + 1) = a + 1 := wI (by omega)
  refine ⟨fun c => ⟨⟨ha.1, c⟩, fun c2 => ?_, fun c2 => ?_⟩, fun c => ⟨fun c2 => ?_, fun c2 => ?_⟩⟩
  · rw [ea]
    have hi : a.toNat < l.length := by omega
    rw [gD hi]
    have hb := hl.2 _ (List.getElem_mem hi)
    rw [wI (by omega)]
    exact h _ _ hb
  · rw [ea]; exact h _ _ (iand255 _)
  · rw [ea]; exact h _ _ ⟨by decide, by decide⟩
  · rw [ea]; exact h _ _ (iand255 _)
theorem spec_pick_wp {l : List Int} {a s n : Int} {K : Int → Int → Int → Prop} (hl : Byt l) (ha : 0 ≤ a ∧ a ≤ 2 ^ 39) (hn : 1 ≤ n ∧ n ≤ 2 ^ 40) (h : ∀ v b t, 0 ≤ v ∧ v < n → a ≤ b ∧ b ≤ a + 2 → K v b t) : spec_l00Src_pick.wp l a s n K := by
  refine ⟨fun c => h _ _ _ (by omega) (by omega), fun c => ?_⟩
  refine spec_next_wp hl (by omega) fun v t hv => ⟨fun c2 => ?_, fun c2 => ⟨by omega, ?_⟩⟩
  · refine spec_next_wp hl (by omega) fun w u hw => ⟨by omega, ?_⟩
    rw [wI (n := v * 256) (by omega), wI (n := v * 256 + w) (by omega)]
    have e := Int.tmod_eq_emod_of_nonneg (a := v * 256 + w) (b := n) (by omega)
    have h1 := Int.emod_nonneg (v * 256 + w) (show n ≠ 0 by omega)
    have h2 := Int.emod_lt_of_pos (v * 256 + w) (show 0 < n by omega)
    exact h _ _ _ (by omega) (by omega)
  · have e := Int.tmod_eq_emod_of_nonneg (a := v) (b := n) (by omega)
    have h1 := Int.emod_nonneg v (show n ≠ 0 by omega)
    have h2 := Int.emod_lt_of_pos v (show 0 < n by omega)
    exact h _ _ _ (by omega) (by omega)
theorem spec_R8Integers_wp {l : List Int} {K : List Int → Prop} (hl : Byt l) (h : ∀ o : List Int, 1 ≤ o.length ∧ o.length ≤ 16 → (∀ x ∈ o, -100 ≤ x ∧ x ≤ 100) → K o) : spec_R8Integers.wp l K := by
  refine ⟨fun _ => ?_, fun c => (by cases c)⟩
  refine spec_pick_wp hl (by omega) (by omega) fun v b t hv hb => ?_
  intro X hX
  have key : ∀ (m : Nat) (o : List Int) (b t : Int), (o.length : Int) + m = 1 + v → 0 ≤ b ∧ b ≤ 2 + 2 * o.length → (∀ x ∈ o, -100 ≤ x ∧ x ≤ 100) → X o b t (m : Int) := by
    intro m
    induction m with
    | zero =>
      intro o b t h1 h2 h3
      exact hX _ _ _ _ ⟨fun c => absurd c (by decide), fun _ => h o (by omega) h3⟩
    | succ m ih =>
      intro o b t h1 h2 h3
      refine hX _ _ _ _ ⟨fun _ => spec_pick_wp hl (by omega) (by omega) fun w b' t' hw hb' => ⟨?_, ?_⟩, fun c => absurd (show (0 : Int) < ((m + 1 : Nat) : Int) by omega) c⟩
      · rw [len1]; omega
      · rw [wI (n := w - 100) (by omega), show IntKind.i64.wrap (((m + 1 : Nat) : Int) - 1) = (m : Int) by rw [wI (by omega)]; omega]
        refine ih _ _ _ (by rw [List.length_append, len1]; omega) (by rw [List.length_append, len1]; omega) fun x hx => ?_
        rcases List.mem_append.1 hx with hx | hx
        · exact h3 x hx
        · rw [List.mem_singleton.1 hx]; omega
  rw [show IntKind.i64.wrap (1 + v) = ((1 + v.toNat : Nat) : Int) by rw [wI (by omega)]; omega]
  exact key _ [] _ _ (by simp; omega) (by simp; omega) (fun x hx => by cases hx)
theorem r8At_wp {l : List Int} {k n : Int} {K : Int → Prop} (hl : Byt l) (hk : 0 ≤ k) (hn : 1 ≤ n ∧ n ≤ 2 ^ 40) (h : ∀ v : Nat, (v : Int) < n → K (v : Int)) : laws_r8At.wp l k n K := by
  refine ⟨fun c => h 0 (by omega), fun c => ⟨fun c2 => h 0 (by omega), fun c2 => ⟨⟨hk, by omega⟩, by omega, ?_⟩⟩⟩
  have hi : k.toNat < l.length := by omega
  rw [gD hi]
  have hb := hl.2 _ (List.getElem_mem hi)
  rw [wI (by omega)]
  have e := Int.tmod_eq_emod_of_nonneg (a := l[k.toNat]) (b := n) (by omega)
  have h1 := Int.emod_nonneg l[k.toNat] (show n ≠ 0 by omega)
  have h2 := Int.emod_lt_of_pos l[k.toNat] (show 0 < n by omega)
  rw [show Int.tmod l[k.toNat] n = ((Int.tmod l[k.toNat] n).toNat : Int) by omega]
  exact h _ (by omega)

end Go.Proofs.YtecdkjnomkdbkaaDoor.G

namespace Go.Proofs.YtecdkjnomkdbkaaDoor.G
open Go Go.Ab
set_option maxRecDepth 100000
set_option linter.unusedVariables false
set_option linter.unusedSimpArgs false
set_option maxHeartbeats 1000000
open Ieee in
theorem neg_read (b : Nat) : single.read (Op.negFloat .f32 b) = (single.read b).opposite := by
  have hs : single.signWeight = 2 ^ 31 := rfl
  have h2 : Op.negFloat .f32 b % 2 ^ 31 = b % 2 ^ 31 := by
    show (b ^^^ 2 ^ 31) % 2 ^ 31 = _
    rw [Nat.xor_mod_two_pow]; simp
  have h3 : Op.negFloat .f32 b / 2 ^ 31 % 2 = (b / 2 ^ 31 + 1) % 2 := by
    show (b ^^^ 2 ^ 31) / 2 ^ 31 % 2 = _
    rw [Nat.xor_div_two_pow, Nat.div_self (by decide)]
    have := Nat.xor_mod_two_pow (a := b / 2 ^ 31) (b := 1) (n := 1)
    rw [Nat.pow_one] at this; rw [this]
    rcases Nat.mod_two_eq_zero_or_one (b / 2 ^ 31) with h | h
    · rw [h, show (b / 2 ^ 31 + 1) % 2 = 1 by omega]; decide
    · rw [h, show (b / 2 ^ 31 + 1) % 2 = 0 by omega]; decide
  have h4 : (Op.negFloat .f32 b / 2 ^ 31 % 2 == 1) = !(b / 2 ^ 31 % 2 == 1) := by
    rw [h3]
    rcases Nat.mod_two_eq_zero_or_one (b / 2 ^ 31) with h | h
    · rw [h, show (b / 2 ^ 31 + 1) % 2 = 1 by omega]; rfl
    · rw [h, show (b / 2 ^ 31 + 1) % 2 = 0 by omega]; rfl
  unfold Format.read
  rw [hs, h2, h4]
  dsimp only
  split
  · rfl
  · split
    · rfl
    · split <;> rfl
open Ieee in
theorem fneg_read {b : Nat} (h : (single.read b).isNaN = false) : single.read (fneg .f32 b) = (single.read b).opposite := by
  have e : (FloatKind.f32.decode (Op.negFloat .f32 b)).isNaN = false := by
    show (single.read _).isNaN = false
    rw [neg_read]; cases hr : single.read b with
    | nan s t => rw [hr] at h; cases h
    | _ => rfl
  rw [fneg, cz32 _ e, neg_read]
/-! ### values, in units of the last place -/
open Ieee in
def val : Datum → Int
  | .number s m e => signed s m (e + 149).toNat
  | _ => 0
open Ieee in
theorem signed_up (s : Bool) (m a b : Nat) : signed s m (a + b) = signed s m a * (2 ^ b : Nat) := by
  unfold signed
  cases s <;> simp [Nat.shiftLeft_eq, Nat.pow_add, Int.mul_assoc, Int.neg_mul]
open Ieee in
theorem order_val {s t : Bool} {m n : Nat} {i j : Int} (hi : -149 ≤ i) (hj : -149 ≤ j) : (Datum.number s m i).order (.number t n j) = some (compare (val (.number s m i)) (val (.number t n j))) := by
  have e1 : val (.number s m i) = signed s m (i - min i j).toNat * (2 ^ (min i j + 149).toNat : Nat) := by
    show signed s m _ = _
    rw [← signed_up]; congr 1; omega
  have e2 : val (.number t n j) = signed t n (j - min i j).toNat * (2 ^ (min i j + 149).toNat : Nat) := by
    show signed t n _ = _
    rw [← signed_up]; congr 1; omega
  rw [e1, e2]
  show some (compare (signed s m (i - min i j).toNat) (signed t n (j - min i j).toNat)) = _
  congr 1
  have hp : (0 : Int) < ((2 ^ (min i j + 149).toNat : Nat) : Int) := by have := Nat.two_pow_pos (min i j + 149).toNat; omega
  generalize signed s m (i - min i j).toNat = a
  generalize signed t n (j - min i j).toNat = b
  generalize ((2 ^ (min i j + 149).toNat : Nat) : Int) = p at hp
  rw [show compare a b = compareOfLessAndEq a b from rfl, show compare (a * p) (b * p) = compareOfLessAndEq (a * p) (b * p) from rfl]
  unfold compareOfLessAndEq
  have h1 : (a * p < b * p) = (a < b) := propext ⟨fun h => Int.lt_of_mul_lt_mul_right h (Int.le_of_lt hp), fun h => Int.mul_lt_mul_of_pos_right h hp⟩
  have h2 : (a * p = b * p) = (a = b) := propext ⟨fun h => Int.eq_of_mul_eq_mul_right (Int.ne_of_gt hp) h, fun h => by rw [h]⟩
  simp only [h1, h2]
/-- A word of single precision: no number, or how it stands to others. -/
theorem cmp_lt {a b : Int} : (compare a b == Ordering.lt) = decide (a < b) := by
  rw [show compare a b = compareOfLessAndEq a b from rfl]; unfold compareOfLessAndEq
  split
  · simp [*]
  · split <;> simp [*]
theorem cmp_eq {a b : Int} : (compare a b == Ordering.eq) = decide (a = b) := by
  rw [show compare a b = compareOfLessAndEq a b from rfl]; unfold compareOfLessAndEq
  split
  · simp; omega
  · split <;> simp [*]
theorem cmp_gt {a b : Int} : (compare a b == Ordering.gt) = decide (b < a) := by
  rw [show compare a b = compareOfLessAndEq a b from rfl]; unfold compareOfLessAndEq
  split
  · simp; omega
  · split
    · simp; omega
    · simp; omega
/-! ### from nought -/
open Ieee in
theorem read_f32 (x : Nat) : single.read x = if x % 2147483648 < 8388608 then .number (x / 2147483648 % 2 == 1) (x % 2147483648) (-149) else if x % 2147483648 < 2139095040 then .number (x / 2147483648 % 2 == 1) (8388608 + x % 2147483648 % 8388608) (-149 + ((x % 2147483648 / 8388608 - 1 : Nat) : Int)) else if x % 2147483648 = 2139095040 then .infinity (x / 2147483648 % 2 == 1) else .nan (x / 2147483648 % 2 == 1) (x % 2147483648 - 2139095040) := by
  unfold Format.read
  rw [show single.binade = 8388608 from rfl, show single.infRung = 2139095040 by decide, show single.signWeight = 2147483648 from rfl, show single.leastPlace = -149 by decide]
open Ieee in
theorem read_rung {r : Nat} (h : r < 2147483648) : single.read r = if r < 8388608 then .number false r (-149) else if r < 2139095040 then .number false (8388608 + r % 8388608) (-149 + ((r / 8388608 - 1 : Nat) : Int)) else if r = 2139095040 then .infinity false else .nan false (r - 2139095040) := by
  rw [read_f32, Nat.mod_eq_of_lt h, Nat.div_eq_of_lt h]; rfl
open Ieee in
theorem word_rung (r : Nat) : single.word false r = r := rfl
open Ieee in
theorem log2_full {a : Nat} (h : a < 8388608) : (8388608 + a).log2 = 23 := by
  apply Nat.le_antisymm
  · have : (8388608 + a).log2 < 24 := (Nat.log2_lt (by omega)).2 (by omega)
    omega
  · have : ¬ (8388608 + a).log2 < 23 := fun hh => by
      have := (Nat.log2_lt (by omega)).1 hh; omega
    omega
open Ieee in
theorem near_low {r : Nat} (h0 : r ≠ 0) (h : r < 8388608) : single.nearest false r (-149) = r := by
  unfold Format.nearest
  rw [if_neg h0, show single.infRung = 2139095040 by decide, show single.binade = 8388608 from rfl, show single.leastPlace = -149 by decide, show single.fractionBits = 23 from rfl]
  have hlog : r.log2 < 23 := (Nat.log2_lt h0).2 h
  have hmax : max (-149 + (r.log2 : Int) - ((23 : Nat) : Int)) (-149) = -149 := by omega
  simp only [hmax, Int.sub_self, Int.toNat_zero, Nat.shiftLeft_zero, cut_zero, Nat.zero_mul, Nat.zero_add, word_rung]
  omega
open Ieee in
theorem near_gen (f : Format) {m : Nat} {e : Int} (h0 : m ≠ 0) (hl : m.log2 = f.fractionBits) (he : f.leastPlace ≤ e) : f.nearest false m e = min ((e - f.leastPlace).toNat * f.binade + m) f.infRung := by
  have hmax : max (e + ((f.fractionBits : Nat) : Int) - ((f.fractionBits : Nat) : Int)) f.leastPlace = e := by omega
  have hw : ∀ a : Nat, f.word false a = a := fun a => if_neg (by decide)
  unfold Format.nearest
  rw [if_neg h0, hl]
  dsimp only
  rw [hmax, Int.sub_self, Int.toNat_zero, Nat.shiftLeft_zero, cut_zero, hw]
open Ieee in
theorem near_full {r : Nat} (h0 : ¬ r < 8388608) (h : r < 2139095040) : single.nearest false (8388608 + r % 8388608) (-149 + ((r / 8388608 - 1 : Nat) : Int)) = r := by
  have hmd : r % 8388608 < 8388608 := Nat.mod_lt _ (by decide)
  have hl : single.leastPlace = -149 := by decide
  have hb : single.binade = 8388608 := rfl
  have hi : single.infRung = 2139095040 := by decide
  rw [near_gen single (by omega) (log2_full hmd) (by rw [hl]; omega), hl, hb, hi]
  have ht : (-149 + ((r / 8388608 - 1 : Nat) : Int) - -149).toNat = r / 8388608 - 1 := by omega
  rw [ht]
  have := Nat.div_add_mod r 8388608
  have h1 : 1 ≤ r / 8388608 := by omega
  have h2 : (r / 8388608 - 1) * 8388608 + (8388608 + r % 8388608) = r := by omega
  rw [h2]
  exact Nat.min_eq_left (Nat.le_of_lt h)
open Ieee in
theorem sub0_near {x m : Nat} {e : Int} (h : single.read x = .number true m e) (hm : m ≠ 0) (he : -149 ≤ e) : single.sub 0 x = some (single.nearest false m e) := by
  have h0 : single.read 0 = .number false 0 (-149) := by decide +kernel
  unfold Format.sub
  rw [h0, h]
  simp only [Datum.opposite, Datum.sum, Bool.not_true]
  have hmin : min (-149 : Int) e = -149 := by omega
  rw [hmin]
  have ht : signed false 0 (-149 - -149 : Int).toNat + signed false m (e - -149).toNat = ((m * 2 ^ (e + 149).toNat : Nat) : Int) := by
    simp [signed, Nat.shiftLeft_eq]
  rw [ht]
  have hp := Nat.two_pow_pos (e + 149).toNat
  have hne : m * 2 ^ (e + 149).toNat ≠ 0 := Nat.mul_ne_zero hm (by omega)
  rw [if_neg (by omega), Option.map_some]
  have hd : decide (((m * 2 ^ (e + 149).toNat : Nat) : Int) < 0) = false := decide_eq_false (by omega)
  rw [hd, Int.natAbs_natCast]
  show some (single.nearest false (m * 2 ^ (e + 149).toNat) (-149)) = _
  rw [nearest_shift]
  congr 2; omega
open Ieee in
theorem sub0_num {x m : Nat} {e : Int} (h : single.read x = .number true m e) (hm : m ≠ 0) : ∃ y, single.sub 0 x = some y ∧ single.read y = .number false m e := by
  refine ⟨x % 2147483648, ?_⟩
  have hr : x % 2147483648 < 2147483648 := Nat.mod_lt _ (by decide)
  have h' := h
  rw [read_f32] at h'
  rw [read_rung hr]
  by_cases h1 : x % 2147483648 < 8388608
  · rw [if_pos h1] at h' ⊢
    simp only [Datum.number.injEq] at h'
    obtain ⟨_, rfl, rfl⟩ := h'
    exact ⟨by rw [sub0_near h hm (by omega), near_low hm h1], rfl⟩
  · rw [if_neg h1] at h' ⊢
    by_cases h2 : x % 2147483648 < 2139095040
    · rw [if_pos h2] at h' ⊢
      simp only [Datum.number.injEq] at h'
      obtain ⟨_, rfl, rfl⟩ := h'
      exact ⟨by rw [sub0_near h hm (by omega), near_full h1 h2], rfl⟩
    · rw [if_neg h2] at h'
      split at h' <;> cases h'
open Ieee in
theorem sub0_inf {x : Nat} (h : single.read x = .infinity true) : ∃ y, single.sub 0 x = some y ∧ single.read y = .infinity false := by
  have h0 : single.read 0 = .number false 0 (-149) := by decide +kernel
  refine ⟨single.word false single.infRung, ?_, by decide +kernel⟩
  unfold Format.sub
  rw [h0, h]; rfl
/-! ### sizes -/
def sizI (x : Nat) : Nat := if fcmp .lss .f32 x (cz .f32 0) = true then fneg .f32 x else if fcmp .eql .f32 x (cz .f32 0) = true then cz .f32 0 else x
def sizS (x : Nat) : Nat := if fcmp .leq .f32 x (cz .f32 0) = true then fop .sub .f32 (cz .f32 0) x else x
theorem fc_lss {x y : Nat} {c : Option Ordering} (h : Ieee.single.order x y = c) : fcmp .lss .f32 x y = (c == some .lt) := by subst h; rfl
theorem fc_leq {x y : Nat} {c : Option Ordering} (h : Ieee.single.order x y = c) : fcmp .leq .f32 x y = (c == some .lt || c == some .eq) := by subst h; rfl
theorem fc_eql {x y : Nat} {c : Option Ordering} (h : Ieee.single.order x y = c) : fcmp .eql .f32 x y = (c == some .eq) := by subst h; rfl
theorem fc_gtr {x y : Nat} {c : Option Ordering} (h : Ieee.single.order x y = c) : fcmp .gtr .f32 x y = (c == some .gt) := by subst h; rfl
open Ieee in
theorem fop_sub0 {x y : Nat} (hy : single.sub 0 x = some y) (hn : (single.read y).isNaN = false) : single.read (fop .sub .f32 0 x) = single.read y := by
  have : fop .sub .f32 0 x = cz .f32 y := by
    show ((single.sub 0 x).map (cz .f32)).getD _ = _
    rw [hy]; rfl
  rw [this, cz32 _ hn]
theorem siz_not {x : Nat} {c : Option Ordering} (h : Ieee.single.order x 0 = c) (h1 : (c == some .lt) = false) (h2 : (c == some .eq) = false) : sizS x = x ∧ sizI x = x := by
  unfold sizS sizI
  rw [c0_32]
  have e1 := fc_leq h
  rw [h1, h2] at e1
  have e2 := fc_lss h
  rw [h1] at e2
  have e3 := fc_eql h
  rw [h2] at e3
  rw [if_neg (by rw [e1]; decide), if_neg (by rw [e2]; decide), if_neg (by rw [e3]; decide)]
  exact ⟨rfl, rfl⟩
theorem siz_lt {x : Nat} (h : Ieee.single.order x 0 = some .lt) : sizS x = fop .sub .f32 0 x ∧ sizI x = fneg .f32 x := by
  unfold sizS sizI
  rw [c0_32]
  have e1 := fc_leq h
  have e2 := fc_lss h
  exact ⟨if_pos (by rw [e1]; rfl), if_pos (by rw [e2]; rfl)⟩
theorem siz_0 {x : Nat} (h : Ieee.single.order x 0 = some .eq) : sizS x = fop .sub .f32 0 x ∧ sizI x = 0 := by
  unfold sizS sizI
  rw [c0_32]
  have e1 := fc_leq h
  have e2 := fc_lss h
  have e3 := fc_eql h
  refine ⟨if_pos (by rw [e1]; rfl), ?_⟩
  rw [if_neg (by rw [e2]; decide)]
  exact if_pos (by rw [e3]; rfl)
open Ieee in
theorem val_pos {m : Nat} {e : Int} (hm : m ≠ 0) : (0 : Int) < val (.number false m e) := by
  have hp := Nat.two_pow_pos (e + 149).toNat
  have hne : m * 2 ^ (e + 149).toNat ≠ 0 := Nat.mul_ne_zero hm (by omega)
  simp only [val, signed, Bool.false_eq_true, if_false, Nat.shiftLeft_eq]; omega
open Ieee in
theorem val_neg {m : Nat} {e : Int} : val (.number true m e) = - val (.number false m e) := by
  simp only [val, signed, Bool.false_eq_true, if_false, if_true]
open Ieee in
theorem read_0 : single.read 0 = .number false 0 (-149) := by decide +kernel
open Ieee in
/-- Both sizes read alike. -/
theorem siz_read (x : Nat) : single.read (sizS x) = single.read (sizI x) := by
  rcases read_single x with ⟨s, t, h⟩ | ⟨s, h⟩ | ⟨s, m, e, h, hm, he, _⟩
  · have ho : single.order x 0 = none := by unfold Format.order; rw [h]; rfl
    have := siz_not ho rfl rfl
    rw [this.1, this.2]
  · cases s
    · have ho : single.order x 0 = some .gt := by unfold Format.order; rw [h, read_0]; rfl
      have := siz_not ho rfl rfl
      rw [this.1, this.2]
    · have ho : single.order x 0 = some .lt := by unfold Format.order; rw [h, read_0]; rfl
      have := siz_lt ho
      obtain ⟨y, h1, h2⟩ := sub0_inf h
      rw [this.1, this.2, fop_sub0 h1 (by rw [h2]; rfl), h2, fneg_read (by rw [h]; rfl), h]; rfl
  · have ho : single.order x 0 = some (compare (val (.number s m e)) 0) := by
      unfold Format.order; rw [h, read_0, order_val he (by omega), show val (.number false 0 (-149)) = 0 by decide]
    by_cases hz : m = 0
    · subst hz
      have hv : val (.number s 0 e) = 0 := by cases s <;> simp [val, signed]
      rw [hv] at ho
      have := siz_0 ho
      have h1 : single.sub 0 x = some 0 := by
        unfold Format.sub
        rw [read_0, h]
        cases s <;> simp [Datum.opposite, Datum.sum, signed, Format.write, Format.nearest, Format.word]
      rw [this.1, this.2, fop_sub0 h1 (by rw [read_0]; rfl)]
    · have hv := val_pos (e := e) hz
      cases s
      · have hc : compare (val (.number false m e)) 0 = Ordering.gt := by
          have := cmp_gt (a := val (.number false m e)) (b := 0); rw [decide_eq_true hv] at this; exact eq_of_beq this
        rw [hc] at ho
        have := siz_not ho rfl rfl
        rw [this.1, this.2]
      · have hc : compare (val (.number true m e)) 0 = Ordering.lt := by
          have := cmp_lt (a := val (.number true m e)) (b := 0); rw [decide_eq_true (by rw [val_neg]; omega)] at this; exact eq_of_beq this
        rw [hc] at ho
        have := siz_lt ho
        obtain ⟨y, h1, h2⟩ := sub0_num h hz
        rw [this.1, this.2, fop_sub0 h1 (by rw [h2]; rfl), h2, fneg_read (by rw [h]; rfl), h]; rfl
theorem siz_cmp (op : BinOp) (x y : Nat) : fcmp op .f32 (sizS x) y = fcmp op .f32 (sizI x) y := by
  have h : Ieee.single.order (sizS x) y = Ieee.single.order (sizI x) y := by unfold Ieee.Format.order; rw [siz_read]
  unfold fcmp
  rw [show FloatKind.f32.format = Ieee.single from rfl, h]

end Go.Proofs.YtecdkjnomkdbkaaDoor.G

namespace Go.Proofs.YtecdkjnomkdbkaaDoor.G
open Go Go.Ab
set_option maxRecDepth 100000
set_option linter.unusedVariables false
set_option linter.unusedSimpArgs false
set_option maxHeartbeats 1000000
open Ieee in
structure Fmt (f : Format) : Prop where
  b : f.binade = 2 ^ f.fractionBits
  i : f.infRung < f.signWeight
  r : f.infRung = (2 ^ f.exponentBits - 1) * f.binade
  x : 2 ≤ f.exponentBits
theorem fmt1 : Fmt Ieee.single := ⟨rfl, by decide, rfl, by decide⟩
theorem fmt2 : Fmt Ieee.double := ⟨rfl, by decide, rfl, by decide⟩
open Ieee in
theorem read_word {f : Format} (h : Fmt f) (s : Bool) {r : Nat} (hr : r ≤ f.infRung) : f.read (f.word s r) = if r < f.binade then .number s r f.leastPlace else if r < f.infRung then .number s (f.binade + r % f.binade) (f.leastPlace + (r / f.binade - 1 : Nat)) else .infinity s := by
  have hi := h.i
  have hl : r < f.signWeight := by omega
  have e1 : f.word s r % f.signWeight = r := by
    unfold Format.word
    split
    · rw [Nat.add_mod_left, Nat.mod_eq_of_lt hl]
    · exact Nat.mod_eq_of_lt hl
  have e2 : (f.word s r / f.signWeight % 2 == 1) = s := by
    unfold Format.word
    cases s with
    | true => rw [if_pos rfl, Nat.add_div_left _ (by omega), Nat.div_eq_of_lt hl]; rfl
    | false => rw [if_neg (by decide), Nat.div_eq_of_lt hl]; rfl
  unfold Format.read
  dsimp only
  rw [e1, e2]
  split
  · rfl
  · split
    · rfl
    · rw [if_pos (by omega)]
open Ieee in
theorem near_exact {f : Format} (h : Fmt f) (s : Bool) {M M0 k : Nat} {e : Int} (hM : M = M0 * 2 ^ k) (h0 : M0 < 2 ^ (f.fractionBits + 1)) (hL : f.leastPlace ≤ e + k) (hI : (e + k - f.leastPlace).toNat + 2 ≤ 2 ^ f.exponentBits - 1) : ∃ m e', f.read (f.nearest s M e) = .number s m e' ∧ f.leastPlace ≤ e' ∧ m * 2 ^ (e' - f.leastPlace).toNat = M0 * 2 ^ (e + k - f.leastPlace).toNat := by
  have hB := h.b
  have hBp : 0 < f.binade := by rw [hB]; exact Nat.two_pow_pos _
  generalize hp : f.fractionBits = p at *
  generalize hLL : f.leastPlace = L at *
  by_cases hz : M0 = 0
  · subst hz
    rw [Nat.zero_mul] at hM
    refine ⟨0, L, ?_, Int.le_refl _, by simp⟩
    unfold Format.nearest
    rw [if_pos hM, read_word h s (Nat.zero_le _), if_pos hBp, hLL]
  have hMz : M ≠ 0 := by rw [hM]; exact Nat.mul_ne_zero hz (by have := Nat.two_pow_pos k; omega)
  have hlog : M.log2 = M0.log2 + k := by
    refine (Nat.log2_eq_iff hMz).2 ⟨?_, ?_⟩
    · rw [hM, Nat.pow_add]; exact Nat.mul_le_mul_right _ (Nat.log2_self_le hz)
    · rw [hM, show M0.log2 + k + 1 = (M0.log2 + 1) + k by omega, Nat.pow_add]; exact Nat.mul_lt_mul_of_pos_right Nat.lt_log2_self (Nat.two_pow_pos k)
  have hg1 : M0 < 2 ^ (M0.log2 + 1) := Nat.lt_log2_self
  have hg2 : 2 ^ M0.log2 ≤ M0 := Nat.log2_self_le hz
  have hgp : M0.log2 ≤ p := by
    have := (Nat.pow_lt_pow_iff_right (a := 2) (by decide)).1 (Nat.lt_of_le_of_lt hg2 h0); omega
  generalize hg : M0.log2 = g at *
  unfold Format.nearest
  rw [if_neg hMz]
  dsimp only
  rw [hlog, hLL, hp, hB]
  generalize hla : max (e + ((g + k : Nat) : Int) - p) L = last
  have hlast : last ≤ e + k ∧ L ≤ last ∧ (last = L ∨ last = e + g + k - p) ∧ e + g + k - p ≤ last := by omega
  have hkept : Toward.even.cut s (M <<< (e - last).toNat) (last - e).toNat = M0 * 2 ^ (e + k - last).toNat := by
    unfold Toward.cut
    by_cases c : last ≤ e
    · have : (last - e).toNat = 0 := by omega
      rw [this]
      dsimp only
      rw [Nat.zero_min, Nat.shiftLeft_zero, Nat.div_one, Nat.mod_one, Nat.shiftLeft_eq, hM, Nat.mul_assoc, ← Nat.pow_add, show k + (e - last).toNat = (e + k - last).toNat by omega]
      rfl
    · have : (e - last).toNat = 0 := by omega
      rw [this, Nat.shiftLeft_zero]
      have hd : min (last - e).toNat (M.log2 + 2) = (last - e).toNat := by omega
      dsimp only
      rw [hd, Nat.shiftLeft_eq, Nat.one_mul]
      have hMe : M = M0 * 2 ^ (e + k - last).toNat * 2 ^ (last - e).toNat := by rw [hM, Nat.mul_assoc, ← Nat.pow_add]; congr 2; omega
      have hpp := Nat.two_pow_pos (last - e).toNat
      rw [hMe, Nat.mul_div_cancel _ hpp, Nat.mul_mod_left, Nat.mul_zero]
      have e1 : decide (2 ^ (last - e).toNat < 0) = false := by simp
      have e2 : (2 ^ (last - e).toNat == 0) = false := by simp
      rw [e1, e2]; rfl
  rw [hkept]
  have hkl : M0 * 2 ^ (e + k - last).toNat < 2 ^ (p + 1) := by
    have : M0 * 2 ^ (e + k - last).toNat < 2 ^ (g + 1) * 2 ^ (e + k - last).toNat := Nat.mul_lt_mul_of_pos_right hg1 (Nat.two_pow_pos _)
    refine Nat.lt_of_lt_of_le this ?_
    rw [← Nat.pow_add]
    exact Nat.pow_le_pow_right (by decide) (by omega)
  have hkb : last ≠ L → 2 ^ p ≤ M0 * 2 ^ (e + k - last).toNat := by
    intro c
    have : 2 ^ g * 2 ^ (e + k - last).toNat ≤ M0 * 2 ^ (e + k - last).toNat := Nat.mul_le_mul_right _ hg2
    refine Nat.le_trans ?_ this
    rw [← Nat.pow_add]
    exact Nat.pow_le_pow_right (by decide) (by omega)
  have hfin : M0 * 2 ^ (e + k - L).toNat = M0 * 2 ^ (e + k - last).toNat * 2 ^ (last - L).toNat := by
    rw [Nat.mul_assoc, ← Nat.pow_add]; congr 2; omega
  rw [hfin]
  generalize M0 * 2 ^ (e + k - last).toNat = q at *
  rw [Nat.pow_succ] at hkl
  rw [hB] at hBp
  have hinf : (last - L).toNat * 2 ^ p + q < f.infRung := by
    rw [h.r, hB]
    generalize hE : 2 ^ f.exponentBits - 1 = E at *
    have h1 : ((last - L).toNat + 2) * 2 ^ p ≤ E * 2 ^ p := Nat.mul_le_mul_right _ (by omega)
    rw [Nat.add_mul] at h1
    omega
  rw [Nat.min_eq_left (by omega), read_word h s (by omega), hB]
  by_cases c : q < 2 ^ p
  · have hl : last = L := by
      by_cases c2 : last = L
      · exact c2
      · have := hkb c2; omega
    subst hl
    refine ⟨q, last, ?_, Int.le_refl _, rfl⟩
    rw [show (last - last).toNat = 0 by omega, Nat.zero_mul, Nat.zero_add, if_pos c, hLL]
  · refine ⟨q, last, ?_, hlast.2.1, rfl⟩
    generalize ha : (last - L).toNat = a at *
    have h1 : (a * 2 ^ p + q) / 2 ^ p = a + 1 := by
      rw [Nat.mul_comm, Nat.mul_add_div hBp]
      congr 1
      rw [show q = (q - 2 ^ p) + 2 ^ p by omega, Nat.add_div_right _ hBp, Nat.div_eq_of_lt (by omega)]
    have h2 : (a * 2 ^ p + q) % 2 ^ p = q - 2 ^ p := by
      rw [Nat.mul_comm, Nat.mul_add_mod, Nat.mod_eq_sub_mod (by omega), Nat.mod_eq_of_lt (by omega)]
    have h3 : ¬ a * 2 ^ p + q < 2 ^ p := by omega
    rw [if_neg h3, if_pos hinf, h1, h2, hLL]
    congr 1
    · omega
    · omega
open Ieee in
theorem near_units {f : Format} (h : Fmt f) (hU : (-10 - f.leastPlace).toNat + f.fractionBits + 3 ≤ 2 ^ f.exponentBits - 1) (hL : f.leastPlace ≤ -10) (s : Bool) {M v : Nat} {e : Int} (hLe : M = 0 ∨ f.leastPlace ≤ e ∧ M * 2 ^ (e - f.leastPlace).toNat = v * 2 ^ (-10 - f.leastPlace).toNat) (hv : M = 0 → v = 0) (hb : v < 2 ^ (f.fractionBits + 1)) : ∃ m e', f.read (f.nearest s M e) = .number s m e' ∧ f.leastPlace ≤ e' ∧ m * 2 ^ (e' - f.leastPlace).toNat = v * 2 ^ (-10 - f.leastPlace).toNat := by
  by_cases hM : M = 0
  · refine ⟨0, f.leastPlace, ?_, Int.le_refl _, by rw [hv hM]; simp⟩
    unfold Format.nearest
    have hBp : 0 < f.binade := by rw [h.b]; exact Nat.two_pow_pos _
    rw [if_pos hM, read_word h s (Nat.zero_le _), if_pos hBp]
  have hLe : f.leastPlace ≤ e ∧ M * 2 ^ (e - f.leastPlace).toNat = v * 2 ^ (-10 - f.leastPlace).toNat := by
    rcases hLe with c | c
    · exact absurd c hM
    · exact c
  obtain ⟨hLe, hE⟩ := hLe
  by_cases c : e ≤ -10
  · have h1 : (-10 - f.leastPlace).toNat = (-10 - e).toNat + (e - f.leastPlace).toNat := by omega
    have h2 : M = v * 2 ^ (-10 - e).toNat := by
      rw [h1, Nat.pow_add, ← Nat.mul_assoc] at hE
      exact Nat.eq_of_mul_eq_mul_right (Nat.two_pow_pos _) hE
    have h3 : e + ((-10 - e).toNat : Nat) = -10 := by omega
    obtain ⟨m, e', r1, r2, r3⟩ := near_exact h s (e := e) h2 hb (by rw [h3]; exact hL) (by rw [h3]; omega)
    rw [h3] at r3
    exact ⟨m, e', r1, r2, r3⟩
  · have h1 : (e - f.leastPlace).toNat = (e + 10).toNat + (-10 - f.leastPlace).toNat := by omega
    have h2 : M * 2 ^ (e + 10).toNat = v := by
      rw [h1, Nat.pow_add, ← Nat.mul_assoc] at hE
      exact Nat.eq_of_mul_eq_mul_right (Nat.two_pow_pos _) hE
    have hM1 : M ≤ v := by
      rw [← h2]; exact Nat.le_mul_of_pos_right _ (Nat.two_pow_pos _)
    have h3 : 2 ^ (e + 10).toNat < 2 ^ (f.fractionBits + 1) := by
      refine Nat.lt_of_le_of_lt ?_ hb
      rw [← h2]; exact Nat.le_mul_of_pos_left _ (by omega)
    have h4 := (Nat.pow_lt_pow_iff_right (a := 2) (by decide)).1 h3
    obtain ⟨m, e', r1, r2, r3⟩ := near_exact h s (M := M) (M0 := M) (k := 0) (e := e) (by simp) (by omega) (by omega) (by omega)
    refine ⟨m, e', r1, r2, ?_⟩
    rw [r3, ← hE]; congr 2; omega
open Ieee in
def vD (L : Int) (s : Bool) (m : Nat) (e : Int) : Int := signed s m (e - L).toNat
theorem vD_abs (L : Int) (s : Bool) (m : Nat) (e : Int) : (vD L s m e).natAbs = m * 2 ^ (e - L).toNat := by
  unfold vD Ieee.signed
  rw [Nat.shiftLeft_eq]
  cases s
  · simp only [Bool.false_eq_true, if_false]; exact Int.natAbs_natCast _
  · simp only [if_true, Int.natAbs_neg]; exact Int.natAbs_natCast _
theorem vD_sign (L : Int) (s : Bool) (m : Nat) (e : Int) : (s = true → vD L s m e ≤ 0) ∧ (s = false → 0 ≤ vD L s m e) := by
  unfold vD Ieee.signed
  cases s
  · refine ⟨fun c => (by cases c), fun _ => ?_⟩; simp only [Bool.false_eq_true, if_false]; exact Int.natCast_nonneg _
  · refine ⟨fun _ => ?_, fun c => (by cases c)⟩; simp only [if_true]; exact Int.neg_nonpos_of_nonneg (Int.natCast_nonneg _)
/-- A word that stands for v / 1024. -/
def Dv (k : FloatKind) (x : Nat) (v : Int) : Prop := ∃ s m e, k.format.read x = .number s m e ∧ k.format.leastPlace ≤ e ∧ vD k.format.leastPlace s m e = v * (2 ^ (-10 - k.format.leastPlace).toNat : Nat)
def isFk (k : FloatKind) : Prop := Fmt k.format ∧ (-10 - k.format.leastPlace).toNat + k.format.fractionBits + 3 ≤ 2 ^ k.format.exponentBits - 1 ∧ k.format.leastPlace ≤ -10
theorem fk1 : isFk .f32 := ⟨fmt1, by decide, by decide⟩
theorem fk2 : isFk .f64 := ⟨fmt2, by decide, by decide⟩
theorem unit_pos (n : Nat) : (0 : Int) < ((2 ^ n : Nat) : Int) := by have := Nat.two_pow_pos n; omega
theorem dv_near {k : FloatKind} (hk : isFk k) {s : Bool} {M : Nat} {v e : Int} (hLe : M = 0 ∨ k.format.leastPlace ≤ e ∧ M * 2 ^ (e - k.format.leastPlace).toNat = v.natAbs * 2 ^ (-10 - k.format.leastPlace).toNat) (hv : M = 0 → v = 0) (hb : v.natAbs < 2 ^ (k.format.fractionBits + 1)) (hs : (s = true → v ≤ 0) ∧ (s = false → 0 ≤ v)) : Dv k (k.format.nearest s M e) v := by
  obtain ⟨m, e', r1, r2, r3⟩ := near_units hk.1 hk.2.1 hk.2.2 s (v := v.natAbs) hLe (fun c => by rw [hv c]; rfl) hb
  refine ⟨s, m, e', r1, r2, ?_⟩
  have h1 := vD_abs k.format.leastPlace s m e'
  have h2 := vD_sign k.format.leastPlace s m e'
  rw [r3] at h1
  generalize vD k.format.leastPlace s m e' = V at *
  have h3 : (v * ((2 ^ (-10 - k.format.leastPlace).toNat : Nat) : Int)).natAbs = v.natAbs * 2 ^ (-10 - k.format.leastPlace).toNat := by rw [Int.natAbs_mul]; rfl
  have hp := unit_pos (-10 - k.format.leastPlace).toNat
  rw [← h3] at h1
  cases s with
  | true =>
    have h4 : v * ((2 ^ (-10 - k.format.leastPlace).toNat : Nat) : Int) ≤ 0 := Int.mul_nonpos_of_nonpos_of_nonneg (hs.1 rfl) (Int.le_of_lt hp)
    have := h2.1 rfl; omega
  | false =>
    have h4 : 0 ≤ v * ((2 ^ (-10 - k.format.leastPlace).toNat : Nat) : Int) := Int.mul_nonneg (hs.2 rfl) (Int.le_of_lt hp)
    have := h2.2 rfl; omega
theorem dv_cz {k : FloatKind} {x : Nat} {v : Int} (h : Dv k x v) : cz k x = x := by
  obtain ⟨s, m, e, r, _⟩ := h
  unfold cz
  rw [show k.decode x = k.format.read x from rfl, r]; rfl
open Ieee in
theorem sum_num {L : Int} {s t : Bool} {m n : Nat} {i j : Int} (hi : L ≤ i) (hj : L ≤ j) : ∃ u M b, (Datum.number s m i).sum (.number t n j) = some (.number u M b) ∧ L ≤ b ∧ M * 2 ^ (b - L).toNat = (vD L s m i + vD L t n j).natAbs ∧ (u = true → vD L s m i + vD L t n j ≤ 0) ∧ (u = false → 0 ≤ vD L s m i + vD L t n j) := by
  have e1 : vD L s m i = signed s m (i - min i j).toNat * (2 ^ (min i j - L).toNat : Nat) := by
    unfold vD; rw [← signed_up]; congr 1; omega
  have e2 : vD L t n j = signed t n (j - min i j).toNat * (2 ^ (min i j - L).toNat : Nat) := by
    unfold vD; rw [← signed_up]; congr 1; omega
  rw [e1, e2]
  have hp := unit_pos (min i j - L).toNat
  refine ⟨_, _, _, rfl, by omega, ?_, ?_, ?_⟩
  · rw [← Int.add_mul, Int.natAbs_mul]; rfl
  · intro c
    rw [← Int.add_mul]
    refine Int.mul_nonpos_of_nonpos_of_nonneg ?_ (Int.le_of_lt hp)
    by_cases hz : signed s m (i - min i j).toNat + signed t n (j - min i j).toNat = 0
    · omega
    · rw [if_neg hz] at c; have := of_decide_eq_true c; omega
  · intro c
    rw [← Int.add_mul]
    refine Int.mul_nonneg ?_ (Int.le_of_lt hp)
    by_cases hz : signed s m (i - min i j).toNat + signed t n (j - min i j).toNat = 0
    · omega
    · rw [if_neg hz] at c; have := of_decide_eq_false c; omega
theorem dv_sumw {k : FloatKind} (hk : isFk k) {s t : Bool} {m n : Nat} {i j : Int} {a b : Int} (hi : k.format.leastPlace ≤ i) (hj : k.format.leastPlace ≤ j) (ha : vD k.format.leastPlace s m i = a * (2 ^ (-10 - k.format.leastPlace).toNat : Nat)) (hb : vD k.format.leastPlace t n j = b * (2 ^ (-10 - k.format.leastPlace).toNat : Nat)) (hab : (a + b).natAbs < 2 ^ (k.format.fractionBits + 1)) : ∃ z, ((Ieee.Datum.number s m i).sum (.number t n j)).map k.format.write = some z ∧ Dv k z (a + b) := by
  obtain ⟨u, M, c, h1, h2, h3, h4, h5⟩ := sum_num (s := s) (t := t) (m := m) (n := n) hi hj
  have hp := unit_pos (-10 - k.format.leastPlace).toNat
  rw [ha, hb, ← Int.add_mul] at h3 h4 h5
  refine ⟨_, by rw [h1]; rfl, ?_⟩
  rw [Int.natAbs_mul] at h3
  have h3' : M * 2 ^ (c - k.format.leastPlace).toNat = (a + b).natAbs * 2 ^ (-10 - k.format.leastPlace).toNat := h3
  refine dv_near hk (.inr ⟨h2, h3'⟩) (fun c => ?_) hab ⟨fun c => ?_, fun c => ?_⟩
  · rw [c, Nat.zero_mul] at h3'
    have := Nat.two_pow_pos (-10 - k.format.leastPlace).toNat
    rcases Nat.mul_eq_zero.1 h3'.symm with d | d
    · omega
    · omega
  · exact Int.not_lt.1 fun d => by have := Int.mul_pos d hp; have := h4 c; omega
  · exact Int.not_lt.1 fun d => by have := Int.mul_neg_of_neg_of_pos d hp; have := h5 c; omega
theorem fop_some {op : BinOp} {k : FloatKind} {x y z : Nat} {v : Int} (h : floatBits op k x y = some z) (hz : Dv k z v) : Dv k (fop op k x y) v := by
  unfold fop
  rw [h]
  show Dv k (cz k z) v
  rw [dv_cz hz]; exact hz
theorem dv_add {k : FloatKind} (hk : isFk k) {x y : Nat} {a b : Int} (hx : Dv k x a) (hy : Dv k y b) (hab : (a + b).natAbs < 2 ^ (k.format.fractionBits + 1)) : Dv k (fop .add k x y) (a + b) := by
  obtain ⟨s, m, i, r1, l1, v1⟩ := hx
  obtain ⟨t, n, j, r2, l2, v2⟩ := hy
  obtain ⟨z, h1, h2⟩ := dv_sumw hk l1 l2 v1 v2 hab
  refine fop_some (z := z) ?_ h2
  show k.format.add x y = some z
  unfold Ieee.Format.add
  rw [r1, r2]; exact h1
theorem vD_not (L : Int) (s : Bool) (m : Nat) (e : Int) : vD L (!s) m e = - vD L s m e := by
  unfold vD Ieee.signed; cases s <;> simp
theorem dv_sub {k : FloatKind} (hk : isFk k) {x y : Nat} {a b : Int} (hx : Dv k x a) (hy : Dv k y b) (hab : (a - b).natAbs < 2 ^ (k.format.fractionBits + 1)) : Dv k (fop .sub k x y) (a - b) := by
  obtain ⟨s, m, i, r1, l1, v1⟩ := hx
  obtain ⟨t, n, j, r2, l2, v2⟩ := hy
  obtain ⟨z, h1, h2⟩ := dv_sumw hk (t := !t) (b := -b) l1 l2 v1 (by rw [vD_not, v2, Int.neg_mul]) hab
  refine fop_some (z := z) ?_ h2
  show k.format.sub x y = some z
  unfold Ieee.Format.sub
  rw [r1, r2]; exact h1
/-! ### how they stand to others -/
open Ieee in
theorem order_vD {L : Int} {s t : Bool} {m n : Nat} {i j : Int} (hi : L ≤ i) (hj : L ≤ j) : (Datum.number s m i).order (.number t n j) = some (compare (vD L s m i) (vD L t n j)) := by
  have e1 : vD L s m i = signed s m (i - min i j).toNat * (2 ^ (min i j - L).toNat : Nat) := by
    unfold vD; rw [← signed_up]; congr 1; omega
  have e2 : vD L t n j = signed t n (j - min i j).toNat * (2 ^ (min i j - L).toNat : Nat) := by
    unfold vD; rw [← signed_up]; congr 1; omega
  rw [e1, e2]
  show some (compare (signed s m (i - min i j).toNat) (signed t n (j - min i j).toNat)) = _
  congr 1
  have hp := unit_pos (min i j - L).toNat
  generalize signed s m (i - min i j).toNat = a
  generalize signed t n (j - min i j).toNat = b
  generalize ((2 ^ (min i j - L).toNat : Nat) : Int) = p at hp
  rw [show compare a b = compareOfLessAndEq a b from rfl, show compare (a * p) (b * p) = compareOfLessAndEq (a * p) (b * p) from rfl]
  unfold compareOfLessAndEq
  have h1 : (a * p < b * p) = (a < b) := propext ⟨fun h => Int.lt_of_mul_lt_mul_right h (Int.le_of_lt hp), fun h => Int.mul_lt_mul_of_pos_right h hp⟩
  have h2 : (a * p = b * p) = (a = b) := propext ⟨fun h => Int.eq_of_mul_eq_mul_right (Int.ne_of_gt hp) h, fun h => by rw [h]⟩
  simp only [h1, h2]
theorem dv_order {k : FloatKind} {x y : Nat} {a b : Int} (hx : Dv k x a) (hy : Dv k y b) : k.format.order x y = some (compare a b) := by
  obtain ⟨s, m, i, r1, l1, v1⟩ := hx
  obtain ⟨t, n, j, r2, l2, v2⟩ := hy
  unfold Ieee.Format.order
  rw [r1, r2, order_vD l1 l2, v1, v2]
  congr 1
  have hp := unit_pos (-10 - k.format.leastPlace).toNat
  generalize ((2 ^ (-10 - k.format.leastPlace).toNat : Nat) : Int) = p at hp
  rw [show compare a b = compareOfLessAndEq a b from rfl, show compare (a * p) (b * p) = compareOfLessAndEq (a * p) (b * p) from rfl]
  unfold compareOfLessAndEq
  have h1 : (a * p < b * p) = (a < b) := propext ⟨fun h => Int.lt_of_mul_lt_mul_right h (Int.le_of_lt hp), fun h => Int.mul_lt_mul_of_pos_right h hp⟩
  have h2 : (a * p = b * p) = (a = b) := propext ⟨fun h => Int.eq_of_mul_eq_mul_right (Int.ne_of_gt hp) h, fun h => by rw [h]⟩
  simp only [h1, h2]
theorem cmp_le' {a b : Int} : (some (compare a b) == some Ordering.lt || some (compare a b) == some Ordering.eq) = decide (a ≤ b) := by
  have h1 := cmp_lt (a := a) (b := b); have h2 := cmp_eq (a := a) (b := b)
  show (compare a b == Ordering.lt || compare a b == Ordering.eq) = _
  rw [h1, h2, ← Bool.decide_or]
  exact decide_eq_decide.2 ⟨fun c => by omega, fun c => by omega⟩
theorem dv_lss {k : FloatKind} {x y : Nat} {a b : Int} (hx : Dv k x a) (hy : Dv k y b) : fcmp .lss k x y = decide (a < b) := by
  unfold fcmp; dsimp only; rw [dv_order hx hy]; exact cmp_lt
theorem dv_gtr {k : FloatKind} {x y : Nat} {a b : Int} (hx : Dv k x a) (hy : Dv k y b) : fcmp .gtr k x y = decide (b < a) := by
  unfold fcmp; dsimp only; rw [dv_order hx hy]; exact cmp_gt
theorem dv_eql {k : FloatKind} {x y : Nat} {a b : Int} (hx : Dv k x a) (hy : Dv k y b) : fcmp .eql k x y = decide (a = b) := by
  unfold fcmp; dsimp only; rw [dv_order hx hy]; exact cmp_eq
theorem dv_leq {k : FloatKind} {x y : Nat} {a b : Int} (hx : Dv k x a) (hy : Dv k y b) : fcmp .leq k x y = decide (a ≤ b) := by
  unfold fcmp; dsimp only; rw [dv_order hx hy]; exact cmp_le'
theorem dv_neq {k : FloatKind} {x y : Nat} {a b : Int} (hx : Dv k x a) (hy : Dv k y b) : fcmp .neq k x y = !decide (a = b) := by
  unfold fcmp; dsimp only; rw [dv_order hx hy]; show (!(compare a b == Ordering.eq)) = _; rw [cmp_eq]
/-- Against a word that is no such number. -/
theorem dv_order2 {k : FloatKind} {x y : Nat} {a : Int} {t : Bool} {n : Nat} {j : Int} (hx : Dv k x a) (hy : k.format.read y = .number t n j) (hj : k.format.leastPlace ≤ j) : k.format.order x y = some (compare (a * (2 ^ (-10 - k.format.leastPlace).toNat : Nat)) (vD k.format.leastPlace t n j)) := by
  obtain ⟨s, m, i, r1, l1, v1⟩ := hx
  unfold Ieee.Format.order
  rw [r1, hy, order_vD l1 hj, v1]
theorem dv_gtr2 {k : FloatKind} {x y : Nat} {a : Int} {t : Bool} {n : Nat} {j : Int} (hx : Dv k x a) (hy : k.format.read y = .number t n j) (hj : k.format.leastPlace ≤ j) : fcmp .gtr k x y = decide (vD k.format.leastPlace t n j < a * (2 ^ (-10 - k.format.leastPlace).toNat : Nat)) := by
  unfold fcmp; dsimp only; rw [dv_order2 hx hy hj]; exact cmp_gt
theorem dv_leq2 {k : FloatKind} {x y : Nat} {a : Int} {t : Bool} {n : Nat} {j : Int} (hx : Dv k x a) (hy : k.format.read y = .number t n j) (hj : k.format.leastPlace ≤ j) : fcmp .leq k x y = decide (a * (2 ^ (-10 - k.format.leastPlace).toNat : Nat) ≤ vD k.format.leastPlace t n j) := by
  unfold fcmp; dsimp only; rw [dv_order2 hx hy hj]; exact cmp_le'
/-! ### halves, and wider words -/
theorem dv_half {x : Nat} {a : Int} (hx : Dv .f32 x (2 * a)) (ha : a.natAbs < 2 ^ 24) : Dv .f32 (fop .mul .f32 1056964608 x) a := by
  obtain ⟨s, m, e, r, l, v⟩ := hx
  have hl : (FloatKind.f32.format).leastPlace = -149 := by decide
  have hr : (FloatKind.f32.format).read 1056964608 = .number false 8388608 (-24) := by decide +kernel
  have hm : m < 2 ^ 24 := by
    rcases read_single x with ⟨s', t, h⟩ | ⟨s', h⟩ | ⟨s', m', e', h, h1, h2, h3⟩
    · rw [show (FloatKind.f32.format).read x = Ieee.single.read x from rfl, h] at r; cases r
    · rw [show (FloatKind.f32.format).read x = Ieee.single.read x from rfl, h] at r; cases r
    · rw [show (FloatKind.f32.format).read x = Ieee.single.read x from rfl, h] at r; cases r; exact h1
  have h1 := vD_abs (-149) s m e
  have h2 := vD_sign (-149) s m e
  rw [hl] at l v
  rw [v] at h1 h2
  have hp := unit_pos (-10 - -149 : Int).toNat
  rw [Int.natAbs_mul] at h1
  have h1 : (2 * a).natAbs * 2 ^ 139 = m * 2 ^ (e - -149).toNat := h1
  have hz : m = 0 → a = 0 := by
    intro c; rw [c, Nat.zero_mul] at h1
    have := Nat.two_pow_pos 139
    rcases Nat.mul_eq_zero.1 h1 with d | d <;> omega
  refine fop_some (z := (FloatKind.f32.format).nearest s (8388608 * m) (-24 + e)) ?_ (dv_near fk1 ?_ (fun c => hz (by omega)) ha ⟨fun c => ?_, fun c => ?_⟩)
  · show (FloatKind.f32.format).mul 1056964608 x = _
    unfold Ieee.Format.mul
    rw [hr, r]
    show some ((FloatKind.f32.format).nearest (false ^^ s) _ _) = _
    rw [Bool.false_xor]
  · by_cases c : m = 0
    · left; rw [c]
    right
    have hbig : 115 < (e - -149).toNat := by
      have ha0 : a ≠ 0 := by
        intro d
        rw [d] at h1
        have h1 : 0 = m * 2 ^ (e - -149).toNat := by rw [← h1]; rfl
        have := Nat.two_pow_pos (e - -149).toNat
        rcases Nat.mul_eq_zero.1 h1.symm with d | d <;> omega
      have h3 : 2 ^ 139 ≤ m * 2 ^ (e - -149).toNat := by rw [← h1]; exact Nat.le_mul_of_pos_left _ (by omega)
      have h4 : m * 2 ^ (e - -149).toNat < 2 ^ 24 * 2 ^ (e - -149).toNat := Nat.mul_lt_mul_of_pos_right hm (Nat.two_pow_pos _)
      rw [← Nat.pow_add] at h4
      have := (Nat.pow_lt_pow_iff_right (a := 2) (by decide)).1 (Nat.lt_of_le_of_lt h3 h4); omega
    rw [hl]
    refine ⟨by omega, ?_⟩
    have h5 : (e - -149).toNat = (-24 + e - -149).toNat + 24 := by omega
    rw [h5, Nat.pow_add] at h1
    show 8388608 * m * 2 ^ (-24 + e - -149).toNat = a.natAbs * 2 ^ 139
    generalize 2 ^ (-24 + e - -149).toNat = q at *
    have h6 : (2 * a).natAbs = 2 * a.natAbs := by omega
    rw [h6] at h1
    have h7 : m * (q * 2 ^ 24) = 2 * (8388608 * m * q) := by
      rw [show (2 : Nat) ^ 24 = 2 * 8388608 by decide, ← Nat.mul_assoc, ← Nat.mul_assoc, Nat.mul_comm (m * q) 2, Nat.mul_assoc, Nat.mul_assoc 8388608 m q, Nat.mul_comm (m * q)]
    rw [h7, Nat.mul_assoc] at h1
    omega
  · exact Int.not_lt.1 fun d => by have := Int.mul_pos (show (0 : Int) < 2 * a by omega) hp; have := h2.1 c; omega
  · exact Int.not_lt.1 fun d => by have := Int.mul_neg_of_neg_of_pos (show 2 * a < 0 by omega) hp; have := h2.2 c; omega
theorem dv_widen {x : Nat} {a : Int} (hx : Dv .f32 x a) (ha : a.natAbs < 2 ^ 53) : Dv .f64 (widen x) a := by
  obtain ⟨s, m, e, r, l, v⟩ := hx
  have hl : (FloatKind.f32.format).leastPlace = -149 := by decide
  have hl2 : (FloatKind.f64.format).leastPlace = -1074 := by decide
  have h1 := vD_abs (-149) s m e
  have h2 := vD_sign (-149) s m e
  rw [hl] at l v
  rw [v] at h1 h2
  have hp := unit_pos (-10 - -149 : Int).toNat
  rw [Int.natAbs_mul] at h1
  have h1 : a.natAbs * 2 ^ 139 = m * 2 ^ (e - -149).toNat := h1
  have hn : Dv .f64 ((FloatKind.f64.format).nearest s m e) a := by
    refine dv_near fk2 (.inr ?_) (fun c => ?_) ha ⟨fun c => ?_, fun c => ?_⟩
    · rw [hl2]
      refine ⟨by omega, ?_⟩
      obtain ⟨w, hw⟩ : ∃ w : Nat, w = 925 := ⟨_, rfl⟩
      rw [show (e - -1074).toNat = (e - -149).toNat + w by omega, Nat.pow_add, ← Nat.mul_assoc, ← h1, Nat.mul_assoc, ← Nat.pow_add]
      congr 2
      omega
    · rw [c, Nat.zero_mul] at h1
      have := Nat.two_pow_pos 139
      rcases Nat.mul_eq_zero.1 h1 with d | d <;> omega
    · exact Int.not_lt.1 fun d => by have := Int.mul_pos d hp; have := h2.1 c; omega
    · exact Int.not_lt.1 fun d => by have := Int.mul_neg_of_neg_of_pos d hp; have := h2.2 c; omega
  have hw : fconv .f32 x .f64 = some ((FloatKind.f64.format).nearest s m e) := by
    unfold fconv
    rw [if_neg (by decide), show FloatKind.f32.decode x = (FloatKind.f32.format).read x from rfl, r]
    dsimp only
    have he : FloatKind.f64.encode (.number s m e) = (FloatKind.f64.format).nearest s m e := rfl
    rw [he, dv_cz hn]
    obtain ⟨s', m', e', r', _⟩ := hn
    rw [show FloatKind.f64.decode _ = (FloatKind.f64.format).read _ from rfl, r']; rfl
  unfold widen
  rw [hw]; exact hn

end Go.Proofs.YtecdkjnomkdbkaaDoor.G

namespace Go.Proofs.YtecdkjnomkdbkaaDoor.G
open Go Go.Ab
set_option maxRecDepth 100000
set_option linter.unusedVariables false
set_option linter.unusedSimpArgs false
set_option maxHeartbeats 1000000
open Ieee in
theorem rung_val {f : Format} (h : Fmt f) (s : Bool) {r : Nat} (hr : r < f.infRung) : ∃ m e, f.read (f.word s r) = .number s m e ∧ f.leastPlace ≤ e ∧ (∀ n, r ≤ (n + 2) * 2 ^ f.fractionBits → m * 2 ^ (e - f.leastPlace).toNat ≤ 2 ^ (f.fractionBits + 1 + n)) ∧ (∀ n, (n + 1) * 2 ^ f.fractionBits ≤ r → 2 ^ (f.fractionBits + n) ≤ m * 2 ^ (e - f.leastPlace).toNat) := by
  have hB := h.b
  rw [read_word h s (Nat.le_of_lt hr), hB]
  generalize f.fractionBits = p at *
  generalize f.leastPlace = L at *
  have hp : 0 < 2 ^ p := Nat.two_pow_pos _
  by_cases c : r < 2 ^ p
  · rw [if_pos c]
    refine ⟨_, _, rfl, Int.le_refl _, ?_, ?_⟩
    · intro n _
      rw [Int.sub_self]
      have : 2 ^ p ≤ 2 ^ (p + 1 + n) := Nat.pow_le_pow_right (by decide) (by omega)
      simp; omega
    · intro n hn
      have : 1 * 2 ^ p ≤ (n + 1) * 2 ^ p := Nat.mul_le_mul_right _ (by omega)
      omega
  · rw [if_neg c, if_pos hr]
    have hj : 1 ≤ r / 2 ^ p := (Nat.le_div_iff_mul_le hp).2 (by omega)
    have hm : r % 2 ^ p < 2 ^ p := Nat.mod_lt _ hp
    have hd := Nat.div_add_mod r (2 ^ p)
    refine ⟨_, _, rfl, by omega, ?_, ?_⟩
    · intro n hn
      have e1 : (L + ((r / 2 ^ p - 1 : Nat) : Int) - L).toNat = r / 2 ^ p - 1 := by omega
      rw [e1]
      have hjn : r / 2 ^ p ≤ n + 2 := by
        refine (Nat.div_le_iff_le_mul_add_pred hp).2 ?_
        rw [Nat.mul_comm]; omega
      by_cases cj : r / 2 ^ p ≤ n + 1
      · have h1 : 2 ^ (r / 2 ^ p - 1) ≤ 2 ^ n := Nat.pow_le_pow_right (by decide) (by omega)
        rw [Nat.pow_add 2 (p + 1) n]
        refine Nat.mul_le_mul ?_ h1
        rw [Nat.pow_succ]; omega
      · have h2 : r / 2 ^ p = n + 2 := by omega
        rw [h2] at hd ⊢
        rw [Nat.mul_comm] at hd
        have h3 : r % 2 ^ p = 0 := by omega
        rw [h3, Nat.add_zero, ← Nat.pow_add]
        exact Nat.le_of_eq (by congr 1; omega)
    · intro n hn
      have e1 : (L + ((r / 2 ^ p - 1 : Nat) : Int) - L).toNat = r / 2 ^ p - 1 := by omega
      rw [e1]
      have hjn : n + 1 ≤ r / 2 ^ p := (Nat.le_div_iff_mul_le hp).2 hn
      rw [Nat.pow_add]
      exact Nat.mul_le_mul (by omega) (Nat.pow_le_pow_right (by decide) (by omega))
open Ieee in
theorem cut_zero (s : Bool) (n : Nat) : Toward.even.cut s n 0 = n := by
  unfold Toward.cut
  simp [Nat.mod_one]
open Ieee in
theorem cut_le (s : Bool) (n d : Nat) : n / 2 ^ min d (n.log2 + 2) ≤ Toward.even.cut s n d ∧ Toward.even.cut s n d ≤ n / 2 ^ min d (n.log2 + 2) + 1 := by
  unfold Toward.cut
  rw [Nat.one_shiftLeft]
  dsimp only
  have : ∀ b : Bool, b.toNat ≤ 1 := by intro b; cases b <;> decide
  constructor
  · exact Nat.le_add_right _ _
  · exact Nat.add_le_add_left (this _) _
open Ieee in
theorem near_log {f : Format} (h : Fmt f) (s : Bool) {M : Nat} {e : Int} (hM : M ≠ 0) (hI : (e + M.log2 - f.fractionBits - f.leastPlace).toNat + 4 ≤ 2 ^ f.exponentBits) : ∃ m q, f.read (f.nearest s M e) = .number s m q ∧ f.leastPlace ≤ q ∧ m * 2 ^ (q - f.leastPlace).toNat ≤ 2 ^ (f.fractionBits + 1 + (e + M.log2 - f.fractionBits - f.leastPlace).toNat) ∧ (f.leastPlace + f.fractionBits ≤ e + M.log2 → 2 ^ (e + M.log2 - f.leastPlace).toNat ≤ m * 2 ^ (q - f.leastPlace).toNat) := by
  have hB := h.b
  have hr := h.r
  have hp : 0 < 2 ^ f.fractionBits := Nat.two_pow_pos _
  have g1 : M < 2 ^ (M.log2 + 1) := Nat.lt_log2_self
  have g2 : 2 ^ M.log2 ≤ M := Nat.log2_self_le hM
  unfold Format.nearest
  rw [if_neg hM]
  dsimp only
  have key : ∃ kept, Toward.even.cut s (M <<< (e - max (e + M.log2 - f.fractionBits) f.leastPlace).toNat) (max (e + M.log2 - f.fractionBits) f.leastPlace - e).toNat = kept ∧ kept ≤ 2 ^ (f.fractionBits + 1) ∧ (f.leastPlace + f.fractionBits ≤ e + M.log2 → 2 ^ f.fractionBits ≤ kept) := by
    refine ⟨_, rfl, ?_⟩
    generalize f.fractionBits = p at *
    generalize f.leastPlace = L at *
    generalize hg : M.log2 = g at *
    generalize hl : max (e + g - p) L = last at *
    rw [Nat.shiftLeft_eq]
    by_cases c : last ≤ e
    · rw [show (last - e).toNat = 0 by omega, cut_zero]
      constructor
      · have h1 : M * 2 ^ (e - last).toNat < 2 ^ (g + 1) * 2 ^ (e - last).toNat := Nat.mul_lt_mul_of_pos_right g1 (Nat.two_pow_pos _)
        rw [← Nat.pow_add] at h1
        have h2 : 2 ^ (g + 1 + (e - last).toNat) ≤ 2 ^ (p + 1) := Nat.pow_le_pow_right (by decide) (by omega)
        omega
      · intro hc
        have h1 : 2 ^ g * 2 ^ (e - last).toNat ≤ M * 2 ^ (e - last).toNat := Nat.mul_le_mul_right _ g2
        rw [← Nat.pow_add, show g + (e - last).toNat = p by omega] at h1
        exact h1
    · rw [show (e - last).toNat = 0 by omega, Nat.pow_zero, Nat.mul_one]
      obtain ⟨k1, k2⟩ := cut_le s M (last - e).toNat
      rw [hg] at k1 k2
      constructor
      · refine Nat.le_trans k2 ?_
        have hx : M / 2 ^ min (last - e).toNat (g + 2) < 2 ^ (p + 1) := by
          refine (Nat.div_lt_iff_lt_mul (Nat.two_pow_pos _)).2 (Nat.lt_of_lt_of_le g1 ?_)
          rw [← Nat.pow_add]
          exact Nat.pow_le_pow_right (by decide) (by omega)
        omega
      · intro hc
        refine Nat.le_trans ?_ k1
        refine (Nat.le_div_iff_mul_le (Nat.two_pow_pos _)).2 ?_
        rw [← Nat.pow_add]
        exact Nat.le_trans (Nat.pow_le_pow_right (by decide) (by omega)) g2
  obtain ⟨kept, k0, k1, k2⟩ := key
  rw [k0]
  have hn : (max (e + M.log2 - f.fractionBits) f.leastPlace - f.leastPlace).toNat = (e + M.log2 - f.fractionBits - f.leastPlace).toNat := by omega
  rw [hn]
  generalize hN : (e + M.log2 - f.fractionBits - f.leastPlace).toNat = n at *
  rw [Nat.pow_succ] at k1
  have hu : n * f.binade + kept ≤ (n + 2) * 2 ^ f.fractionBits := by
    rw [hB, Nat.add_mul]; omega
  have hlt : n * f.binade + kept < f.infRung := by
    refine Nat.lt_of_le_of_lt hu ?_
    rw [hr, hB]
    exact Nat.mul_lt_mul_of_pos_right (by omega) hp
  rw [Nat.min_eq_left (Nat.le_of_lt hlt)]
  obtain ⟨m, q, r1, r2, r3, r4⟩ := rung_val h s hlt
  refine ⟨m, q, r1, r2, r3 n hu, ?_⟩
  intro hc
  have := r4 n (by rw [hB, Nat.add_mul]; have := k2 hc; omega)
  rw [show (e + M.log2 - f.leastPlace).toNat = f.fractionBits + n by omega]
  exact this

end Go.Proofs.YtecdkjnomkdbkaaDoor.G

namespace Go.Proofs.YtecdkjnomkdbkaaDoor.G
open Go Go.Ab
set_option maxRecDepth 100000
set_option linter.unusedVariables false
set_option linter.unusedSimpArgs false
set_option maxHeartbeats 1000000
open Ieee in
/-- The word x of kind k is a number of at most 2 ^ A least places. -/
def Bf (k : FloatKind) (x A : Nat) : Prop := ∃ s m e, k.format.read x = .number s m e ∧ k.format.leastPlace ≤ e ∧ m * 2 ^ (e - k.format.leastPlace).toNat ≤ 2 ^ A
theorem bf_cz {k : FloatKind} {x A : Nat} (h : Bf k x A) : cz k x = x := by
  obtain ⟨s, m, e, r, _⟩ := h
  unfold cz
  rw [show k.decode x = k.format.read x from rfl, r]; rfl
theorem bf_fop {op : BinOp} {k : FloatKind} {x y z A : Nat} (h : floatBits op k x y = some z) (hz : Bf k z A) : Bf k (fop op k x y) A := by
  unfold fop
  rw [h]
  show Bf k (cz k z) A
  rw [bf_cz hz]; exact hz
theorem Bf.up {k : FloatKind} {x A B : Nat} (h : Bf k x A) (hAB : A ≤ B) : Bf k x B := by
  obtain ⟨s, m, e, r, l, v⟩ := h
  exact ⟨s, m, e, r, l, Nat.le_trans v (Nat.pow_le_pow_right (by decide) hAB)⟩
theorem log_le {M a A : Nat} (hM : M ≠ 0) (h : M * 2 ^ a ≤ 2 ^ A) : M.log2 + a ≤ A := by
  have h1 : 2 ^ M.log2 * 2 ^ a ≤ M * 2 ^ a := Nat.mul_le_mul_right _ (Nat.log2_self_le hM)
  rw [← Nat.pow_add] at h1
  exact (Nat.pow_le_pow_iff_right (a := 2) (by decide)).1 (Nat.le_trans h1 h)
theorem bf_near {k : FloatKind} (hk : Fmt k.format) (s : Bool) {M A : Nat} {e : Int} (hA : k.format.fractionBits ≤ A) (hI : A + 4 ≤ 2 ^ k.format.exponentBits + k.format.fractionBits) (h : M ≠ 0 → e + M.log2 - k.format.leastPlace ≤ A) : Bf k (k.format.nearest s M e) (A + 1) := by
  by_cases hM : M = 0
  · refine ⟨s, 0, k.format.leastPlace, ?_, Int.le_refl _, by simp⟩
    unfold Ieee.Format.nearest
    have hBp : 0 < k.format.binade := by rw [hk.b]; exact Nat.two_pow_pos _
    rw [if_pos hM, read_word hk s (Nat.zero_le _), if_pos hBp]
  · have := h hM
    obtain ⟨m, q, r1, r2, r3, _⟩ := near_log hk s (e := e) hM (by omega)
    exact ⟨s, m, q, r1, r2, Nat.le_trans r3 (Nat.pow_le_pow_right (by decide) (by omega))⟩
open Ieee in
theorem bf_mul {k : FloatKind} (hk : Fmt k.format) {x y A B C : Nat} (hx : Bf k x A) (hy : Bf k y B) (hC : k.format.fractionBits ≤ C) (hI : C + 4 ≤ 2 ^ k.format.exponentBits + k.format.fractionBits) (h : (A : Int) + B + k.format.leastPlace ≤ C) : Bf k (fop .mul k x y) (C + 1) := by
  obtain ⟨s, m, i, r1, l1, v1⟩ := hx
  obtain ⟨t, n, j, r2, l2, v2⟩ := hy
  refine bf_fop (z := k.format.nearest (s ^^ t) (m * n) (i + j)) ?_ (bf_near hk _ hC hI ?_)
  · show k.format.mul x y = _
    unfold Format.mul
    rw [r1, r2]; rfl
  · intro hz
    have v3 := Nat.mul_le_mul v1 v2
    rw [← Nat.pow_add, show m * 2 ^ (i - k.format.leastPlace).toNat * (n * 2 ^ (j - k.format.leastPlace).toNat) = m * n * 2 ^ ((i - k.format.leastPlace).toNat + (j - k.format.leastPlace).toNat) by rw [Nat.pow_add]; ac_rfl] at v3
    have := log_le hz v3
    omega
theorem bf_sumw {k : FloatKind} (hk : Fmt k.format) {s t : Bool} {m n A : Nat} {i j : Int} (l1 : k.format.leastPlace ≤ i) (l2 : k.format.leastPlace ≤ j) (v1 : m * 2 ^ (i - k.format.leastPlace).toNat ≤ 2 ^ A) (v2 : n * 2 ^ (j - k.format.leastPlace).toNat ≤ 2 ^ A) (hA : k.format.fractionBits ≤ A + 1) (hI : A + 5 ≤ 2 ^ k.format.exponentBits + k.format.fractionBits) : ∃ z, ((Ieee.Datum.number s m i).sum (.number t n j)).map k.format.write = some z ∧ Bf k z (A + 2) := by
  obtain ⟨u, M, c, h1, h2, h3, _, _⟩ := sum_num (s := s) (t := t) (m := m) (n := n) l1 l2
  refine ⟨_, by rw [h1]; rfl, bf_near (A := A + 1) hk _ hA hI ?_⟩
  intro hz
  have h4 : M * 2 ^ (c - k.format.leastPlace).toNat ≤ 2 ^ (A + 1) := by
    rw [h3, Nat.pow_succ]
    have a1 := vD_abs k.format.leastPlace s m i
    have a2 := vD_abs k.format.leastPlace t n j
    omega
  have := log_le hz h4
  omega
theorem bf_add {k : FloatKind} (hk : Fmt k.format) {x y A : Nat} (hx : Bf k x A) (hy : Bf k y A) (hA : k.format.fractionBits ≤ A + 1) (hI : A + 5 ≤ 2 ^ k.format.exponentBits + k.format.fractionBits) : Bf k (fop .add k x y) (A + 2) := by
  obtain ⟨s, m, i, r1, l1, v1⟩ := hx
  obtain ⟨t, n, j, r2, l2, v2⟩ := hy
  obtain ⟨z, h1, h2⟩ := bf_sumw hk (s := s) (t := t) l1 l2 v1 v2 hA hI
  refine bf_fop (z := z) ?_ h2
  show k.format.add x y = some z
  unfold Ieee.Format.add
  rw [r1, r2]; exact h1
theorem bf_sub {k : FloatKind} (hk : Fmt k.format) {x y A : Nat} (hx : Bf k x A) (hy : Bf k y A) (hA : k.format.fractionBits ≤ A + 1) (hI : A + 5 ≤ 2 ^ k.format.exponentBits + k.format.fractionBits) : Bf k (fop .sub k x y) (A + 2) := by
  obtain ⟨s, m, i, r1, l1, v1⟩ := hx
  obtain ⟨t, n, j, r2, l2, v2⟩ := hy
  obtain ⟨z, h1, h2⟩ := bf_sumw hk (s := s) (t := !t) l1 l2 v1 v2 hA hI
  refine bf_fop (z := z) ?_ h2
  show k.format.sub x y = some z
  unfold Ieee.Format.sub
  rw [r1, r2]; exact h1
/-- The word x of kind k is a number of at least 2 ^ A least places. -/
def Lf (k : FloatKind) (x A : Nat) : Prop := ∃ s m e, k.format.read x = .number s m e ∧ k.format.leastPlace ≤ e ∧ 2 ^ A ≤ m * 2 ^ (e - k.format.leastPlace).toNat
theorem le_log {M a A : Nat} (h : 2 ^ A ≤ M * 2 ^ a) : A ≤ M.log2 + a := by
  have h1 : M * 2 ^ a < 2 ^ (M.log2 + 1) * 2 ^ a := Nat.mul_lt_mul_of_pos_right Nat.lt_log2_self (Nat.two_pow_pos _)
  rw [← Nat.pow_add] at h1
  have := (Nat.pow_lt_pow_iff_right (a := 2) (by decide)).1 (Nat.lt_of_le_of_lt h h1)
  omega
open Ieee in
theorem bf_quo {k : FloatKind} (hk : Fmt k.format) {x y A B C : Nat} (hx : Bf k x A) (hy : Lf k y B) (hC : k.format.fractionBits ≤ C) (hI : C + 4 ≤ 2 ^ k.format.exponentBits + k.format.fractionBits) (h : (A : Int) - B - k.format.leastPlace ≤ C) : Bf k (fop .quo k x y) (C + 1) := by
  obtain ⟨s, m, i, r1, l1, v1⟩ := hx
  obtain ⟨t, n, j, r2, l2, v2⟩ := hy
  have hn : n ≠ 0 := by
    intro c; rw [c, Nat.zero_mul] at v2; have := Nat.two_pow_pos B; omega
  have hnb := le_log v2
  generalize hmo : k.format.fractionBits + 2 + n.log2 - m.log2 = more
  refine bf_fop (z := k.format.nearest (s ^^ t) (2 * ((m <<< more) / n) + ((m <<< more) % n != 0).toNat) (i - j - more - 1)) ?_ (bf_near hk _ hC hI ?_)
  · show k.format.div x y = _
    unfold Format.div Datum.quotient
    rw [r1, r2]
    simp only [hn, if_false, hmo]; rfl
  · intro hz
    by_cases hm : m = 0
    · exfalso; apply hz; rw [hm]; simp
    have hma := log_le hm v1
    have b1 : m <<< more < 2 ^ (m.log2 + 1 + more) := by
      rw [Nat.shiftLeft_eq, Nat.pow_add]
      exact Nat.mul_lt_mul_of_pos_right Nat.lt_log2_self (Nat.two_pow_pos _)
    have b2 : (m <<< more) / n < 2 ^ (m.log2 + 1 + more - n.log2) := by
      refine (Nat.div_lt_iff_lt_mul (by omega)).2 (Nat.lt_of_lt_of_le b1 ?_)
      refine Nat.le_trans (Nat.le_of_eq ?_) (Nat.mul_le_mul_left _ (Nat.log2_self_le hn))
      rw [← Nat.pow_add]; congr 1; omega
    have b3 : ∀ b : Bool, b.toNat ≤ 1 := by intro b; cases b <;> decide
    have b4 := b3 ((m <<< more) % n != 0)
    have b5 : 2 * ((m <<< more) / n) + ((m <<< more) % n != 0).toNat < 2 ^ (m.log2 + 1 + more - n.log2 + 1) := by
      rw [Nat.pow_succ]; omega
    have b6 := (Nat.log2_lt hz).2 b5
    omega
open Ieee in
theorem fconv_some {y A : Nat} (h : Bf .f64 y A) (hA : A ≤ 1170) : (fconv .f64 y .f32).isSome = true := by
  obtain ⟨s, m, e, r, l, v⟩ := h
  unfold fconv
  rw [if_neg (by decide), show FloatKind.decode .f64 y = (FloatKind.format .f64).read y from rfl, r]
  have hL : (FloatKind.format .f64).leastPlace = -1074 := by decide
  rw [hL] at l v
  have hb : Bf .f32 (FloatKind.encode .f32 (.number s m e)) (254 + 1) := by
    refine bf_near (k := .f32) (M := m) (e := e) (A := 254) fmt1 s (by decide) (by decide) ?_
    intro hm
    have := log_le hm v
    have h2 : (FloatKind.format .f32).leastPlace = -149 := by decide
    rw [h2]; omega
  obtain ⟨s2, m2, e2, r2, _⟩ := hb
  dsimp only
  rw [show FloatKind.decode .f32 (FloatKind.encode .f32 (.number s m e)) = (FloatKind.format .f32).read (FloatKind.encode .f32 (.number s m e)) from rfl, r2]
  rfl
open Ieee in
theorem lf_near {k : FloatKind} (hk : Fmt k.format) (s : Bool) {M A : Nat} {e : Int} (hM : M ≠ 0) (hI : (e + M.log2 - k.format.fractionBits - k.format.leastPlace).toNat + 4 ≤ 2 ^ k.format.exponentBits) (hA : k.format.fractionBits ≤ A) (h : (A : Int) ≤ e + M.log2 - k.format.leastPlace) : Lf k (k.format.nearest s M e) A := by
  obtain ⟨m, q, r1, r2, _, r4⟩ := near_log hk s (e := e) hM hI
  exact ⟨s, m, q, r1, r2, Nat.le_trans (Nat.pow_le_pow_right (by decide) (by omega)) (r4 (by omega))⟩
theorem lf_fop {op : BinOp} {k : FloatKind} {x y z A : Nat} (h : floatBits op k x y = some z) (hz : Lf k z A) : Lf k (fop op k x y) A := by
  have hc : cz k z = z := by
    obtain ⟨s, m, e, r, _⟩ := hz
    unfold cz
    rw [show k.decode z = k.format.read z from rfl, r]; rfl
  unfold fop
  rw [h]
  show Lf k (cz k z) A
  rw [hc]; exact hz
open Ieee in
theorem lf_mul {k : FloatKind} (hk : Fmt k.format) {x y A B C A2 B2 : Nat} (hx : Lf k x A) (hy : Lf k y B) (hx2 : Bf k x A2) (hy2 : Bf k y B2) (hI : (A2 : Int) + B2 + k.format.leastPlace + 5 ≤ 2 ^ k.format.exponentBits + k.format.fractionBits) (hC : k.format.fractionBits ≤ C) (h : (C : Int) ≤ A + B + k.format.leastPlace) : Lf k (fop .mul k x y) C := by
  obtain ⟨s, m, i, r1, l1, v1⟩ := hx
  obtain ⟨t, n, j, r2, l2, v2⟩ := hy
  obtain ⟨s', m', i', r1', _, w1⟩ := hx2
  obtain ⟨t', n', j', r2', _, w2⟩ := hy2
  rw [r1] at r1'; rw [r2] at r2'
  cases r1'; cases r2'
  have v3 := Nat.mul_le_mul v1 v2
  have w3 := Nat.mul_le_mul w1 w2
  rw [← Nat.pow_add, show m * 2 ^ (i - k.format.leastPlace).toNat * (n * 2 ^ (j - k.format.leastPlace).toNat) = m * n * 2 ^ ((i - k.format.leastPlace).toNat + (j - k.format.leastPlace).toNat) by rw [Nat.pow_add]; ac_rfl] at v3 w3
  have hz : m * n ≠ 0 := by
    intro c; rw [c, Nat.zero_mul] at v3; have := Nat.two_pow_pos (A + B); omega
  have a1 := log_le hz w3
  have a2 := le_log v3
  have he : (0 : Int) ≤ 2 ^ k.format.exponentBits := Int.le_of_lt (Int.pow_pos (by decide))
  refine lf_fop (z := k.format.nearest (s ^^ t) (m * n) (i + j)) ?_ (lf_near hk _ hz ?_ hC (by omega))
  · show k.format.mul x y = _
    unfold Format.mul
    rw [r1, r2]; rfl
  · have hb : ((2 ^ k.format.exponentBits : Nat) : Int) = (2 : Int) ^ k.format.exponentBits := by simp
    have h4 : 4 ≤ 2 ^ k.format.exponentBits := Nat.le_trans (by decide : 4 ≤ 2 ^ 2) (Nat.pow_le_pow_right (by decide) hk.x)
    omega
open Ieee in
/-- The word x of kind k is a positive number between 2 ^ A and 2 ^ B least places. -/
def Pf (k : FloatKind) (x A B : Nat) : Prop := ∃ m e, k.format.read x = .number false m e ∧ k.format.leastPlace ≤ e ∧ 2 ^ A ≤ m * 2 ^ (e - k.format.leastPlace).toNat ∧ m * 2 ^ (e - k.format.leastPlace).toNat ≤ 2 ^ B
theorem Pf.bf {k : FloatKind} {x A B : Nat} (h : Pf k x A B) : Bf k x B := by
  obtain ⟨m, e, r, l, _, v⟩ := h
  exact ⟨false, m, e, r, l, v⟩
theorem Pf.lf {k : FloatKind} {x A B : Nat} (h : Pf k x A B) : Lf k x A := by
  obtain ⟨m, e, r, l, v, _⟩ := h
  exact ⟨false, m, e, r, l, v⟩
open Ieee in
theorem lf_add {k : FloatKind} (hk : Fmt k.format) {x y A B C D : Nat} (hx : Pf k x A B) (hy : Pf k y C D) (hBD : B ≤ D) (hI : D + 5 ≤ 2 ^ k.format.exponentBits + k.format.fractionBits) (hC : k.format.fractionBits ≤ C) : Lf k (fop .add k x y) C := by
  obtain ⟨m, i, r1, l1, v1, w1⟩ := hx
  obtain ⟨n, j, r2, l2, v2, w2⟩ := hy
  obtain ⟨u, M, c, h1, h2, h3, _, _⟩ := sum_num (s := false) (t := false) (m := m) (n := n) l1 l2
  have a1 := vD_abs k.format.leastPlace false m i
  have a2 := vD_abs k.format.leastPlace false n j
  have b1 := (vD_sign k.format.leastPlace false m i).2 rfl
  have b2 := (vD_sign k.format.leastPlace false n j).2 rfl
  have hBD' : 2 ^ B ≤ 2 ^ D := Nat.pow_le_pow_right (by decide) hBD
  have w3 : M * 2 ^ (c - k.format.leastPlace).toNat ≤ 2 ^ (D + 1) := by
    rw [h3, Nat.pow_succ]; omega
  have v3 : 2 ^ C ≤ M * 2 ^ (c - k.format.leastPlace).toNat := by
    rw [h3]; omega
  have hz : M ≠ 0 := by
    intro c0; rw [c0, Nat.zero_mul] at v3; have := Nat.two_pow_pos C; omega
  have e1 := log_le hz w3
  have e2 := le_log v3
  have h4 : 4 ≤ 2 ^ k.format.exponentBits := Nat.le_trans (by decide : 4 ≤ 2 ^ 2) (Nat.pow_le_pow_right (by decide) hk.x)
  refine lf_fop (z := k.format.nearest u M c) ?_ (lf_near hk _ hz (by omega) hC (by omega))
  show k.format.add x y = _
  unfold Format.add
  rw [r1, r2, h1]; rfl
/-- The closed bound: rounding does not pass a power of two. -/
theorem bf_near_c {k : FloatKind} (hk : Fmt k.format) (s : Bool) {M A : Nat} {e : Int} (hA : k.format.fractionBits + 1 ≤ A) (hI : A + 4 ≤ 2 ^ k.format.exponentBits) (he : k.format.leastPlace ≤ e) (h : M * 2 ^ (e - k.format.leastPlace).toNat ≤ 2 ^ A) : Bf k (k.format.nearest s M e) A := by
  by_cases hM : M = 0
  · exact (bf_near hk s (A := A - 1) (by omega) (by omega) (fun c => absurd hM c)).up (by omega)
  have h1 := log_le hM h
  by_cases c : M.log2 + (e - k.format.leastPlace).toNat = A
  · have h2 : M = 2 ^ M.log2 := by
      have h3 := Nat.log2_self_le hM
      rw [← c, Nat.pow_add] at h
      have := Nat.le_of_mul_le_mul_right h (Nat.two_pow_pos _)
      omega
    have h4 : 2 ≤ 2 ^ (k.format.fractionBits + 1) := Nat.le_trans (by decide : 2 ≤ 2 ^ 1) (Nat.pow_le_pow_right (by decide) (by omega))
    obtain ⟨m, q, r1, r2, r3⟩ := near_exact hk s (M := M) (M0 := 2 ^ 0) (k := M.log2) (e := e) (by rw [Nat.pow_zero, Nat.one_mul]; exact h2) (by rw [Nat.pow_zero]; omega) (by omega) (by omega)
    refine ⟨s, m, q, r1, r2, ?_⟩
    rw [r3, Nat.pow_zero, Nat.one_mul]
    exact Nat.pow_le_pow_right (by decide) (by omega)
  · refine (bf_near hk s (A := A - 1) (by omega) (by omega) (fun _ => by omega)).up (by omega)

end Go.Proofs.YtecdkjnomkdbkaaDoor.G

namespace Go.Proofs.YtecdkjnomkdbkaaDoor.G
open Go Go.Ab
set_option maxRecDepth 100000
set_option linter.unusedVariables false
set_option linter.unusedSimpArgs false
set_option maxHeartbeats 1000000
open Ieee in
/-- x is a number of at most 2 ^ A least places. -/
def bfb (k : FloatKind) (x A : Nat) : Bool := match k.format.read x with
  | .number _ m e => decide (k.format.leastPlace ≤ e) && decide (m * 2 ^ (e - k.format.leastPlace).toNat ≤ 2 ^ A)
  | _ => false
theorem bf_of {k : FloatKind} {x A : Nat} (h : bfb k x A = true) : Bf k x A := by
  unfold bfb at h
  split at h
  · rename_i s m e hr
    rw [Bool.and_eq_true, decide_eq_true_eq, decide_eq_true_eq] at h
    exact ⟨s, m, e, hr, h.1, h.2⟩
  · cases h
open Ieee in
/-- x is a positive number between 2 ^ A and 2 ^ B least places. -/
def pfb (k : FloatKind) (x A B : Nat) : Bool := match k.format.read x with
  | .number false m e => decide (k.format.leastPlace ≤ e) && decide (2 ^ A ≤ m * 2 ^ (e - k.format.leastPlace).toNat) && decide (m * 2 ^ (e - k.format.leastPlace).toNat ≤ 2 ^ B)
  | _ => false
theorem pf_of {k : FloatKind} {x A B : Nat} (h : pfb k x A B = true) : Pf k x A B := by
  unfold pfb at h
  split at h
  · rename_i m e hr
    rw [Bool.and_eq_true, Bool.and_eq_true, decide_eq_true_eq, decide_eq_true_eq, decide_eq_true_eq] at h
    exact ⟨m, e, hr, h.1.1, h.1.2, h.2⟩
  · cases h
def shrW (c n : Nat) : Nat := fop .quo .f32 (itof .f32 (c : Int)) (itof .f32 (n : Int))
def okS (x : Nat) : Bool := pfb .f32 x 142 149 && pFin x && pfb .f64 (widen x) 1067 1074
theorem ok128 : ∀ n : Nat, n < 129 → ∀ c : Nat, c < 129 → (1 ≤ c && decide (c ≤ n)) = true → okS (shrW c n) = true := by decide +kernel

end Go.Proofs.YtecdkjnomkdbkaaDoor.G

namespace Go.Proofs.YtecdkjnomkdbkaaDoor.G
open Go Go.Ab
set_option maxRecDepth 100000
set_option linter.unusedVariables false
set_option linter.unusedSimpArgs false
set_option maxHeartbeats 1000000
set_option exponentiation.threshold 4000
open Ieee in
/-- The word x of kind k is v least places. -/
def Vf (k : FloatKind) (x : Nat) (v : Int) : Prop := ∃ s m e, k.format.read x = .number s m e ∧ k.format.leastPlace ≤ e ∧ vD k.format.leastPlace s m e = v
open Ieee in
def vfb (k : FloatKind) (x : Nat) (v : Int) : Bool := match k.format.read x with
  | .number s m e => decide (k.format.leastPlace ≤ e) && decide (vD k.format.leastPlace s m e = v)
  | _ => false
theorem vf_of {k : FloatKind} {x : Nat} {v : Int} (h : vfb k x v = true) : Vf k x v := by
  unfold vfb at h
  split at h
  · rename_i s m e hr
    rw [Bool.and_eq_true, decide_eq_true_eq, decide_eq_true_eq] at h
    exact ⟨s, m, e, hr, h.1, h.2⟩
  · cases h
theorem Pf.vf {k : FloatKind} {x A B : Nat} (h : Pf k x A B) : ∃ v : Nat, Vf k x v ∧ 2 ^ A ≤ v ∧ v ≤ 2 ^ B := by
  obtain ⟨m, e, r, l, v1, v2⟩ := h
  refine ⟨m * 2 ^ (e - k.format.leastPlace).toNat, ⟨false, m, e, r, l, ?_⟩, v1, v2⟩
  have h1 := vD_abs k.format.leastPlace false m e
  have h2 := (vD_sign k.format.leastPlace false m e).2 rfl
  rw [← h1]; omega
theorem vf_order {k : FloatKind} {x y : Nat} {a b : Int} (hx : Vf k x a) (hy : Vf k y b) : k.format.order x y = some (compare a b) := by
  obtain ⟨s, m, i, r1, l1, v1⟩ := hx
  obtain ⟨t, n, j, r2, l2, v2⟩ := hy
  unfold Ieee.Format.order
  rw [r1, r2, order_vD l1 l2, v1, v2]
theorem vf_lss {k : FloatKind} {x y : Nat} {a b : Int} (hx : Vf k x a) (hy : Vf k y b) : fcmp .lss k x y = decide (a < b) := by
  unfold fcmp; dsimp only; rw [vf_order hx hy]; exact cmp_lt
theorem vf_gtr {k : FloatKind} {x y : Nat} {a b : Int} (hx : Vf k x a) (hy : Vf k y b) : fcmp .gtr k x y = decide (b < a) := by
  unfold fcmp; dsimp only; rw [vf_order hx hy]; exact cmp_gt
theorem vf_eql {k : FloatKind} {x y : Nat} {a b : Int} (hx : Vf k x a) (hy : Vf k y b) : fcmp .eql k x y = decide (a = b) := by
  unfold fcmp; dsimp only; rw [vf_order hx hy]; exact cmp_eq
theorem vf_neq {k : FloatKind} {x y : Nat} {a b : Int} (hx : Vf k x a) (hy : Vf k y b) : fcmp .neq k x y = !decide (a = b) := by
  unfold fcmp; dsimp only; rw [vf_order hx hy]; show (!(compare a b == Ordering.eq)) = _; rw [cmp_eq]
theorem vf_geq {k : FloatKind} {x y : Nat} {a b : Int} (hx : Vf k x a) (hy : Vf k y b) : fcmp .geq k x y = decide (b ≤ a) := by
  unfold fcmp; dsimp only; rw [vf_order hx hy]
  show (compare a b == Ordering.gt || compare a b == Ordering.eq) = _
  rw [cmp_gt, cmp_eq, ← Bool.decide_or]
  exact decide_eq_decide.2 ⟨fun c => by omega, fun c => by omega⟩
/-! ### the constants -/
def P74 : Nat := 2 ^ 1072
theorem p74 (n : Nat) : 2 ^ (1072 + n) = 2 ^ n * P74 := by rw [P74, ← Nat.pow_add, Nat.add_comm]
theorem p74_pos : 0 < P74 := Nat.two_pow_pos _
theorem c15 : Vf .f64 (cz .f64 4609434218613702656) (6 * P74 : Nat) := vf_of (by decide +kernel)
theorem c75 : Vf .f64 (cz .f64 4604930618986332160) (3 * P74 : Nat) := vf_of (by decide +kernel)
theorem c00 : Vf .f64 (cz .f64 0) (0 : Nat) := vf_of (by decide +kernel)
theorem s00 : Vf .f32 (cz .f32 0) (0 : Nat) := vf_of (by decide +kernel)
theorem cmax : ∃ w : Nat, Vf .f64 (cz .f64 9218868437227405311) w ∧ 8 * P74 ≤ w := ⟨9007199254740991 * 2 ^ 2045, vf_of (by decide +kernel), by decide +kernel⟩
theorem c1 : Pf .f64 (cz .f64 4607182418800017408) 1074 1075 := pf_of (by decide +kernel)
theorem c1v : Vf .f64 (cz .f64 4607182418800017408) (4 * P74 : Nat) := vf_of (by decide +kernel)
theorem c2r : ∃ n : Nat, n = 2 ^ 52 ∧ (FloatKind.f64.format).read (cz .f64 4611686018427387904) = .number false n (-51) := ⟨4503599627370496, by decide, by decide +kernel⟩
theorem c2 : Bf .f64 (cz .f64 4611686018427387904) 1075 := bf_of (by decide +kernel)
theorem ksI : ∀ t : Nat, t < 13 → bfb .f64 (fop .quo .f64 (cz .f64 4607182418800017408) (itof .f64 (25 - 2 * (t : Int)))) 1074 = true := by decide +kernel
theorem ksF : ∀ t : Nat, t < 13 → fcmp .geq .f64 (itof .f64 (25 - 2 * (t : Int))) (cz .f64 4607182418800017408) = true ∧ fop .sub .f64 (itof .f64 (25 - 2 * (t : Int))) (cz .f64 4611686018427387904) = itof .f64 (25 - 2 * ((t + 1 : Nat) : Int)) := by decide +kernel
theorem ksE : fcmp .geq .f64 (itof .f64 (25 - 2 * ((13 : Nat) : Int))) (cz .f64 4607182418800017408) = false := by decide +kernel
theorem ks0 : cz .f64 4627730092099895296 = itof .f64 (25 - 2 * ((0 : Nat) : Int)) := by decide +kernel
theorem es0 : cz .f64 0 = itof .f64 (-((0 : Nat) : Int)) := by decide +kernel
theorem es1 : ∀ j : Nat, j < 9 → fop .sub .f64 (itof .f64 (-(j : Int))) (cz .f64 4607182418800017408) = itof .f64 (-((j + 1 : Nat) : Int)) := by decide +kernel
theorem es2 : ∀ j : Nat, j < 9 → bfb .f64 (fop .mul .f64 (itof .f64 (-(j : Int))) (cz .f64 4604418534313441775)) 1077 = true := by decide +kernel
/-! ### doubling -/
open Ieee in
theorem fop_read {op : BinOp} {k : FloatKind} {x y z m : Nat} {s : Bool} {e : Int} (h : floatBits op k x y = some z) (r : k.format.read z = .number s m e) : k.format.read (fop op k x y) = .number s m e := by
  unfold fop
  rw [h]
  show k.format.read (cz k z) = _
  have hc : cz k z = z := by
    unfold cz
    rw [show k.decode z = k.format.read z from rfl, r]; rfl
  rw [hc]; exact r
abbrev dblW (y : Nat) : Nat := fop .mul .f64 y (cz .f64 4611686018427387904)
theorem dbl_pf {y A : Nat} (h : Pf .f64 y A 1075) (hA : 1067 ≤ A) (hl : fcmp .lss .f64 y (cz .f64 4604930618986332160) = true) : Pf .f64 (dblW y) (A + 1) 1075 := by
  obtain ⟨m, i, r, l, v1, v2⟩ := h
  obtain ⟨n2, hn2, c2r⟩ := c2r
  have hL : (FloatKind.f64.format).leastPlace = -1074 := by decide
  have hp : (FloatKind.f64.format).fractionBits = 52 := by decide
  have hx : (FloatKind.f64.format).exponentBits = 11 := by decide
  have hv : Vf .f64 y (m * 2 ^ (i - (FloatKind.f64.format).leastPlace).toNat : Nat) := by
    refine ⟨false, m, i, r, l, ?_⟩
    have h1 := vD_abs (FloatKind.f64.format).leastPlace false m i
    have h2 := (vD_sign (FloatKind.f64.format).leastPlace false m i).2 rfl
    rw [← h1]; omega
  rw [vf_lss hv c75, decide_eq_true_eq] at hl
  have hlt : m * 2 ^ (i - (FloatKind.f64.format).leastPlace).toNat < 2 ^ 1074 := by
    rw [p74 2]; have := p74_pos; omega
  generalize ha : (i - (FloatKind.f64.format).leastPlace).toNat = a at *
  have hm0 : m ≠ 0 := by
    intro c; rw [c, Nat.zero_mul] at v1; have := Nat.two_pow_pos A; omega
  have hM0 : m * n2 ≠ 0 := Nat.mul_ne_zero hm0 (by rw [hn2]; exact Nat.ne_of_gt (Nat.two_pow_pos 52))
  have hre : m * n2 * 2 ^ a = m * 2 ^ a * 2 ^ 52 := by rw [hn2]; ac_rfl
  have g1 : 2 ^ (A + 52) ≤ m * n2 * 2 ^ a := by
    rw [Nat.pow_add, hre]
    exact Nat.mul_le_mul_right _ v1
  have g2 : m * n2 * 2 ^ a < 2 ^ 1126 := by
    rw [show (1126 : Nat) = 1074 + 52 by rfl, Nat.pow_add, hre]
    exact Nat.mul_lt_mul_of_pos_right hlt (Nat.two_pow_pos _)
  have k1 := le_log g1
  have k2 : (m * n2).log2 + a < 1126 := by
    have h1 : 2 ^ (m * n2).log2 * 2 ^ a ≤ m * n2 * 2 ^ a := Nat.mul_le_mul_right _ (Nat.log2_self_le hM0)
    rw [← Nat.pow_add] at h1
    exact (Nat.pow_lt_pow_iff_right (a := 2) (by decide)).1 (Nat.lt_of_le_of_lt h1 g2)
  obtain ⟨m', q, r1, r2, r3, r4⟩ := near_log (f := FloatKind.f64.format) fmt2 false (M := m * n2) (e := i + -51) hM0 (by rw [hL, hp, hx]; omega)
  have hz : floatBits .mul .f64 y (cz .f64 4611686018427387904) = some ((FloatKind.f64.format).nearest false (m * n2) (i + -51)) := by
    show (FloatKind.f64.format).mul y _ = _
    unfold Ieee.Format.mul
    rw [r, c2r]; rfl
  refine ⟨m', q, ?_, r2, Nat.le_trans (Nat.pow_le_pow_right (by decide) ?_) (r4 ?_), Nat.le_trans r3 (Nat.pow_le_pow_right (by decide) ?_)⟩
  · exact fop_read hz r1
  · rw [hL] at ha ⊢; omega
  · rw [hL, hp]; rw [hL] at ha; omega
  · rw [hL, hp]; rw [hL] at ha; omega
/-- The doublings end. -/
theorem dbl_fin : ∀ (f y A j : Nat), Pf .f64 y A 1075 → 1067 ≤ A → 1074 ≤ A + f → f + j ≤ 8 → ∃ y' j', j' ≤ 8 ∧ Pf .f64 y' 1073 1075 ∧ ∀ (X T : Nat → Nat → Prop), (∀ y j, j ≤ 8 → (fcmp .lss .f64 y (cz .f64 4604930618986332160) = true → X (dblW y) (j + 1)) ∧ (fcmp .lss .f64 y (cz .f64 4604930618986332160) = false → T y j) → X y j) → T y' j' → X y j := by
  intro f
  induction f with
  | zero =>
    intro y A j h hA hf hj
    obtain ⟨v, h1, h2, h3⟩ := h.vf
    have e1 : fcmp .lss .f64 y (cz .f64 4604930618986332160) = false := by
      rw [vf_lss h1 c75, decide_eq_false_iff_not]
      have : 2 ^ 1074 ≤ 2 ^ A := Nat.pow_le_pow_right (by decide) (by omega)
      rw [p74 2] at this; have := p74_pos; omega
    have hp : Pf .f64 y 1073 1075 := by
      obtain ⟨m, e, a1, a2, a3, a4⟩ := h
      exact ⟨m, e, a1, a2, Nat.le_trans (Nat.pow_le_pow_right (by decide) (by omega)) a3, a4⟩
    exact ⟨y, j, by omega, hp, fun X T hX hT => hX y j (by omega) ⟨fun c => (by rw [e1] at c; cases c), fun _ => hT⟩⟩
  | succ f ih =>
    intro y A j h hA hf hj
    rcases (fcmp .lss .f64 y (cz .f64 4604930618986332160)).eq_false_or_eq_true with e1 | e1
    · obtain ⟨y', j', b1, b2, b3⟩ := ih (dblW y) (A + 1) (j + 1) (dbl_pf h hA e1) (by omega) (by omega) (by omega)
      exact ⟨y', j', b1, b2, fun X T hX hT => hX y j (by omega) ⟨fun _ => b3 X T hX hT, fun c => (by rw [e1] at c; cases c)⟩⟩
    · have hp : Pf .f64 y 1073 1075 := by
        obtain ⟨v, h1, h2, h3⟩ := h.vf
        obtain ⟨m, e, a1, a2, a3, a4⟩ := h
        have h4 : Vf .f64 y (m * 2 ^ (e - (FloatKind.f64.format).leastPlace).toNat : Nat) := by
          refine ⟨false, m, e, a1, a2, ?_⟩
          have h1 := vD_abs (FloatKind.f64.format).leastPlace false m e
          have h2 := (vD_sign (FloatKind.f64.format).leastPlace false m e).2 rfl
          rw [← h1]; omega
        rw [vf_lss h4 c75, decide_eq_false_iff_not] at e1
        refine ⟨m, e, a1, a2, ?_, a4⟩
        rw [p74 1]; have := p74_pos; omega
      exact ⟨y, j, by omega, hp, fun X T hX hT => hX y j (by omega) ⟨fun c => (by rw [e1] at c; cases c), fun _ => hT⟩⟩
/-! ### the sum -/
abbrev sOf (y : Nat) : Nat := fop .quo .f64 (fop .sub .f64 y (cz .f64 4607182418800017408)) (fop .add .f64 y (cz .f64 4607182418800017408))
abbrev uOf (y : Nat) : Nat := fop .mul .f64 (sOf y) (sOf y)
def qs (y : Nat) : Nat → Nat
  | 0 => cz .f64 0
  | t + 1 => fop .add .f64 (fop .quo .f64 (cz .f64 4607182418800017408) (itof .f64 (25 - 2 * (t : Int)))) (fop .mul .f64 (uOf y) (qs y t))
abbrev lgV (y j : Nat) : Nat := fop .add .f64 (fop .mul .f64 (cz .f64 4611686018427387904) (fop .mul .f64 (sOf y) (qs y 13))) (fop .mul .f64 (itof .f64 (-(j : Int))) (cz .f64 4604418534313441775))
theorem sub_one {y : Nat} (h : Pf .f64 y 1073 1075) : Bf .f64 (fop .sub .f64 y (cz .f64 4607182418800017408)) 1074 := by
  obtain ⟨m, i, r1, l1, v1, v2⟩ := h
  obtain ⟨t, n, j, r2, l2, w⟩ := c1v
  obtain ⟨u, M, c, h1, h2, h3, _, _⟩ := sum_num (s := false) (t := !t) (m := m) (n := n) l1 l2
  have a1 := vD_abs (FloatKind.f64.format).leastPlace false m i
  have a2 := (vD_sign (FloatKind.f64.format).leastPlace false m i).2 rfl
  rw [vD_not, w] at h3
  refine bf_fop (z := (FloatKind.f64.format).nearest u M c) ?_ (bf_near_c (k := .f64) fmt2 u (by decide) (by decide) h2 ?_)
  · show (FloatKind.f64.format).sub y _ = _
    unfold Ieee.Format.sub
    rw [r1, r2]
    show ((Ieee.Datum.number false m i).sum (.number (!t) n j)).map (FloatKind.f64.format).write = _
    rw [h1]; rfl
  · rw [h3]
    rw [p74 1] at v1; rw [p74 3] at v2; rw [p74 2]
    omega
theorem s_bf {y : Nat} (h : Pf .f64 y 1073 1075) : Bf .f64 (sOf y) 1075 :=
  bf_quo (k := .f64) fmt2 (sub_one h) (lf_add (k := .f64) fmt2 h c1 (Nat.le_refl _) (by decide) (by decide)) (C := 1074) (by decide) (by decide) (by decide)
theorem u_bf {y : Nat} (h : Pf .f64 y 1073 1075) : Bf .f64 (uOf y) 1077 :=
  bf_mul (k := .f64) fmt2 (s_bf h) (s_bf h) (C := 1076) (by decide) (by decide) (by decide)
theorem q_bf {y : Nat} (h : Pf .f64 y 1073 1075) : ∀ t, t ≤ 13 → Bf .f64 (qs y t) (1075 + 6 * t)
  | 0, _ => (bf_of (k := .f64) (x := cz .f64 0) (A := 1074) (by decide +kernel)).up (by omega)
  | t + 1, ht => by
    have hp : (FloatKind.f64.format).fractionBits = 52 := by decide
    have hx : (FloatKind.f64.format).exponentBits = 11 := by decide
    have hL : (FloatKind.f64.format).leastPlace = -1074 := by decide
    have i1 := q_bf h t (by omega)
    have i2 := bf_mul (k := .f64) fmt2 (u_bf h) i1 (C := 1075 + 6 * t + 3) (by rw [hp]; omega) (by rw [hp, hx]; omega) (by rw [hL]; omega)
    have i3 := (bf_of (ksI t (by omega))).up (show 1074 ≤ 1075 + 6 * t + 4 by omega)
    exact (bf_add (k := .f64) fmt2 i3 i2 (by rw [hp]; omega) (by rw [hp, hx]; omega)).up (by omega)
theorem lg_bf {y j : Nat} (h : Pf .f64 y 1073 1075) (hj : j ≤ 8) : Bf .f64 (lgV y j) 1159 := by
  have i1 := bf_mul (k := .f64) fmt2 (s_bf h) (q_bf h 13 (Nat.le_refl _)) (C := 1154) (by decide) (by decide) (by decide)
  have i2 := bf_mul (k := .f64) fmt2 c2 i1 (C := 1156) (by decide) (by decide) (by decide)
  have i3 := (bf_of (es2 j (by omega))).up (show 1077 ≤ 1157 by omega)
  exact bf_add (k := .f64) fmt2 i2 i3 (by decide) (by decide)
theorem lg_some {y j : Nat} (h : Pf .f64 y 1073 1075) (hj : j ≤ 8) : (fconv .f64 (lgV y j) .f32).isSome = true := fconv_some (lg_bf h hj) (by omega)
theorem wSmall {n : Int} (h : -1000 ≤ n ∧ n ≤ 1000) : IntKind.i64.wrap n = n := wI (by omega)
end Go.Proofs.YtecdkjnomkdbkaaDoor.G

namespace Go.Proofs.YtecdkjnomkdbkaaDoor.G
open Go Go.Ab
set_option maxRecDepth 100000
set_option linter.unusedVariables false
set_option linter.unusedSimpArgs false
set_option maxHeartbeats 1000000
/-! ### what is counted -/
def cn (l : List Int) : Nat → Int → Nat
  | 0, _ => 0
  | i + 1, v => cn l i v + if l.getD i 0 = v then 1 else 0
def vsO (l : List Int) : Nat → List Int
  | 0 => []
  | i + 1 => if cn l i (l.getD i 0) = 0 then vsO l i ++ [l.getD i 0] else vsO l i
theorem cn_s (l : List Int) (i : Nat) (v : Int) : cn l (i + 1) v = cn l i v + if l.getD i 0 = v then 1 else 0 := rfl
theorem vsO_s (l : List Int) (i : Nat) : vsO l (i + 1) = if cn l i (l.getD i 0) = 0 then vsO l i ++ [l.getD i 0] else vsO l i := rfl
theorem cn_le (l : List Int) (i : Nat) (v : Int) : cn l i v ≤ i := by
  induction i with
  | zero => exact Nat.le_refl _
  | succ i ih => unfold cn; split <;> omega
theorem vsO_len (l : List Int) (i : Nat) : (vsO l i).length ≤ i := by
  induction i with
  | zero => exact Nat.le_refl _
  | succ i ih =>
    unfold vsO
    split
    · rw [List.length_append]; simp; omega
    · omega
theorem vsO_mem (l : List Int) (i : Nat) (v : Int) : v ∈ vsO l i ↔ cn l i v ≠ 0 := by
  induction i with
  | zero => simp [vsO, cn]
  | succ i ih =>
    rw [vsO_s, cn_s]
    by_cases e : l.getD i 0 = v
    · rw [if_pos e, e]
      by_cases h : cn l i v = 0
      · rw [if_pos h]; simp
      · rw [if_neg h]
        have := (ih).2 h
        exact ⟨fun _ => by omega, fun _ => this⟩
    · rw [if_neg e, Nat.add_zero]
      split
      · rw [List.mem_append, List.mem_singleton, ← ih]
        exact ⟨fun h => h.elim id fun h => absurd h.symm e, fun h => .inl h⟩
      · exact ih
def InjL (vs : List Int) : Prop := ∀ j k, j < vs.length → k < vs.length → vs.getD j 0 = vs.getD k 0 → j = k
theorem mem_at {vs : List Int} {j : Nat} (h : j < vs.length) : vs.getD j 0 ∈ vs := by rw [gD h]; exact List.getElem_mem h
theorem app_l {vs : List Int} {a : Int} {j : Nat} (h : j < vs.length) : (vs ++ [a]).getD j 0 = vs.getD j 0 := by
  rw [List.getD_eq_getElem?_getD, List.getD_eq_getElem?_getD, List.getElem?_append_left h]
theorem app_r {vs : List Int} {a : Int} : (vs ++ [a]).getD vs.length 0 = a := by
  rw [List.getD_eq_getElem?_getD, List.getElem?_append_right (Nat.le_refl _)]; simp
theorem inj_app {vs : List Int} {a : Int} (h : InjL vs) (ha : a ∉ vs) : InjL (vs ++ [a]) := by
  intro j k hj hk e
  rw [List.length_append, len1] at hj hk
  by_cases c1 : j < vs.length
  · by_cases c2 : k < vs.length
    · rw [app_l c1, app_l c2] at e; exact h j k c1 c2 e
    · obtain rfl : k = vs.length := by omega
      rw [app_l c1, app_r] at e
      exact absurd (e ▸ mem_at c1) ha
  · obtain rfl : j = vs.length := by omega
    by_cases c2 : k < vs.length
    · rw [app_l c2, app_r] at e
      exact absurd (e ▸ mem_at c2) ha
    · omega
theorem vsO_inj (l : List Int) (i : Nat) : InjL (vsO l i) := by
  induction i with
  | zero => intro j k hj; exact absurd hj (by simp [vsO])
  | succ i ih =>
    unfold vsO
    split
    · rename_i h
      exact inj_app ih fun c => (vsO_mem l i _).1 c h
    · exact ih
/-- The counts of the values. -/
def csO (l : List Int) (i : Nat) : List Int := (vsO l i).map fun v => (cn l i v : Int)
theorem csO_len (l : List Int) (i : Nat) : (csO l i).length = (vsO l i).length := List.length_map ..
theorem csO_at (l : List Int) (i : Nat) {k : Nat} (hk : k < (vsO l i).length) : (csO l i).getD k 0 = (cn l i ((vsO l i).getD k 0) : Int) := by
  rw [gD (by rw [csO_len]; exact hk), gD hk]
  unfold csO
  rw [List.getElem_map]
theorem csO_new {l : List Int} {i : Nat} (h : cn l i (l.getD i 0) = 0) : (csO l i ++ [(0 : Int)]).set (vsO l i).length 1 = csO l (i + 1) := by
  have hv : vsO l (i + 1) = vsO l i ++ [l.getD i 0] := by rw [vsO, if_pos h]
  have e1 : csO l (i + 1) = csO l i ++ [1] := by
    unfold csO
    rw [hv, List.map_append, List.map_singleton]
    congr 1
    · refine List.map_congr_left fun v hv2 => ?_
      have : l.getD i 0 ≠ v := fun c => (vsO_mem l i v).1 hv2 (c ▸ h)
      rw [cn, if_neg this, Nat.add_zero]
    · rw [cn, if_pos rfl, h]; rfl
  rw [e1, ← csO_len, List.set_append_right _ _ (Nat.le_refl _), Nat.sub_self, List.set_cons_zero]
theorem csO_old {l : List Int} {i k : Nat} (h : cn l i (l.getD i 0) ≠ 0) (hk : k < (vsO l i).length) (e : (vsO l i).getD k 0 = l.getD i 0) : (csO l i).set k ((cn l i (l.getD i 0) : Int) + 1) = csO l (i + 1) := by
  have hv : vsO l (i + 1) = vsO l i := by rw [vsO, if_neg h]
  apply List.ext_getElem
  · rw [List.length_set, csO_len, csO_len, hv]
  · intro j h1 h2
    rw [List.length_set, csO_len] at h1
    rw [List.getElem_set]
    have e2 : (csO l (i + 1))[j] = (cn l (i + 1) ((vsO l i).getD j 0) : Int) := by
      rw [← gD h2 0, csO_at l (i + 1) (by rw [hv]; exact h1), hv]
    rw [e2]
    split
    · rename_i hjk
      subst hjk
      rw [e, cn, if_pos rfl]; simp
    · rename_i hjk
      have : l.getD i 0 ≠ (vsO l i).getD j 0 := fun c => hjk (vsO_inj l i k j hk h1 (by rw [e, c]))
      rw [cn_s, if_neg this, Nat.add_zero, ← csO_at l i h1]
      exact (gD (by rw [csO_len]; exact h1) 0).symm
/-- Where a value stands. -/
def fa (vs : List Int) (a : Int) : Nat → Int
  | 0 => -1
  | k + 1 => if vs.getD k 0 = a then (k : Int) else fa vs a k
theorem fa_spec (vs : List Int) (a : Int) : ∀ n, (fa vs a n = -1 ∧ ∀ j, j < n → vs.getD j 0 ≠ a) ∨ ∃ k, k < n ∧ fa vs a n = (k : Int) ∧ vs.getD k 0 = a
  | 0 => .inl ⟨rfl, fun j h => absurd h (Nat.not_lt_zero _)⟩
  | n + 1 => by
    unfold fa
    split
    · rename_i h; exact .inr ⟨n, Nat.lt_succ_self _, rfl, h⟩
    · rename_i h
      rcases fa_spec vs a n with ⟨h1, h2⟩ | ⟨k, h1, h2, h3⟩
      · refine .inl ⟨h1, fun j hj => ?_⟩
        by_cases c : j = n
        · rw [c]; exact h
        · exact h2 j (by omega)
      · exact .inr ⟨k, by omega, h2, h3⟩
/-! ### the sum -/
noncomputable def pAt (l : List Int) (k : Nat) : Nat := shrW (cn l l.length ((vsO l l.length).getD k 0)) l.length
theorem pAt_ok {l : List Int} (hl : l.length ≤ 128) {k : Nat} (hk : k < (vsO l l.length).length) : okS (pAt l k) = true := by
  have h1 := (vsO_mem l l.length _).1 (mem_at hk)
  have h2 := cn_le l l.length ((vsO l l.length).getD k 0)
  refine ok128 _ (by omega) _ (by omega) ?_
  rw [Bool.and_eq_true, decide_eq_true_eq, decide_eq_true_eq]
  omega
theorem wE {n : Int} (h : -1 ≤ n ∧ n ≤ 1000) : IntKind.i64.wrap n = n := wI (by omega)
theorem bnd_at {l : List Int} (h : bnd 1000000 l = true) {i : Nat} (hi : i < l.length) : -1000000 ≤ l.getD i 0 ∧ l.getD i 0 ≤ 1000000 := by
  unfold bnd at h
  rw [List.all_eq_true] at h
  have := of_decide_eq_true (h _ (mem_at hi))
  omega
end Go.Proofs.YtecdkjnomkdbkaaDoor.G

namespace Go.Proofs.YtecdkjnomkdbkaaDoor.G
open Go Go.Ab
set_option maxRecDepth 100000
set_option linter.unusedVariables false
set_option linter.unusedSimpArgs false
set_option maxHeartbeats 1000000
open Ieee in
/-- The value of a word by its rung. -/
theorem rung_eq {f : Format} (h : Fmt f) (s : Bool) {n kept : Nat} (hk : kept ≤ 2 * 2 ^ f.fractionBits) (hn : 0 < n → 2 ^ f.fractionBits ≤ kept) (hr : n * f.binade + kept < f.infRung) : ∃ m e, f.read (f.word s (n * f.binade + kept)) = .number s m e ∧ f.leastPlace ≤ e ∧ m * 2 ^ (e - f.leastPlace).toNat = kept * 2 ^ n := by
  have hB := h.b
  rw [read_word h s (Nat.le_of_lt hr)]
  rw [hB] at hr ⊢
  clear hB
  generalize f.fractionBits = p at *
  generalize f.leastPlace = L at *
  have hp : 0 < 2 ^ p := Nat.two_pow_pos _
  by_cases c : n * 2 ^ p + kept < 2 ^ p
  · rw [if_pos c]
    have hn0 : n = 0 := by
      refine Nat.eq_zero_of_not_pos fun c2 => ?_
      have : 1 * 2 ^ p ≤ n * 2 ^ p := Nat.mul_le_mul_right _ c2
      omega
    subst hn0
    exact ⟨_, _, rfl, Int.le_refl _, by rw [Int.sub_self]; simp⟩
  · rw [if_neg c, if_pos hr]
    refine ⟨_, _, rfl, by omega, ?_⟩
    have e1 : (L + (((n * 2 ^ p + kept) / 2 ^ p - 1 : Nat) : Int) - L).toNat = (n * 2 ^ p + kept) / 2 ^ p - 1 := by omega
    rw [e1]
    have hge : 2 ^ p ≤ kept := by
      by_cases c2 : 0 < n
      · exact hn c2
      · have : n = 0 := by omega
        subst this; omega
    by_cases c3 : kept = 2 * 2 ^ p
    · have e2 : n * 2 ^ p + kept = (n + 2) * 2 ^ p := by rw [c3, Nat.add_mul]
      rw [e2, Nat.mul_div_cancel _ hp, Nat.mul_mod_left, c3, show n + 2 - 1 = n + 1 by omega, Nat.pow_succ]
      rw [Nat.add_zero, Nat.mul_comm 2 (2 ^ p), Nat.mul_assoc, Nat.mul_comm 2]
    · have e2 : n * 2 ^ p + kept = (kept - 2 ^ p) + (n + 1) * 2 ^ p := by rw [Nat.add_mul]; omega
      rw [e2, Nat.add_mul_div_right _ _ hp, Nat.add_mul_mod_self_right, Nat.div_eq_of_lt (by omega), Nat.mod_eq_of_lt (by omega)]
      rw [show 0 + (n + 1) - 1 = n by omega, show 2 ^ p + (kept - 2 ^ p) = kept by omega]
open Ieee in
theorem near_le {f : Format} (h : Fmt f) (s : Bool) {M v q a b : Nat} {e : Int} (hM : M ≠ 0) (hv : v < 2 ^ (f.fractionBits + 1)) (hab : (a : Int) - b = e - f.leastPlace) (hle : M * 2 ^ a ≤ v * 2 ^ q * 2 ^ b) (hI : (e + M.log2 - f.fractionBits - f.leastPlace).toNat + 4 ≤ 2 ^ f.exponentBits) (hq : q + f.fractionBits + 5 ≤ 2 ^ f.exponentBits) :
    ∃ m e', f.read (f.nearest s M e) = .number s m e' ∧ f.leastPlace ≤ e' ∧ m * 2 ^ (e' - f.leastPlace).toNat ≤ v * 2 ^ q := by
  have hB := h.b
  have hr := h.r
  -- exactly
  by_cases hx : M * 2 ^ a = v * 2 ^ q * 2 ^ b
  · rw [Nat.mul_assoc, ← Nat.pow_add] at hx
    by_cases c : a ≤ q + b
    · have e1 : M = v * 2 ^ (q + b - a) := by
        have : q + b = (q + b - a) + a := by omega
        rw [this, Nat.pow_add, ← Nat.mul_assoc] at hx
        exact Nat.eq_of_mul_eq_mul_right (Nat.two_pow_pos _) hx
      obtain ⟨m, e', r1, r2, r3⟩ := near_exact h s (M := M) (M0 := v) (k := q + b - a) (e := e) e1 hv (by omega) (by omega)
      refine ⟨m, e', r1, r2, ?_⟩
      rw [r3]
      exact Nat.le_of_eq (by congr 2; omega)
    · have e1 : v = M * 2 ^ (a - (q + b)) := by
        have : a = (a - (q + b)) + (q + b) := by omega
        rw [this, Nat.pow_add, ← Nat.mul_assoc] at hx
        exact (Nat.eq_of_mul_eq_mul_right (Nat.two_pow_pos _) hx).symm
      have hMv : M ≤ v := by rw [e1]; exact Nat.le_mul_of_pos_right _ (Nat.two_pow_pos _)
      obtain ⟨m, e', r1, r2, r3⟩ := near_exact h s (M := M) (M0 := M) (k := 0) (e := e) (by rw [Nat.pow_zero, Nat.mul_one]) (by omega) (by omega) (by
        have : M.log2 ≤ f.fractionBits := by
          have := (Nat.log2_lt hM).2 (show M < 2 ^ (f.fractionBits + 1) by omega)
          omega
        have hlv : (a - (q + b)) ≤ f.fractionBits := by
          refine Nat.le_of_not_lt fun c2 => ?_
          have h1 : 2 ^ (f.fractionBits + 1) ≤ 2 ^ (a - (q + b)) := Nat.pow_le_pow_right (by decide) (by omega)
          have h2 : 1 * 2 ^ (a - (q + b)) ≤ M * 2 ^ (a - (q + b)) := Nat.mul_le_mul_right _ (by omega)
          omega
        omega)
      refine ⟨m, e', r1, r2, ?_⟩
      rw [r3, e1, Nat.mul_assoc, ← Nat.pow_add]
      exact Nat.le_of_eq (by congr 2; omega)
  -- less
  have hlt : M * 2 ^ a < v * 2 ^ q * 2 ^ b := Nat.lt_of_le_of_ne hle hx
  have g1 : M < 2 ^ (M.log2 + 1) := Nat.lt_log2_self
  have g2 : 2 ^ M.log2 ≤ M := Nat.log2_self_le hM
  unfold Format.nearest
  rw [if_neg hM]
  dsimp only
  have key : ∃ kept, Toward.even.cut s (M <<< (e - max (e + M.log2 - f.fractionBits) f.leastPlace).toNat) (max (e + M.log2 - f.fractionBits) f.leastPlace - e).toNat = kept ∧ kept ≤ 2 * 2 ^ f.fractionBits ∧ (0 < (max (e + M.log2 - f.fractionBits) f.leastPlace - f.leastPlace).toNat → 2 ^ f.fractionBits ≤ kept) ∧ kept * 2 ^ (max (e + M.log2 - f.fractionBits) f.leastPlace - f.leastPlace).toNat ≤ v * 2 ^ q := by
    refine ⟨_, rfl, ?_⟩
    generalize f.fractionBits = p at *
    generalize f.leastPlace = L at *
    generalize hg : M.log2 = g at *
    generalize hl : max (e + g - p) L = last at *
    rw [Nat.shiftLeft_eq]
    by_cases c : last ≤ e
    · rw [show (last - e).toNat = 0 by omega, cut_zero]
      refine ⟨?_, fun hc => ?_, ?_⟩
      · have h1 : M * 2 ^ (e - last).toNat < 2 ^ (g + 1) * 2 ^ (e - last).toNat := Nat.mul_lt_mul_of_pos_right g1 (Nat.two_pow_pos _)
        rw [← Nat.pow_add] at h1
        have h2 : 2 ^ (g + 1 + (e - last).toNat) ≤ 2 ^ (p + 1) := Nat.pow_le_pow_right (by decide) (by omega)
        rw [Nat.pow_succ] at h2; omega
      · have h1 : 2 ^ g * 2 ^ (e - last).toNat ≤ M * 2 ^ (e - last).toNat := Nat.mul_le_mul_right _ g2
        rw [← Nat.pow_add, show g + (e - last).toNat = p by omega] at h1
        exact h1
      · rw [Nat.mul_assoc, ← Nat.pow_add]
        have e1 : a = ((e - last).toNat + (last - L).toNat) + b := by omega
        rw [e1, Nat.pow_add, ← Nat.mul_assoc] at hle
        exact Nat.le_of_mul_le_mul_right hle (Nat.two_pow_pos _)
    · rw [show (e - last).toNat = 0 by omega, Nat.pow_zero, Nat.mul_one]
      obtain ⟨k1, k2⟩ := cut_le s M (last - e).toNat
      rw [hg] at k1 k2
      generalize hd : (last - e).toNat = d at *
      generalize hG : (last - L).toNat = G at *
      have hdiv : M / 2 ^ min d (g + 2) < 2 ^ (p + 1) := by
        refine (Nat.div_lt_iff_lt_mul (Nat.two_pow_pos _)).2 (Nat.lt_of_lt_of_le g1 ?_)
        rw [← Nat.pow_add]
        exact Nat.pow_le_pow_right (by decide) (by omega)
      refine ⟨?_, fun hc => ?_, ?_⟩
      · rw [Nat.pow_succ] at hdiv; omega
      · refine Nat.le_trans ?_ k1
        refine (Nat.le_div_iff_mul_le (Nat.two_pow_pos _)).2 ?_
        rw [← Nat.pow_add]
        exact Nat.le_trans (Nat.pow_le_pow_right (by decide) (by omega)) g2
      · -- the grid
        have hGq : G ≤ q := by
          refine Nat.le_of_not_lt fun c2 => ?_
          have hG0 : 0 < G := by omega
          have h1 : 2 ^ g * 2 ^ a ≤ M * 2 ^ a := Nat.mul_le_mul_right _ g2
          have h2 : v * 2 ^ q * 2 ^ b < 2 ^ (p + 1) * 2 ^ q * 2 ^ b := Nat.mul_lt_mul_of_pos_right (Nat.mul_lt_mul_of_pos_right hv (Nat.two_pow_pos _)) (Nat.two_pow_pos _)
          have h3 : 2 ^ g * 2 ^ a < 2 ^ (p + 1) * 2 ^ q * 2 ^ b := by omega
          rw [← Nat.pow_add, ← Nat.pow_add, ← Nat.pow_add] at h3
          have := (Nat.pow_lt_pow_iff_right (a := 2) (by decide)).1 h3
          omega
        have h5 : M < v * 2 ^ (q - G) * 2 ^ d := by
          have e1 : b + G = d + a := by omega
          have h6 : M * 2 ^ a * 2 ^ G < v * 2 ^ q * 2 ^ b * 2 ^ G := Nat.mul_lt_mul_of_pos_right hlt (Nat.two_pow_pos _)
          have e2 : v * 2 ^ q * 2 ^ b * 2 ^ G = v * 2 ^ (q - G) * 2 ^ d * 2 ^ a * 2 ^ G := by
            rw [Nat.mul_assoc, Nat.mul_assoc, Nat.mul_assoc, Nat.mul_assoc, Nat.mul_assoc, ← Nat.pow_add, ← Nat.pow_add, ← Nat.pow_add, ← Nat.pow_add, ← Nat.pow_add]
            congr 2; omega
          rw [e2] at h6
          have h7 := Nat.lt_of_mul_lt_mul_right h6
          exact Nat.lt_of_mul_lt_mul_right h7
        have h6 : M / 2 ^ min d (g + 2) < v * 2 ^ (q - G) := by
          by_cases c3 : d ≤ g + 2
          · rw [Nat.min_eq_left c3]
            exact (Nat.div_lt_iff_lt_mul (Nat.two_pow_pos _)).2 h5
          · rw [Nat.min_eq_right (by omega)]
            have : M / 2 ^ (g + 2) = 0 := Nat.div_eq_of_lt (Nat.lt_of_lt_of_le g1 (Nat.pow_le_pow_right (by decide) (by omega)))
            rw [this]
            refine Nat.pos_of_ne_zero fun c4 => ?_
            rw [c4, Nat.zero_mul] at h5; omega
        have h7 : Toward.even.cut s M d ≤ v * 2 ^ (q - G) := by omega
        have h8 := Nat.mul_le_mul_right (2 ^ G) h7
        rw [Nat.mul_assoc, ← Nat.pow_add, show q - G + G = q by omega] at h8
        exact h8
  obtain ⟨kept, k0, k1, k2, k3⟩ := key
  rw [k0]
  generalize hN : (max (e + M.log2 - f.fractionBits) f.leastPlace - f.leastPlace).toNat = n at *
  have hn : n = (e + M.log2 - f.fractionBits - f.leastPlace).toNat := by omega
  have hp : 0 < 2 ^ f.fractionBits := Nat.two_pow_pos _
  have hrl : n * f.binade + kept < f.infRung := by
    have hu : n * f.binade + kept ≤ (n + 2) * 2 ^ f.fractionBits := by
      rw [hB, Nat.add_mul]; omega
    refine Nat.lt_of_le_of_lt hu ?_
    rw [hr, hB]
    exact Nat.mul_lt_mul_of_pos_right (by omega) hp
  rw [Nat.min_eq_left (Nat.le_of_lt hrl)]
  obtain ⟨m, e', r1, r2, r3⟩ := rung_eq h s k1 k2 hrl
  exact ⟨m, e', r1, r2, by rw [r3]; exact k3⟩

end Go.Proofs.YtecdkjnomkdbkaaDoor.G

namespace Go.Proofs.YtecdkjnomkdbkaaDoor.G
open Go Go.Ab
set_option maxRecDepth 100000
set_option linter.unusedVariables false
set_option linter.unusedSimpArgs false
set_option maxHeartbeats 1000000
set_option exponentiation.threshold 4000
def dblC : Nat → Nat → Nat → Nat × Nat
  | 0, y, j => (y, j)
  | f + 1, y, j => if fcmp .lss .f64 y (cz .f64 4604930618986332160) = true then dblC f (dblW y) (j + 1) else (y, j)
theorem dblC_ge : ∀ f y j, j ≤ (dblC f y j).2
  | 0, _, _ => Nat.le_refl _
  | f + 1, y, j => by
    rw [dblC]
    split
    · have := dblC_ge f (dblW y) (j + 1); omega
    · exact Nat.le_refl _
theorem dblC_run (X T : Nat → Nat → Prop) (hX : ∀ y j, j ≤ 8 → (fcmp .lss .f64 y (cz .f64 4604930618986332160) = true → X (dblW y) (j + 1)) ∧ (fcmp .lss .f64 y (cz .f64 4604930618986332160) = false → T y j) → X y j) : ∀ f y j, (dblC f y j).2 ≤ 8 → fcmp .lss .f64 (dblC f y j).1 (cz .f64 4604930618986332160) = false → T (dblC f y j).1 (dblC f y j).2 → X y j
  | 0, y, j, h1, h2, h3 => hX y j h1 ⟨fun c => (by rw [show (dblC 0 y j).1 = y from rfl, c] at h2; cases h2), fun _ => h3⟩
  | f + 1, y, j, h1, h2, h3 => by
    have hj := dblC_ge (f + 1) y j
    rw [dblC] at h1 h2 h3
    by_cases c : fcmp .lss .f64 y (cz .f64 4604930618986332160) = true
    · rw [if_pos c] at h1 h2 h3
      exact hX y j (by have := dblC_ge f (dblW y) (j + 1); omega) ⟨fun _ => dblC_run X T hX f _ _ h1 h2 h3, fun c2 => (by rw [c] at c2; cases c2)⟩
    · rw [if_neg c] at h1 h2 h3
      exact hX y j h1 ⟨fun c2 => absurd c2 c, fun _ => h3⟩
def lgC (x : Nat) : Nat := narrow (lgV (dblC 8 (widen x) 0).1 (dblC 8 (widen x) 0).2)
def Wt (n : Nat) : Nat := [0, 2, 22716, 24002, 22716, 21098, 19573, 18221, 17037, 16002, 15093, 14289, 13573, 12933, 12356, 11834, 11359].getD n 0
/-- What is tested for c of n. -/
def entB (c n : Nat) : Bool :=
  decide ((dblC 8 (widen (shrW c n)) 0).2 ≤ 8) && !fcmp .lss .f64 (dblC 8 (widen (shrW c n)) 0).1 (cz .f64 4604930618986332160) && pfb .f64 (dblC 8 (widen (shrW c n)) 0).1 1073 1075 &&
  (match (FloatKind.f32.format).read (fop .mul .f32 (shrW c n) (lgC (shrW c n))) with
    | .number s m e => decide ((FloatKind.f32.format).leastPlace ≤ e) && decide (vD (FloatKind.f32.format).leastPlace s m e ≤ 0) && decide (m * 2 ^ (e - (FloatKind.f32.format).leastPlace).toNat ≤ c * Wt n * 2 ^ 133)
    | _ => false)
theorem ent16 : ∀ n : Nat, n < 17 → ∀ c : Nat, c < 17 → (1 ≤ c && decide (c ≤ n)) = true → entB c n = true := by decide +kernel

end Go.Proofs.YtecdkjnomkdbkaaDoor.G

namespace Go.Proofs.YtecdkjnomkdbkaaDoor.G
open Go Go.Ab
set_option maxRecDepth 100000
set_option linter.unusedVariables false
set_option linter.unusedSimpArgs false
set_option maxHeartbeats 1000000
set_option exponentiation.threshold 4000
theorem ent_log {c n : Nat} (h1 : 1 ≤ c) (h2 : c ≤ n) (h3 : n ≤ 16) {K : Nat → Prop} (hK : K (lgC (shrW c n))) : impl_LogNumber.wp (shrW c n) K := by
  have hc : (1 ≤ c && decide (c ≤ n)) = true := by rw [Bool.and_eq_true, decide_eq_true_eq, decide_eq_true_eq]; exact ⟨h1, h2⟩
  have he := ent16 n (by omega) c (by omega) hc
  have ho := ok128 n (by omega) c (by omega) hc
  unfold entB at he
  generalize shrW c n = x at *
  rw [Bool.and_eq_true, Bool.and_eq_true, Bool.and_eq_true, decide_eq_true_eq] at he
  obtain ⟨⟨⟨d1, d0⟩, d2'⟩, _⟩ := he
  have d0 : fcmp .lss .f64 (dblC 8 (widen x) 0).1 (cz .f64 4604930618986332160) = false := by simpa using d0
  have d2 := pf_of d2'
  unfold okS at ho
  rw [Bool.and_eq_true, Bool.and_eq_true] at ho
  obtain ⟨⟨g1, g2⟩, g3⟩ := ho
  obtain ⟨v1, a1, a2, a3⟩ := (pf_of g1).vf
  obtain ⟨v3, b1, b2, b3⟩ := (pf_of g3).vf
  have hv1 : 0 < v1 := Nat.lt_of_lt_of_le (Nat.two_pow_pos _) a2
  rw [p74 2] at b3
  have hp := p74_pos
  have g15 : ∀ z v, Vf .f64 z v → v < (6 * P74 : Nat) → fcmp .geq .f64 z (cz .f64 4609434218613702656) = false := fun z v hz hv => by
    rw [vf_geq hz c15, decide_eq_false_iff_not]; omega
  refine tG (by rw [vf_eql a1 s00, decide_eq_false_iff_not]; omega) (tG (by rw [vf_lss a1 s00, decide_eq_false_iff_not]; omega) (tG (by rw [vf_neq a1 a1]; simp) (tE g2 ?_)))
  intro X1 hX1
  refine hX1 _ _ (tG (g15 _ _ b1 (by omega)) ?_)
  intro X2 hX2
  rw [es0]
  refine dblC_run (fun y j => X2 y (itof .f64 (-(j : Int)))) (fun y j => ∀ X : Nat → Nat → Prop, (∀ q k, ((fcmp .geq .f64 k (cz .f64 4607182418800017408) = true → X (fop .add .f64 (fop .quo .f64 (cz .f64 4607182418800017408) k) (fop .mul .f64 (uOf y) q)) (fop .sub .f64 k (cz .f64 4611686018427387904))) ∧ (fcmp .geq .f64 k (cz .f64 4607182418800017408) = false → (fconv .f64 (fop .add .f64 (fop .mul .f64 (cz .f64 4611686018427387904) (fop .mul .f64 (sOf y) q)) (fop .mul .f64 (itof .f64 (-(j : Int))) (cz .f64 4604418534313441775))) .f32).isSome = true ∧ K (narrow (fop .add .f64 (fop .mul .f64 (cz .f64 4611686018427387904) (fop .mul .f64 (sOf y) q)) (fop .mul .f64 (itof .f64 (-(j : Int))) (cz .f64 4604418534313441775)))))) → X q k) → X (cz .f64 0) (cz .f64 4627730092099895296)) ?_ 8 (widen x) 0 d1 d0 ?_
  · intro y j hj hh
    refine hX2 _ _ ⟨fun c => ?_, fun c => hh.2 c⟩
    rw [es1 j (by omega)]
    exact hh.1 c
  · intro X3 hX3
    rw [ks0]
    refine up (Y := fun t => X3 (qs (dblC 8 (widen x) 0).1 t) (itof .f64 (25 - 2 * (t : Int)))) 13 ?_ ?_
    · exact hX3 _ _ (tG ksE ⟨lg_some d2 d1, hK⟩)
    · intro t ht hh
      obtain ⟨k1, k2⟩ := ksF t ht
      refine hX3 _ _ (tE k1 ?_)
      rw [k2]
      exact hh
/-- x is no more than 0, and at least - V least places. -/
def Nb (x V : Nat) : Prop := ∃ s m e, (FloatKind.f32.format).read x = .number s m e ∧ (FloatKind.f32.format).leastPlace ≤ e ∧ vD (FloatKind.f32.format).leastPlace s m e ≤ 0 ∧ m * 2 ^ (e - (FloatKind.f32.format).leastPlace).toNat ≤ V
theorem nb_term {c n : Nat} (h1 : 1 ≤ c) (h2 : c ≤ n) (h3 : n ≤ 16) : Nb (fop .mul .f32 (shrW c n) (lgC (shrW c n))) (c * Wt n * 2 ^ 133) := by
  have hc : (1 ≤ c && decide (c ≤ n)) = true := by rw [Bool.and_eq_true, decide_eq_true_eq, decide_eq_true_eq]; exact ⟨h1, h2⟩
  have he := ent16 n (by omega) c (by omega) hc
  unfold entB at he
  rw [Bool.and_eq_true] at he
  have he := he.2
  split at he
  · rename_i s m e hr
    rw [Bool.and_eq_true, Bool.and_eq_true, decide_eq_true_eq, decide_eq_true_eq, decide_eq_true_eq] at he
    exact ⟨s, m, e, hr, he.1.1, he.1.2, he.2⟩
  · cases he
theorem nb_zero : Nb (cz .f32 0) 0 := ⟨false, 0, -149, by decide +kernel, by decide, by decide +kernel, by decide⟩
open Ieee in
/-- Rounding, of zero too. -/
theorem near_le0 {f : Format} (h : Fmt f) (s : Bool) {M v q a b : Nat} {e : Int} (hv : v < 2 ^ (f.fractionBits + 1)) (hab : (a : Int) - b = e - f.leastPlace) (hle : M * 2 ^ a ≤ v * 2 ^ q * 2 ^ b) (hI : M ≠ 0 → (e + M.log2 - f.fractionBits - f.leastPlace).toNat + 4 ≤ 2 ^ f.exponentBits) (hq : q + f.fractionBits + 5 ≤ 2 ^ f.exponentBits) :
    ∃ m e', f.read (f.nearest s M e) = .number s m e' ∧ f.leastPlace ≤ e' ∧ m * 2 ^ (e' - f.leastPlace).toNat ≤ v * 2 ^ q ∧ (M = 0 → m = 0) := by
  by_cases hM : M = 0
  · refine ⟨0, f.leastPlace, ?_, Int.le_refl _, by simp, fun _ => rfl⟩
    unfold Ieee.Format.nearest
    have hBp : 0 < f.binade := by rw [h.b]; exact Nat.two_pow_pos _
    rw [if_pos hM, read_word h s (Nat.zero_le _), if_pos hBp]
  · obtain ⟨m, e', r1, r2, r3⟩ := near_le h s hM hv hab hle (hI hM) hq
    exact ⟨m, e', r1, r2, r3, fun c => absurd c hM⟩
theorem vD_zero (L : Int) (s : Bool) (e : Int) : vD L s 0 e = 0 := by
  have := vD_abs L s 0 e
  rw [Nat.zero_mul] at this; omega
open Ieee in
theorem nb_add {x y A B : Nat} (hx : Nb x (A * 2 ^ 133)) (hy : Nb y (B * 2 ^ 133)) (hAB : A + B < 2 ^ 24) : Nb (fop .add .f32 x y) ((A + B) * 2 ^ 133) := by
  obtain ⟨s, m, i, r1, l1, z1, v1⟩ := hx
  obtain ⟨t, n, j, r2, l2, z2, v2⟩ := hy
  obtain ⟨u, M, c, h1, h2, h3, h4, h5⟩ := sum_num (s := s) (t := t) (m := m) (n := n) l1 l2
  have a1 := vD_abs (FloatKind.f32.format).leastPlace s m i
  have a2 := vD_abs (FloatKind.f32.format).leastPlace t n j
  have hle : M * 2 ^ (c - (FloatKind.f32.format).leastPlace).toNat ≤ (A + B) * 2 ^ 133 * 2 ^ 0 := by
    rw [h3, Nat.pow_zero, Nat.mul_one, Nat.add_mul]; omega
  obtain ⟨m', e', k1, k2, k3, k4⟩ := near_le0 (f := FloatKind.f32.format) fmt1 u (M := M) (v := A + B) (q := 133) (a := (c - (FloatKind.f32.format).leastPlace).toNat) (b := 0) (e := c) hAB (by omega) hle (fun hM => by
    have h6 : M * 2 ^ (c - (FloatKind.f32.format).leastPlace).toNat ≤ 2 ^ (24 + 133) := by
      rw [Nat.pow_add]
      refine Nat.le_trans hle ?_
      rw [Nat.pow_zero, Nat.mul_one]
      exact Nat.mul_le_mul_right _ (Nat.le_of_lt hAB)
    have h7 := log_le hM h6
    have h8 : (FloatKind.f32.format).fractionBits = 23 := by decide
    have h9 : (FloatKind.f32.format).exponentBits = 8 := by decide
    rw [h8, h9]; omega) (by decide)
  have hz : floatBits .add .f32 x y = some ((FloatKind.f32.format).nearest u M c) := by
    show (FloatKind.f32.format).add x y = _
    unfold Format.add
    rw [r1, r2, h1]; rfl
  refine ⟨u, m', e', fop_read hz k1, k2, ?_, k3⟩
  by_cases hM : M = 0
  · rw [k4 hM, vD_zero]; exact Int.le_refl _
  · have hu : u = true := by
      cases u with
      | true => rfl
      | false =>
        exfalso
        have h6 := h5 rfl
        have h7 : M * 2 ^ (c - (FloatKind.f32.format).leastPlace).toNat = 0 := by rw [h3]; omega
        rcases Nat.mul_eq_zero.1 h7 with h8 | h8
        · exact hM h8
        · have := Nat.two_pow_pos (c - (FloatKind.f32.format).leastPlace).toNat; omega
    exact (vD_sign _ u m' e').1 hu
/-- x is a number between 0 and 33 / 8. -/
def Qb (x : Nat) : Prop := ∃ s m e, (FloatKind.f32.format).read x = .number s m e ∧ (FloatKind.f32.format).leastPlace ≤ e ∧ 0 ≤ vD (FloatKind.f32.format).leastPlace s m e ∧ m * 2 ^ (e - (FloatKind.f32.format).leastPlace).toNat ≤ 33 * 2 ^ 146
theorem quo_up (D N : Nat) (b : Nat) (hb : b ≤ 1) {m more : Nat} (hD : D = m <<< more := by rfl) : (2 * (D / N) + b) * N ≤ 2 * (m * 2 ^ more) + N := by
  have h2 : D / N * N ≤ D := Nat.div_mul_le_self _ _
  have h3 : b * N ≤ 1 * N := Nat.mul_le_mul_right _ hb
  rw [← Nat.shiftLeft_eq, ← hD, Nat.add_mul, Nat.mul_assoc]
  generalize D / N * N = q at *
  generalize b * N = r at *
  omega
theorem big_le : (2 ^ 25 + 1) * (182000 * 2 ^ 133) ≤ 33 * 2 ^ 146 * 11629080 * 2 := by decide +kernel
theorem quo_arith {M N m C more i0 : Nat} (hN : N = 11629080) (h1 : M * N ≤ 2 * (m * 2 ^ more) + N) (h48 : 2 ^ 48 ≤ m * 2 ^ more) (v1 : m * 2 ^ i0 ≤ C * 2 ^ 133) (hC : C ≤ 182000) : M * 2 ^ (i0 + 23) ≤ 33 * 2 ^ 146 * 2 ^ more := by
  have h2 : M * N * 2 ^ 24 ≤ (2 ^ 25 + 1) * (m * 2 ^ more) := by
    have h4 : N * 2 ^ 24 ≤ m * 2 ^ more := by
      rw [hN]; refine Nat.le_trans (by decide) h48
    have h5 := Nat.mul_le_mul_right (2 ^ 24) h1
    rw [Nat.add_mul, Nat.mul_assoc 2, Nat.mul_comm (m * 2 ^ more) (2 ^ 24), ← Nat.mul_assoc] at h5
    rw [Nat.add_mul, Nat.one_mul]
    have e : (2 : Nat) * 2 ^ 24 = 2 ^ 25 := by decide
    rw [e] at h5
    exact Nat.le_trans h5 (Nat.add_le_add_left h4 _)
  have h3 : M * N * 2 ^ 24 * 2 ^ i0 ≤ (2 ^ 25 + 1) * (C * 2 ^ 133) * 2 ^ more := by
    refine Nat.le_trans (Nat.mul_le_mul_right (2 ^ i0) h2) ?_
    have h5 : (2 ^ 25 + 1) * (m * 2 ^ more) * 2 ^ i0 = (2 ^ 25 + 1) * 2 ^ more * (m * 2 ^ i0) := by ac_rfl
    have h7 : (2 ^ 25 + 1) * (C * 2 ^ 133) * 2 ^ more = (2 ^ 25 + 1) * 2 ^ more * (C * 2 ^ 133) := by ac_rfl
    rw [h5, h7]
    exact Nat.mul_le_mul_left _ v1
  have h4 : (2 ^ 25 + 1) * (C * 2 ^ 133) * 2 ^ more ≤ 33 * 2 ^ 146 * N * 2 * 2 ^ more := by
    refine Nat.mul_le_mul_right _ ?_
    rw [hN]
    exact Nat.le_trans (Nat.mul_le_mul_left _ (Nat.mul_le_mul_right _ hC)) big_le
  have h5 : M * 2 ^ (i0 + 23) * (N * 2) ≤ 33 * 2 ^ 146 * 2 ^ more * (N * 2) := by
    have e1 : M * 2 ^ (i0 + 23) * (N * 2) = M * N * 2 ^ 24 * 2 ^ i0 := by
      rw [Nat.pow_add, show (2 : Nat) ^ 24 = 2 ^ 23 * 2 by rfl]; ac_rfl
    have e2 : 33 * 2 ^ 146 * 2 ^ more * (N * 2) = 33 * 2 ^ 146 * N * 2 * 2 ^ more := by ac_rfl
    rw [e1, e2]
    exact Nat.le_trans h3 h4
  exact Nat.le_of_mul_le_mul_right h5 (by omega)
theorem num_cz {k : FloatKind} {z m : Nat} {s : Bool} {e : Int} (r : k.format.read z = .number s m e) : cz k z = z := by
  unfold cz
  rw [show k.decode z = k.format.read z from rfl, r]; rfl
theorem ln2_read : (FloatKind.f32.format).read (cz .f32 1060205080) = .number false 11629080 (-24) := by decide +kernel
open Ieee in
theorem qb_quo {x C : Nat} (hx : Nb x (C * 2 ^ 133)) (hC : C ≤ 182000) : Qb (fop .quo .f32 (fneg .f32 x) (cz .f32 1060205080)) := by
  obtain ⟨s, m, i, r1, l1, z1, v1⟩ := hx
  have hL : (FloatKind.f32.format).leastPlace = -149 := by decide
  have hp : (FloatKind.f32.format).fractionBits = 23 := by decide
  have hxb : (FloatKind.f32.format).exponentBits = 8 := by decide
  have hr : (FloatKind.f32.format).read (fneg .f32 x) = .number (!s) m i := by
    have := fneg_read (b := x) (by rw [show Ieee.single.read x = (FloatKind.f32.format).read x from rfl, r1]; rfl)
    rw [show Ieee.single.read x = (FloatKind.f32.format).read x from rfl, r1] at this
    exact this
  obtain ⟨N, hN, hln⟩ : ∃ N : Nat, N = 11629080 ∧ (FloatKind.f32.format).read (cz .f32 1060205080) = .number false N (-24) := ⟨_, rfl, ln2_read⟩
  have hN0 : N ≠ 0 := by omega
  have hNl : N.log2 = 23 := by rw [hN]; decide +kernel
  generalize hmo : (FloatKind.f32.format).fractionBits + 2 + N.log2 - m.log2 = more
  have hz : floatBits .quo .f32 (fneg .f32 x) (cz .f32 1060205080) = some ((FloatKind.f32.format).nearest (!s ^^ false) (2 * ((m <<< more) / N) + ((m <<< more) % N != 0).toNat) (i - (-24) - more - 1)) := by
    show (FloatKind.f32.format).div _ _ = _
    unfold Format.div Datum.quotient
    rw [hr, hln]
    simp only [hN0, if_false, hmo]; rfl
  have b3 : ∀ b : Bool, b.toNat ≤ 1 := by intro b; cases b <;> decide
  have b4 := b3 ((m <<< more) % N != 0)
  generalize hMd : 2 * ((m <<< more) / N) + ((m <<< more) % N != 0).toNat = M at *
  have hm0 : m = 0 → M = 0 := by
    intro c; rw [← hMd, c]; simp
  rw [hL] at v1 l1
  have hmore : m ≠ 0 → 2 ^ 48 ≤ m * 2 ^ more := by
    intro c
    have h1 := Nat.log2_self_le c
    have h2 : 2 ^ m.log2 * 2 ^ more ≤ m * 2 ^ more := Nat.mul_le_mul_right _ h1
    rw [← Nat.pow_add] at h2
    refine Nat.le_trans (Nat.pow_le_pow_right (by decide) ?_) h2
    rw [hp] at hmo; omega
  have hle : M * 2 ^ ((i - -149).toNat + 23) ≤ 33 * 2 ^ 146 * 2 ^ more := by
    by_cases c : m = 0
    · rw [hm0 c, Nat.zero_mul]; exact Nat.zero_le _
    refine quo_arith hN ?_ (hmore c) v1 hC
    rw [← hMd]
    exact quo_up _ _ _ b4
  obtain ⟨m', e', k1, k2, k3, k4⟩ := near_le0 (f := FloatKind.f32.format) fmt1 (!s ^^ false) (M := M) (v := 33) (q := 146) (a := (i - -149).toNat + 23) (b := more) (e := i - (-24) - more - 1) (by rw [hp]; decide) (by rw [hL]; omega) hle (fun hM => by
    have h6 : M * 2 ^ ((i - -149).toNat + 23) ≤ 2 ^ (152 + more) := by
      rw [Nat.pow_add 2 152 more]
      exact Nat.le_trans hle (Nat.mul_le_mul_right _ (by decide))
    have h7 := log_le hM h6
    rw [hL, hp, hxb]; omega) (by rw [hp, hxb]; decide)
  refine ⟨_, m', e', fop_read hz k1, k2, ?_, k3⟩
  by_cases c : m = 0
  · rw [k4 (hm0 c), vD_zero]; exact Int.le_refl _
  · have hs : s = true := by
      cases s with
      | true => rfl
      | false =>
        exfalso
        have h1 := (vD_sign (FloatKind.f32.format).leastPlace false m i).2 rfl
        have h2 := vD_abs (FloatKind.f32.format).leastPlace false m i
        have h3 : m * 2 ^ (i - (FloatKind.f32.format).leastPlace).toNat = 0 := by omega
        rcases Nat.mul_eq_zero.1 h3 with h4 | h4
        · exact c h4
        · have := Nat.two_pow_pos (i - (FloatKind.f32.format).leastPlace).toNat; omega
    exact (vD_sign _ _ m' e').2 (by rw [hs]; rfl)
open Ieee in
theorem num_fin {x m : Nat} {s : Bool} {e : Int} (h : (FloatKind.f32.format).read x = .number s m e) (l : (FloatKind.f32.format).leastPlace ≤ e) : pFin x = true := by
  obtain ⟨u, M, c, h1, h2, h3, h4, h5⟩ := sum_num (s := s) (t := !s) (m := m) (n := m) l l
  rw [vD_not] at h3
  have hM : M = 0 := by
    have h6 : M * 2 ^ (c - (FloatKind.f32.format).leastPlace).toNat = 0 := by rw [h3]; omega
    rcases Nat.mul_eq_zero.1 h6 with h7 | h7
    · exact h7
    · have := Nat.two_pow_pos (c - (FloatKind.f32.format).leastPlace).toNat; omega
  have hz : floatBits .sub .f32 x x = some ((FloatKind.f32.format).nearest u M c) := by
    show (FloatKind.f32.format).sub x x = _
    unfold Format.sub
    rw [h]
    show ((Datum.number s m e).sum (.number (!s) m e)).map _ = _
    rw [h1]; rfl
  have hn : (FloatKind.f32.format).read ((FloatKind.f32.format).nearest u M c) = .number u 0 (FloatKind.f32.format).leastPlace := by
    unfold Format.nearest
    have hBp : 0 < (FloatKind.f32.format).binade := by decide
    rw [if_pos hM, read_word (f := FloatKind.f32.format) fmt1 u (Nat.zero_le _), if_pos hBp]
  have hv : Vf .f32 (fop .sub .f32 x x) (0 : Int) := ⟨u, 0, _, fop_read hz hn, Int.le_refl _, vD_zero _ _ _⟩
  unfold pFin
  rw [vf_eql hv s00]
  exact decide_eq_true rfl
theorem c42 : ∃ w : Nat, Vf .f64 (cz .f64 4616414798036126925) (w : Int) ∧ 33 * 2 ^ 1071 ≤ w := ⟨4728779608739021 * 2 ^ 1024, vf_of (by decide +kernel), by decide +kernel⟩
theorem cm3 : ∃ w : Int, Vf .f64 (cz .f64 13785626545772145148) w ∧ w < 0 := ⟨-(4611686018427388 * 2 ^ 1012), vf_of (by decide +kernel), by decide +kernel⟩
open Ieee in
theorem qb_ok {x : Nat} (h : Qb x) : pFin x = true ∧ fcmp .lss .f64 (widen x) (cz .f64 13785626545772145148) = false ∧ fcmp .gtr .f64 (widen x) (cz .f64 4616414798036126925) = false := by
  obtain ⟨s, m, e, r, l, z, v⟩ := h
  have hL : (FloatKind.f32.format).leastPlace = -149 := by decide
  have hL2 : (FloatKind.f64.format).leastPlace = -1074 := by decide
  have hp : (FloatKind.f64.format).fractionBits = 52 := by decide
  have hxb : (FloatKind.f64.format).exponentBits = 11 := by decide
  have hle : m * 2 ^ (e - -1074).toNat ≤ 33 * 2 ^ 1071 * 2 ^ 0 := by
    rw [hL] at l v
    rw [Nat.pow_zero, Nat.mul_one, show (e - -1074).toNat = (e - -149).toNat + 925 by omega, Nat.pow_add, ← Nat.mul_assoc, show (1071 : Nat) = 146 + 925 by rfl, Nat.pow_add, ← Nat.mul_assoc]
    exact Nat.mul_le_mul_right _ v
  rw [hL] at l
  obtain ⟨m', e', k1, k2, k3, k4⟩ := near_le0 (f := FloatKind.f64.format) fmt2 s (M := m) (v := 33) (q := 1071) (a := (e - -1074).toNat) (b := 0) (e := e) (by rw [hp]; decide) (by rw [hL2]; omega) hle (fun hM => by
    have h6 : m * 2 ^ (e - -1074).toNat ≤ 2 ^ (6 + 1071) := by
      rw [Nat.pow_add]
      refine Nat.le_trans hle ?_
      rw [Nat.pow_zero, Nat.mul_one]
      exact Nat.mul_le_mul_right _ (by decide)
    have h7 := log_le hM h6
    rw [hL2, hp, hxb]; omega) (by rw [hp, hxb]; decide)
  have hw : widen x = (FloatKind.f64.format).nearest s m e := by
    have : fconv .f32 x .f64 = some ((FloatKind.f64.format).nearest s m e) := by
      unfold fconv
      rw [if_neg (by decide), show FloatKind.f32.decode x = (FloatKind.f32.format).read x from rfl, r]
      dsimp only
      rw [show FloatKind.f64.decode (FloatKind.encode .f64 (.number s m e)) = (FloatKind.f64.format).read ((FloatKind.f64.format).nearest s m e) from rfl, k1]
      show (if false = true then none else some (cz .f64 ((FloatKind.f64.format).nearest s m e))) = _
      rw [if_neg (by decide), num_cz k1]
    rw [widen, this]; rfl
  have hval : ∃ w : Int, Vf .f64 (widen x) w ∧ 0 ≤ w ∧ w ≤ (33 * 2 ^ 1071 : Nat) := by
    refine ⟨_, ⟨s, m', e', by rw [hw]; exact k1, k2, rfl⟩, ?_, ?_⟩
    · by_cases c : m = 0
      · rw [k4 c, vD_zero]; exact Int.le_refl _
      · have hs : s = false := by
          cases s with
          | false => rfl
          | true =>
            exfalso
            have h1 := (vD_sign (FloatKind.f32.format).leastPlace true m e).1 rfl
            have h2 := vD_abs (FloatKind.f32.format).leastPlace true m e
            have h3 : m * 2 ^ (e - (FloatKind.f32.format).leastPlace).toNat = 0 := by omega
            rcases Nat.mul_eq_zero.1 h3 with h4 | h4
            · exact c h4
            · have := Nat.two_pow_pos (e - (FloatKind.f32.format).leastPlace).toNat; omega
        exact (vD_sign _ _ m' e').2 hs
    · have h2 := vD_abs (FloatKind.f64.format).leastPlace s m' e'
      generalize 33 * 2 ^ 1071 = V at *
      omega
  obtain ⟨w, w1, w2, w3⟩ := hval
  obtain ⟨p, p1, p2⟩ := c42
  obtain ⟨q, q1, q2⟩ := cm3
  refine ⟨num_fin r (by rw [hL]; exact l), ?_, ?_⟩
  · rw [vf_lss w1 q1, decide_eq_false_iff_not]; omega
  · rw [vf_gtr w1 p1, decide_eq_false_iff_not]
    generalize 33 * 2 ^ 1071 = V at *
    omega
/-! ### the sum -/
def sumC (l : List Int) : Nat → Nat
  | 0 => cz .f32 0
  | k + 1 => fop .add .f32 (sumC l k) (fop .mul .f32 (shrW (cn l l.length ((vsO l l.length).getD k 0)) l.length) (lgC (shrW (cn l l.length ((vsO l l.length).getD k 0)) l.length)))
def cntC (l : List Int) : Nat → Nat
  | 0 => 0
  | k + 1 => cntC l k + cn l l.length ((vsO l l.length).getD k 0)
theorem sumC_nb {l : List Int} (h16 : l.length ≤ 16) : ∀ k, k ≤ (vsO l l.length).length → cntC l k * Wt l.length < 2 ^ 24 → Nb (sumC l k) (cntC l k * Wt l.length * 2 ^ 133)
  | 0, _, _ => by rw [sumC, cntC, Nat.zero_mul, Nat.zero_mul]; exact nb_zero
  | k + 1, hk, hb => by
    have h1 := (vsO_mem l l.length _).1 (mem_at (show k < (vsO l l.length).length by omega))
    have h2 := cn_le l l.length ((vsO l l.length).getD k 0)
    rw [cntC, Nat.add_mul] at hb
    have h3 := sumC_nb h16 k (by omega) (by omega)
    rw [sumC, cntC, Nat.add_mul]
    exact nb_add h3 (nb_term (by omega) h2 h16) hb
theorem W_le : ∀ n : Nat, n < 17 → n * Wt n ≤ 182000 := by decide
/-- All counts together are as many as there are numbers. -/
theorem csO_sum (l : List Int) : ∀ i, ((vsO l i).map fun v => cn l i v).sum = i
  | 0 => rfl
  | i + 1 => by
    have ih := csO_sum l i
    by_cases h : cn l i (l.getD i 0) = 0
    · have hv : vsO l (i + 1) = vsO l i ++ [l.getD i 0] := by rw [vsO, if_pos h]
      rw [hv, List.map_append, List.sum_append, List.map_singleton]
      have e1 : (vsO l i).map (fun v => cn l (i + 1) v) = (vsO l i).map fun v => cn l i v := by
        refine List.map_congr_left fun v hv2 => ?_
        have : l.getD i 0 ≠ v := fun c => (vsO_mem l i v).1 hv2 (c ▸ h)
        rw [cn_s, if_neg this, Nat.add_zero]
      rw [e1, ih, cn_s, if_pos rfl, h]; rfl
    · have hv : vsO l (i + 1) = vsO l i := by rw [vsO, if_neg h]
      rw [hv]
      have hmem := (vsO_mem l i (l.getD i 0)).2 h
      obtain ⟨k, hk, e⟩ := List.mem_iff_getElem.1 hmem
      have e0 : (vsO l i).getD k 0 = l.getD i 0 := by rw [gD hk]; exact e
      have key : ∀ m, m ≤ (vsO l i).length → (((vsO l i).take m).map fun v => cn l (i + 1) v).sum = (((vsO l i).take m).map fun v => cn l i v).sum + if k < m then 1 else 0 := by
        intro m
        induction m with
        | zero => intro _; simp
        | succ m ihm =>
          intro hm
          have hm2 : m < (vsO l i).length := by omega
          rw [List.take_succ_eq_append_getElem hm2, List.map_append, List.map_append, List.sum_append, List.sum_append, ihm (by omega), List.map_singleton, List.map_singleton, List.sum_singleton, List.sum_singleton, cn_s]
          by_cases c : m = k
          · subst c
            rw [if_neg (Nat.lt_irrefl _), if_pos (Nat.lt_succ_self _), if_pos e.symm]
            omega
          · have hne : l.getD i 0 ≠ (vsO l i)[m] := fun c2 => c (vsO_inj l i m k hm2 hk (by rw [gD hm2, e0, c2]))
            rw [if_neg hne]
            by_cases c3 : k < m
            · rw [if_pos c3, if_pos (by omega)]; omega
            · rw [if_neg c3, if_neg (by omega)]; omega
      have := key _ (Nat.le_refl _)
      rw [List.take_length, if_pos hk, ih] at this
      exact this
theorem cntC_eq (l : List Int) : ∀ k, k ≤ (vsO l l.length).length → cntC l k = (((vsO l l.length).take k).map fun v => cn l l.length v).sum
  | 0, _ => rfl
  | k + 1, hk => by
    have hk2 : k < (vsO l l.length).length := by omega
    rw [cntC, cntC_eq l k (by omega), List.take_succ_eq_append_getElem hk2, List.map_append, List.sum_append, List.map_singleton, List.sum_singleton, gD hk2]
theorem cntC_le (l : List Int) : cntC l (vsO l l.length).length = l.length := by
  rw [cntC_eq l _ (Nat.le_refl _), List.take_length, csO_sum]
theorem impl_entN {l : List Int} {K : Nat → Bool → Prop} (h16 : 1 ≤ l.length ∧ l.length ≤ 16) (hI : isI l = true) (h : ∀ x, Qb x → K x true) : impl_EntropyOf.wp l K := by
  have hb : bnd 1000000 l = true := by
    unfold isI at hI
    rw [Bool.and_eq_true] at hI; exact hI.2
  refine impl_AreIntegers_wp (by omega) (tE hI ?_)
  intro X hX
  have key : ∀ m : List (Int × Int), m.length = 0 → (∀ a, mpGet m a = (cn l 0 a : Int)) → X (vsO l 0) m ((0 : Nat) : Int) := by
    refine up (Y := fun i => ∀ m : List (Int × Int), m.length = i → (∀ a, mpGet m a = (cn l i a : Int)) → X (vsO l i) m (i : Int)) l.length ?_ ?_
    · intro m hm hg
      refine hX _ _ _ (tN (by omega) ?_)
      intro X2 hX2
      refine up (Y := fun k => X2 (sumC l k) (k : Int)) (vsO l l.length).length ?_ ?_
      · refine hX2 _ _ (tN (by omega) ?_)
        have hW := W_le l.length (by omega)
        have hn := sumC_nb h16.2 _ (Nat.le_refl _) (by rw [cntC_le]; omega)
        rw [cntC_le] at hn
        have hq := qb_quo hn hW
        exact tE (qb_ok hq).1 (h _ hq)
      · intro k hk hh
        have hvl := vsO_len l l.length
        have hmem := mem_at hk
        have hc1 := (vsO_mem l l.length _).1 hmem
        have hc2 := cn_le l l.length ((vsO l l.length).getD k 0)
        have hbd : -1000000 ≤ (vsO l l.length).getD k 0 ∧ (vsO l l.length).getD k 0 ≤ 1000000 := by
          have : ∀ i, i ≤ l.length → cn l i ((vsO l l.length).getD k 0) ≠ 0 → -1000000 ≤ (vsO l l.length).getD k 0 ∧ (vsO l l.length).getD k 0 ≤ 1000000 := by
            intro i
            induction i with
            | zero => intro _ c; exact absurd rfl c
            | succ i ih =>
              intro hi c
              by_cases e : l.getD i 0 = (vsO l l.length).getD k 0
              · rw [← e]; exact bnd_at hb (by omega)
              · rw [cn, if_neg e, Nat.add_zero] at c; exact ih (by omega) c
          exact this _ (Nat.le_refl _) hc1
        refine hX2 _ _ (tP (by omega) ⟨by omega, by rw [nn]; omega, ?_⟩)
        rw [nn, hg, w1 (by omega)]
        exact ent_log (by omega) hc2 h16.2 hh
    · intro i hi hh m hm hg
      have hvl := vsO_len l i
      have hcl := cn_le l i (l.getD i 0)
      have hbd := bnd_at hb hi
      refine hX _ _ _ (tP (by omega) ⟨by omega, by rw [nn]; omega, ?_⟩)
      rw [nn, hg, wE (by omega), w1 (by omega)]
      have hg2 : ∀ a, mpGet ((l.getD i 0, (cn l i (l.getD i 0) : Int) + 1) :: m) a = (cn l (i + 1) a : Int) := by
        intro a
        rw [mpGet, cn]
        by_cases e : a = l.getD i 0
        · rw [if_pos e, if_pos e.symm, e]; simp
        · rw [if_neg e, if_neg (fun c => e c.symm), hg, Nat.add_zero]
      have hm2 : ((l.getD i 0, (cn l i (l.getD i 0) : Int) + 1) :: m).length = i + 1 := by rw [List.length_cons, hm]
      have hh2 := hh _ hm2 hg2
      by_cases c : cn l i (l.getD i 0) = 0
      · rw [vsO, if_pos c] at hh2
        exact tP (by omega) ⟨by rw [len1]; omega, by omega, by omega, hh2⟩
      · rw [vsO, if_neg c] at hh2
        exact tN (by omega) ⟨by omega, by omega, hh2⟩
  exact key [] rfl fun a => rfl

end Go.Proofs.YtecdkjnomkdbkaaDoor.G

namespace Go.Proofs.YtecdkjnomkdbkaaDoor.G
open Go Go.Ab
set_option maxRecDepth 100000
set_option linter.unusedVariables false
set_option linter.unusedSimpArgs false
set_option maxHeartbeats 1000000
def mB (k : Nat) : Nat → List Bool
  | 0 => []
  | n + 1 => decide (Int.tmod (k : Int) 3 = 0) :: mB (k + 1) n
theorem mB_len (k : Nat) : ∀ n, (mB k n).length = n
  | 0 => rfl
  | n + 1 => by rw [mB, List.length_cons, mB_len]
theorem mB_app (k : Nat) : ∀ n, mB k (n + 1) = mB k n ++ [decide (Int.tmod ((k + n : Nat) : Int) 3 = 0)] := by
  intro n
  induction n generalizing k with
  | zero => rfl
  | succ n ih => rw [mB, ih, show mB k (n + 1) = decide (Int.tmod (k : Int) 3 = 0) :: mB (k + 1) n from rfl, List.cons_append, show k + 1 + n = k + (n + 1) by omega]
theorem mB_at (k : Nat) : ∀ (n i : Nat), i < n → (mB k n).getD i false = decide (Int.tmod ((k + i : Nat) : Int) 3 = 0) := by
  intro n
  induction n generalizing k with
  | zero => intro i h; omega
  | succ n ih =>
    intro i h
    cases i with
    | zero => rfl
    | succ i => rw [mB, List.getD_cons_succ, ih (k + 1) i (by omega), show k + 1 + i = k + (i + 1) by omega]
theorem setB {α : Type} (p : List α) (a b : α) (q : List α) : ((p ++ a :: q).set p.length b) = p ++ b :: q := by
  rw [List.set_append_right _ _ (Nat.le_refl _), Nat.sub_self]; rfl

end Go.Proofs.YtecdkjnomkdbkaaDoor.G

namespace Go.Proofs.YtecdkjnomkdbkaaDoor.G
open Go Go.Ab
set_option maxRecDepth 100000
set_option linter.unusedVariables false
set_option linter.unusedSimpArgs false
set_option maxHeartbeats 1000000
def Sm (n : Int) : Prop := -1000000 ≤ n ∧ n ≤ 1000000
theorem u64w {k : Nat} (h : k < 2 ^ 40) : IntKind.u64.wrap (k : Int) = (k : Int) := by
  show (k : Int) % 18446744073709551616 = _; omega
theorem shr (y k : Nat) (hk : k ≤ 60) : Int.fdiv (y : Int) (2 ^ (min (k : Int).toNat IntKind.i64.bits)) = ((y / 2 ^ k : Nat) : Int) := by
  have e : min (k : Int).toNat IntKind.i64.bits = k := by
    rw [Int.toNat_natCast, show IntKind.i64.bits = 64 from rfl]; omega
  rw [e, Int.fdiv_eq_ediv_of_nonneg _ (by exact Int.le_of_lt (Int.pow_pos (by decide)))]
  rw [show (2 : Int) ^ k = ((2 ^ k : Nat) : Int) by rw [Int.natCast_pow]; rfl]
  rfl
theorem isI_sm {l : List Int} (h : isI l = true) : l.length ≤ 128 ∧ ∀ n ∈ l, Sm n := by
  simp only [isI, Bool.and_eq_true, decide_eq_true_eq, bnd, List.all_eq_true] at h
  exact ⟨h.1.2, h.2⟩

end Go.Proofs.YtecdkjnomkdbkaaDoor.G

namespace Go.Proofs.YtecdkjnomkdbkaaDoor.G
open Go Go.Ab
set_option maxRecDepth 100000
set_option linter.unusedVariables false
set_option linter.unusedSimpArgs false
set_option maxHeartbeats 1000000
theorem impl_farC_wp {n : Int} {K : Int → Prop} (h : Sm n) (hk : K (n.natAbs : Int)) : impl_far.wp n K := by
  obtain ⟨h1, h2⟩ := h
  show K (mxI n (IntKind.i64.wrap (0 - n)))
  rw [wI (n := 0 - n) (by omega)]
  have : mxI n (0 - n) = (n.natAbs : Int) := by unfold mxI; split <;> omega
  rw [this]; exact hk
/-- How many digits the greatest has. -/
def IsTop (l : List Int) (n : Nat) : Prop := (∀ x ∈ l, x.natAbs < 2 ^ n) ∧ (n = 0 ∨ ∃ x ∈ l, 2 ^ (n - 1) ≤ x.natAbs)
theorem top_uniq {l : List Int} {n m : Nat} (h1 : IsTop l n) (h2 : IsTop l m) : n = m := by
  have key : ∀ {n m : Nat}, IsTop l n → IsTop l m → n ≤ m := by
    intro n m h1 h2
    rcases h1.2 with h | ⟨x, hx, h3⟩
    · omega
    · have h4 := h2.1 x hx
      rcases Nat.lt_or_ge m n with h5 | h5
      · have : 2 ^ m ≤ 2 ^ (n - 1) := Nat.pow_le_pow_right (by decide) (by omega)
        omega
      · exact h5
  exact Nat.le_antisymm (key h1 h2) (key h2 h1)
theorem top_le {l : List Int} {n : Nat} (hg : ∀ x ∈ l, Sm x) (h : IsTop l n) : n ≤ 20 := by
  rcases h.2 with h | ⟨x, hx, h3⟩
  · omega
  · obtain ⟨h1, h2⟩ := hg x hx
    rcases Nat.lt_or_ge 20 n with h5 | h5
    · have : 2 ^ 20 ≤ 2 ^ (n - 1) := Nat.pow_le_pow_right (by decide) (by omega)
      omega
    · exact h5
theorem div0 {a n : Nat} : a / 2 ^ n = 0 ↔ a < 2 ^ n := by
  rw [Nat.div_eq_zero_iff]
  have := Nat.two_pow_pos n
  omega
def tab8 : List UInt8 := ([0, 1, 2, 2, 3, 3, 3, 3, 4, 4, 4, 4, 4, 4, 4, 4, 5, 5, 5, 5, 5, 5, 5, 5, 5, 5, 5, 5, 5, 5, 5, 5] ++ List.replicate 32 6) ++ (List.replicate 64 7 ++ List.replicate 128 8)
def bitL (n : Nat) : Nat := if n = 0 then 0 else n.log2 + 1
def bN8 (n : Nat) : Nat := (tab8.getD n 0).toNat
theorem tab8_at : ∀ n, n < 256 → bN8 n = bitL n := by decide +kernel
theorem bitL_lt (n : Nat) : n < 2 ^ bitL n := by
  unfold bitL; split
  · rename_i h; subst h; decide
  · exact Nat.lt_log2_self
theorem bitL_le {n : Nat} (h : n ≠ 0) : 2 ^ (bitL n - 1) ≤ n := by
  unfold bitL; rw [if_neg h, Nat.add_sub_cancel]; exact Nat.log2_self_le h
theorem fdivu (y k : Nat) (hk : k ≤ 60) : Int.fdiv (y : Int) (2 ^ (min (k : Int).toNat IntKind.u64.bits)) = ((y / 2 ^ k : Nat) : Int) := by
  have e : min (k : Int).toNat IntKind.u64.bits = k := by
    rw [Int.toNat_natCast, show IntKind.u64.bits = 64 from rfl]; omega
  rw [e, Int.fdiv_eq_ediv_of_nonneg _ (by exact Int.le_of_lt (Int.pow_pos (by decide)))]
  rw [show (2 : Int) ^ k = ((2 ^ k : Nat) : Int) by rw [Int.natCast_pow]; rfl]
  rfl
theorem u8w {n : Nat} (h : n < 256) : IntKind.u8.wrap (n : Int) = (n : Int) := by
  show (n : Int) % 256 = _; omega
theorem bt_tab {n : Nat} (h : n < 256) : IntKind.i64.wrap (bt tab8 (n : Int)) = ((bitL n : Nat) : Int) := by
  have e : bt tab8 (n : Int) = ((bitL n : Nat) : Int) := by
    rw [← tab8_at n h]; rfl
  have hb : bitL n ≤ 8 := by
    unfold bitL; split
    · omega
    · have : n.log2 < 8 := (Nat.log2_lt (by assumption)).2 (by omega)
      omega
  rw [e, wI (by omega)]
theorem bitL8 {n : Nat} (h : n < 256) : bitL n ≤ 8 := by
  unfold bitL; split
  · omega
  · have : n.log2 < 8 := (Nat.log2_lt (by assumption)).2 (by omega)
    omega
/-- The digits of a number are those of its upper part, and the lower ones. -/
theorem bits_up {m s : Nat} (h : m / 2 ^ s ≠ 0) : m < 2 ^ (s + bitL (m / 2 ^ s)) ∧ 2 ^ (s + bitL (m / 2 ^ s) - 1) ≤ m := by
  have h1 := bitL_lt (m / 2 ^ s)
  have h2 := bitL_le h
  have h0 : bitL (m / 2 ^ s) ≠ 0 := by unfold bitL; rw [if_neg h]; omega
  have hp := Nat.two_pow_pos s
  constructor
  · rw [Nat.pow_add]; exact Nat.lt_of_lt_of_le ((Nat.div_lt_iff_lt_mul hp).1 h1) (Nat.le_of_eq (Nat.mul_comm _ _))
  · rw [show s + bitL (m / 2 ^ s) - 1 = s + (bitL (m / 2 ^ s) - 1) by omega, Nat.pow_add, Nat.mul_comm]
    exact (Nat.le_div_iff_mul_le hp).1 h2
theorem Len64_wp {m : Nat} {K : Int → Prop} (hm : m ≤ 1000000) (h : ∀ n, n ≤ 40 → m < 2 ^ n → (n = 0 ∨ 2 ^ (n - 1) ≤ m) → K (n : Nat)) : math_bits_Len64.wp (m : Int) K := by
  refine ⟨fun c => absurd c (by omega), fun _ => ⟨fun c => ?_, fun c => ?_⟩⟩
  · have e : Int.fdiv (m : Int) (2 ^ (min (16 : Int).toNat IntKind.u64.bits)) = ((m / 2 ^ 16 : Nat) : Int) := fdivu m 16 (by decide)
    have hd : m / 2 ^ 16 < 256 := by omega
    rw [e]
    refine ⟨fun c2 => absurd c2 (by omega), fun _ => ?_⟩
    rw [u8w hd]
    have hb := bitL8 hd
    refine ⟨⟨by omega, by show ((m / 2 ^ 16 : Nat) : Int) < 256; omega⟩, ?_⟩
    show K (IntKind.i64.wrap (IntKind.i64.wrap (0 + 16) + IntKind.i64.wrap (bt tab8 ((m / 2 ^ 16 : Nat) : Int))))
    rw [bt_tab hd, show IntKind.i64.wrap (IntKind.i64.wrap (0 + 16) + ((bitL (m / 2 ^ 16) : Nat) : Int)) = ((16 + bitL (m / 2 ^ 16) : Nat) : Int) by rw [show IntKind.i64.wrap (0 + 16) = 16 from by decide, wI (by omega)]; omega]
    have := bits_up (m := m) (s := 16) (by omega)
    exact h _ (by omega) this.1 (.inr this.2)
  · refine ⟨fun c2 => ?_, fun c2 => ?_⟩
    · have e : Int.fdiv (m : Int) (2 ^ (min (8 : Int).toNat IntKind.u64.bits)) = ((m / 2 ^ 8 : Nat) : Int) := fdivu m 8 (by decide)
      have hd : m / 2 ^ 8 < 256 := by omega
      rw [e, u8w hd]
      have hb := bitL8 hd
      refine ⟨⟨by omega, by show ((m / 2 ^ 8 : Nat) : Int) < 256; omega⟩, ?_⟩
      show K (IntKind.i64.wrap (IntKind.i64.wrap (0 + 8) + IntKind.i64.wrap (bt tab8 ((m / 2 ^ 8 : Nat) : Int))))
      rw [bt_tab hd, show IntKind.i64.wrap (IntKind.i64.wrap (0 + 8) + ((bitL (m / 2 ^ 8) : Nat) : Int)) = ((8 + bitL (m / 2 ^ 8) : Nat) : Int) by rw [show IntKind.i64.wrap (0 + 8) = 8 from by decide, wI (by omega)]; omega]
      have := bits_up (m := m) (s := 8) (by omega)
      exact h _ (by omega) this.1 (.inr this.2)
    · have hd : m < 256 := by omega
      rw [u8w hd]
      have hb := bitL8 hd
      refine ⟨⟨by omega, by show (m : Int) < 256; omega⟩, ?_⟩
      show K (IntKind.i64.wrap (0 + IntKind.i64.wrap (bt tab8 (m : Int))))
      rw [bt_tab hd, show IntKind.i64.wrap (0 + ((bitL m : Nat) : Int)) = ((bitL m : Nat) : Int) by rw [wI (by omega)]; omega]
      refine h _ (by omega) (bitL_lt m) ?_
      by_cases h0 : m = 0
      · exact .inl (by unfold bitL; rw [if_pos h0])
      · exact .inr (bitL_le h0)
theorem impl_planesFor_wp {l : List Int} {K : Int → Prop} (hl : l.length ≤ 128) (hg : ∀ x ∈ l, Sm x) (h : ∀ n, IsTop l n → K (n : Nat)) : impl_planesFor.wp l K := by
  intro X hX
  have key : ∀ (d i m : Nat), d + i = l.length → m ≤ 1000000 → (∀ x ∈ l.take i, x.natAbs ≤ m) → (m = 0 ∨ ∃ x ∈ l, x.natAbs = m) → X (m : Int) (i : Int) := by
    intro d
    induction d with
    | zero =>
      intro i m h1 hm h2 h3
      obtain rfl : i = l.length := by omega
      rw [List.take_length] at h2
      refine hX _ _ ⟨fun c => absurd c (by omega), fun _ => ?_⟩
      rw [u64w (by omega)]
      refine Len64_wp hm fun n _ h4 h5 => h n ⟨fun x hx => Nat.lt_of_le_of_lt (h2 x hx) h4, ?_⟩
      rcases h5 with h5 | h5
      · exact .inl h5
      · rcases h3 with h3 | ⟨x, hx, h3⟩
        · have := Nat.two_pow_pos (n - 1); omega
        · exact .inr ⟨x, hx, by rw [h3]; exact h5⟩
    | succ d ih =>
      intro i m h1 hm h2 h3
      have hi : i < l.length := by omega
      have hz := hg _ (List.getElem_mem hi)
      refine hX _ _ ⟨fun _ => ⟨⟨by omega, by omega⟩, ?_⟩, fun c => absurd (show (i : Int) < l.length by omega) c⟩
      rw [nn, gD hi, w1 (by omega)]
      refine impl_farC_wp hz ?_
      have hzb : l[i].natAbs ≤ 1000000 := by obtain ⟨h5, h6⟩ := hz; omega
      have hmx : mxI (m : Int) (l[i].natAbs : Int) = ((max m l[i].natAbs : Nat) : Int) := by unfold mxI; split <;> omega
      rw [hmx]
      refine ih (i + 1) _ (by omega) (by omega) (fun x hx => ?_) ?_
      · rw [List.take_succ_eq_append_getElem hi] at hx
        rcases List.mem_append.1 hx with hx | hx
        · have := h2 x hx; omega
        · rw [List.mem_singleton.1 hx]; omega
      · rcases Nat.le_total m l[i].natAbs with h5 | h5
        · exact .inr ⟨l[i], List.getElem_mem hi, by omega⟩
        · rcases h3 with h3 | ⟨x, hx, h3⟩
          · exact .inl (by omega)
          · exact .inr ⟨x, hx, by omega⟩
  exact key l.length 0 0 (by omega) (by omega) (fun x hx => by simp at hx) (.inl rfl)
/-- One integer's bits of a plane. -/
def dgt (a k : Nat) : Bool := decide (ibits .and .i64 ((a / 2 ^ k : Nat) : Int) 1 = 1)
def oneC (n : Int) (k : Nat) : List Bool := if dgt n.natAbs k = true then (if n.natAbs / 2 ^ (k + 1) = 0 then [true, decide (n < 0)] else [true]) else [false]
theorem oneC_len (n : Int) (k : Nat) : (oneC n k).length ≤ 2 := by unfold oneC; split <;> (try split) <;> simp
def planeC (l : List Int) (k : Nat) : List Bool := l.flatMap fun n => oneC n k
def codeC (l : List Int) (p : Nat) : Nat → List Bool
  | 0 => []
  | j + 1 => planeC l (p + j) ++ codeC l p j
theorem flat_len {l : List Int} {k : Nat} : (planeC l k).length ≤ 2 * l.length := by
  unfold planeC
  induction l with
  | nil => simp
  | cons a l ih => rw [List.flatMap_cons, List.length_append, List.length_cons]; have := oneC_len a k; omega
theorem impl_digit_wp {n : Int} {k : Nat} {K : Bool → Prop} (h : Sm n) (hk : k ≤ 40) (hK : K (dgt n.natAbs k)) : impl_digit.wp n (k : Int) K := by
  refine impl_farC_wp h ?_
  rw [shr _ _ (by omega)]
  exact ⟨by omega, hK⟩
/-- The inner loop. -/
theorem plane_loop (l : List Int) (k : Nat) {X : List Bool → Int → Prop} (o : List Bool) (hX : ∀ (q : List Bool) (i : Nat) (hi : i < l.length), q.length + (oneC l[i] k).length ≤ o.length + 2 * l.length → X (q ++ oneC l[i] k) ((i + 1 : Nat) : Int) → X q (i : Int)) (hend : X (o ++ planeC l k) (l.length : Int)) : X o ((0 : Nat) : Int) := by
  have key : ∀ m i q, m + i = l.length → q ++ planeC (l.drop i) k = o ++ planeC l k → X q (i : Int) := by
    intro m
    induction m with
    | zero => intro i q h1 h3
              obtain rfl : i = l.length := by omega
              rw [List.drop_length] at h3
              have h3 : q ++ [] = _ := h3
              rw [List.append_nil] at h3
              rw [h3]; exact hend
    | succ m ih =>
      intro i q h1 h3
      have hi : i < l.length := by omega
      rw [dropC hi] at h3
      have h3 : q ++ (oneC l[i] k ++ planeC (l.drop (i + 1)) k) = _ := h3
      have h4 := congrArg List.length h3
      rw [List.length_append, List.length_append, List.length_append] at h4
      have h5 := flat_len (l := l) (k := k)
      exact hX q i hi (by omega) (ih (i + 1) _ (by omega) (by rw [List.append_assoc]; exact h3))
  exact key l.length 0 o (by omega) (by rw [List.drop_zero])
theorem code_len (l : List Int) (p : Nat) : ∀ j, (codeC l p j).length ≤ 2 * l.length * j
  | 0 => by simp [codeC]
  | j + 1 => by
    have := code_len l p j
    have := flat_len (l := l) (k := p + j)
    rw [codeC, List.length_append, Nat.mul_succ]; omega
/-- The outer loop: planes down to p. -/
theorem planes_loop (l : List Int) (hl : l.length ≤ 128) (p T : Nat) (hT : T ≤ 40) {X : List Bool → Int → Prop} (hX : ∀ (o : List Bool) (j : Nat), j < T → o.length + 2 * l.length ≤ 2 * l.length * T → X (o ++ planeC l (p + j)) (((p + j : Nat) : Int) - 1) → X o (((p + j : Nat)) : Int)) (hend : X (codeC l p T) ((p : Int) - 1)) : X [] (((p + T : Nat) : Int) - 1) := by
  have key : ∀ j o, j ≤ T → o.length + 2 * l.length * j ≤ 2 * l.length * T → o ++ codeC l p j = codeC l p T → X o (((p + j : Nat) : Int) - 1) := by
    intro j
    induction j with
    | zero =>
      intro o h1 h2 h3
      rw [codeC, List.append_nil] at h3
      rw [h3]; exact hend
    | succ j ih =>
      intro o h1 h2 h3
      rw [codeC] at h3
      rw [Nat.mul_succ] at h2
      have h5 := flat_len (l := l) (k := p + j)
      have := hX o j (by omega) (by omega) (ih _ (by omega) (by rw [List.length_append]; omega) (by rw [List.append_assoc]; exact h3))
      rw [show ((p + (j + 1) : Nat) : Int) - 1 = ((p + j : Nat) : Int) by omega]; exact this
  exact key T [] (Nat.le_refl _) (by simp) rfl
theorem shr1 {n : Int} {k : Nat} (hk : k ≤ 40) {A B : Prop} (h : (n.natAbs / 2 ^ (k + 1) = 0 → A) ∧ (¬ n.natAbs / 2 ^ (k + 1) = 0 → B)) : (Int.fdiv (n.natAbs : Int) (2 ^ (min ((k + 1 : Nat) : Int).toNat IntKind.i64.bits)) = 0 → A) ∧ (¬ Int.fdiv (n.natAbs : Int) (2 ^ (min ((k + 1 : Nat) : Int).toNat IntKind.i64.bits)) = 0 → B) := by
  rw [shr _ _ (by omega)]
  exact ⟨fun c => h.1 (by omega), fun c => h.2 (by omega)⟩
theorem impl_codeUntil_wp {l : List Int} {p n : Nat} {K : List Bool → Prop} (hl : l.length ≤ 128) (hg : ∀ x ∈ l, Sm x) (hp : p ≤ 40) (hn20 : n ≤ 20) (h : K (codeC l p (n - p))) : impl_codeUntil.wp l (n : Int) (p : Int) K := by
  intro X hX
  rw [wI (by omega)]
  have main : X [] (((p + (n - p) : Nat) : Int) - 1) := by
    refine planes_loop l hl p (n - p) (by omega) (X := X) (fun o j hj ho hn1 => hX _ _ ⟨fun _ => fun Y hY => ?_, fun c => absurd (show (p : Int) ≤ ((p + j : Nat) : Int) by omega) c⟩) (hX _ _ ⟨fun c => absurd c (by omega), fun _ => h⟩)
    have hb : 2 * l.length * (n - p) ≤ 256 * 20 := Nat.mul_le_mul (by omega) (by omega)
    refine plane_loop l (p + j) (X := Y) o (fun q i hi hq hn2 => hY _ _ ⟨fun _ => ⟨⟨by omega, by omega⟩, ?_⟩, fun c => absurd (show (i : Int) < l.length by omega) c⟩) (hY _ _ ⟨fun c => absurd c (by omega), fun _ => ?_⟩)
    · have hz := hg _ (List.getElem_mem hi)
      rw [nn, gD hi, w1 (by omega)]
      refine impl_digit_wp hz (by omega) ⟨by rw [len1]; omega, fun c => ?_, fun c => ?_⟩
      · refine impl_farC_wp hz ?_
        rw [w1 (by omega)]
        refine ⟨by omega, shr1 (by omega) ⟨fun c2 => ⟨by rw [List.length_append, len1, len1]; omega, ?_⟩, fun c2 => ?_⟩⟩
        · rw [oneC, if_pos c, if_pos c2] at hn2
          rw [c, List.append_assoc]; exact hn2
        · rw [oneC, if_pos c, if_neg c2] at hn2
          rw [c]; exact hn2
      · rw [oneC, if_neg (by rw [c]; decide)] at hn2
        rw [c]
        first | exact hn2 | (rw [w1 (by omega)]; exact hn2)
    · rw [wI (by omega)]; exact hn1
  by_cases hc : p ≤ n
  · rw [show (n : Int) - 1 = ((p + (n - p) : Nat) : Int) - 1 by omega]; exact main
  · refine hX _ _ ⟨fun c => absurd c (by omega), fun _ => ?_⟩
    rw [show n - p = 0 by omega] at h; exact h
theorem top_ex (l : List Int) : ∃ n, IsTop l n := by
  have h0 : ∀ m, (∀ x ∈ l, x.natAbs < 2 ^ m) → ∃ n, IsTop l n := by
    intro m
    induction m with
    | zero => intro h; exact ⟨0, h, .inl rfl⟩
    | succ m ih =>
      intro h
      by_cases hc : ∃ x ∈ l, 2 ^ m ≤ x.natAbs
      · exact ⟨m + 1, h, .inr hc⟩
      · refine ih fun x hx => ?_
        rcases Nat.lt_or_ge x.natAbs (2 ^ m) with h1 | h1
        · exact h1
        · exact absurd ⟨x, hx, h1⟩ hc
  have hb : ∀ l : List Int, ∃ m, ∀ x ∈ l, x.natAbs < 2 ^ m := by
    intro l
    induction l with
    | nil => exact ⟨0, fun x hx => by cases hx⟩
    | cons a l ih =>
      obtain ⟨m, hm⟩ := ih
      refine ⟨m + bitL a.natAbs, fun x hx => ?_⟩
      rcases List.mem_cons.1 hx with rfl | hx
      · exact Nat.lt_of_lt_of_le (bitL_lt _) (Nat.pow_le_pow_right (by decide) (by omega))
      · exact Nat.lt_of_lt_of_le (hm x hx) (Nat.pow_le_pow_right (by decide) (by omega))
  obtain ⟨m, hm⟩ := hb l
  exact h0 m hm

end Go.Proofs.YtecdkjnomkdbkaaDoor.G

namespace Go.Proofs.YtecdkjnomkdbkaaDoor.G
open Go Go.Ab
set_option maxRecDepth 100000
set_option linter.unusedVariables false
set_option linter.unusedSimpArgs false
set_option maxHeartbeats 1000000
/-- What is like itself is a number. -/
theorem num_of_eq {x : Nat} (h : fcmp .neq .f32 x x = false) : num .f32 x = true := by
  unfold num
  cases hd : (FloatKind.f32.decode x).isNaN with
  | false => rfl
  | true =>
    exfalso
    have h2 : Ieee.single.order x x = none := by
      unfold Ieee.Format.order
      have hd' : (Ieee.single.read x).isNaN = true := hd
      cases hr : Ieee.single.read x with
      | nan s t => rfl
      | _ => rw [hr] at hd'; cases hd'
    unfold fcmp at h
    rw [show FloatKind.f32.format = Ieee.single from rfl, h2] at h
    cases h
theorem ixor {a b : Nat} (ha : a < 2 ^ 32) (hb : b < 2 ^ 32) : ibits .xor .i64 (a : Int) (b : Int) = ((a ^^^ b : Nat) : Int) := by
  have hx : a ^^^ b < 2 ^ 32 := Nat.xor_lt_two_pow ha hb
  have ea : (BitVec.ofInt 64 (a : Int)).toNat = a := by rw [BitVec.ofInt_natCast, BitVec.toNat_ofNat]; omega
  have eb : (BitVec.ofInt 64 (b : Int)).toNat = b := by rw [BitVec.ofInt_natCast, BitVec.toNat_ofNat]; omega
  show IntKind.i64.wrap ((BitVec.ofInt 64 (a : Int) ^^^ BitVec.ofInt 64 (b : Int)).toNat : Int) = _
  rw [BitVec.toNat_xor, ea, eb]
  exact wI (by omega)
theorem ior {a b : Nat} (ha : a < 2 ^ 32) (hb : b < 2 ^ 32) : ibits .or .i64 (a : Int) (b : Int) = ((a ||| b : Nat) : Int) := by
  have hx : a ||| b < 2 ^ 32 := Nat.or_lt_two_pow ha hb
  have ea : (BitVec.ofInt 64 (a : Int)).toNat = a := by rw [BitVec.ofInt_natCast, BitVec.toNat_ofNat]; omega
  have eb : (BitVec.ofInt 64 (b : Int)).toNat = b := by rw [BitVec.ofInt_natCast, BitVec.toNat_ofNat]; omega
  show IntKind.i64.wrap ((BitVec.ofInt 64 (a : Int) ||| BitVec.ofInt 64 (b : Int)).toNat : Int) = _
  rw [BitVec.toNat_or, ea, eb]
  exact wI (by omega)
theorem p8 : (2 ^ (min (8 : Int).toNat IntKind.i64.bits) : Int) = 256 := by decide
theorem fdiv8 (m : Nat) : Int.fdiv (m : Int) (2 ^ (min (8 : Int).toNat IntKind.i64.bits)) = ((m / 256 : Nat) : Int) := by
  rw [p8, Int.fdiv_eq_ediv_of_nonneg _ (by decide)]; omega
theorem tdivN (m k : Nat) (h : m < 2 ^ 40) : IntKind.i64.wrap (Int.tdiv (m : Int) (k : Int)) = ((m / k : Nat) : Int) := by
  rw [show (m : Int).tdiv (k : Int) = ((m / k : Nat) : Int) by rw [Int.tdiv_eq_ediv_of_nonneg (by omega)]; rfl]
  have := Nat.div_le_self m k
  generalize m / k = d at this
  exact wI (by omega)
theorem u8wrap (m : Nat) : IntKind.u8.wrap (m : Int) = ((m % 256 : Nat) : Int) := by
  show (m : Int) % 256 = _
  omega
theorem tmod8 (m : Nat) : Int.tmod (m : Int) 256 = ((m % 256 : Nat) : Int) := by
  rw [Int.tmod_eq_emod_of_nonneg (by omega)]; rfl
/-- How many bytes a number fills. -/
def nb (x : Nat) : Nat := if x = 0 then 0 else if x < 256 then 1 else if x < 65536 then 2 else if x < 16777216 then 3 else 4
theorem nb_le (x : Nat) : nb x ≤ 4 := by unfold nb; repeat' split
                                         all_goals omega
theorem nb_div {m : Nat} (h : 0 < m) (h32 : m < 2 ^ 32) : nb (m / 256) + 1 = nb m := by
  unfold nb; repeat' split
  all_goals omega
def lowB : Nat → Nat → List Int
  | 0, _ => []
  | n + 1, x => ((x % 256 : Nat) : Int) :: lowB n (x / 256)
theorem lowB_len : ∀ n x, (lowB n x).length = n
  | 0, _ => rfl
  | n + 1, x => by rw [lowB, List.length_cons, lowB_len]
def bitsN (x : Nat) : Nat := if fcmp .neq .f32 x x = true then 2143289344 else x
theorem bitsN_lt {x : Nat} (h : x < 2 ^ 32) : bitsN x < 2 ^ 32 := by unfold bitsN; split <;> omega
def oneB (y : Nat) : List Int := ((4 - nb y : Nat) : Int) :: lowB (nb y) y
theorem oneB_len (y : Nat) : (oneB y).length ≤ 5 := by rw [oneB, List.length_cons, lowB_len]; have := nb_le y; omega
def packTo : List Nat → Nat → List Int
  | [], _ => []
  | x :: l, b => oneB (bitsN x ^^^ b) ++ packTo l (bitsN x)
def packL (l : List Nat) : List UInt8 := byts (packTo l 0)
/-- The loop over the values. -/
theorem pack_loop (l : List Nat) (hl : l.length ≤ 2 ^ 20) (hw : ∀ x ∈ l, x < 2 ^ 32) {X : List Int → Int → Int → Prop} (hX : ∀ (o : List Int) (b i : Nat) (hi : i < l.length), b < 2 ^ 32 → o.length ≤ 5 * i → X (o ++ oneB (bitsN l[i] ^^^ b)) (bitsN l[i] : Nat) ((i + 1 : Nat) : Int) → X o (b : Int) (i : Int)) (hend : ∀ b : Int, X (packTo l 0) b (l.length : Int)) : X [] ((0 : Nat) : Int) ((0 : Nat) : Int) := by
  have key : ∀ (m i : Nat) (o : List Int) (b : Nat), m + i = l.length → b < 2 ^ 32 → o.length ≤ 5 * i → o ++ packTo (l.drop i) b = packTo l 0 → X o (b : Int) (i : Int) := by
    intro m
    induction m with
    | zero => intro i o b h1 h2 h3 h4
              obtain rfl : i = l.length := by omega
              rw [List.drop_length, packTo, List.append_nil] at h4
              rw [h4]; exact hend _
    | succ m ih =>
      intro i o b h1 h2 h3 h4
      have hi : i < l.length := by omega
      refine hX o b i hi h2 h3 (ih (i + 1) _ _ (by omega) (bitsN_lt (hw _ (List.getElem_mem hi))) (by rw [List.length_append]; have := oneB_len (bitsN l[i] ^^^ b); omega) ?_)
      rw [dropC hi, packTo] at h4
      rw [List.append_assoc]; exact h4
  exact key l.length 0 [] 0 (by omega) (by decide) (by simp) rfl
/-- The loop over a number's bytes. -/
theorem bytes_loop (M : Nat) {X : List Int → Int → Int → Prop} {N : Nat} (hX : ∀ (o : List Int) (x k : Nat), k < N → x < 2 ^ 32 → o.length < M → X (o ++ [((x % 256 : Nat) : Int)]) ((x / 256 : Nat) : Int) ((k + 1 : Nat) : Int) → X o (x : Int) (k : Int)) : ∀ (n k x : Nat) (o : List Int), k + n = N → x < 2 ^ 32 → o.length + n ≤ M → (∀ x, X (o ++ lowB n x) x (N : Int) → True) → (∀ y : Int, X (o ++ lowB n x) y (N : Int)) → X o (x : Int) (k : Int) := by
  intro n
  induction n with
  | zero => intro k x o h1 h2 h3 _ h4
            obtain rfl : k = N := by omega
            have := h4 x
            rw [lowB, List.append_nil] at this; exact this
  | succ n ih =>
    intro k x o h1 h2 h3 _ h4
    refine hX o x k (by omega) h2 (by omega) (ih (k + 1) (x / 256) _ (by omega) (by omega) (by rw [List.length_append, List.length_singleton]; omega) (fun _ _ => trivial) fun y => ?_)
    have := h4 y
    rw [lowB] at this
    rw [List.append_assoc]; exact this

end Go.Proofs.YtecdkjnomkdbkaaDoor.G

namespace Go.Proofs.YtecdkjnomkdbkaaDoor.G
open Go Go.Ab
set_option maxRecDepth 100000
set_option linter.unusedVariables false
set_option linter.unusedSimpArgs false
set_option maxHeartbeats 1000000
def btOk (a : List UInt8) (i : Nat) : Bool := !decide (bt a i < 97) && !decide (122 < bt a i)
def isNm (a : List UInt8) : Bool := (List.range a.length).all (btOk a) && decide (1 ≤ (a.length : Int) ∧ (a.length : Int) ≤ 8)
theorem range_get2 {n i : Nat} (h : i < (List.range n).length) : (List.range n)[i] = i := List.getElem_range h
theorem nm_yes {a : List UInt8} (h : (List.range a.length).all (btOk a) = true) : isNm a = decide (1 ≤ (a.length : Int) ∧ (a.length : Int) ≤ 8) := by rw [isNm, h]; rfl
theorem nm_no {a : List UInt8} (h : (List.range a.length).all (btOk a) = false) : isNm a = false := by rw [isNm, h]; rfl
def isVals (l : List Nat) : Bool := decide (1 ≤ (l.length : Int) ∧ (l.length : Int) ≤ 128)
def isTk (a : List UInt8) (k : Int) (l : List Nat) : Bool := isNm a && decide (1 ≤ k ∧ k ≤ 65535) && isVals l

end Go.Proofs.YtecdkjnomkdbkaaDoor.G

namespace Go.Proofs.YtecdkjnomkdbkaaDoor.G
open Go Go.Ab
set_option maxRecDepth 100000
set_option linter.unusedVariables false
set_option linter.unusedSimpArgs false
set_option maxHeartbeats 1000000
def isSch (l : List Nat) (s : Nat) : Bool := decide (1 ≤ (l.length : Int) ∧ (l.length : Int) ≤ 8) && pAll l && isOver s
def isPic (a b : Int) (l : List Nat) : Bool := decide (1 ≤ a ∧ a ≤ 16) && decide (1 ≤ b ∧ b ≤ 16) && decide ((l.length : Int) = a * b) && pAll l
theorem w16 {a b : Int} (h1 : decide (1 ≤ a ∧ a ≤ 16) = true) (h2 : decide (1 ≤ b ∧ b ≤ 16) = true) : IntKind.i64.wrap (a * b) = a * b := by
  simp only [decide_eq_true_eq] at h1 h2
  obtain ⟨an, rfl⟩ : ∃ n : Nat, a = n := ⟨a.toNat, by omega⟩
  obtain ⟨bn, rfl⟩ : ∃ n : Nat, b = n := ⟨b.toNat, by omega⟩
  have : an * bn ≤ 16 * 16 := Nat.mul_le_mul (by omega) (by omega)
  rw [show (an : Int) * (bn : Int) = ((an * bn : Nat) : Int) from rfl]
  exact wI (by omega)
def isCod (a b : Int) (l : List Bool) : Bool := decide (1 ≤ a ∧ a ≤ 128) && decide (0 ≤ b ∧ b ≤ 24) && decide ((l.length : Int) ≤ 32768)
theorem impl_ValidCoded_wp {a b : Int} {l : List Bool} {K : Bool → Prop} (h : K (isCod a b l)) : impl_ValidCoded.wp a b l K := by
  refine impl_within_wp ⟨fun h1 => impl_within_wp ⟨fun h2 => ?_, fun h2 => ?_⟩, fun h1 => ?_⟩
  · rw [isCod, h1, h2] at h; exact h
  · rw [isCod, h1, h2] at h; exact h
  · rw [isCod, h1] at h; exact h
def isDesk (l m : List Nat) (s : Nat) (w v : Int) (p : List Nat) (c t : Int) (b : List Bool) : Bool := isL l && isSch m s && isPic w v p && isCod c t b

end Go.Proofs.YtecdkjnomkdbkaaDoor.G

namespace Go.Proofs.YtecdkjnomkdbkaaDoor.G
open Go Go.Ab
set_option maxRecDepth 100000
set_option linter.unusedVariables false
set_option linter.unusedSimpArgs false
set_option maxHeartbeats 1000000
abbrev Q3 := List Nat × List Int × Nat
def rS (bs : List Bool) (k : Nat) : Nat → Nat → List Nat → List Int → Nat → Q3
  | 0, _, z, g, a => (z, g, a)
  | n + 1, i, z, g, a =>
    if a < bs.length then
      if bs.getD a false = true then
        if z.getD i 0 = 0 then
          if a + 1 = bs.length then (z, g, a + 1)
          else rS bs k n (i + 1) (z.set i (z.getD i 0 + 2 ^ k)) (if bs.getD (a + 1) false = true then (g.set i 1).set i (-1) else g.set i 1) (a + 1 + 1)
        else rS bs k n (i + 1) (z.set i (z.getD i 0 + 2 ^ k)) g (a + 1)
      else rS bs k n (i + 1) z g (a + 1)
    else (z, g, a)
def rI (bs : List Bool) (k : Nat) : Nat → Nat → List Nat → List Int → Nat → Q3
  | 0, _, z, g, a => (z, g, a)
  | n + 1, i, z, g, a =>
    if a = bs.length then (z, g, a)
    else if bs.getD a false = true then
      if g.getD i 0 = 0 then
        if a + 1 < bs.length then rI bs k n (i + 1) (z.set i (z.getD i 0 + 2 ^ k)) (if bs.getD (a + 1) false = true then (g.set i 1).set i (-1) else g.set i 1) (a + 1 + 1)
        else rI bs k n (i + 1) (z.set i (z.getD i 0 + 2 ^ k)) g (a + 1)
      else rI bs k n (i + 1) (z.set i (z.getD i 0 + 2 ^ k)) g (a + 1)
    else rI bs k n (i + 1) z g (a + 1)
def pS (bs : List Bool) (c : Nat) : Nat → Q3 → Q3
  | 0, s => s
  | k + 1, s => pS bs c k (rS bs k c 0 s.1 s.2.1 s.2.2)
def pI (bs : List Bool) (c : Nat) : Nat → Q3 → Q3
  | 0, s => s
  | k + 1, s => pI bs c k (rI bs k c 0 s.1 s.2.1 s.2.2)
/-- A size is nothing where no sign has been told. -/
def zg (z : List Nat) (g : List Int) : Prop := ∀ i, z.getD i 0 = 0 ↔ g.getD i 0 = 0
theorem getD_set_eq {α : Type} (l : List α) (i j : Nat) (x d : α) : (l.set i x).getD j d = if i = j ∧ i < l.length then x else l.getD j d := by
  simp only [List.getD_eq_getElem?_getD, List.getElem?_set]
  by_cases h : i = j
  · subst h
    by_cases h2 : i < l.length
    · simp [h2]
    · simp [h2]
  · simp [h]
theorem zg_set {z : List Nat} {g : List Int} {i n : Nat} {x : Int} (h : zg z g) (hl : z.length = g.length) (hn : n ≠ 0) (hx : x ≠ 0) : zg (z.set i n) (g.set i x) := by
  intro j
  rw [getD_set_eq, getD_set_eq, hl]
  split
  · exact ⟨fun e => absurd e hn, fun e => absurd e hx⟩
  · exact h j
theorem zg_set1 {z : List Nat} {g : List Int} {i n : Nat} (h : zg z g) (hl : z.length = g.length) (hn : n ≠ 0) (hx : g.getD i 0 ≠ 0) : zg (z.set i n) g := by
  intro j
  rw [getD_set_eq]
  split
  · rename_i e; obtain ⟨rfl, _⟩ := e; exact ⟨fun e => absurd e hn, fun e => absurd e hx⟩
  · exact h j
structure Rl (bs : List Bool) (s t : Q3) : Prop where
  g : s.2.1 = t.2.1
  a : s.2.2 = t.2.2
  le : s.2.2 ≤ bs.length
  len : s.1.length = s.2.1.length
  z : (s.1 = t.1 ∧ zg s.1 s.2.1) ∨ (s.2.2 = bs.length ∧ ∃ j c, t.1 = s.1.set j c ∧ s.2.1.getD j 0 = 0)
theorem two_ne (n k : Nat) : n + 2 ^ k ≠ 0 := by have := Nat.two_pow_pos k; omega
theorem rS_end (bs : List Bool) (k n i : Nat) (z : List Nat) (g : List Int) : rS bs k n i z g bs.length = (z, g, bs.length) := by
  cases n with
  | zero => rfl
  | succ n => rw [rS, if_neg (Nat.lt_irrefl _)]
theorem rI_end (bs : List Bool) (k n i : Nat) (z : List Nat) (g : List Int) : rI bs k n i z g bs.length = (z, g, bs.length) := by
  cases n with
  | zero => rfl
  | succ n => rw [rI, if_pos rfl]
theorem r_sim (bs : List Bool) (k : Nat) : ∀ (n i : Nat) (z : List Nat) (g : List Int) (a : Nat), a ≤ bs.length → z.length = g.length → zg z g → Rl bs (rS bs k n i z g a) (rI bs k n i z g a)
  | 0, i, z, g, a, h1, h2, h3 => ⟨rfl, rfl, h1, h2, .inl ⟨rfl, h3⟩⟩
  | n + 1, i, z, g, a, h1, h2, h3 => by
    rw [rS, rI]
    by_cases ha : a < bs.length
    · rw [if_pos ha, if_neg (show ¬ a = bs.length by omega)]
      by_cases hb : bs.getD a false = true
      · rw [if_pos hb, if_pos hb]
        by_cases hz : z.getD i 0 = 0
        · have hg := (h3 i).1 hz
          rw [if_pos hz, if_pos hg]
          by_cases he : a + 1 = bs.length
          · rw [if_pos he, if_neg (show ¬ a + 1 < bs.length by omega), he, rI_end]
            exact ⟨rfl, rfl, Nat.le_refl _, h2, .inr ⟨rfl, i, _, rfl, hg⟩⟩
          · rw [if_neg he, if_pos (show a + 1 < bs.length by omega)]
            refine r_sim bs k n (i + 1) _ _ _ (by omega) ?_ ?_
            · rw [List.length_set]; split <;> simp [h2]
            · split
              · rw [List.set_set]; exact zg_set h3 h2 (two_ne _ _) (by decide)
              · exact zg_set h3 h2 (two_ne _ _) (by decide)
        · have hg : ¬ g.getD i 0 = 0 := fun e => hz ((h3 i).2 e)
          rw [if_neg hz, if_neg hg]
          exact r_sim bs k n (i + 1) _ _ _ (by omega) (by rw [List.length_set]; exact h2) (zg_set1 h3 h2 (two_ne _ _) hg)
      · rw [if_neg hb, if_neg hb]
        exact r_sim bs k n (i + 1) _ _ _ (by omega) h2 h3
    · obtain rfl : a = bs.length := by omega
      rw [if_neg ha, if_pos rfl]
      exact ⟨rfl, rfl, h1, h2, .inl ⟨rfl, h3⟩⟩
theorem p_sim (bs : List Bool) (c : Nat) : ∀ (k : Nat) (s t : Q3), Rl bs s t → Rl bs (pS bs c k s) (pI bs c k t)
  | 0, s, t, h => h
  | k + 1, s, t, h => by
    rw [pS, pI]
    refine p_sim bs c k _ _ ?_
    obtain ⟨z, g, a⟩ := s
    obtain ⟨z', g', a'⟩ := t
    obtain ⟨h1, h2, h3, h4, h5⟩ := h
    dsimp only at h1 h2 h3 h4 h5 ⊢
    subst h1; subst h2
    rcases h5 with ⟨rfl, h5⟩ | ⟨rfl, j, d, rfl, h5⟩
    · exact r_sim bs k c 0 _ _ _ h3 h4 h5
    · rw [rS_end, rI_end]
      exact ⟨rfl, rfl, Nat.le_refl _, h4, .inr ⟨rfl, j, d, rfl, h5⟩⟩
/-! ### sizes: bounds, digits -/
def nats (l : List Nat) : List Int := l.map fun (n : Nat) => (n : Int)
theorem nats_len (l : List Nat) : (nats l).length = l.length := by simp [nats]
theorem nats_getD (l : List Nat) (i : Nat) : (nats l).getD i 0 = ((l.getD i 0 : Nat) : Int) := by
  simp only [nats, List.getD_eq_getElem?_getD, List.getElem?_map]
  cases l[i]? <;> rfl
theorem nats_set (l : List Nat) (i n : Nat) : (nats l).set i (n : Int) = nats (l.set i n) := by simp [nats, List.map_set]
/-- Sizes in the middle of plane k at index i. -/
def dig (k i : Nat) (z : List Nat) : Prop := ∀ j, z.getD j 0 < 2 ^ 24 ∧ (if j < i then z.getD j 0 % 2 ^ k = 0 else z.getD j 0 % 2 ^ (k + 1) = 0)
theorem dig_skip {k i : Nat} {z : List Nat} (h : dig k i z) : dig k (i + 1) z := by
  intro j
  obtain ⟨h1, h2⟩ := h j
  refine ⟨h1, ?_⟩
  split
  · split at h2
    · exact h2
    · rw [Nat.pow_succ] at h2
      exact Nat.mod_eq_zero_of_dvd (Nat.dvd_trans (Nat.dvd_mul_right _ _) (Nat.dvd_of_mod_eq_zero h2))
  · rw [if_neg (by omega)] at h2; exact h2
theorem dig_lt {k v : Nat} (hk : k < 24) (h1 : v < 2 ^ 24) (h2 : v % 2 ^ (k + 1) = 0) : v + 2 ^ k < 2 ^ 24 := by
  obtain ⟨q, rfl⟩ := Nat.dvd_of_mod_eq_zero h2
  obtain ⟨d, hd⟩ : ∃ d, 24 = k + 1 + d := ⟨24 - (k + 1), by omega⟩
  have e : (2 : Nat) ^ (k + 1 + d) = 2 ^ (k + 1) * 2 ^ d := Nat.pow_add ..
  have hq : q < 2 ^ d := by
    rw [hd, e] at h1
    exact Nat.lt_of_mul_lt_mul_left h1
  have h3 : 2 ^ (k + 1) * q + 2 ^ (k + 1) ≤ 2 ^ (k + 1) * 2 ^ d := by
    rw [← Nat.mul_succ]; exact Nat.mul_le_mul_left _ hq
  have h4 : (2 : Nat) ^ k < 2 ^ (k + 1) := Nat.pow_lt_pow_right (by decide) (by omega)
  rw [hd, e]; omega
theorem dig_set {k i : Nat} {z : List Nat} (hk : k < 24) (h : dig k i z) : dig k (i + 1) (z.set i (z.getD i 0 + 2 ^ k)) := by
  intro j
  rw [getD_set_eq]
  split
  · rename_i e
    obtain ⟨rfl, _⟩ := e
    obtain ⟨h1, h2⟩ := h i
    rw [if_neg (Nat.lt_irrefl _)] at h2
    refine ⟨dig_lt hk h1 h2, ?_⟩
    rw [if_pos (Nat.lt_succ_self _)]
    rw [Nat.pow_succ] at h2
    have : z.getD i 0 % 2 ^ k = 0 := Nat.mod_eq_zero_of_dvd (Nat.dvd_trans (Nat.dvd_mul_right _ _) (Nat.dvd_of_mod_eq_zero h2))
    rw [Nat.add_mod, this, Nat.mod_self]; rfl
  · exact dig_skip h j
theorem dig_zero (k c : Nat) : dig k 0 (List.replicate c 0) := by
  intro j
  have : (List.replicate c 0).getD j 0 = 0 := by
    simp only [List.getD_eq_getElem?_getD, List.getElem?_replicate]; split <;> rfl
  rw [this]; exact ⟨by decide, by rw [if_neg (Nat.not_lt_zero _)]; exact Nat.zero_mod _⟩
theorem dig_next {k c : Nat} {z : List Nat} (h : dig (k + 1) c z) (hz : z.length ≤ c) : dig k 0 z := by
  intro j
  obtain ⟨h1, h2⟩ := h j
  refine ⟨h1, ?_⟩
  rw [if_neg (Nat.not_lt_zero _)]
  by_cases hj : j < c
  · rw [if_pos hj] at h2; exact h2
  · have : z.getD j 0 = 0 := by rw [List.getD_eq_getElem?_getD, List.getElem?_eq_none (by omega)]; rfl
    rw [this]; exact Nat.zero_mod _
theorem or_add {v k : Nat} (hk : k < 24) (h1 : v < 2 ^ 24) (h2 : v % 2 ^ (k + 1) = 0) : ibits .or .i64 (v : Int) ((2 ^ k : Nat) : Int) = ((v + 2 ^ k : Nat) : Int) := by
  have hlt := dig_lt hk h1 h2
  have h3 : (2 : Nat) ^ k < 2 ^ (k + 1) := Nat.pow_lt_pow_right (by decide) (by omega)
  obtain ⟨q, hq⟩ := Nat.dvd_of_mod_eq_zero h2
  have e : v ||| 2 ^ k = v + 2 ^ k := by
    rw [hq]; exact (Nat.two_pow_add_eq_or_of_lt h3 q).symm
  show IntKind.i64.wrap (((BitVec.ofInt 64 (v : Int) ||| BitVec.ofInt 64 ((2 ^ k : Nat) : Int)).toNat : Nat) : Int) = _
  rw [BitVec.toNat_or, BitVec.ofInt_natCast, BitVec.ofInt_natCast, BitVec.toNat_ofNat, BitVec.toNat_ofNat, Nat.mod_eq_of_lt (Nat.lt_trans h1 (by decide)), Nat.mod_eq_of_lt (by omega), e, wI (by omega)]
theorem shW {k : Nat} (hk : k < 24) : IntKind.i64.wrap ((1 : Int) * (2 ^ (min ((k : Int)).toNat IntKind.i64.bits))) = ((2 ^ k : Nat) : Int) := by
  have e : min ((k : Int)).toNat IntKind.i64.bits = k := by rw [Int.toNat_natCast, show IntKind.i64.bits = 64 from rfl]; omega
  have h : (2 : Nat) ^ k < 2 ^ 24 := Nat.pow_lt_pow_right (by decide) hk
  rw [e, Int.one_mul, show (2 : Int) ^ k = ((2 ^ k : Nat) : Int) by rw [Int.natCast_pow]; rfl]
  generalize 2 ^ k = m at h ⊢
  exact wI (by omega)
theorem u64N {k : Nat} (hk : k < 24) : IntKind.u64.wrap (k : Int) = (k : Int) := by show (k : Int) % 18446744073709551616 = _; omega
theorem wm1 (k : Nat) (h : k < 2 ^ 40) : IntKind.i64.wrap (((k + 1 : Nat) : Int) - 1) = (k : Int) := by rw [wI (by omega)]; omega
/-! ### the rows -/
def outOf (c : Nat) (s : Q3) : List Int := (List.range c).map fun i => IntKind.i64.wrap (((s.1.getD i 0 : Nat) : Int) * s.2.1.getD i 0)
theorem out_len (c : Nat) (s : Q3) : (outOf c s).length = c := by simp [outOf]
theorem out_succ (c : Nat) (s : Q3) : outOf (c + 1) s = outOf c s ++ [IntKind.i64.wrap (((s.1.getD c 0 : Nat) : Int) * s.2.1.getD c 0)] := by simp [outOf, List.range_succ]
theorem out_eq {bs : List Bool} {s t : Q3} (c : Nat) (h : Rl bs s t) : outOf c s = outOf c t := by
  obtain ⟨z, g, a⟩ := s
  obtain ⟨z', g', a'⟩ := t
  obtain ⟨h1, h2, h3, h4, h5⟩ := h
  dsimp only at h1 h2 h3 h4 h5
  subst h1
  rcases h5 with ⟨rfl, _⟩ | ⟨_, j, d, rfl, h5⟩
  · rfl
  · refine List.map_congr_left fun i _ => ?_
    show IntKind.i64.wrap (((z.getD i 0 : Nat) : Int) * g.getD i 0) = IntKind.i64.wrap ((((z.set j d).getD i 0 : Nat) : Int) * g.getD i 0)
    rw [getD_set_eq]
    split
    · rename_i e
      obtain ⟨rfl, _⟩ := e
      rw [h5, Int.mul_zero, Int.mul_zero]
    · rfl
theorem rI_len (bs : List Bool) (k : Nat) : ∀ (n i : Nat) (z : List Nat) (g : List Int) (a : Nat), (rI bs k n i z g a).1.length = z.length ∧ (rI bs k n i z g a).2.1.length = g.length
  | 0, _, _, _, _ => ⟨rfl, rfl⟩
  | n + 1, i, z, g, a => by
    rw [rI]
    split
    · exact ⟨rfl, rfl⟩
    · split
      · split
        · split
          · have := rI_len bs k n (i + 1) (z.set i (z.getD i 0 + 2 ^ k)) (if bs.getD (a + 1) false = true then (g.set i 1).set i (-1) else g.set i 1) (a + 1 + 1)
            rw [List.length_set] at this
            refine ⟨this.1, this.2.trans ?_⟩
            split <;> simp
          · have := rI_len bs k n (i + 1) (z.set i (z.getD i 0 + 2 ^ k)) g (a + 1)
            rw [List.length_set] at this; exact this
        · have := rI_len bs k n (i + 1) (z.set i (z.getD i 0 + 2 ^ k)) g (a + 1)
          rw [List.length_set] at this; exact this
      · exact rI_len bs k n (i + 1) z g (a + 1)
theorem rI_dig (bs : List Bool) {k : Nat} (hk : k < 24) : ∀ (n i : Nat) (z : List Nat) (g : List Int) (a : Nat), dig k i z → dig k (i + n) (rI bs k n i z g a).1
  | 0, _, _, _, _, h => h
  | n + 1, i, z, g, a, h => by
    have skip : ∀ m, dig k (i + m) z := fun m => by
      induction m with
      | zero => exact h
      | succ m ih => exact dig_skip ih
    rw [rI, show i + (n + 1) = i + 1 + n by omega]
    split
    · have := skip (n + 1); rw [show i + (n + 1) = i + 1 + n by omega] at this; exact this
    · split
      · split
        · split
          · exact rI_dig bs hk n _ _ _ _ (dig_set hk h)
          · exact rI_dig bs hk n _ _ _ _ (dig_set hk h)
        · exact rI_dig bs hk n _ _ _ _ (dig_set hk h)
      · exact rI_dig bs hk n _ _ _ _ (dig_skip h)
theorem rS_len (bs : List Bool) (k : Nat) : ∀ (n i : Nat) (z : List Nat) (g : List Int) (a : Nat), (rS bs k n i z g a).1.length = z.length ∧ (rS bs k n i z g a).2.1.length = g.length
  | 0, _, _, _, _ => ⟨rfl, rfl⟩
  | n + 1, i, z, g, a => by
    rw [rS]
    split
    · split
      · split
        · split
          · exact ⟨rfl, rfl⟩
          · have := rS_len bs k n (i + 1) (z.set i (z.getD i 0 + 2 ^ k)) (if bs.getD (a + 1) false = true then (g.set i 1).set i (-1) else g.set i 1) (a + 1 + 1)
            rw [List.length_set] at this
            refine ⟨this.1, this.2.trans ?_⟩
            split <;> simp
        · have := rS_len bs k n (i + 1) (z.set i (z.getD i 0 + 2 ^ k)) g (a + 1)
          rw [List.length_set] at this; exact this
      · exact rS_len bs k n (i + 1) z g (a + 1)
    · exact ⟨rfl, rfl⟩
theorem rS_dig (bs : List Bool) {k : Nat} (hk : k < 24) : ∀ (n i : Nat) (z : List Nat) (g : List Int) (a : Nat), dig k i z → dig k (i + n) (rS bs k n i z g a).1
  | 0, _, _, _, _, h => h
  | n + 1, i, z, g, a, h => by
    have skip : ∀ m, dig k (i + m) z := fun m => by
      induction m with
      | zero => exact h
      | succ m ih => exact dig_skip ih
    have sk := skip (n + 1)
    rw [show i + (n + 1) = i + 1 + n by omega] at sk
    rw [rS, show i + (n + 1) = i + 1 + n by omega]
    split
    · split
      · split
        · split
          · exact sk
          · exact rS_dig bs hk n _ _ _ _ (dig_set hk h)
        · exact rS_dig bs hk n _ _ _ _ (dig_set hk h)
      · exact rS_dig bs hk n _ _ _ _ (dig_skip h)
    · exact sk
theorem rI_at (bs : List Bool) (k : Nat) : ∀ (n i : Nat) (z : List Nat) (g : List Int) (a : Nat), a ≤ bs.length → (rI bs k n i z g a).2.2 ≤ bs.length
  | 0, _, _, _, _, h => h
  | n + 1, i, z, g, a, h => by
    rw [rI]
    split
    · exact h
    · split
      · split
        · split
          · exact rI_at bs k n _ _ _ _ (by omega)
          · exact rI_at bs k n _ _ _ _ (by omega)
        · exact rI_at bs k n _ _ _ _ (by omega)
      · exact rI_at bs k n _ _ _ _ (by omega)
theorem rS_at (bs : List Bool) (k : Nat) : ∀ (n i : Nat) (z : List Nat) (g : List Int) (a : Nat), a ≤ bs.length → (rS bs k n i z g a).2.2 ≤ bs.length
  | 0, _, _, _, _, h => h
  | n + 1, i, z, g, a, h => by
    rw [rS]
    split
    · split
      · split
        · split
          · exact Nat.le_of_eq (by assumption)
          · exact rS_at bs k n _ _ _ _ (by omega)
        · exact rS_at bs k n _ _ _ _ (by omega)
      · exact rS_at bs k n _ _ _ _ (by omega)
    · exact h
def sIni (c : Nat) : Q3 := (List.replicate c 0, List.replicate c 0, 0)
/-- What both tell. -/
def lfOut (c t : Nat) (bs : List Bool) : Option (List Int) := if (pS bs c t (sIni c)).2.2 < bs.length then none else if isI (outOf c (pS bs c t (sIni c))) = true then some (outOf c (pS bs c t (sIni c))) else none
theorem lf_impl {c t : Nat} {bs : List Bool} {K : List Int → Bool → Prop} (hc : isCod c t bs = true) (h : ∀ o, lfOut c t bs = o → K (o.getD []) o.isSome) : impl_ListFrom.wp c t bs K := by
  have hc2 := hc
  unfold isCod at hc2
  rw [Bool.and_eq_true, Bool.and_eq_true, decide_eq_true_eq, decide_eq_true_eq, decide_eq_true_eq] at hc2
  obtain ⟨⟨c1, c2⟩, c3⟩ := hc2
  have hsim : Rl bs (pS bs c t (sIni c)) (pI bs c t (sIni c)) := p_sim bs c t _ _ ⟨rfl, rfl, Nat.zero_le _, by simp [sIni], .inl ⟨rfl, fun i => by
    simp only [sIni, List.getD_eq_getElem?_getD, List.getElem?_replicate]; split <;> simp⟩⟩
  have h' := h _ rfl
  unfold lfOut at h'
  rw [out_eq c hsim, hsim.a] at h'
  refine impl_ValidCoded_wp (tE hc ⟨by omega, fun X hX => ?_⟩)
  have key : ∀ (k : Nat) (s : Q3), k ≤ 24 → s.1.length = c → s.2.1.length = c → s.2.2 ≤ bs.length → (∀ k', k = k' + 1 → dig k' 0 s.1) → pI bs c k s = pI bs c t (sIni c) → X s.2.1 (nats s.1) (s.2.2 : Int) (IntKind.i64.wrap ((k : Int) - 1)) := by
    intro k
    induction k with
    | zero =>
      rintro ⟨z, g, a⟩ _ hz hg ha _ he
      rw [show pI bs c 0 (z, g, a) = (z, g, a) from rfl] at he
      rw [← he] at h'
      dsimp only at hz hg ha h' ⊢
      rw [wI (by omega)]
      refine hX _ _ _ _ ⟨fun c => absurd c (by omega), fun _ => ⟨fun hlt => ?_, fun hge Y hY => ?_⟩⟩
      · rw [if_pos (show a < bs.length by omega)] at h'; exact h'
      · rw [if_neg (show ¬ a < bs.length by omega)] at h'
        have key2 : Y (outOf 0 (z, g, a)) ((0 : Nat) : Int) := by
          refine up (Y := fun i => Y (outOf i (z, g, a)) (i : Int)) c ?_ fun i hi hn => ?_
          · refine hY _ _ ⟨fun c => absurd c (by rw [nats_len]; omega), fun _ => impl_AreIntegers_wp (by rw [out_len]; omega) ⟨fun e => ?_, fun e => ?_⟩⟩
            · rw [if_pos e] at h'; exact h'
            · rw [if_neg (by rw [e]; decide)] at h'; exact h'
          · refine hY _ _ ⟨fun _ => ⟨by rw [nats_len]; omega, by omega, by rw [out_len, len1]; omega, ?_⟩, fun c => absurd (show (i : Int) < _ by rw [nats_len]; omega) c⟩
            rw [nn, nats_getD, w1 (by omega)]
            rw [out_succ] at hn; exact hn
        exact key2
    | succ k ih =>
      rintro ⟨z, g, a⟩ hk hz hg ha hd he
      have hd0 := hd k rfl
      dsimp only at hz hg ha hd0 ⊢
      rw [wm1 _ (by omega)]
      refine hX _ _ _ _ ⟨fun _ Y hY => ?_, fun c => absurd (show (0 : Int) ≤ k by omega) c⟩
      have hI := rI_len bs k c 0 z g a
      have hnx := ih (rI bs k c 0 z g a) (by omega) (hI.1.trans hz) (hI.2.trans hg) (rI_at bs k c 0 z g a ha) (fun k' hk' => by
        subst hk'
        have := rI_dig bs (k := k' + 1) (by omega) c 0 z g a hd0
        rw [Nat.zero_add] at this
        exact dig_next this (by rw [hI.1]; omega)) he
      have row : ∀ (n i : Nat) (z1 : List Nat) (g1 : List Int) (a1 : Nat), i + n = c → z1.length = c → g1.length = c → a1 ≤ bs.length → dig k i z1 → rI bs k n i z1 g1 a1 = rI bs k c 0 z g a → Y g1 (nats z1) (a1 : Int) (i : Int) := by
        intro n
        induction n with
        | zero =>
          intro i z1 g1 a1 hi hz1 hg1 ha1 hd1 he1
          refine hY _ _ _ _ ⟨fun c => absurd c (by rw [nats_len]; omega), fun _ => ?_⟩
          rw [← he1] at hnx
          exact hnx
        | succ n ihn =>
          intro i z1 g1 a1 hi hz1 hg1 ha1 hd1 he1
          rw [rI] at he1
          refine hY _ _ _ _ ⟨fun _ => ⟨fun e => ?_, fun e => ?_⟩, fun c => absurd (show (i : Int) < _ by rw [nats_len]; omega) c⟩
          · rw [if_pos (show a1 = bs.length by omega)] at he1
            rw [← he1] at hnx
            exact hnx
          · rw [if_neg (show ¬ a1 = bs.length by omega)] at he1
            refine ⟨by omega, fun hb => ?_, fun hb => ?_⟩
            · rw [nn] at hb
              rw [if_pos hb] at he1
              obtain ⟨hv1, hv2⟩ := hd1 i
              rw [if_neg (Nat.lt_irrefl _)] at hv2
              have hor : ibits .or .i64 ((nats z1).getD i 0) (IntKind.i64.wrap ((1 : Int) * (2 ^ (min ((k : Int)).toNat IntKind.i64.bits)))) = ((z1.getD i 0 + 2 ^ k : Nat) : Int) := by
                rw [shW (by omega), nats_getD, or_add (by omega) hv1 hv2]
              have hds := dig_set (z := z1) (show k < 24 by omega) hd1
              simp only [nn] at hor ⊢
              rw [hor, nats_set, w1 (show a1 < _ by omega), w1 (show i < _ by omega)]
              refine ⟨by rw [nats_len]; omega, by omega, by omega, fun hg0 => ?_, fun hg0 => ?_⟩
              · rw [if_pos hg0] at he1
                refine ⟨fun hlt => ⟨by omega, fun hb2 => ?_, fun hb2 => ?_⟩, fun hge => ?_⟩
                · simp only [nn] at hb2
                  rw [if_pos (show a1 + 1 < bs.length by omega), if_pos hb2] at he1
                  rw [w1 (show a1 + 1 < _ by omega)]
                  exact ⟨by rw [List.length_set]; omega, ihn (i + 1) _ _ _ (by omega) (by rw [List.length_set]; exact hz1) (by rw [List.length_set, List.length_set]; exact hg1) (by omega) hds he1⟩
                · simp only [nn] at hb2
                  rw [if_pos (show a1 + 1 < bs.length by omega), if_neg (show ¬ bs.getD (a1 + 1) false = true by rw [hb2]; decide)] at he1
                  rw [w1 (show a1 + 1 < _ by omega)]
                  exact ihn (i + 1) _ _ _ (by omega) (by rw [List.length_set]; exact hz1) (by rw [List.length_set]; exact hg1) (by omega) hds he1
                · rw [if_neg (show ¬ a1 + 1 < bs.length by omega)] at he1
                  exact ihn (i + 1) _ _ _ (by omega) (by rw [List.length_set]; exact hz1) hg1 (by omega) hds he1
              · rw [if_neg hg0] at he1
                exact ihn (i + 1) _ _ _ (by omega) (by rw [List.length_set]; exact hz1) hg1 (by omega) hds he1
            · rw [nn] at hb
              rw [if_neg (show ¬ bs.getD a1 false = true by rw [hb]; decide)] at he1
              rw [w1 (show a1 < _ by omega), w1 (show i < _ by omega)]
              exact ihn (i + 1) _ _ _ (by omega) hz1 hg1 (by omega) (dig_skip hd1) he1
      exact row c 0 z g a (by omega) hz hg ha hd0 rfl
  have := key t (sIni c) (by omega) (by simp [sIni]) (by simp [sIni]) (Nat.zero_le _) (fun k' _ => dig_zero k' c) rfl
  have e : nats (List.replicate c 0) = List.replicate c 0 := by simp [nats]
  rw [show (sIni c).1 = List.replicate c 0 from rfl, e] at this
  exact this
theorem lf_len {c t : Nat} {bs : List Bool} (hc : c ≤ 128) : ((lfOut c t bs).getD []).length ≤ 128 := by
  unfold lfOut
  split
  · exact Nat.zero_le _
  · split
    · show (outOf c _).length ≤ 128; rw [out_len]; exact hc
    · exact Nat.zero_le _
end Go.Proofs.YtecdkjnomkdbkaaDoor.G

namespace Go.Proofs.YtecdkjnomkdbkaaDoor.G
open Go Go.Ab
set_option maxRecDepth 100000
set_option linter.unusedVariables false
set_option linter.unusedSimpArgs false
set_option maxHeartbeats 1000000
theorem dgt_100 : ∀ a : Nat, a < 101 → ∀ k : Nat, k < 24 → dgt a k = decide (a / 2 ^ k % 2 = 1) := by decide +kernel
def Tz (l : List Int) (k j : Nat) : Nat := (l.getD j 0).natAbs / 2 ^ k * 2 ^ k
def sgZ (n : Int) : Int := if n < 0 then -1 else 1
theorem half_up (a k : Nat) : a / 2 ^ k = 2 * (a / 2 ^ (k + 1)) + a / 2 ^ k % 2 := by
  rw [Nat.pow_succ, ← Nat.div_div_eq_div_mul]; omega
theorem Tz_s (l : List Int) (k j : Nat) : Tz l k j = Tz l (k + 1) j + (l.getD j 0).natAbs / 2 ^ k % 2 * 2 ^ k := by
  unfold Tz
  have h := half_up (l.getD j 0).natAbs k
  generalize (l.getD j 0).natAbs / 2 ^ (k + 1) = q at *
  generalize (l.getD j 0).natAbs / 2 ^ k % 2 = r at *
  rw [h, Nat.add_mul, Nat.pow_succ, Nat.mul_comm 2 q, Nat.mul_assoc, Nat.mul_comm 2 (2 ^ k)]
theorem Tz_le (l : List Int) (k j : Nat) : Tz l k j ≤ (l.getD j 0).natAbs := Nat.div_mul_le_self _ _
theorem Tz_0 (l : List Int) (k j : Nat) : Tz l k j = 0 ↔ (l.getD j 0).natAbs / 2 ^ k = 0 := by
  unfold Tz
  have := Nat.two_pow_pos k
  constructor
  · intro h; rcases Nat.mul_eq_zero.1 h with h | h <;> omega
  · intro h; rw [h, Nat.zero_mul]
structure Gd (l : List Int) (z : List Nat) (g : List Int) (m : Nat → Nat) : Prop where
  zl : z.length = l.length
  gl : g.length = l.length
  at_ : ∀ j, j < l.length → z.getD j 0 = m j ∧ g.getD j 0 = if m j = 0 then 0 else sgZ (l.getD j 0)
structure Wk (l : List Int) (z : List Nat) (g : List Int) : Prop where
  at_ : ∀ j, j < l.length → z.getD j 0 ≤ (l.getD j 0).natAbs ∧ (z.getD j 0 ≠ 0 → g.getD j 0 = sgZ (l.getD j 0))
theorem Gd.wk {l : List Int} {z : List Nat} {g : List Int} {m : Nat → Nat} (h : Gd l z g m) (hm : ∀ j, j < l.length → m j ≤ (l.getD j 0).natAbs) : Wk l z g := by
  refine ⟨fun j hj => ?_⟩
  obtain ⟨h1, h2⟩ := h.at_ j hj
  rw [h1, h2]
  exact ⟨hm j hj, fun c => if_neg c⟩
def mixT (l : List Int) (k i j : Nat) : Nat := if j < i then Tz l k j else Tz l (k + 1) j
theorem mix_le (l : List Int) (k i j : Nat) : mixT l k i j ≤ (l.getD j 0).natAbs := by unfold mixT; split <;> exact Tz_le _ _ _
theorem Gd.congr {l : List Int} {z : List Nat} {g : List Int} {m m' : Nat → Nat} (h : Gd l z g m) (e : ∀ j, j < l.length → m j = m' j) : Gd l z g m' :=
  ⟨h.zl, h.gl, fun j hj => by rw [← e j hj]; exact h.at_ j hj⟩
theorem one_len (n : Int) (k : Nat) : oneC n k ≠ [] := by
  unfold oneC
  split
  · split <;> simp
  · simp
theorem drop_c {bs : List Bool} {a : Nat} (h : a < bs.length) : bs.drop a = bs.getD a false :: bs.drop (a + 1) := by
  rw [gD h]; exact List.drop_eq_getElem_cons h
theorem rS_pre {l : List Int} {k : Nat} (hs : ∀ j, j < l.length → (l.getD j 0).natAbs ≤ 100) (hk : k < 24) (bs R t : List Bool) : ∀ (n i : Nat) (z : List Nat) (g : List Int) (a : Nat), i + n = l.length → a ≤ bs.length → Gd l z g (mixT l k i) → bs.drop a ++ t = planeC (l.drop i) k ++ R →
    ∃ z' g' a', rS bs k n i z g a = (z', g', a') ∧ ((a' = bs.length ∧ Wk l z' g' ∧ t ≠ []) ∨ (Gd l z' g' (mixT l k l.length) ∧ a' ≤ bs.length ∧ bs.drop a' ++ t = R)) := by
  intro n
  induction n with
  | zero =>
    intro i z g a h1 h2 h3 h4
    refine ⟨z, g, a, rfl, .inr ⟨?_, h2, ?_⟩⟩
    · have : i = l.length := by omega
      rw [this] at h3; exact h3
    · have : i = l.length := by omega
      rw [this, List.drop_length] at h4
      exact h4
  | succ n ih =>
    intro i z g a h1 h2 h3 h4
    have hi : i < l.length := by omega
    have hpl : planeC (l.drop i) k = oneC (l.getD i 0) k ++ planeC (l.drop (i + 1)) k := by
      rw [dropC hi, gD hi]; rfl
    rw [hpl, List.append_assoc] at h4
    rw [rS]
    by_cases ha : a < bs.length
    · rw [if_pos ha]
      rw [drop_c ha] at h4
      obtain ⟨hz, hg⟩ := h3.at_ i hi
      have hmi : mixT l k i i = Tz l (k + 1) i := by unfold mixT; rw [if_neg (Nat.lt_irrefl _)]
      rw [hmi] at hz hg
      have hd := dgt_100 (l.getD i 0).natAbs (by have := hs i hi; omega) k hk
      have hT := Tz_s l k i
      have mixN : ∀ j, j < l.length → j ≠ i → mixT l k i j = mixT l k (i + 1) j := fun j hj c => by
        unfold mixT
        by_cases c2 : j < i
        · rw [if_pos c2, if_pos (by omega)]
        · rw [if_neg c2, if_neg (by omega)]
      have mixS : mixT l k (i + 1) i = Tz l k i := by unfold mixT; rw [if_pos (Nat.lt_succ_self _)]
      unfold oneC at h4
      by_cases c1 : dgt (l.getD i 0).natAbs k = true
      · rw [if_pos c1] at h4
        rw [hd, decide_eq_true_eq] at c1
        rw [c1, Nat.one_mul] at hT
        have hp := Nat.two_pow_pos k
        have hz0 : Tz l k i ≠ 0 := by omega
        by_cases c2 : (l.getD i 0).natAbs / 2 ^ (k + 1) = 0
        · rw [if_pos c2] at h4
          have hz1 : Tz l (k + 1) i = 0 := (Tz_0 l (k + 1) i).2 c2
          have h4 : bs.getD a false :: (bs.drop (a + 1) ++ t) = true :: decide (l.getD i 0 < 0) :: (planeC (l.drop (i + 1)) k ++ R) := h4
          rw [List.cons.injEq] at h4
          obtain ⟨e1, e2⟩ := h4
          rw [if_pos e1, if_pos (by rw [hz, hz1])]
          by_cases c3 : a + 1 = bs.length
          · rw [if_pos c3]
            refine ⟨z, g, a + 1, rfl, .inl ⟨c3, h3.wk fun j _ => mix_le _ _ _ _, ?_⟩⟩
            intro ct
            rw [ct, List.append_nil, c3, List.drop_length] at e2
            cases e2
          · rw [if_neg c3]
            rw [drop_c (show a + 1 < bs.length by omega)] at e2
            have e2 : bs.getD (a + 1) false :: (bs.drop (a + 1 + 1) ++ t) = decide (l.getD i 0 < 0) :: (planeC (l.drop (i + 1)) k ++ R) := e2
            rw [List.cons.injEq] at e2
            obtain ⟨e3, e4⟩ := e2
            refine ih (i + 1) _ _ _ (by omega) (by omega) ⟨by rw [List.length_set]; exact h3.zl, ?_, fun j hj => ?_⟩ e4
            · split
              · rw [List.length_set, List.length_set]; exact h3.gl
              · rw [List.length_set]; exact h3.gl
            · by_cases c4 : j = i
              · subst c4
                rw [mixS, getD_set_eq, if_pos ⟨rfl, by rw [h3.zl]; exact hi⟩, hz, if_neg hz0]
                refine ⟨by omega, ?_⟩
                rw [e3]
                unfold sgZ
                by_cases c5 : l.getD j 0 < 0
                · rw [if_pos (decide_eq_true c5), if_pos c5, getD_set_eq, if_pos ⟨rfl, by rw [List.length_set, h3.gl]; exact hi⟩]
                · rw [decide_eq_false c5, if_neg (show ¬ (false = true) by decide), if_neg c5, getD_set_eq, if_pos ⟨rfl, by rw [h3.gl]; exact hi⟩]
              · rw [← mixN j hj c4, getD_set_eq, if_neg (fun c => c4 c.1.symm)]
                obtain ⟨q1, q2⟩ := h3.at_ j hj
                refine ⟨q1, ?_⟩
                rw [← q2]
                split
                · rw [getD_set_eq, if_neg (fun c => c4 c.1.symm), getD_set_eq, if_neg (fun c => c4 c.1.symm)]
                · rw [getD_set_eq, if_neg (fun c => c4 c.1.symm)]
        · rw [if_neg c2] at h4
          have hz1 : Tz l (k + 1) i ≠ 0 := fun c => c2 ((Tz_0 l (k + 1) i).1 c)
          have h4 : bs.getD a false :: (bs.drop (a + 1) ++ t) = true :: (planeC (l.drop (i + 1)) k ++ R) := h4
          rw [List.cons.injEq] at h4
          obtain ⟨e1, e2⟩ := h4
          rw [if_pos e1, if_neg (by rw [hz]; exact hz1)]
          refine ih (i + 1) _ _ _ (by omega) (by omega) ⟨by rw [List.length_set]; exact h3.zl, h3.gl, fun j hj => ?_⟩ e2
          by_cases c4 : j = i
          · subst c4
            rw [mixS, getD_set_eq, if_pos ⟨rfl, by rw [h3.zl]; exact hi⟩, hz, if_neg hz0, hg, if_neg hz1]
            exact ⟨by omega, rfl⟩
          · rw [← mixN j hj c4, getD_set_eq, if_neg (fun c => c4 c.1.symm)]
            exact h3.at_ j hj
      · rw [if_neg c1] at h4
        rw [hd, decide_eq_true_eq] at c1
        have c1' : (l.getD i 0).natAbs / 2 ^ k % 2 = 0 := by omega
        rw [c1', Nat.zero_mul, Nat.add_zero] at hT
        have h4 : bs.getD a false :: (bs.drop (a + 1) ++ t) = false :: (planeC (l.drop (i + 1)) k ++ R) := h4
        rw [List.cons.injEq] at h4
        obtain ⟨e1, e2⟩ := h4
        rw [if_neg (by rw [e1]; decide)]
        refine ih (i + 1) _ _ _ (by omega) (by omega) (h3.congr fun j hj => ?_) e2
        by_cases c4 : j = i
        · subst c4; rw [hmi, mixS, hT]
        · exact mixN j hj c4
    · rw [if_neg ha]
      have ha2 : a = bs.length := by omega
      refine ⟨z, g, a, rfl, .inl ⟨ha2, h3.wk fun j _ => mix_le _ _ _ _, fun ct => ?_⟩⟩
      rw [ct, List.append_nil, ha2, List.drop_length] at h4
      have h5 := List.append_eq_nil_iff.1 h4.symm
      exact one_len _ _ h5.1
theorem pS_end (bs : List Bool) (c : Nat) : ∀ (k : Nat) (z : List Nat) (g : List Int), pS bs c k (z, g, bs.length) = (z, g, bs.length)
  | 0, _, _ => rfl
  | k + 1, z, g => by rw [pS, rS_end, pS_end bs c k]
theorem pS_pre {l : List Int} (hs : ∀ j, j < l.length → (l.getD j 0).natAbs ≤ 100) (bs t : List Bool) (p : Nat) : ∀ (m : Nat) (z : List Nat) (g : List Int) (a : Nat), p + m ≤ 24 → a ≤ bs.length → Gd l z g (Tz l (p + m)) → bs.drop a ++ t = codeC l p m →
    ∃ z' g', pS bs l.length (p + m) (z, g, a) = (z', g', bs.length) ∧ ((Wk l z' g' ∧ t ≠ []) ∨ Gd l z' g' (Tz l p)) := by
  intro m
  induction m with
  | zero =>
    intro z g a h1 h2 h3 h4
    rw [codeC] at h4
    have h5 := (List.append_eq_nil_iff.1 h4).1
    have h6 : bs.length - a = 0 := by rw [← List.length_drop, h5]; rfl
    have ha : a = bs.length := by omega
    subst ha
    exact ⟨z, g, pS_end _ _ _ _ _, .inr h3⟩
  | succ m ih =>
    intro z g a h1 h2 h3 h4
    rw [codeC] at h4
    have h3' : Gd l z g (mixT l (p + m) 0) := h3.congr fun j _ => by unfold mixT; rw [if_neg (Nat.not_lt_zero _)]; rfl
    obtain ⟨z', g', a', e1, e2⟩ := rS_pre hs (by omega) bs (codeC l p m) t l.length 0 z g a (by omega) h2 h3' (by rw [List.drop_zero]; exact h4)
    show ∃ z' g', pS bs l.length (p + m) (rS bs (p + m) l.length 0 z g a) = _ ∧ _
    rw [e1]
    rcases e2 with ⟨f1, f2, f3⟩ | ⟨f1, f2, f3⟩
    · subst f1
      exact ⟨z', g', pS_end _ _ _ _ _, .inl ⟨f2, f3⟩⟩
    · refine ih z' g' a' (by omega) f2 (f1.congr fun j hj => ?_) f3
      unfold mixT; rw [if_pos hj]
theorem rep0 {α : Type} (n j : Nat) (d : α) : (List.replicate n d).getD j d = d := by
  rw [List.getD_eq_getElem?_getD, List.getElem?_replicate]
  split <;> rfl
theorem gd_ini {l : List Int} {T : Nat} (h : ∀ j, j < l.length → (l.getD j 0).natAbs < 2 ^ T) : Gd l (List.replicate l.length 0) (List.replicate l.length 0) (Tz l T) := by
  refine ⟨List.length_replicate, List.length_replicate, fun j hj => ?_⟩
  have e : Tz l T j = 0 := (Tz_0 l T j).2 (Nat.div_eq_of_lt (h j hj))
  rw [rep0, rep0, e]
  exact ⟨rfl, rfl⟩
theorem out_at {c : Nat} {s : Q3} {j : Nat} (hj : j < c) : (outOf c s).getD j 0 = IntKind.i64.wrap (((s.1.getD j 0 : Nat) : Int) * s.2.1.getD j 0) := by
  rw [gD (by rw [out_len]; exact hj)]
  unfold outOf
  rw [List.getElem_map, List.getElem_range]
theorem sg_abs (n : Int) (z : Nat) (h : z ≤ 1000) : IntKind.i64.wrap ((z : Int) * sgZ n) = if n < 0 then -(z : Int) else (z : Int) := by
  unfold sgZ
  split
  · rw [show (z : Int) * -1 = -(z : Int) by omega, wI (by omega)]
  · rw [Int.mul_one, wI (by omega)]
/-- What a decoded list is, against the list. -/
theorem wk_out {l : List Int} {z : List Nat} {g : List Int} {a : Nat} (hs : ∀ j, j < l.length → (l.getD j 0).natAbs ≤ 100) (h : Wk l z g) : ∀ j, j < l.length → ((outOf l.length (z, g, a)).getD j 0).natAbs ≤ (l.getD j 0).natAbs ∧ ((outOf l.length (z, g, a)).getD j 0 ≠ 0 → (decide ((outOf l.length (z, g, a)).getD j 0 < 0) = decide (l.getD j 0 < 0))) := by
  intro j hj
  obtain ⟨h1, h2⟩ := h.at_ j hj
  have hb := hs j hj
  rw [out_at hj]
  dsimp only
  by_cases c : z.getD j 0 = 0
  · rw [c, Int.natCast_zero, Int.zero_mul, wI (by omega)]
    exact ⟨by omega, fun c => absurd rfl c⟩
  · rw [h2 c, sg_abs _ _ (by omega)]
    by_cases c2 : l.getD j 0 < 0
    · rw [if_pos c2]
      exact ⟨by omega, fun _ => by rw [decide_eq_true c2, decide_eq_true (by omega)]⟩
    · rw [if_neg c2]
      exact ⟨by omega, fun _ => by rw [decide_eq_false c2, decide_eq_false (by omega)]⟩
theorem gd_out {l : List Int} {z : List Nat} {g : List Int} {a p : Nat} (hs : ∀ j, j < l.length → (l.getD j 0).natAbs ≤ 100) (h : Gd l z g (Tz l p)) : ∀ j, j < l.length → (outOf l.length (z, g, a)).getD j 0 = if l.getD j 0 < 0 then -((Tz l p j : Nat) : Int) else ((Tz l p j : Nat) : Int) := by
  intro j hj
  obtain ⟨h1, h2⟩ := h.at_ j hj
  have hb := hs j hj
  have ht := Tz_le l p j
  rw [out_at hj]
  dsimp only
  rw [h1, h2]
  by_cases c : Tz l p j = 0
  · rw [c, if_pos rfl, Int.natCast_zero, Int.zero_mul, wI (by omega)]
    split <;> rfl
  · rw [if_neg c, sg_abs _ _ (by omega)]
theorem isI_of {l o : List Int} (h1 : 1 ≤ l.length ∧ l.length ≤ 16) (ho : o.length = l.length) (hb : ∀ j, j < l.length → (o.getD j 0).natAbs ≤ 100) : isI o = true := by
  unfold isI
  rw [Bool.and_eq_true, decide_eq_true_eq]
  refine ⟨by omega, ?_⟩
  unfold bnd
  rw [List.all_eq_true]
  intro x hx
  obtain ⟨j, hj, rfl⟩ := List.mem_iff_getElem.1 hx
  have := hb j (by omega)
  rw [gD hj] at this
  exact decide_eq_true (by omega)
section
variable {l : List Int} {T : Nat}
theorem cod_ok (h1 : 1 ≤ l.length ∧ l.length ≤ 16) (hT : T ≤ 20) {bs : List Bool} (hb : bs.length ≤ 32768) : isCod (l.length : Int) (T : Int) bs = true := by
  unfold isCod
  rw [decide_eq_true (by omega), decide_eq_true (by omega), decide_eq_true (by omega)]; rfl
/-- A code that is cut tells less, but nothing else. -/
theorem lf_cut (h1 : 1 ≤ l.length ∧ l.length ≤ 16) (hs : ∀ j, j < l.length → (l.getD j 0).natAbs ≤ 100) (hT : T ≤ 20) (hm : ∀ j, j < l.length → (l.getD j 0).natAbs < 2 ^ T) {bs t : List Bool} (hb : bs.length ≤ 32768) (e : bs ++ t = codeC l 0 T) {K : List Int → Bool → Prop}
    (h : ∀ o : List Int, o.length = l.length → (∀ j, j < l.length → (o.getD j 0).natAbs ≤ (l.getD j 0).natAbs ∧ (o.getD j 0 ≠ 0 → (decide (o.getD j 0 < 0) = decide (l.getD j 0 < 0)))) → (t = [] → ∀ j, j < l.length → o.getD j 0 = l.getD j 0) → K o true) : impl_ListFrom.wp (l.length : Int) (T : Int) bs K := by
  refine lf_impl (cod_ok h1 hT hb) fun o ho => ?_
  obtain ⟨z', g', e1, e2⟩ := pS_pre hs bs t 0 T _ _ 0 (by omega) (Nat.zero_le _) (by rw [Nat.zero_add]; exact gd_ini hm) (by rw [List.drop_zero]; exact e)
  rw [Nat.zero_add] at e1
  have e1 : pS bs l.length T (sIni l.length) = (z', g', bs.length) := e1
  have hw : Wk l z' g' := by
    rcases e2 with ⟨e2, _⟩ | e2
    · exact e2
    · exact e2.wk fun j _ => Tz_le _ _ _
  have hwo := wk_out (a := bs.length) hs hw
  unfold lfOut at ho
  rw [e1, if_neg (Nat.lt_irrefl _), if_pos (isI_of h1 (out_len _ _) fun j hj => Nat.le_trans (hwo j hj).1 (hs j hj))] at ho
  subst ho
  refine h _ (out_len _ _) hwo fun ct j hj => ?_
  rcases e2 with ⟨_, e2⟩ | e2
  · exact absurd ct e2
  · have hgo := gd_out (a := bs.length) hs e2 j hj
    show (outOf l.length (z', g', bs.length)).getD j 0 = _
    rw [hgo]
    have : Tz l 0 j = (l.getD j 0).natAbs := by unfold Tz; rw [Nat.pow_zero, Nat.div_one, Nat.mul_one]
    rw [this]
    split <;> omega
/-- A code of whole planes tells these. -/
theorem lf_planes (h1 : 1 ≤ l.length ∧ l.length ≤ 16) (hs : ∀ j, j < l.length → (l.getD j 0).natAbs ≤ 100) (hT : T ≤ 20) (hm : ∀ j, j < l.length → (l.getD j 0).natAbs < 2 ^ T) {p : Nat} (hp : p ≤ T) {bs : List Bool} (hb : bs.length ≤ 32768) (e : bs = codeC l p (T - p)) {K : List Int → Bool → Prop}
    (h : ∀ o : List Int, o.length = l.length → (∀ j, j < l.length → (o.getD j 0).natAbs = Tz l p j) → K o true) : impl_ListFrom.wp (l.length : Int) (T : Int) bs K := by
  refine lf_impl (cod_ok h1 hT hb) fun o ho => ?_
  have hpt : p + (T - p) = T := by omega
  obtain ⟨z', g', e1, e2⟩ := pS_pre hs bs [] p (T - p) _ _ 0 (by omega) (Nat.zero_le _) (by rw [hpt]; exact gd_ini hm) (by rw [List.drop_zero, List.append_nil]; exact e)
  rw [hpt] at e1
  have e1 : pS bs l.length T (sIni l.length) = (z', g', bs.length) := e1
  have e2 : Gd l z' g' (Tz l p) := by
    rcases e2 with ⟨_, e2⟩ | e2
    · exact absurd rfl e2
    · exact e2
  have hgo := gd_out (a := bs.length) hs e2
  have habs : ∀ j, j < l.length → ((outOf l.length (z', g', bs.length)).getD j 0).natAbs = Tz l p j := fun j hj => by
    rw [hgo j hj]; split <;> omega
  unfold lfOut at ho
  rw [e1, if_neg (Nat.lt_irrefl _), if_pos (isI_of h1 (out_len _ _) fun j hj => by rw [habs j hj]; exact Nat.le_trans (Tz_le _ _ _) (hs j hj))] at ho
  subst ho
  exact h _ (out_len _ _) habs
end
theorem code_split (l : List Int) (p : Nat) : ∀ m, codeC l 0 (p + m) = codeC l p m ++ codeC l 0 p
  | 0 => rfl
  | m + 1 => by
    rw [← Nat.add_assoc, codeC, codeC, code_split l p m, Nat.zero_add, List.append_assoc]
theorem impl_CodeList_wp {l : List Int} {K : Int → Int → List Bool → Bool → Prop} (hl : l.length ≤ 2 ^ 20) (h1 : isI l = true) {n : Nat} (hn : IsTop l n) (h : K (l.length : Int) (n : Int) (codeC l 0 n) true) : impl_CodeList.wp l K := by
  have hg := isI_sm h1
  refine impl_AreIntegers_wp hl (tE h1 (impl_planesFor_wp hg.1 hg.2 fun m hm => ?_))
  rw [top_uniq hm hn]
  exact impl_codeUntil_wp (p := 0) hg.1 hg.2 (by decide) (top_le hg.2 hn) h
theorem impl_PlanesFor_wp {l : List Int} {K : Int → Bool → Prop} (hl : l.length ≤ 2 ^ 20) (h1 : isI l = true) {n : Nat} (hn : IsTop l n) (h : K (n : Int) true) : impl_PlanesFor.wp l K := by
  have hg := isI_sm h1
  refine impl_AreIntegers_wp hl (tE h1 (impl_planesFor_wp hg.1 hg.2 fun m hm => ?_))
  rw [top_uniq hm hn]
  exact h
theorem impl_CutCoded_wp {a b : Int} {l : List Bool} {q : Nat} {K : Int → Int → List Bool → Bool → Prop} (h1 : isCod a b l = true) (hq : q ≤ l.length) (hl : l.length ≤ 32768) (h : K a b (l.take q) true) : impl_CutCoded.wp a b l (q : Int) K := by
  refine impl_ValidCoded_wp (tE h1 (impl_within_wp (tE (decide_eq_true (by omega)) ⟨by omega, ?_, ?_⟩)))
  · rw [List.length_nil, List.length_take]; omega
  · exact h
theorem impl_BitsUntil_wp {l : List Int} {p n : Nat} {K : Int → Bool → Prop} (hl : l.length ≤ 2 ^ 20) (h1 : isI l = true) (hn : IsTop l n) (hp : p ≤ 24) (h : K ((codeC l p (n - p)).length : Int) true) : impl_BitsUntil.wp l (p : Int) K := by
  have hg := isI_sm h1
  refine impl_AreIntegers_wp hl (tE h1 (impl_within_wp (tE (decide_eq_true (by omega)) (impl_planesFor_wp hg.1 hg.2 fun m hm => ?_))))
  rw [top_uniq hm hn]
  exact impl_codeUntil_wp hg.1 hg.2 (by omega) (top_le hg.2 hn) h

end Go.Proofs.YtecdkjnomkdbkaaDoor.G

namespace Go.Proofs.YtecdkjnomkdbkaaDoor.G
open Go Go.Ab
set_option maxRecDepth 100000
set_option linter.unusedVariables false
set_option linter.unusedSimpArgs false
set_option maxHeartbeats 1000000
def dd (n : Nat) : List UInt8 := if n = 0 then [] else Lib.decDigits n
theorem dd_step (n : Nat) : Lib.decDigits n = dd (n / 10) ++ [UInt8.ofNat (48 + n % 10)] := by
  rw [Lib.decDigits]
  by_cases h : n < 10
  · rw [dif_pos h, dd, if_pos (by omega), Nat.mod_eq_of_lt h]; rfl
  · rw [dif_neg h, dd, if_neg (by omega)]
theorem dd_zero : dd 0 = [] := rfl
theorem dd_pos {n : Nat} (h : n ≠ 0) : dd n = dd (n / 10) ++ [UInt8.ofNat (48 + n % 10)] := by
  conv => lhs; rw [dd, if_neg h]
  exact dd_step n
theorem numsC (b : UInt8) (l : List UInt8) : nums (b :: l) = (b.toNat : Int) :: nums l := rfl
theorem nums_length (l : List UInt8) : (nums l).length = l.length := by simp [nums]
theorem byts_nums (l : List UInt8) : byts (nums l) = l := by
  induction l with
  | nil => rfl
  | cons b l ih =>
    show UInt8.ofNat ((b.toNat : Int)).toNat :: byts (nums l) = _
    rw [ih, Int.toNat_natCast, UInt8.ofNat_toNat]
def sgn (b : Bool) (n : Nat) : Int := bif b then -(n : Int) else n
theorem sgn_of (z : Int) : z = sgn (decide (z < 0)) z.natAbs := by
  unfold sgn
  by_cases h : z < 0
  · rw [decide_eq_true h, cond_true]; omega
  · rw [decide_eq_false h, cond_false]; omega
theorem tmodN (n m : Nat) : Int.tmod (n : Int) (m : Int) = ((n % m : Nat) : Int) := by rw [Int.tmod_eq_emod_of_nonneg (by omega)]; omega
theorem tdivN' (n m : Nat) : Int.tdiv (n : Int) (m : Int) = ((n / m : Nat) : Int) := by rw [Int.tdiv_eq_ediv_of_nonneg (by omega)]; omega
theorem tmod_sgn (b : Bool) (n : Nat) : Int.tmod (sgn b n) 10 = sgn b (n % 10) := by
  cases b
  · exact tmodN n 10
  · show Int.tmod (-(n : Int)) 10 = -((n % 10 : Nat) : Int)
    rw [Int.neg_tmod, show (10 : Int) = ((10 : Nat) : Int) from rfl, tmodN]
theorem tdiv_sgn (b : Bool) (n : Nat) : Int.tdiv (sgn b n) 10 = sgn b (n / 10) := by
  cases b
  · exact tdivN' n 10
  · show Int.tdiv (-(n : Int)) 10 = -((n / 10 : Nat) : Int)
    rw [Int.neg_tdiv, show (10 : Int) = ((10 : Nat) : Int) from rfl, tdivN']
theorem sgn_le (b : Bool) (n : Nat) : -(n : Int) ≤ sgn b n ∧ sgn b n ≤ n := by cases b <;> simp only [sgn, cond_true, cond_false] <;> omega
theorem u8W (n : Nat) (h : n < 256) : IntKind.u8.wrap (n : Int) = (n : Int) := by
  simp only [IntKind.wrap, IntKind.signed, IntKind.bits]
  simp
  omega
theorem digW (n : Nat) : IntKind.u8.wrap (IntKind.i64.wrap ((48 : Int) + ((n % 10 : Nat) : Int))) = ((UInt8.ofNat (48 + n % 10)).toNat : Int) := by
  rw [wI (by omega), show (48 : Int) + ((n % 10 : Nat) : Int) = ((48 + n % 10 : Nat) : Int) by omega, u8W _ (by omega)]
  show _ = (((48 + n % 10) % 256 : Nat) : Int)
  omega
theorem stepDec {X : List Int → Int → Prop} (b : Bool) (r : Nat) (ds : List UInt8) (hr : r ≤ 2 ^ 62) (hd : ds.length ≤ 100) (h : X (nums (UInt8.ofNat (48 + r % 10) :: ds)) (sgn b (r / 10))) :
    (((Int.tmod (sgn b r) (10 : Int)) < (0 : Int) → ((([(IntKind.u8.wrap (IntKind.i64.wrap ((48 : Int) + (IntKind.i64.wrap (0 - (Int.tmod (sgn b r) (10 : Int)))))))] : List (Int)).length + (nums ds).length) * 1 ≤ 2 ^ 40) ∧ X (([(IntKind.u8.wrap (IntKind.i64.wrap ((48 : Int) + (IntKind.i64.wrap (0 - (Int.tmod (sgn b r) (10 : Int)))))))] : List (Int)) ++ nums ds) (IntKind.i64.wrap (Int.tdiv (sgn b r) (10 : Int)))) ∧ (¬((Int.tmod (sgn b r) (10 : Int)) < (0 : Int)) → ((([(IntKind.u8.wrap (IntKind.i64.wrap ((48 : Int) + (Int.tmod (sgn b r) (10 : Int)))))] : List (Int)).length + (nums ds).length) * 1 ≤ 2 ^ 40) ∧ X (([(IntKind.u8.wrap (IntKind.i64.wrap ((48 : Int) + (Int.tmod (sgn b r) (10 : Int)))))] : List (Int)) ++ nums ds) (IntKind.i64.wrap (Int.tdiv (sgn b r) (10 : Int))))) := by
  have hs := sgn_le b (r / 10)
  rw [tmod_sgn, tdiv_sgn, wI (n := sgn b (r / 10)) (by omega), nums_length]
  rw [numsC] at h
  refine ⟨fun c => ⟨by rw [len1]; omega, ?_⟩, fun c => ⟨by rw [len1]; omega, ?_⟩⟩
  · have e : (0 : Int) - sgn b (r % 10) = ((r % 10 : Nat) : Int) := by cases b <;> simp only [sgn, cond_true, cond_false] at c ⊢ <;> omega
    rw [e, wI (n := ((r % 10 : Nat) : Int)) (by omega), digW]; exact h
  · have e : sgn b (r % 10) = ((r % 10 : Nat) : Int) := by cases b <;> simp only [sgn, cond_true, cond_false] at c ⊢ <;> omega
    rw [e, digW]; exact h
theorem dec_len (n : Nat) (h : n ≤ 2 ^ 62) : (Lib.decDigits n).length ≤ 21 := by
  have := Lib.itoa_length_le (n : Int) (by omega) (by omega)
  rwa [Lib.itoa, if_neg (by omega), Int.toNat_natCast] at this
theorem itoa_len (n : Int) (h : -2 ^ 62 ≤ n ∧ n ≤ 2 ^ 62) : (Lib.itoa n).length ≤ 21 := Lib.itoa_length_le n (by omega) (by omega)
theorem spec_l01Dec_wp {n : Int} {K : List UInt8 → Prop} (hn : -2 ^ 62 ≤ n ∧ n ≤ 2 ^ 62) (h : K (Lib.itoa n)) : spec_l01Dec.wp n K := by
  intro X hX
  have hN : n.natAbs ≤ 2 ^ 62 := by omega
  have hl := dec_len _ hN
  have loop : ∀ (m r : Nat) (ds : List UInt8), r ≤ m → ds ≠ [] → r ≤ 2 ^ 62 → dd r ++ ds = Lib.decDigits n.natAbs → X (nums ds) (sgn (decide (n < 0)) r) := by
    intro m
    induction m with
    | zero =>
      intro r ds hr hds h1 h2
      obtain rfl : r = 0 := by omega
      have hz : ¬ (((nums ds).length : Int) = 0) := by rw [nums_length]; have := List.length_pos_iff.2 hds; omega
      have e0 : sgn (decide (n < 0)) 0 = 0 := by cases decide (n < 0) <;> rfl
      refine hX _ _ ⟨fun c => absurd c hz, fun _ => ⟨fun _ => ?_, fun c => absurd e0 c⟩⟩
      rw [dd_zero, List.nil_append] at h2
      subst h2
      unfold Lib.itoa at h
      refine ⟨fun c => ⟨by rw [len1, nums_length]; omega, ?_⟩, fun c => ?_⟩
      · rw [if_pos c] at h
        rw [show ([(45 : Int)] : List Int) ++ nums (Lib.decDigits n.natAbs) = nums (45 :: Lib.decDigits n.natAbs) from rfl, byts_nums]; exact h
      · rw [if_neg c, show n.toNat = n.natAbs by omega] at h
        rw [byts_nums]; exact h
    | succ m ih =>
      intro r ds hr hds h1 h2
      by_cases hz0 : r = 0
      · exact ih r ds (by omega) hds h1 h2
      have hz : ¬ (((nums ds).length : Int) = 0) := by rw [nums_length]; have := List.length_pos_iff.2 hds; omega
      have hdl : ds.length ≤ 21 := by rw [← h2, List.length_append] at hl; omega
      refine hX _ _ ⟨fun c => absurd c hz, fun _ => ⟨fun c => ?_, fun _ => stepDec _ r ds h1 (by omega) (ih _ _ (by omega) (by simp) (by omega) ?_)⟩⟩
      · exfalso; cases hb : decide (n < 0) <;> rw [hb] at c <;> simp only [sgn, cond_true, cond_false] at c <;> omega
      · rw [← h2, dd_pos hz0, List.append_assoc]; rfl
  have first : X (nums []) (sgn (decide (n < 0)) n.natAbs) := by
    refine hX _ _ ⟨fun _ => stepDec _ _ [] hN (by decide) (loop _ _ _ (Nat.le_refl _) (by simp) (by omega) (dd_step _).symm), fun c => absurd rfl c⟩
  rw [← sgn_of] at first
  exact first
/-- The mark of a text. -/
def mkT (k : Nat) : List UInt8 := if k = 0 then [109, 48] else 109 :: dd k

end Go.Proofs.YtecdkjnomkdbkaaDoor.G

namespace Go.Proofs.YtecdkjnomkdbkaaDoor.G
open Go Go.Ab
set_option maxRecDepth 100000
set_option linter.unusedVariables false
set_option linter.unusedSimpArgs false
set_option maxHeartbeats 1000000
def bitC (b : Bool) : UInt8 := if b then 49 else 48
def bitsT (l : List Bool) : List UInt8 := l.map bitC
theorem bits_loop {l : List Bool} {X : List Int → Int → Prop} {E : Prop} (hl : l.length ≤ 2 ^ 30) (hX : ∀ (out : List Int) (i : Nat), out = nums (bitsT (l.take i)) → i ≤ l.length → (i < l.length → (l.getD i false = true → X (out ++ [49]) ((i + 1 : Nat) : Int)) ∧ (l.getD i false = false → X (out ++ [48]) ((i + 1 : Nat) : Int)) → X out (i : Int)) ∧ (i = l.length → E → X out (i : Int))) (h : E) : X [] 0 := by
  have key : X (nums (bitsT (l.take 0))) ((0 : Nat) : Int) := by
    refine up (Y := fun i => X (nums (bitsT (l.take i))) (i : Int)) l.length ((hX _ _ rfl (Nat.le_refl _)).2 rfl h) fun i hi hn => (hX _ _ rfl (by omega)).1 hi ?_
    have e : nums (bitsT (l.take (i + 1))) = nums (bitsT (l.take i)) ++ [((bitC l[i]).toNat : Int)] := by
      rw [List.take_succ_eq_append_getElem hi, bitsT, List.map_append, nums, List.map_append]; rfl
    rw [e] at hn
    rw [gD hi]
    refine ⟨fun c => ?_, fun c => ?_⟩
    · rw [c] at hn; exact hn
    · rw [c] at hn; exact hn
  exact key
theorem bitsT_len (l : List Bool) : (bitsT l).length = l.length := by simp [bitsT]
theorem impl_BitText_wp {l : List Bool} {K : List UInt8 → Bool → Prop} (hl : l.length ≤ 2 ^ 30) (h1 : l.length ≤ 32768 → K (bitsT l) true) (h2 : ¬ l.length ≤ 32768 → K [] false) : impl_BitText.wp l K := by
  refine ⟨fun c => h2 (by omega), fun c X hX => ?_⟩
  refine bits_loop (l := l) (X := X) (E := K (bitsT l) true) hl (fun out i ho hi => ⟨fun h1 h2 => hX _ _ ⟨fun _ => ⟨by omega, ?_⟩, fun c => absurd (show (i : Int) < l.length by omega) c⟩, fun h1 h2 => hX _ _ ⟨fun c => absurd c (by omega), fun _ => ?_⟩⟩) (h1 (by omega))
  · have hol : out.length = i := by rw [ho, nums_length, bitsT_len, List.length_take]; omega
    rw [nn, w1 (by omega), len1]
    exact ⟨fun c => ⟨by omega, h2.1 c⟩, fun c => ⟨by rw [len1]; omega, h2.2 c⟩⟩
  · subst ho; rw [h1, List.take_length, byts_nums]; exact h2

end Go.Proofs.YtecdkjnomkdbkaaDoor.G

namespace Go.Proofs.YtecdkjnomkdbkaaDoor.G
open Go Go.Ab
set_option maxRecDepth 100000
set_option linter.unusedVariables false
set_option linter.unusedSimpArgs false
set_option maxHeartbeats 1000000
def zagN (z : Nat) : Int := if z % 2 = 1 then -(((z + 1) / 2 : Nat) : Int) else ((z / 2 : Nat) : Int)
theorem zag_odd (z : Nat) (h : z < 2 ^ 40) (ho : z % 2 = 1) : IntKind.i64.wrap (Int.tdiv (IntKind.i64.wrap (0 - (IntKind.i64.wrap ((z : Int) + 1)))) 2) = zagN z := by
  rw [wI (n := (z : Int) + 1) (by omega), wI (n := 0 - ((z : Int) + 1)) (by omega), zagN, if_pos ho]
  have e : Int.tdiv (0 - ((z : Int) + 1)) 2 = -(((z + 1) / 2 : Nat) : Int) := by
    rw [Int.zero_sub, Int.neg_tdiv, show (z : Int) + 1 = ((z + 1 : Nat) : Int) by omega, Int.tdiv_eq_ediv_of_nonneg (by omega)]; rfl
  rw [e, wI (by omega)]
theorem zag_even (z : Nat) (h : z < 2 ^ 40) (he : ¬ z % 2 = 1) : IntKind.i64.wrap (Int.tdiv (z : Int) 2) = zagN z := by
  rw [zagN, if_neg he, Int.tdiv_eq_ediv_of_nonneg (by omega), wI (by omega)]; omega
theorem impl_fromZigZag_wp {z : Nat} {K : Int → Prop} (h : z < 2 ^ 40) (hk : K (zagN z)) : impl_fromZigZag.wp (z : Int) K := by
  have e : Int.tmod (z : Int) 2 = ((z % 2 : Nat) : Int) := by rw [Int.tmod_eq_emod_of_nonneg (by omega)]; rfl
  refine ⟨fun c => ?_, fun c => ?_⟩
  · rw [zag_even z h (by omega)]; exact hk
  · rw [zag_odd z h (by omega)]; exact hk
/-- The ones from a place on: where they end, and how many. -/
def onesN (l : List Bool) : Nat → Nat → Nat → Nat × Nat
  | 0, i, z => (i, z)
  | f + 1, i, z => if i < l.length ∧ l.getD i false = true then onesN l f (i + 1) (z + 1) else (i, z)
def bitAt (l : List Bool) (i : Nat) : Nat := if i < l.length ∧ l.getD i false = true then 1 else 0
def lowsN (l : List Bool) : Nat → Nat → Nat → Nat × Nat
  | 0, i, z => (i, z)
  | k + 1, i, z => lowsN l k (i + 1) (2 * z + bitAt l i)
def oneN (l : List Bool) (k i : Nat) : Nat × Nat := lowsN l k ((onesN l (l.length + 1) i 0).1 + 1) (onesN l (l.length + 1) i 0).2
theorem onesN_bd (l : List Bool) : ∀ f i z, (onesN l f i z).1 ≤ max i l.length ∧ (onesN l f i z).2 ≤ z + f ∧ i ≤ (onesN l f i z).1
  | 0, i, z => ⟨by simp only [onesN]; omega, by simp only [onesN]; omega, by simp only [onesN]; omega⟩
  | f + 1, i, z => by
    rw [onesN]
    split
    · have := onesN_bd l f (i + 1) (z + 1); omega
    · simp only []; omega
theorem ones_loop (l : List Bool) {X : Int → Int → Prop} {E : Nat → Nat → Prop} (hX : ∀ i z : Nat, i ≤ l.length → z ≤ i → (i < l.length → l.getD i false = true → X ((i + 1 : Nat) : Int) ((z + 1 : Nat) : Int)) → (¬(i < l.length ∧ l.getD i false = true) → E i z) → X (i : Int) (z : Int)) (i0 : Nat) (hi0 : i0 ≤ l.length) (hend : E (onesN l (l.length + 1) i0 0).1 (onesN l (l.length + 1) i0 0).2) : X (i0 : Int) ((0 : Nat) : Int) := by
  have key : ∀ f i z, l.length < f + i → i ≤ l.length → z ≤ i → E (onesN l f i z).1 (onesN l f i z).2 → X (i : Int) (z : Int) := by
    intro f
    induction f with
    | zero => intro i z h1 h2; omega
    | succ f ih =>
      intro i z h1 h2 h3 h4
      refine hX i z h2 h3 (fun c1 c2 => ih (i + 1) (z + 1) (by omega) (by omega) (by omega) ?_) (fun c => ?_)
      · rw [onesN, if_pos ⟨c1, c2⟩] at h4; exact h4
      · rw [onesN, if_neg c] at h4; exact h4
  exact key (l.length + 1) i0 0 (by omega) hi0 (by omega) hend
theorem lows_loop (l : List Bool) (k : Nat) {X : Int → Int → Int → Prop} {E : Nat → Nat → Prop} (hX : ∀ i z j : Nat, j ≤ k → i ≤ 2 ^ 20 + j → z < 2 ^ 36 → (j < k → X ((i + 1 : Nat) : Int) ((2 * z + bitAt l i : Nat) : Int) ((j + 1 : Nat) : Int)) → (¬ j < k → E i z) → X (i : Int) (z : Int) (j : Int)) (hk : k ≤ 20) (i0 z0 : Nat) (hi0 : i0 ≤ 2 ^ 20) (hz0 : z0 ≤ 32768) (hend : E (lowsN l k i0 z0).1 (lowsN l k i0 z0).2) : X (i0 : Int) (z0 : Int) ((0 : Nat) : Int) := by
  have hp : 2 ^ k ≤ 2 ^ 20 := Nat.pow_le_pow_right (by decide) hk
  have key : ∀ m i z j, j + m = k → i ≤ 2 ^ 20 + j → (z + 1) * 2 ^ m ≤ 2 ^ 36 → E (lowsN l m i z).1 (lowsN l m i z).2 → X (i : Int) (z : Int) (j : Int) := by
    intro m
    induction m with
    | zero => intro i z j h1 h2 h3 h4
              rw [Nat.pow_zero] at h3
              exact hX i z j (by omega) h2 (by omega) (fun c => by omega) (fun _ => h4)
    | succ m ih =>
      intro i z j h1 h2 h3 h4
      rw [Nat.pow_succ, Nat.mul_comm (2 ^ m), ← Nat.mul_assoc] at h3
      have hb : bitAt l i ≤ 1 := by unfold bitAt; split <;> omega
      have h5 : (2 * z + bitAt l i + 1) * 2 ^ m ≤ (z + 1) * 2 * 2 ^ m := Nat.mul_le_mul_right _ (by omega)
      have h6 : (z + 1) * 2 * 1 ≤ (z + 1) * 2 * 2 ^ m := Nat.mul_le_mul_left _ (Nat.two_pow_pos m)
      refine hX i z j (by omega) h2 (by omega) (fun c => ih (i + 1) _ (j + 1) (by omega) (by omega) (by omega) ?_) (fun c => by omega)
      rw [lowsN] at h4; exact h4
  refine key k i0 z0 0 (by omega) (by omega) ?_ hend
  have h1 : (z0 + 1) * 2 ^ k ≤ 32769 * 2 ^ k := Nat.mul_le_mul_right _ (by omega)
  have h2 : 32769 * 2 ^ k ≤ 32769 * 2 ^ 20 := Nat.mul_le_mul_left _ hp
  omega
theorem lowsN_bd (l : List Bool) : ∀ k i z, (lowsN l k i z).1 = i + k ∧ ((lowsN l k i z).2 + 1) ≤ (z + 1) * 2 ^ k
  | 0, i, z => ⟨rfl, by simp only [lowsN]; omega⟩
  | k + 1, i, z => by
    have h := lowsN_bd l k (i + 1) (2 * z + bitAt l i)
    have hb : bitAt l i ≤ 1 := by unfold bitAt; split <;> omega
    rw [lowsN]
    refine ⟨by omega, ?_⟩
    have h5 : (2 * z + bitAt l i + 1) * 2 ^ k ≤ (z + 1) * 2 * 2 ^ k := Nat.mul_le_mul_right _ (by omega)
    rw [Nat.pow_succ, Nat.mul_comm (2 ^ k), ← Nat.mul_assoc]
    omega
theorem oneN_bd (l : List Bool) (hl : l.length ≤ 32768) (k i : Nat) (hk : k ≤ 20) (hi : i ≤ l.length) : i < (oneN l k i).1 ∧ (oneN l k i).2 < 2 ^ 36 := by
  have h1 := onesN_bd l (l.length + 1) i 0
  have h2 := lowsN_bd l k ((onesN l (l.length + 1) i 0).1 + 1) (onesN l (l.length + 1) i 0).2
  have h3 : (onesN l (l.length + 1) i 0).2 + 1 ≤ 32770 := by omega
  have h4 := Nat.mul_le_mul h3 (Nat.pow_le_pow_right (n := 2) (by decide) hk)
  unfold oneN
  omega
def riceF (l : List Bool) (k : Nat) : Nat → Nat → List Int → Option (List Int)
  | 0, i, o => if i = l.length then some o else none
  | n + 1, i, o => if l.length < (oneN l k i).1 then none else if 2000000 < (oneN l k i).2 then none else riceF l k n (oneN l k i).1 (o ++ [zagN (oneN l k i).2])
def endI (K : List Int → Bool → Prop) : Option (List Int) → Prop
  | some o => K o true
  | none => K [] false
theorem zagN_bd (z : Nat) : ¬ 2000000 < z ↔ (-1000000 ≤ zagN z ∧ zagN z ≤ 1000000) := by
  unfold zagN; split <;> omega
/-- The reading of one value, in both packages: what comes behind. -/
theorem one_loop (l : List Bool) (hl : l.length ≤ 32768) (k : Nat) (hk : k ≤ 20) {X : Int → Int → Prop} {E : Nat → Nat → Prop}
    (hX : ∀ i z : Nat, i ≤ l.length → z ≤ i → (i < l.length → l.getD i false = true → X ((i + 1 : Nat) : Int) ((z + 1 : Nat) : Int)) → (¬(i < l.length ∧ l.getD i false = true) → ∀ Y : Int → Int → Int → Prop, (∀ i z j : Nat, j ≤ k → i ≤ 2 ^ 20 + j → z < 2 ^ 36 → (j < k → Y ((i + 1 : Nat) : Int) ((2 * z + bitAt l i : Nat) : Int) ((j + 1 : Nat) : Int)) → (¬ j < k → E i z) → Y (i : Int) (z : Int) (j : Int)) → Y ((i + 1 : Nat) : Int) (z : Int) ((0 : Nat) : Int)) → X (i : Int) (z : Int)) (i0 : Nat) (hi0 : i0 ≤ l.length) (hend : E (oneN l k i0).1 (oneN l k i0).2) : X (i0 : Int) ((0 : Nat) : Int) := by
  refine ones_loop l (X := X) (E := fun i z => i ≤ l.length → z ≤ 32768 → ∀ Y : Int → Int → Int → Prop, (∀ i z j : Nat, j ≤ k → i ≤ 2 ^ 20 + j → z < 2 ^ 36 → (j < k → Y ((i + 1 : Nat) : Int) ((2 * z + bitAt l i : Nat) : Int) ((j + 1 : Nat) : Int)) → (¬ j < k → E i z) → Y (i : Int) (z : Int) (j : Int)) → Y ((i + 1 : Nat) : Int) (z : Int) ((0 : Nat) : Int)) (fun i z h1 h2 h3 h4 => hX i z h1 h2 h3 (fun c => h4 c h1 (by omega))) i0 hi0 ?_
  intro h1 h2 Y hY
  exact lows_loop l k hY hk _ _ (by omega) h2 hend
theorem w2z (z b : Nat) (h : z < 2 ^ 36) (hb : b ≤ 1) : 2 * z + b < 2 ^ 38 := by omega
theorem bit_yes {l : List Bool} {i : Nat} (c1 : i < l.length) (c2 : l.getD i false = true) : bitAt l i = 1 := if_pos ⟨c1, c2⟩
theorem bit_no {l : List Bool} {i : Nat} (c : ¬(i < l.length ∧ l.getD i false = true)) : bitAt l i = 0 := if_neg c
theorem p1 : (2 ^ (min (1 : Int).toNat IntKind.i64.bits) : Int) = 2 := by decide
theorem impl_FromRice_wp {l : List Bool} {a k : Int} {K : List Int → Bool → Prop} (h : if l.length ≤ 32768 ∧ (1 ≤ a ∧ a ≤ 128) ∧ 0 ≤ k ∧ k ≤ 20 then endI K (riceF l k.toNat a.toNat 0 []) else K [] false) : impl_FromRice.wp l a k K := by
  refine ⟨fun c => by rw [if_neg (by omega)] at h; exact h, fun c => impl_within_wp ⟨fun c2 => impl_within_wp ⟨fun c3 => ?_, fun c3 => ?_⟩, fun c2 => ?_⟩⟩
  rotate_left
  · have c3 := of_decide_eq_false c3
    rw [if_neg (by omega)] at h; exact h
  · have c2 := of_decide_eq_false c2
    rw [if_neg (by omega)] at h; exact h
  have c2 := of_decide_eq_true c2
  have c3 := of_decide_eq_true c3
  have hl : l.length ≤ 32768 := by omega
  rw [if_pos ⟨hl, c2, c3⟩] at h
  obtain ⟨kn, rfl⟩ : ∃ n : Nat, k = n := ⟨k.toNat, by omega⟩
  obtain ⟨an, rfl⟩ : ∃ n : Nat, a = n := ⟨a.toNat, by omega⟩
  rw [nn, nn] at h
  intro X hX
  have key : ∀ (m x i : Nat) (o : List Int), x + m = an → o.length = x → i ≤ l.length → endI K (riceF l kn m i o) → X o (i : Int) (x : Int) := by
    intro m
    induction m with
    | zero =>
      intro x i o h1 h2 h3 h4
      refine hX _ _ _ ⟨fun c => absurd c (by omega), fun _ => ⟨fun c4 => ?_, fun c4 => ?_⟩⟩
      · rw [riceF, if_pos (by omega)] at h4; exact h4
      · rw [riceF, if_neg (by omega)] at h4; exact h4
    | succ m ih =>
      intro x i o h1 h2 h3 h4
      refine hX _ _ _ ⟨fun _ => ?_, fun c4 => absurd (show (x : Int) < an by omega) c4⟩
      intro Z hZ
      have hbd := oneN_bd l hl kn i (by omega) h3
      have fin : ∀ i2 z2 : Nat, i2 = (oneN l kn i).1 → z2 = (oneN l kn i).2 → (((l.length : Int) < (i2 : Int) → K ([] : List (Int)) (false)) ∧ (¬((l.length : Int) < (i2 : Int)) → ((2000000 < (z2 : Int) → K ([] : List (Int)) (false)) ∧ (¬(2000000 < (z2 : Int)) → impl_fromZigZag.wp (z2 : Int) fun y188 => ((o.length + ([y188] : List (Int)).length) * 8 ≤ 2 ^ 40) ∧ X (o ++ ([y188] : List (Int))) (i2 : Int) (IntKind.i64.wrap ((x : Int) + 1)))))) := by
        rintro i2 z2 rfl rfl
        rw [riceF] at h4
        refine ⟨fun c5 => by rw [if_pos (by omega)] at h4; exact h4, fun c5 => ?_⟩
        rw [if_neg (by omega)] at h4
        refine ⟨fun c6 => by rw [if_pos (by omega)] at h4; exact h4, fun c6 => ?_⟩
        rw [if_neg (by omega)] at h4
        refine impl_fromZigZag_wp (by omega) ⟨by rw [len1]; omega, ?_⟩
        rw [w1 (by omega)]
        exact ih (x + 1) _ _ (by omega) (by rw [List.length_append, len1]; omega) (by omega) h4
      refine one_loop l hl kn (by omega) (X := Z) (E := fun i2 z2 => i2 = (oneN l kn i).1 ∧ z2 = (oneN l kn i).2) (fun i z hi hz hy hn => hZ _ _ ?_) i h3 ⟨rfl, rfl⟩
      rw [w1 (by omega), w1 (by omega), nn]
      refine ⟨fun c5 => ⟨⟨by omega, c5⟩, ⟨fun c6 => hy (by omega) c6, fun c6 => ?_⟩⟩, fun c5 => ?_⟩
      all_goals
        intro Y hY
        refine hn (fun c7 => by first | omega | (rw [c6] at c7; exact absurd c7.2 (by decide))) Y fun i z j hj hi hz h5 h6 => hY _ _ _ ?_
        have hb : bitAt l i ≤ 1 := by unfold bitAt; split <;> omega
        rw [w1 (by omega), w1 (by omega), nn, p1, wI (n := (z : Int) * 2) (by omega), wI (n := (z : Int) * 2 + 1) (by omega)]
        refine ⟨fun c7 => ⟨fun c8 => ⟨⟨by omega, c8⟩, ⟨fun c9 => ?_, fun c9 => ?_⟩⟩, fun c8 => ?_⟩, fun c7 => fin i z (h6 (by omega)).1 (h6 (by omega)).2⟩
        · have h5 := h5 (by omega)
          rw [bit_yes (by omega) c9, show ((2 * z + 1 : Nat) : Int) = (z : Int) * 2 + 1 by omega] at h5; exact h5
        · have h5 := h5 (by omega)
          rw [bit_no (fun c => by rw [c9] at c; exact absurd c.2 (by decide)), show ((2 * z + 0 : Nat) : Int) = (z : Int) * 2 by omega] at h5; exact h5
        · have h5 := h5 (by omega)
          rw [bit_no (fun c => by omega), show ((2 * z + 0 : Nat) : Int) = (z : Int) * 2 by omega] at h5; exact h5
  exact key an 0 0 [] (by omega) rfl (by omega) h
def goodI (o : List Int) : Prop := ∀ t ∈ o, -1000000 ≤ t ∧ t ≤ 1000000
theorem bnd_good {o : List Int} (h : goodI o) : bnd 1000000 o = true := by
  simp only [bnd, List.all_eq_true, decide_eq_true_eq]; exact h
theorem bnd_bad {o : List Int} (h : ∃ t ∈ o, ¬(-1000000 ≤ t ∧ t ≤ 1000000)) : bnd 1000000 o = false := by
  obtain ⟨t, ht, hn⟩ := h
  cases hb : bnd 1000000 o with
  | false => rfl
  | true =>
    simp only [bnd, List.all_eq_true, decide_eq_true_eq] at hb
    exact absurd (hb t ht) hn
theorem riceF_len (l : List Bool) (k : Nat) : ∀ n i o r, riceF l k n i o = some r → r.length = o.length + n
  | 0, i, o, r, h => by
    rw [riceF] at h; split at h
    · cases h; rfl
    · cases h
  | n + 1, i, o, r, h => by
    rw [riceF] at h
    split at h
    · cases h
    · split at h
      · cases h
      · have := riceF_len l k n _ _ r h
        rw [List.length_append, List.length_singleton] at this; omega
end Go.Proofs.YtecdkjnomkdbkaaDoor.G

namespace Go.Proofs.YtecdkjnomkdbkaaDoor.G
open Go Go.Ab
set_option maxRecDepth 100000
set_option linter.unusedVariables false
set_option linter.unusedSimpArgs false
set_option maxHeartbeats 1000000
def isBits (t : List UInt8) : Bool := t.all fun b => b == 48 || b == 49
def bitsOf (t : List UInt8) : List Bool := t.map fun b => decide ((b.toNat : Int) = 49)
theorem bitsOf_len (t : List UInt8) : (bitsOf t).length = t.length := by simp [bitsOf]
theorem bitsOf_succ (t : List UInt8) (i : Nat) (h : i < t.length) : bitsOf (t.take (i + 1)) = bitsOf (t.take i) ++ [decide (((t[i]).toNat : Int) = 49)] := by
  rw [List.take_succ_eq_append_getElem h, bitsOf, List.map_append]; rfl
theorem bt_get {a : List UInt8} {i : Nat} (hi : i < a.length) : bt a (i : Int) = ((a[i]).toNat : Int) := by
  unfold bt; rw [nn, gD hi]
theorem mem_dropWhile {p : UInt8 → Bool} {x : UInt8} : ∀ {l : List UInt8}, x ∈ l → p x = false → x ∈ l.dropWhile p
  | y :: l, h, hp => by
    rw [List.dropWhile_cons]
    split
    · rename_i hy
      rcases List.mem_cons.1 h with rfl | h
      · rw [hp] at hy; cases hy
      · exact mem_dropWhile h hp
    · exact h
theorem drop_nil {p : UInt8 → Bool} : ∀ {l : List UInt8}, (∀ x ∈ l, p x = true) → l.dropWhile p = []
  | [], _ => rfl
  | y :: l, h => by rw [List.dropWhile_cons, if_pos (h y (List.mem_cons_self ..))]; exact drop_nil fun x hx => h x (List.mem_cons_of_mem _ hx)
theorem trim_bits (t : List UInt8) : Lib.trimS t [48, 49] = [] ↔ isBits t = true := by
  have hp : ∀ b : UInt8, ([48, 49] : List UInt8).contains b = (b == 48 || b == 49) := fun b => by
    show (b == 48 || (b == 49 || false)) = _
    rw [Bool.or_false]
  have e : (fun b : UInt8 => ([48, 49] : List UInt8).contains b) = fun b => b == 48 || b == 49 := funext hp
  unfold Lib.trimS Lib.trimLeftS Lib.trimRightS isBits
  rw [show (fun x => ([48, 49] : List UInt8).contains x) = fun b => b == 48 || b == 49 from e]
  constructor
  · intro h
    rw [List.all_eq_true]
    intro x hx
    cases hc : (x == 48 || x == 49) with
    | true => rfl
    | false =>
      have h1 : x ∈ t.reverse.dropWhile (fun b => b == 48 || b == 49) := mem_dropWhile (List.mem_reverse.2 hx) hc
      have h2 := mem_dropWhile (p := fun b => b == 48 || b == 49) (List.mem_reverse.2 h1) hc
      rw [h] at h2; exact absurd h2 (List.not_mem_nil)
  · intro h
    rw [List.all_eq_true] at h
    have : t.reverse.dropWhile (fun b => b == 48 || b == 49) = [] := drop_nil fun x hx => h x (List.mem_reverse.1 hx)
    rw [this]; rfl
theorem impl_ReadBits_wp {t : List UInt8} {K : List Bool → Bool → Prop} (ht : t.length ≤ 2 ^ 30) (h1 : t.length ≤ 32768 ∧ isBits t = true → K (bitsOf t) true) (h2 : ¬ (t.length ≤ 32768 ∧ isBits t = true) → K [] false) : impl_ReadBits.wp t K := by
  refine ⟨fun c => h2 (by omega), fun c => ⟨⟨by omega, by decide, rfl⟩, fun c2 X hX => ?_, fun c2 => h2 fun g => c2 ((trim_bits t).2 g.2)⟩⟩
  have key : X (bitsOf (t.take 0)) ((0 : Nat) : Int) := by
    refine up (Y := fun i => X (bitsOf (t.take i)) (i : Int)) t.length ?_ fun i hi hn => ?_
    · refine hX _ _ ⟨fun c => absurd c (by omega), fun _ => ?_⟩
      rw [List.take_length]; exact h1 ⟨by omega, (trim_bits t).1 c2⟩
    · refine hX _ _ ⟨fun _ => ⟨by omega, by rw [len1, bitsOf_len, List.length_take]; omega, ?_⟩, fun c => absurd (show (i : Int) < t.length by omega) c⟩
      rw [w1 (by omega), bt_get hi, ← bitsOf_succ t i hi]; exact hn
  exact key

end Go.Proofs.YtecdkjnomkdbkaaDoor.G

namespace Go.Proofs.YtecdkjnomkdbkaaDoor.G
open Go Go.Ab
set_option maxRecDepth 100000
set_option linter.unusedVariables false
set_option linter.unusedSimpArgs false
set_option maxHeartbeats 1000000
def zigN (n : Int) : Nat := if n < 0 then (-2 * n - 1).toNat else (2 * n).toNat
theorem zigN_bd {n : Int} (h : Sm n) : zigN n ≤ 2000000 := by unfold zigN; obtain ⟨h1, h2⟩ := h; split <;> omega
theorem impl_zigZag_wp {n : Int} {K : Int → Prop} (h : Sm n) (hk : K (zigN n : Nat)) : impl_zigZag.wp n K := by
  obtain ⟨h1, h2⟩ := h
  refine ⟨fun c => ?_, fun c => ?_⟩
  · rw [wI (n := 2 * n) (by omega)]
    rw [zigN, if_neg (by omega), Int.toNat_of_nonneg (by omega)] at hk; exact hk
  · rw [wI (n := (-2 : Int) * n) (by omega), wI (n := (-2 : Int) * n - 1) (by omega)]
    rw [zigN, if_pos (by omega), Int.toNat_of_nonneg (by omega)] at hk; exact hk
def rlen (k : Nat) (n : Int) : Nat := zigN n / 2 ^ k + 1 + k
def rsum (k : Nat) : List Int → Nat
  | [] => 0
  | n :: l => rlen k n + rsum k l
theorem rlen_bd {k : Nat} {n : Int} (hk : k ≤ 20) (h : Sm n) : rlen k n ≤ 2000021 := by
  have := zigN_bd h
  have := Nat.div_le_self (zigN n) (2 ^ k)
  unfold rlen; omega
theorem sum_loop (l : List Int) (k : Nat) (hk : k ≤ 20) (hl : l.length ≤ 128) (hg : ∀ n ∈ l, Sm n) {X : Int → Int → Prop} (hX : ∀ (s i : Nat) (hi : i < l.length), s ≤ 2000021 * i → X ((s + rlen k l[i] : Nat) : Int) ((i + 1 : Nat) : Int) → X (s : Int) (i : Int)) (hend : X (rsum k l : Nat) (l.length : Int)) : X ((0 : Nat) : Int) ((0 : Nat) : Int) := by
  have key : ∀ m i s, m + i = l.length → s ≤ 2000021 * i → s + rsum k (l.drop i) = rsum k l → X (s : Int) (i : Int) := by
    intro m
    induction m with
    | zero => intro i s h1 h2 h3
              obtain rfl : i = l.length := by omega
              rw [List.drop_length, rsum] at h3
              obtain rfl : s = rsum k l := by omega
              exact hend
    | succ m ih =>
      intro i s h1 h2 h3
      have hi : i < l.length := by omega
      have := rlen_bd (k := k) hk (hg _ (List.getElem_mem hi))
      rw [dropC hi, rsum] at h3
      exact hX s i hi h2 (ih (i + 1) _ (by omega) (by omega) (by omega))
  exact key l.length 0 0 (by omega) (by omega) (by rw [List.drop_zero]; omega)
theorem add_step (s y k : Nat) (hs : s ≤ 2 ^ 30) (hy : y ≤ 2000000) (hk : k ≤ 20) : IntKind.i64.wrap ((s : Int) + (IntKind.i64.wrap ((IntKind.i64.wrap (((y / 2 ^ k : Nat) : Int) + 1)) + (k : Int)))) = ((s + (y / 2 ^ k + 1 + k) : Nat) : Int) := by
  have := Nat.div_le_self y (2 ^ k)
  generalize y / 2 ^ k = d at this
  rw [wI (n := (d : Int) + 1) (by omega), wI (n := (d : Int) + 1 + (k : Int)) (by omega), wI (n := (s : Int) + ((d : Int) + 1 + (k : Int))) (by omega)]
  omega
theorem impl_riceLong_wp {l : List Int} {k : Nat} {K : Int → Prop} (hk : k ≤ 20) (hl : l.length ≤ 128) (hg : ∀ n ∈ l, Sm n) (h : K (rsum k l : Nat)) : impl_riceLong.wp l (k : Int) K := by
  intro X hX
  refine sum_loop l k hk hl hg (X := X) (fun s i hi hs hn => hX _ _ ⟨fun _ => ⟨⟨by omega, by omega⟩, ?_⟩, fun c => absurd (show (i : Int) < l.length by omega) c⟩) (hX _ _ ⟨fun c => absurd c (by omega), fun _ => h⟩)
  have hz := hg _ (List.getElem_mem hi)
  rw [nn, gD hi, w1 (by omega)]
  refine impl_zigZag_wp hz ⟨by omega, ?_⟩
  rw [shr _ _ (by omega), add_step _ _ _ (by omega) (zigN_bd hz) hk]
  exact hn
def bitJ (y j : Nat) : Bool := decide (ibits .and .i64 ((y / 2 ^ j : Nat) : Int) 1 = 1)
def bitsL (y : Nat) : Nat → List Bool
  | 0 => []
  | j + 1 => bitJ y j :: bitsL y j
theorem bitsL_len (y : Nat) : ∀ j, (bitsL y j).length = j
  | 0 => rfl
  | j + 1 => by rw [bitsL, List.length_cons, bitsL_len]
def rcode1 (k : Nat) (n : Int) : List Bool := List.replicate (zigN n / 2 ^ k) true ++ ([false] ++ bitsL (zigN n) k)
def rcode (k : Nat) : List Int → List Bool
  | [] => []
  | n :: l => rcode1 k n ++ rcode k l
theorem rcode1_len (k : Nat) (n : Int) : (rcode1 k n).length = rlen k n := by
  simp only [rcode1, List.length_append, List.length_replicate, bitsL_len, rlen, List.length_cons, List.length_nil]; omega
theorem rcode_len (k : Nat) : ∀ l, (rcode k l).length = rsum k l
  | [] => rfl
  | n :: l => by rw [rcode, List.length_append, rcode1_len, rcode_len, rsum]
theorem code_loop (l : List Int) (k : Nat) (hs : rsum k l ≤ 32768) {X : List Bool → Int → Prop} (hX : ∀ (o : List Bool) (i : Nat) (hi : i < l.length), o.length + rlen k l[i] ≤ 32768 → X (o ++ rcode1 k l[i]) ((i + 1 : Nat) : Int) → X o (i : Int)) (hend : X (rcode k l) (l.length : Int)) : X [] ((0 : Nat) : Int) := by
  have key : ∀ m i o, m + i = l.length → o ++ rcode k (l.drop i) = rcode k l → X o (i : Int) := by
    intro m
    induction m with
    | zero => intro i o h1 h3
              obtain rfl : i = l.length := by omega
              rw [List.drop_length, rcode, List.append_nil] at h3
              rw [h3]; exact hend
    | succ m ih =>
      intro i o h1 h3
      have hi : i < l.length := by omega
      rw [dropC hi, rcode] at h3
      have h4 := congrArg List.length h3
      rw [rcode_len, List.length_append, List.length_append, rcode1_len] at h4
      exact hX o i hi (by omega) (ih (i + 1) _ (by omega) (by rw [List.append_assoc]; exact h3))
  exact key l.length 0 [] (by omega) rfl
theorem rep_snoc (o : List Bool) (n : Nat) : (o ++ [true]) ++ List.replicate n true = o ++ List.replicate (n + 1) true := by
  rw [List.append_assoc]; rfl
theorem impl_RiceCode_wp {l : List Int} {k : Int} {K : List Bool → Bool → Prop} (hl : l.length ≤ 2 ^ 20) (h : if isI l = true ∧ (0 ≤ k ∧ k ≤ 20) ∧ rsum k.toNat l ≤ 32768 then K (rcode k.toNat l) true else K [] false) : impl_RiceCode.wp l k K := by
  refine impl_AreIntegers_wp hl ⟨fun h1 => impl_within_wp ⟨fun h2 => ?_, fun h2 => ?_⟩, fun h1 => ?_⟩
  rotate_left
  · have h2 := of_decide_eq_false h2
    rw [if_neg (by omega)] at h; exact tF h
  · rw [if_neg (by rw [h1]; simp)] at h; exact tF h
  have h2 := of_decide_eq_true h2
  have hg := isI_sm h1
  obtain ⟨kn, rfl⟩ : ∃ n : Nat, k = n := ⟨k.toNat, by omega⟩
  rw [nn] at h
  refine impl_riceLong_wp (by omega) hg.1 hg.2 (tT ⟨fun c => ?_, fun c => ?_⟩)
  · rw [if_neg (by omega)] at h; exact h
  rw [if_pos ⟨h1, h2, by omega⟩] at h
  intro X hX
  refine code_loop l kn (by omega) (X := X) (fun o i hi ho hn => hX _ _ ⟨fun _ => ⟨⟨by omega, by omega⟩, ?_⟩, fun c => absurd (show (i : Int) < l.length by omega) c⟩) (hX _ _ ⟨fun c => absurd c (by omega), fun _ => h⟩)
  have hz := hg.2 _ (List.getElem_mem hi)
  have hz2 := zigN_bd hz
  rw [nn, gD hi, w1 (by omega)]
  refine impl_zigZag_wp hz ⟨by omega, ?_⟩
  rw [shr _ _ (by omega)]
  have hd := Nat.div_le_self (zigN l[i]) (2 ^ kn)
  have hle : o.length + (zigN l[i] / 2 ^ kn + 1 + kn) ≤ 32768 := ho
  intro Y hY
  have key : ∀ (n x : Nat) (q : List Bool), x + n = zigN l[i] / 2 ^ kn → q.length + n + 1 + kn ≤ 32768 → q ++ (List.replicate n true ++ ([false] ++ bitsL (zigN l[i]) kn)) = o ++ rcode1 kn l[i] → Y q (x : Int) := by
    intro n
    induction n with
    | zero =>
      intro x q h1 h2 h3
      refine hY _ _ ⟨fun c => absurd c (by rw [← h1]; omega), fun _ => ⟨by rw [len1]; omega, fun Z hZ => ?_⟩⟩
      have key2 : ∀ (j : Nat) (q : List Bool), j ≤ kn → q.length + j ≤ 32768 → q ++ bitsL (zigN l[i]) j = o ++ rcode1 kn l[i] → Z q ((j : Int) - 1) := by
        intro j
        induction j with
        | zero =>
          intro q h1 h2 h3
          refine hZ _ _ ⟨fun c => absurd c (by omega), fun _ => ?_⟩
          rw [bitsL, List.append_nil] at h3
          rw [h3]; exact hn
        | succ j ih =>
          intro q h1 h2 h3
          refine hZ _ _ ⟨fun _ => ?_, fun c => absurd (show (0 : Int) ≤ ((j + 1 : Nat) : Int) - 1 by omega) c⟩
          have e : ((j + 1 : Nat) : Int) - 1 = (j : Int) := by omega
          rw [e, shr _ _ (by omega), wI (n := (j : Int) - 1) (by omega)]
          refine ⟨by omega, by rw [len1]; omega, ih _ (by omega) (by rw [List.length_append, len1]; omega) ?_⟩
          rw [List.append_assoc, List.singleton_append]; exact h3
      rw [wI (n := (kn : Int) - 1) (by omega)]
      refine key2 kn _ (Nat.le_refl _) (by rw [List.length_append, len1]; omega) ?_
      rw [List.append_assoc]; exact h3
    | succ n ih =>
      intro x q h1 h2 h3
      refine hY _ _ ⟨fun _ => ⟨by rw [len1]; omega, ?_⟩, fun c => absurd (show (x : Int) < ((zigN l[i] / 2 ^ kn : Nat) : Int) by rw [← h1]; omega) c⟩
      rw [w1 (by omega)]
      refine ih (x + 1) _ (by omega) (by rw [List.length_append, len1]; omega) ?_
      rw [← List.append_assoc, rep_snoc, List.append_assoc]; exact h3
  exact key _ 0 o (by omega) (by omega) rfl
end Go.Proofs.YtecdkjnomkdbkaaDoor.G

namespace Go.Proofs.YtecdkjnomkdbkaaDoor.G
open Go Go.Ab
set_option maxRecDepth 100000
set_option linter.unusedVariables false
set_option linter.unusedSimpArgs false
set_option maxHeartbeats 1000000
theorem bit_200 : ∀ y : Nat, y < 201 → ∀ j : Nat, j < 20 → bitJ y j = decide (y / 2 ^ j % 2 = 1) := by decide +kernel
theorem zig_200 {n : Int} (h : -100 ≤ n ∧ n ≤ 100) : zigN n ≤ 200 := by unfold zigN; split <;> omega
theorem zag_zig {n : Int} (h : -100 ≤ n ∧ n ≤ 100) : zagN (zigN n) = n := by
  unfold zigN
  split
  · unfold zagN; rw [if_pos (by omega)]; omega
  · unfold zagN; rw [if_neg (by omega)]; omega
theorem drop_tl {L : List Bool} {i : Nat} {b : Bool} {r : List Bool} (h : L.drop i = b :: r) : i < L.length ∧ L.getD i false = b ∧ L.drop (i + 1) = r := by
  have hi : i < L.length := by
    refine Nat.lt_of_not_le fun c => ?_
    rw [List.drop_of_length_le c] at h; cases h
  rw [List.drop_eq_getElem_cons hi, List.cons.injEq] at h
  exact ⟨hi, by rw [gD hi]; exact h.1, h.2⟩
theorem ones_back (L : List Bool) : ∀ (q f i z : Nat) (rest : List Bool), q < f → L.drop i = List.replicate q true ++ false :: rest → onesN L f i z = (i + q, z + q)
  | 0, 0, i, z, rest, h, _ => absurd h (Nat.lt_irrefl _)
  | 0, f + 1, i, z, rest, _, h2 => by
    obtain ⟨a, b, c⟩ := drop_tl h2
    rw [onesN, if_neg (fun c => by rw [b] at c; cases c.2)]; rfl
  | q + 1, 0, i, z, rest, h, _ => absurd h (Nat.not_lt_zero _)
  | q + 1, f + 1, i, z, rest, h, h2 => by
    obtain ⟨a, b, c⟩ := drop_tl (show L.drop i = true :: (List.replicate q true ++ false :: rest) from h2)
    rw [onesN, if_pos ⟨a, b⟩, ones_back L q f (i + 1) (z + 1) rest (by omega) c]
    rw [Prod.mk.injEq]; omega
theorem lows_back (L : List Bool) {y : Nat} (hy : y < 201) : ∀ (j i z : Nat) (rest : List Bool), j ≤ 20 → L.drop i = bitsL y j ++ rest → lowsN L j i z = (i + j, z * 2 ^ j + y % 2 ^ j)
  | 0, i, z, rest, _, _ => by rw [lowsN, Nat.pow_zero, Nat.mul_one, Nat.mod_one]; rfl
  | j + 1, i, z, rest, hj, h => by
    obtain ⟨a, b, c⟩ := drop_tl (show L.drop i = bitJ y j :: (bitsL y j ++ rest) from h)
    have hb := bit_200 y hy j (by omega)
    have e : bitAt L i = y / 2 ^ j % 2 := by
      unfold bitAt
      rw [b, hb]
      by_cases d : y / 2 ^ j % 2 = 1
      · rw [if_pos ⟨a, decide_eq_true d⟩, d]
      · rw [if_neg (fun c => d (of_decide_eq_true c.2))]; omega
    rw [lowsN, e, lows_back L hy j (i + 1) _ rest (by omega) c, Prod.mk.injEq]
    refine ⟨by omega, ?_⟩
    rw [Nat.mod_pow_succ, Nat.pow_succ, Nat.add_mul, Nat.mul_comm 2 z, Nat.mul_assoc, Nat.mul_comm 2 (2 ^ j), Nat.mul_comm (2 ^ j) (y / 2 ^ j % 2)]
    omega
theorem one_back (L : List Bool) {n : Int} (hn : -100 ≤ n ∧ n ≤ 100) {k : Nat} (hk : k ≤ 20) {i : Nat} {rest : List Bool} (h : L.drop i = rcode1 k n ++ rest) : oneN L k i = (i + rlen k n, zigN n) := by
  have hy := zig_200 hn
  have h2 : L.drop i = List.replicate (zigN n / 2 ^ k) true ++ false :: (bitsL (zigN n) k ++ rest) := by
    rw [h, rcode1, List.append_assoc, List.append_assoc]; rfl
  have hlen : zigN n / 2 ^ k < L.length + 1 := by
    have h3 := congrArg List.length h2
    rw [List.length_drop, List.length_append, List.length_replicate] at h3
    omega
  have e1 := ones_back L (zigN n / 2 ^ k) (L.length + 1) i 0 _ hlen h2
  have h3 : L.drop (i + zigN n / 2 ^ k + 1) = bitsL (zigN n) k ++ rest := by
    have h4 : L.drop (i + zigN n / 2 ^ k) = false :: (bitsL (zigN n) k ++ rest) := by
      rw [← List.drop_drop, h2, List.drop_left' List.length_replicate]
    exact (drop_tl h4).2.2
  unfold oneN
  rw [e1]
  dsimp only
  rw [lows_back L (by omega) k _ _ rest hk h3, Prod.mk.injEq]
  refine ⟨by unfold rlen; omega, ?_⟩
  rw [Nat.zero_add, Nat.mul_comm]; exact Nat.div_add_mod _ _
theorem rice_back (L : List Bool) {k : Nat} (hk : k ≤ 20) : ∀ (l : List Int) (i : Nat) (o : List Int), (∀ n ∈ l, -100 ≤ n ∧ n ≤ 100) → i ≤ L.length → L.drop i = rcode k l → riceF L k l.length i o = some (o ++ l)
  | [], i, o, _, hi, h => by
    have h2 : L.length - i = 0 := by rw [← List.length_drop, h]; rfl
    rw [List.length_nil, riceF, if_pos (by omega), List.append_nil]
  | n :: l, i, o, hn, hi, h => by
    have hn1 := hn n (List.mem_cons_self ..)
    have h2 : L.drop i = rcode1 k n ++ rcode k l := h
    have e := one_back L hn1 hk h2
    have hz := zig_200 hn1
    have hle : i + rlen k n ≤ L.length := by
      have h3 := congrArg List.length h2
      rw [List.length_drop, List.length_append, rcode1_len] at h3
      have : 0 < rlen k n := by unfold rlen; generalize zigN n / 2 ^ k = q; omega
      omega
    have h4 : L.drop (i + rlen k n) = rcode k l := by rw [← List.drop_drop, h2, List.drop_left' (rcode1_len k n)]
    rw [List.length_cons, riceF, e]
    dsimp only
    rw [if_neg (by omega), if_neg (by omega), zag_zig hn1, rice_back L hk l _ _ (fun m hm => hn m (List.mem_cons_of_mem _ hm)) hle h4, List.append_assoc]; rfl
theorem rlen_200 {k : Nat} {n : Int} (hn : -100 ≤ n ∧ n ≤ 100) (hk : k ≤ 20) : rlen k n ≤ 221 := by
  have := zig_200 hn
  have := Nat.div_le_self (zigN n) (2 ^ k)
  unfold rlen; omega
theorem rsum_200 {k : Nat} (hk : k ≤ 20) : ∀ l : List Int, (∀ n ∈ l, -100 ≤ n ∧ n ≤ 100) → rsum k l ≤ 221 * l.length
  | [], _ => by rw [rsum]; omega
  | n :: l, h => by
    have h1 := rlen_200 (h n (List.mem_cons_self ..)) hk
    have h2 := rsum_200 hk l fun m hm => h m (List.mem_cons_of_mem _ hm)
    rw [rsum, List.length_cons]; omega
/-- The best k of those that are at most n. -/
def bbR (l : List Int) : Nat → Nat
  | 0 => 0
  | k + 1 => if rsum (k + 1) l < rsum (bbR l k) l then k + 1 else bbR l k
theorem bbR_ok (l : List Int) : ∀ n, bbR l n ≤ n ∧ ∀ k, k ≤ n → rsum (bbR l n) l ≤ rsum k l
  | 0 => ⟨Nat.le_refl _, fun k hk => by rw [bbR, show k = 0 by omega]; exact Nat.le_refl _⟩
  | n + 1 => by
    obtain ⟨h1, h2⟩ := bbR_ok l n
    rw [bbR]
    split
    · refine ⟨Nat.le_refl _, fun k hk => ?_⟩
      by_cases c : k = n + 1
      · rw [c]; exact Nat.le_refl _
      · have := h2 k (by omega); omega
    · refine ⟨by omega, fun k hk => ?_⟩
      by_cases c : k = n + 1
      · rw [c]; omega
      · exact h2 k (by omega)
theorem impl_RiceLong_wp {l : List Int} {k : Nat} {K : Int → Bool → Prop} (hl : l.length ≤ 2 ^ 20) (h1 : isI l = true) (hk : k ≤ 20) (h : K (rsum k l : Nat) true) : impl_RiceLong.wp l (k : Int) K := by
  have hg := isI_sm h1
  exact impl_AreIntegers_wp hl (tE h1 (impl_within_wp (tE (decide_eq_true (by omega)) (impl_riceLong_wp hk hg.1 hg.2 h))))
theorem impl_BestRice_wp {l : List Int} {K : Int → Int → Bool → Prop} (hl : l.length ≤ 2 ^ 20) (h1 : isI l = true) (h : K (bbR l 20 : Nat) (rsum (bbR l 20) l : Nat) true) : impl_BestRice.wp l K := by
  have hg := isI_sm h1
  refine impl_AreIntegers_wp hl (tE h1 fun X hX => ?_)
  have key : X ((bbR l 0 : Nat) : Int) (((0 : Nat) : Int) + 1) := by
    refine up (Y := fun k => X ((bbR l k : Nat) : Int) ((k : Int) + 1)) 20 ?_ ?_
    · exact hX _ _ (tN (by omega) (impl_riceLong_wp (bbR_ok l 20).1 hg.1 hg.2 h))
    · intro k hk hh
      have hb := (bbR_ok l k).1
      have e : (k : Int) + 1 = ((k + 1 : Nat) : Int) := by omega
      refine hX _ _ (tP (by omega) ?_)
      rw [e]
      refine impl_riceLong_wp (by omega) hg.1 hg.2 (impl_riceLong_wp (by omega) hg.1 hg.2 ?_)
      rw [wI (by omega)]
      rw [bbR] at hh
      refine ⟨fun c => ?_, fun c => ?_⟩
      · rw [if_pos (by omega)] at hh; exact hh
      · rw [if_neg (by omega)] at hh; exact hh
  exact key
theorem impl_ZigZag_wp {n : Int} {K : Int → Bool → Prop} (h : Sm n) (hk : K (zigN n : Nat) true) : impl_ZigZag.wp n K :=
  impl_within_wp (tE (decide_eq_true h) (impl_zigZag_wp h hk))
theorem impl_FromZigZag_wp {z : Nat} {K : Int → Bool → Prop} (h : z ≤ 2000000) (hk : K (zagN z) true) : impl_FromZigZag.wp (z : Int) K :=
  impl_within_wp (tE (decide_eq_true (by omega)) (impl_fromZigZag_wp (by omega) hk))
theorem bits_back (l : List Bool) : isBits (bitsT l) = true ∧ bitsOf (bitsT l) = l := by
  induction l with
  | nil => exact ⟨rfl, rfl⟩
  | cons b l ih =>
    have e : bitsT (b :: l) = bitC b :: bitsT l := rfl
    rw [e]
    constructor
    · unfold isBits
      rw [List.all_cons]
      have : isBits (bitsT l) = (bitsT l).all fun b => b == 48 || b == 49 := rfl
      rw [← this, ih.1]
      cases b <;> rfl
    · have e2 : bitsOf (bitC b :: bitsT l) = decide (((bitC b).toNat : Int) = 49) :: bitsOf (bitsT l) := rfl
      rw [e2, ih.2]
      cases b <;> rfl

end Go.Proofs.YtecdkjnomkdbkaaDoor.G

namespace Go.Proofs.YtecdkjnomkdbkaaDoor.G
open Go Go.Ab
set_option maxRecDepth 100000
set_option linter.unusedVariables false
set_option linter.unusedSimpArgs false
set_option maxHeartbeats 1000000
theorem r8Abs_wp {a : Int} {K : Int → Prop} (h : a.natAbs ≤ 1000) (hk : K (a.natAbs : Int)) : laws_r8Abs.wp a K := by
  have e : mxI a (IntKind.i64.wrap (0 - a)) = (a.natAbs : Int) := by
    rw [wI (by omega)]
    unfold mxI
    split <;> omega
  show K (mxI a (IntKind.i64.wrap (0 - a)))
  rw [e]; exact hk
theorem pw2 {p : Nat} (h : p ≤ 60) : ((2 : Int) ^ (min ((p : Int)).toNat IntKind.i64.bits)) = ((2 ^ p : Nat) : Int) := by
  rw [nn, show IntKind.i64.bits = 64 from rfl, Nat.min_eq_left (by omega)]
  simp
-- HYPE: 0 1
theorem pureStreams (l0 l1 : List Int) (hb0 : ∀ y ∈ l0, 0 ≤ y ∧ y < 256) (hb1 : ∀ y ∈ l1, 0 ≤ y ∧ y < 256) : laws_FnStreams.wp l0 l1 (fun b => b = true) := by
  have hlong : ∀ {K : Bool → Prop}, (K true) → (l0.length ≤ 48 → l1.length ≤ 48 → K false) → laws_r8Long.wp l0 l1 K := by
    intro K h1 h2
    refine ⟨fun _ => h1, fun c => ?_⟩
    by_cases d : (48 : Int) < (l1.length : Int)
    · rw [decide_eq_true d]; exact h1
    · rw [decide_eq_false d]; exact h2 (by omega) (by omega)
  refine hlong (tT rfl) fun hl0 hl1 => tF ?_
  have B1 : Byt l1 := ⟨by omega, hb1⟩
  refine spec_R8Integers_wp ⟨by omega, hb0⟩ fun l h1 h100 => ?_
  have hs : ∀ j, j < l.length → (l.getD j 0).natAbs ≤ 100 := fun j hj => by
    have := h100 _ (by rw [gD hj]; exact List.getElem_mem hj : l.getD j 0 ∈ l)
    omega
  have hI : isI l = true := isI_of h1 rfl hs
  have hl20 : l.length ≤ 2 ^ 20 := by omega
  have hg := isI_sm hI
  obtain ⟨T, hT⟩ := top_ex l
  have hT20 := top_le hg.2 hT
  have hm : ∀ j, j < l.length → (l.getD j 0).natAbs < 2 ^ T := fun j hj => hT.1 _ (by rw [gD hj]; exact List.getElem_mem hj)
  have hF := code_len l 0 T
  have hF2 : 2 * l.length * T ≤ 32 * 20 := Nat.mul_le_mul (by omega) hT20
  refine impl_CodeList_wp hl20 hI hT (lf_cut h1 hs hT20 hm (t := []) (by omega) (List.append_nil _) fun o ho hw hx => impl_PlanesFor_wp hl20 hI hT (tT (tT (tT (tP (by rw [ho]) (tP rfl (tP rfl ?_)))))))
  have hx := hx rfl
  intro X hX
  refine up (Y := fun i => X (i : Int)) l.length ?_ ?_
  rotate_left
  · intro i hi hh
    have hi100 := h100 _ (by rw [gD hi]; exact List.getElem_mem hi : l.getD i 0 ∈ l)
    have hz := zig_200 hi100
    refine hX _ (tP (by omega) ⟨⟨by omega, by omega⟩, ?_⟩)
    rw [nn]
    refine impl_ZigZag_wp ⟨by omega, by omega⟩ (impl_FromZigZag_wp (by omega) ⟨⟨by omega, by omega⟩, tP (hx i hi) (tT (tT (tP (zag_zig hi100) (tN (by omega) ?_))))⟩)
    rw [w1 (by omega)]; exact hh
  refine hX _ (tN (by omega) ?_)
  have e1 : IntKind.i64.wrap (((codeC l 0 T).length : Int) + (1 : Int)) = (((codeC l 0 T).length + 1 : Nat) : Int) := w1 (by omega)
  rw [e1]
  refine r8At_wp B1 (by decide) (by omega) fun q hq => ?_
  have hcod := cod_ok h1 hT20 (bs := codeC l 0 T) (by omega)
  have htk : ((codeC l 0 T).take q).length = q := by rw [List.length_take]; omega
  refine impl_CutCoded_wp hcod (by omega) (by omega) (lf_cut h1 hs hT20 hm (by omega) (List.take_append_drop q _) fun o2 ho2 hw2 _ => tT (tT (tP (by rw [ho2]) (tP (by rw [htk]) ?_))))
  intro X2 hX2
  refine up (Y := fun i => X2 (i : Int)) l.length ?_ ?_
  rotate_left
  · intro i hi hh
    obtain ⟨u1, u2⟩ := hw2 i hi
    have hsi := hs i hi
    refine hX2 _ (tP (by omega) ⟨⟨by omega, by omega⟩, ?_⟩)
    rw [nn, w1 (by omega)]
    refine ⟨fun c => r8Abs_wp (by omega) ⟨⟨by omega, by omega⟩, r8Abs_wp (by omega) (tN (by omega) hh)⟩, fun c => ⟨⟨by omega, by omega⟩, ?_⟩⟩
    rw [u2 c, BEq.rfl]
    exact tT (r8Abs_wp (by omega) (r8Abs_wp (by omega) (tN (by omega) hh)))
  refine hX2 _ (tN (by omega) ?_)
  rw [show IntKind.i64.wrap ((T : Int) + (1 : Int)) = ((T + 1 : Nat) : Int) from w1 (by omega)]
  refine r8At_wp B1 (by decide) (by omega) fun p hp => ?_
  have hsplit : codeC l 0 T = codeC l p (T - p) ++ codeC l 0 p := by
    have := code_split l p (T - p)
    rw [show p + (T - p) = T by omega] at this; exact this
  have hle : (codeC l p (T - p)).length ≤ (codeC l 0 T).length := by rw [hsplit, List.length_append]; omega
  have htk2 : (codeC l 0 T).take (codeC l p (T - p)).length = codeC l p (T - p) := by rw [hsplit]; exact List.take_left
  refine impl_BitsUntil_wp hl20 hI hT (by omega) (impl_CutCoded_wp hcod hle (by omega) ?_)
  rw [htk2]
  refine lf_planes h1 hs hT20 hm (p := p) (by omega) (by omega) rfl fun o3 ho3 hw3 => tT (tT (tT (tP (by rw [ho3]) ?_)))
  intro X3 hX3
  refine up (Y := fun i => X3 (i : Int)) l.length ?_ ?_
  rotate_left
  · intro i hi hh
    have u1 := hw3 i hi
    have hsi := hs i hi
    have ht := Tz_le l p i
    refine hX3 _ (tP (by omega) ⟨⟨by omega, by omega⟩, ?_⟩)
    rw [nn, w1 (by omega)]
    refine r8Abs_wp (by omega) ⟨⟨by omega, by omega⟩, r8Abs_wp (by omega) ?_⟩
    rw [u64N (by omega), shr _ _ (by omega), pw2 (by omega)]
    refine ⟨by omega, tP ?_ hh⟩
    rw [u1]
    unfold Tz at ht ⊢
    rw [← Int.natCast_mul, wI (by omega)]
  refine hX3 _ (tN (by omega) ?_)
  refine r8At_wp B1 (by decide) (by decide) fun k hk => ?_
  have hk20 : k ≤ 20 := by omega
  have hrs : ∀ j, j ≤ 20 → rsum j l ≤ 221 * l.length := fun j hj => rsum_200 hj l h100
  have hrk := hrs k hk20
  obtain ⟨hb20, hbest⟩ := bbR_ok l 20
  refine impl_RiceLong_wp hl20 hI hk20 (impl_RiceCode_wp hl20 ?_)
  rw [nn, if_pos ⟨hI, ⟨by omega, by omega⟩, by omega⟩]
  have hrl := rcode_len k l
  refine impl_FromRice_wp ?_
  rw [nn, nn, if_pos ⟨by omega, ⟨by omega, by omega⟩, by omega, by omega⟩, rice_back (rcode k l) hk20 l 0 [] h100 (Nat.zero_le _) (by rw [List.drop_zero])]
  rw [List.nil_append, endI]
  refine impl_BestRice_wp hl20 hI (impl_RiceLong_wp hl20 hI hb20 ?_)
  refine tT (tT (tT (tT (tT (tP (by rw [hrl]) (tP rfl (tP rfl (tN (by have := hbest k hk20; omega) ?_))))))))
  intro X4 hX4
  refine up (Y := fun i => X4 (i : Int)) l.length ?_ ?_
  rotate_left
  · intro i hi hh
    refine hX4 _ (tP (by omega) ⟨⟨by omega, by omega⟩, ⟨by omega, by omega⟩, tP rfl ?_⟩)
    rw [w1 (by omega)]; exact hh
  refine hX4 _ (tN (by omega) ?_)
  obtain ⟨bk1, bk2⟩ := bits_back (rcode k l)
  have hbl := bitsT_len (rcode k l)
  refine impl_BitText_wp (by omega) (fun _ => ?_) (fun c => absurd (show (rcode k l).length ≤ 32768 by omega) c)
  refine impl_ReadBits_wp (by omega) (fun _ => ?_) (fun c => absurd ⟨by omega, bk1⟩ c)
  rw [bk2]
  refine impl_entN h1 hI fun x hx => ?_
  obtain ⟨_, x2, x3⟩ := qb_ok hx
  refine tT (tT (tT (tP rfl (tG x2 (tG x3 ?_)))))
  intro X5 hX5
  refine up (Y := fun i => X5 (i : Int)) (rcode k l).length (hX5 _ (tN (by omega) rfl)) fun i hi hh => hX5 _ (tP (by omega) ⟨⟨by omega, by omega⟩, ⟨by omega, by omega⟩, ?_⟩)
  rw [BEq.rfl, w1 (by omega)]
  exact tT hh

end Go.Proofs.YtecdkjnomkdbkaaDoor.G

