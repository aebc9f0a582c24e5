/-
  What the formulas say, over numbers and lists alone. Nothing here is trusted.
-/
import Derived.Test.YtdoamcokkcoflaaMSurplusesWa
namespace Go.Proofs.Ytdoamcokkcoflaa.G
open Go Go.Ab
set_option maxRecDepth 100000
set_option linter.unusedVariables false
set_option linter.unusedSimpArgs false
set_option maxHeartbeats 1000000
/-! ### truth -/
theorem tT {A B : Prop} (h : A) : (true = true → A) ∧ (true = false → B) := ⟨fun _ => h, fun c => (by cases c)⟩
theorem tF {A B : Prop} (h : B) : (false = true → A) ∧ (false = false → B) := ⟨fun c => (by cases c), fun _ => h⟩
theorem tB {A B : Prop} {b : Bool} (h : A) : ((b == b) = true → A) ∧ ((b == b) = false → B) := ⟨fun _ => h, fun c => (by simp at c)⟩
theorem tE {A B : Prop} {b : Bool} (e : b = true) (h : A) : (b = true → A) ∧ (b = false → B) := ⟨fun _ => h, fun c => (by rw [e] at c; cases c)⟩
theorem tG {A B : Prop} {b : Bool} (e : b = false) (h : B) : (b = true → A) ∧ (b = false → B) := ⟨fun c => (by rw [e] at c; cases c), fun _ => h⟩
theorem tP {p A B : Prop} (e : p) (h : A) : (p → A) ∧ (¬p → B) := ⟨fun _ => h, fun c => absurd e c⟩
theorem tN {p A B : Prop} (e : ¬p) (h : B) : (p → A) ∧ (¬p → B) := ⟨fun c => absurd c e, fun _ => h⟩
theorem tI {b : Bool} {K : Bool → Prop} {A B : Prop} (h1 : b = true → A) (h2 : b = false → B) : (b = true → A) ∧ (b = false → B) := ⟨h1, h2⟩
/-! ### loops -/
theorem up {Y : Nat → Prop} (n : Nat) (last : Y n) (step : ∀ i, i < n → Y (i + 1) → Y i) : Y 0 := by
  have key : ∀ d i, i + d = n → Y i := by
    intro d
    induction d with
    | zero => intro i h; obtain rfl : i = n := by omega
              exact last
    | succ d ih => intro i h; exact step i (by omega) (ih (i + 1) (by omega))
  exact key n 0 (by omega)
theorem upFrom {Y : Nat → Prop} (k n : Nat) (hk : k ≤ n) (last : Y n) (step : ∀ i, k ≤ i → i < n → Y (i + 1) → Y i) : Y k := by
  have key : ∀ d i, k ≤ i → i + d = n → Y i := by
    intro d
    induction d with
    | zero => intro i _ h; obtain rfl : i = n := by omega
              exact last
    | succ d ih => intro i h0 h; exact step i h0 (by omega) (ih (i + 1) (by omega) (by omega))
  exact key (n - k) k (Nat.le_refl _) (by omega)
theorem w1 {i : Nat} (h : i < 4611686018427387904) : IntKind.i64.wrap ((i : Int) + (1 : Int)) = ((i + 1 : Nat) : Int) := wrap_succ (by omega)
theorem wI {n : Int} (h : -9223372036854775808 ≤ n ∧ n < 9223372036854775808) : IntKind.i64.wrap n = n := wrap_i64 h.1 h.2
theorem nn (i : Nat) : ((i : Int)).toNat = i := rfl
theorem gD {α : Type} {l : List α} {i : Nat} (h : i < l.length) (d : α) : l.getD i d = l[i] := by rw [List.getD_eq_getElem?_getD, List.getElem?_eq_getElem h]; rfl
theorem dropC {α : Type} {l : List α} {i : Nat} (h : i < l.length) : l.drop i = l[i] :: l.drop (i + 1) := List.drop_eq_getElem_cons h
theorem len1 {α : Type} (a : α) : ([a] : List α).length = 1 := rfl
theorem cz32 (n : Nat) (h : (FloatKind.f32.decode n).isNaN = false) : cz .f32 n = n := by simp [cz, h]
theorem c0_32 : cz .f32 0 = 0 := cz_zero32
theorem c0_64 : cz .f64 0 = 0 := cz_zero64
/-! ### copies, comparisons, marks -/

end Go.Proofs.Ytdoamcokkcoflaa.G

namespace Go.Proofs.Ytdoamcokkcoflaa.G
open Go Go.Ab
set_option maxRecDepth 100000
set_option linter.unusedVariables false
set_option linter.unusedSimpArgs false
set_option maxHeartbeats 1000000
def pFin (x : Nat) : Bool := fcmp .eql .f32 (fop .sub .f32 x x) (cz .f32 0)
def pAll (l : List Nat) : Bool := l.all pFin
theorem pAll_cons (x : Nat) (l : List Nat) : pAll (x :: l) = (pFin x && pAll l) := rfl
/-- A loop that ends early where something does not hold. -/
theorem all_loop {α : Type} (l : List α) (p : α → Bool) {X : Int → Prop} {T F : Prop} (hX : ∀ (i : Nat) (h : i < l.length), ((p l[i] = true → X ((i + 1 : Nat) : Int)) ∧ (p l[i] = false → F)) → X (i : Int))
    (hend : T → X (l.length : Int)) (ht : l.all p = true → T) (hf : l.all p = false → F) : X (0 : Int) := by
  have key := up (Y := fun i => ((l.drop i).all p = true → T) → ((l.drop i).all p = false → F) → X (i : Int)) l.length (fun h _ => hend (h (by rw [List.drop_length]; rfl))) fun i hi hn h1 h2 => ?_
  · exact key (by rw [List.drop_zero]; exact ht) (by rw [List.drop_zero]; exact hf)
  · rw [dropC hi, List.all_cons] at h1 h2
    refine hX i hi ⟨fun e => hn (fun a => h1 (by rw [e, a]; rfl)) (fun a => h2 (by rw [e, a]; rfl)), fun e => h2 (by rw [e]; rfl)⟩
/-- A loop that makes a list, and ends early where something does not hold. -/
theorem map_loop {α β : Type} (l : List α) (p : α → Bool) (f : α → β) {X : List β → Int → Prop} {T F : Prop} (hX : ∀ (i : Nat) (h : i < l.length) (o : List β), o.length = i → ((p l[i] = true → X (o ++ [f l[i]]) ((i + 1 : Nat) : Int)) ∧ (p l[i] = false → F)) → X o (i : Int))
    (hend : T → X (l.map f) (l.length : Int)) (ht : l.all p = true → T) (hf : l.all p = false → F) : X [] (0 : Int) := by
  have key := up (Y := fun i => ((l.drop i).all p = true → T) → ((l.drop i).all p = false → F) → X ((l.take i).map f) (i : Int)) l.length (fun h _ => by rw [List.take_length]; exact hend (h (by rw [List.drop_length]; rfl))) fun i hi hn h1 h2 => ?_
  · have := key (by rw [List.drop_zero]; exact ht) (by rw [List.drop_zero]; exact hf)
    rw [List.take_zero] at this; exact this
  · rw [dropC hi, List.all_cons] at h1 h2
    refine hX i hi _ (by rw [List.length_map, List.length_take]; omega) ⟨fun e => ?_, fun e => h2 (by rw [e]; rfl)⟩
    have := hn (fun a => h1 (by rw [e, a]; rfl)) (fun a => h2 (by rw [e, a]; rfl))
    rw [List.take_succ_eq_append_getElem hi, List.map_append] at this
    exact this
theorem spec_l01Finite_wp {a : Nat} {K : Bool → Prop} (h : K (pFin a)) : spec_l01Finite.wp a K := h
theorem impl_IsFinite_wp {a : Nat} {K : Bool → Prop} (h : K (pFin a)) : impl_IsFinite.wp a K := h
theorem spec_l02Finite_wp {l : List Nat} {K : Bool → Prop} (hl : l.length ≤ 2 ^ 20) (h : K (pAll l)) : spec_l02Finite.wp l K := by
  intro X hX
  refine all_loop l pFin (X := X) (T := K true) (F := K false) (fun i hi hh => ?_) (fun ht => hX _ ⟨fun c => absurd c (by omega), fun _ => ht⟩) (fun e => by rw [pAll, e] at h; exact h) (fun e => by rw [pAll, e] at h; exact h)
  refine hX _ ⟨fun _ => ⟨⟨by omega, by omega⟩, spec_l01Finite_wp ?_⟩, fun c => absurd (show (i : Int) < l.length by omega) c⟩
  rw [nn, gD hi, w1 (by omega)]; exact hh
theorem impl_areFinite_wp {ll : List (List Nat)} {K : Bool → Prop} (hll : ll.length ≤ 2 ^ 20) (hl : ∀ l ∈ ll, l.length ≤ 2 ^ 20) (h : K (ll.all pAll)) : impl_areFinite.wp ll K := by
  intro X hX
  refine all_loop ll pAll (X := X) (T := K true) (F := K false) (fun i hi hh => ?_) (fun ht => hX _ ⟨fun c => absurd c (by omega), fun _ => ht⟩) (fun e => by rw [e] at h; exact h) (fun e => by rw [e] at h; exact h)
  refine hX _ ⟨fun _ => ⟨⟨by omega, by omega⟩, fun Y hY => ?_⟩, fun c => absurd (show (i : Int) < ll.length by omega) c⟩
  have hlen := hl ll[i] (List.getElem_mem hi)
  rw [nn, gD hi, w1 (by omega)] at hY
  refine all_loop ll[i] pFin (X := Y) (T := X ((i + 1 : Nat) : Int)) (F := K false) (fun j hj h2 => ?_) (fun ht => hY _ ⟨fun c => absurd c (by omega), fun _ => ht⟩) (fun e => hh.1 e) (fun e => hh.2 e)
  refine hY _ ⟨fun _ => ⟨⟨by omega, by omega⟩, impl_IsFinite_wp ?_⟩, fun c => absurd (show (j : Int) < ll[i].length by omega) c⟩
  rw [nn, gD hj, w1 (by omega)]; exact h2
theorem impl_areFinite1_wp {l : List Nat} {K : Bool → Prop} (hl : l.length ≤ 2 ^ 20) (h : K (pAll l)) : impl_areFinite.wp [l] K := by
  refine impl_areFinite_wp (by simp) (fun x hx => by rw [List.mem_singleton] at hx; subst hx; exact hl) ?_
  rw [List.all_cons, List.all_nil, Bool.and_true]; exact h
theorem impl_within_wp {a b c : Int} {K : Bool → Prop} (h : K (decide (b ≤ a ∧ a ≤ c))) : impl_within.wp a b c K := by
  refine ⟨fun h1 => ?_, fun h1 => ?_⟩
  · have : decide (b ≤ a ∧ a ≤ c) = decide (a ≤ c) := by simp [h1]
    rw [this] at h; exact h
  · have : decide (b ≤ a ∧ a ≤ c) = false := by simp [h1]
    rw [this] at h; exact h
theorem spec_l00In_wp {a b c : Int} {K : Bool → Prop} (h : K (decide (b ≤ a ∧ a ≤ c))) : spec_l00In.wp a b c K := by
  refine ⟨fun h1 => ?_, fun h1 => ?_⟩
  · have : decide (b ≤ a ∧ a ≤ c) = decide (a ≤ c) := by simp [h1]
    rw [this] at h; exact h
  · have : decide (b ≤ a ∧ a ≤ c) = false := by simp [h1]
    rw [this] at h; exact h
theorem bT {b : Bool} {A B : Prop} (h1 : b = true → A) (h2 : b = false → B) : (b = true → A) ∧ (b = false → B) := ⟨h1, h2⟩
def isL (l : List Nat) : Bool := decide (1 ≤ l.length ∧ l.length ≤ 128) && pAll l
theorem impl_IsList_wp {l : List Nat} {K : Bool → Prop} (hl : l.length ≤ 2 ^ 20) (h : K (isL l)) : impl_IsList.wp l K := by
  refine impl_within_wp ⟨fun h1 => ?_, fun h1 => ?_⟩
  · have h1 := of_decide_eq_true h1
    refine impl_areFinite1_wp hl ?_
    rw [isL, decide_eq_true (show 1 ≤ l.length ∧ l.length ≤ 128 by omega), Bool.true_and] at h; exact h
  · have h1 := of_decide_eq_false h1
    rw [isL, decide_eq_false (show ¬(1 ≤ l.length ∧ l.length ≤ 128) by omega), Bool.false_and] at h; exact h
def isOver (x : Nat) : Bool := pFin x && fcmp .gtr .f32 x (cz .f32 0)
def isLeast (x : Nat) : Bool := pFin x && fcmp .geq .f32 x (cz .f32 0)
theorem impl_isOver_wp {a : Nat} {K : Bool → Prop} (h : K (isOver a)) : impl_isOver.wp a K := by
  refine impl_IsFinite_wp ⟨fun h1 => ?_, fun h1 => ?_⟩ <;> (rw [isOver, h1] at h; exact h)
theorem spec_l02Least_wp {a : Nat} {K : Bool → Prop} (h : K (isLeast a)) : spec_l02Least.wp a K := by
  refine spec_l01Finite_wp ⟨fun h1 => ?_, fun h1 => ?_⟩ <;> (rw [isLeast, h1] at h; exact h)
theorem impl_isLeast_wp {a : Nat} {K : Bool → Prop} (h : K (isLeast a)) : impl_isLeast.wp a K := by
  refine impl_IsFinite_wp ⟨fun h1 => ?_, fun h1 => ?_⟩ <;> (rw [isLeast, h1] at h; exact h)
def isShare (x : Nat) : Bool := fcmp .geq .f32 x (cz .f32 0) && fcmp .leq .f32 x (cz .f32 1065353216)
theorem spec_l02Share_wp {a : Nat} {K : Bool → Prop} (h : K (isShare a)) : spec_l02Share.wp a K := by
  refine ⟨fun h1 => ?_, fun h1 => ?_⟩ <;> (rw [isShare, h1] at h; exact h)
theorem impl_isShare_wp {a : Nat} {K : Bool → Prop} (h : K (isShare a)) : impl_isShare.wp a K := by
  refine ⟨fun h1 => ?_, fun h1 => ?_⟩ <;> (rw [isShare, h1] at h; exact h)
/-! ### integers -/
def bnd (m : Int) (l : List Int) : Bool := l.all fun n => decide (-m ≤ n ∧ n ≤ m)
def isI (l : List Int) : Bool := decide (1 ≤ l.length ∧ l.length ≤ 128) && bnd 1000000 l
theorem impl_areWithin_wp {l : List Int} {m : Int} {K : Bool → Prop} (hl : l.length ≤ 2 ^ 20) (hm : 0 ≤ m ∧ m ≤ 2 ^ 40) (h : K (bnd m l)) : impl_areWithin.wp l m K := by
  intro X hX
  refine all_loop l (fun n => decide (-m ≤ n ∧ n ≤ m)) (X := X) (T := K true) (F := K false) (fun i hi hh => ?_) (fun ht => hX _ ⟨fun c => absurd c (by omega), fun _ => ht⟩) (fun e => by rw [bnd, e] at h; exact h) (fun e => by rw [bnd, e] at h; exact h)
  refine hX _ ⟨fun _ => ⟨⟨by omega, by omega⟩, impl_within_wp ?_⟩, fun c => absurd (show (i : Int) < l.length by omega) c⟩
  rw [nn, gD hi, w1 (by omega), wI (show -9223372036854775808 ≤ (0 : Int) - m ∧ (0 : Int) - m < 9223372036854775808 by omega), Int.zero_sub]; exact hh
theorem impl_AreIntegers_wp {l : List Int} {K : Bool → Prop} (hl : l.length ≤ 2 ^ 20) (h : K (isI l)) : impl_AreIntegers.wp l K := by
  refine impl_within_wp ⟨fun h1 => ?_, fun h1 => ?_⟩
  · have h1 := of_decide_eq_true h1
    refine impl_areWithin_wp hl (by omega) ?_
    rw [isI, decide_eq_true (show 1 ≤ l.length ∧ l.length ≤ 128 by omega), Bool.true_and] at h; exact h
  · have h1 := of_decide_eq_false h1
    rw [isI, decide_eq_false (show ¬(1 ≤ l.length ∧ l.length ≤ 128) by omega), Bool.false_and] at h; exact h
theorem impl_finiteList_wp {l : List Nat} {K : Bool → Bool → Prop} (hl : l.length ≤ 2 ^ 20) (h : K (pAll l) (pAll l)) : impl_finiteList.wp l K := by
  refine impl_areFinite1_wp hl ⟨fun h1 => ?_, fun h1 => ?_⟩ <;> (rw [h1] at h; exact h)

end Go.Proofs.Ytdoamcokkcoflaa.G

namespace Go.Proofs.Ytdoamcokkcoflaa.G
open Go Go.Ab
set_option maxRecDepth 100000
set_option linter.unusedVariables false
set_option linter.unusedSimpArgs false
set_option maxHeartbeats 1000000
def Byt (l : List Int) : Prop := l.length ≤ 2 ^ 30 ∧ ∀ x ∈ l, 0 ≤ x ∧ x < 256
theorem iand255 (x : Int) : 0 ≤ IntKind.i64.wrap (ibits .and .u64 x 255) ∧ IntKind.i64.wrap (ibits .and .u64 x 255) < 256 := by
  have h : (BitVec.ofInt 64 x &&& BitVec.ofInt 64 255).toNat < 256 := by
    rw [BitVec.toNat_and]
    exact Nat.lt_of_le_of_lt Nat.and_le_right (by decide)
  have e : ibits .and .u64 x 255 = ((BitVec.ofInt 64 x &&& BitVec.ofInt 64 255).toNat : Int) := by
    show IntKind.u64.wrap ((BitVec.ofInt 64 x &&& BitVec.ofInt 64 255).toNat : Int) = _
    show _ % 18446744073709551616 = _
    omega
  rw [e, wI (by omega)]; omega
theorem spec_next_wp {l : List Int} {a s : Int} {K : Int → Int → Int → Prop} (hl : Byt l) (ha : 0 ≤ a ∧ a ≤ 2 ^ 40) (h : ∀ v t, 0 ≤ v ∧ v < 256 → K v (a + 1) t) : spec_l00Src_next.wp l a s K := by
  have ea : IntKind.i64.wrap (a + 1) = a + 1 := wI (by omega)
  refine ⟨fun c => ⟨⟨ha.1, c⟩, fun c2 => ?_, fun c2 => ?_⟩, fun c => ⟨fun c2 => ?_, fun c2 => ?_⟩⟩
  · rw [ea]
    have hi : a.toNat < l.length := by omega
    rw [gD hi]
    have hb := hl.2 _ (List.getElem_mem hi)
    rw [wI (by omega)]
    exact h _ _ hb
  · rw [ea]; exact h _ _ (iand255 _)
  · rw [ea]; exact h _ _ ⟨by decide, by decide⟩
  · rw [ea]; exact h _ _ (iand255 _)
theorem spec_pick_wp {l : List Int} {a s n : Int} {K : Int → Int → Int → Prop} (hl : Byt l) (ha : 0 ≤ a ∧ a ≤ 2 ^ 39) (hn : 1 ≤ n ∧ n ≤ 2 ^ 40) (h : ∀ v b t, 0 ≤ v ∧ v < n → a ≤ b ∧ b ≤ a + 2 → K v b t) : spec_l00Src_pick.wp l a s n K := by
  refine ⟨fun c => h _ _ _ (by omega) (by omega), fun c => ?_⟩
  refine spec_next_wp hl (by omega) fun v t hv => ⟨fun c2 => ?_, fun c2 => ⟨by omega, ?_⟩⟩
  · refine spec_next_wp hl (by omega) fun w u hw => ⟨by omega, ?_⟩
    rw [wI (n := v * 256) (by omega), wI (n := v * 256 + w) (by omega)]
    have e := Int.tmod_eq_emod_of_nonneg (a := v * 256 + w) (b := n) (by omega)
    have h1 := Int.emod_nonneg (v * 256 + w) (show n ≠ 0 by omega)
    have h2 := Int.emod_lt_of_pos (v * 256 + w) (show 0 < n by omega)
    exact h _ _ _ (by omega) (by omega)
  · have e := Int.tmod_eq_emod_of_nonneg (a := v) (b := n) (by omega)
    have h1 := Int.emod_nonneg v (show n ≠ 0 by omega)
    have h2 := Int.emod_lt_of_pos v (show 0 < n by omega)
    exact h _ _ _ (by omega) (by omega)
theorem r8At_wp {l : List Int} {k n : Int} {K : Int → Prop} (hl : Byt l) (hk : 0 ≤ k) (hn : 1 ≤ n ∧ n ≤ 2 ^ 40) (h : ∀ v : Nat, (v : Int) < n → K (v : Int)) : laws_r8At.wp l k n K := by
  refine ⟨fun c => h 0 (by omega), fun c => ⟨fun c2 => h 0 (by omega), fun c2 => ⟨⟨hk, by omega⟩, by omega, ?_⟩⟩⟩
  have hi : k.toNat < l.length := by omega
  rw [gD hi]
  have hb := hl.2 _ (List.getElem_mem hi)
  rw [wI (by omega)]
  have e := Int.tmod_eq_emod_of_nonneg (a := l[k.toNat]) (b := n) (by omega)
  have h1 := Int.emod_nonneg l[k.toNat] (show n ≠ 0 by omega)
  have h2 := Int.emod_lt_of_pos l[k.toNat] (show 0 < n by omega)
  rw [show Int.tmod l[k.toNat] n = ((Int.tmod l[k.toNat] n).toNat : Int) by omega]
  exact h _ (by omega)

end Go.Proofs.Ytdoamcokkcoflaa.G

namespace Go.Proofs.Ytdoamcokkcoflaa.G
open Go Go.Ab
set_option maxRecDepth 100000
set_option linter.unusedVariables false
set_option linter.unusedSimpArgs false
set_option maxHeartbeats 1000000
open Ieee in
theorem neg_read (b : Nat) : single.read (Op.negFloat .f32 b) = (single.read b).opposite := by
  have hs : single.signWeight = 2 ^ 31 := rfl
  have h2 : Op.negFloat .f32 b % 2 ^ 31 = b % 2 ^ 31 := by
    show (b ^^^ 2 ^ 31) % 2 ^ 31 = _
    rw [Nat.xor_mod_two_pow]; simp
  have h3 : Op.negFloat .f32 b / 2 ^ 31 % 2 = (b / 2 ^ 31 + 1) % 2 := by
    show (b ^^^ 2 ^ 31) / 2 ^ 31 % 2 = _
    rw [Nat.xor_div_two_pow, Nat.div_self (by decide)]
    have := Nat.xor_mod_two_pow (a := b / 2 ^ 31) (b := 1) (n := 1)
    rw [Nat.pow_one] at this; rw [this]
    rcases Nat.mod_two_eq_zero_or_one (b / 2 ^ 31) with h | h
    · rw [h, show (b / 2 ^ 31 + 1) % 2 = 1 by omega]; decide
    · rw [h, show (b / 2 ^ 31 + 1) % 2 = 0 by omega]; decide
  have h4 : (Op.negFloat .f32 b / 2 ^ 31 % 2 == 1) = !(b / 2 ^ 31 % 2 == 1) := by
    rw [h3]
    rcases Nat.mod_two_eq_zero_or_one (b / 2 ^ 31) with h | h
    · rw [h, show (b / 2 ^ 31 + 1) % 2 = 1 by omega]; rfl
    · rw [h, show (b / 2 ^ 31 + 1) % 2 = 0 by omega]; rfl
  unfold Format.read
  rw [hs, h2, h4]
  dsimp only
  split
  · rfl
  · split
    · rfl
    · split <;> rfl
open Ieee in
theorem fneg_read {b : Nat} (h : (single.read b).isNaN = false) : single.read (fneg .f32 b) = (single.read b).opposite := by
  have e : (FloatKind.f32.decode (Op.negFloat .f32 b)).isNaN = false := by
    show (single.read _).isNaN = false
    rw [neg_read]; cases hr : single.read b with
    | nan s t => rw [hr] at h; cases h
    | _ => rfl
  rw [fneg, cz32 _ e, neg_read]
/-! ### values, in units of the last place -/
open Ieee in
def val : Datum → Int
  | .number s m e => signed s m (e + 149).toNat
  | _ => 0
open Ieee in
theorem signed_up (s : Bool) (m a b : Nat) : signed s m (a + b) = signed s m a * (2 ^ b : Nat) := by
  unfold signed
  cases s <;> simp [Nat.shiftLeft_eq, Nat.pow_add, Int.mul_assoc, Int.neg_mul]
open Ieee in
theorem order_val {s t : Bool} {m n : Nat} {i j : Int} (hi : -149 ≤ i) (hj : -149 ≤ j) : (Datum.number s m i).order (.number t n j) = some (compare (val (.number s m i)) (val (.number t n j))) := by
  have e1 : val (.number s m i) = signed s m (i - min i j).toNat * (2 ^ (min i j + 149).toNat : Nat) := by
    show signed s m _ = _
    rw [← signed_up]; congr 1; omega
  have e2 : val (.number t n j) = signed t n (j - min i j).toNat * (2 ^ (min i j + 149).toNat : Nat) := by
    show signed t n _ = _
    rw [← signed_up]; congr 1; omega
  rw [e1, e2]
  show some (compare (signed s m (i - min i j).toNat) (signed t n (j - min i j).toNat)) = _
  congr 1
  have hp : (0 : Int) < ((2 ^ (min i j + 149).toNat : Nat) : Int) := by have := Nat.two_pow_pos (min i j + 149).toNat; omega
  generalize signed s m (i - min i j).toNat = a
  generalize signed t n (j - min i j).toNat = b
  generalize ((2 ^ (min i j + 149).toNat : Nat) : Int) = p at hp
  rw [show compare a b = compareOfLessAndEq a b from rfl, show compare (a * p) (b * p) = compareOfLessAndEq (a * p) (b * p) from rfl]
  unfold compareOfLessAndEq
  have h1 : (a * p < b * p) = (a < b) := propext ⟨fun h => Int.lt_of_mul_lt_mul_right h (Int.le_of_lt hp), fun h => Int.mul_lt_mul_of_pos_right h hp⟩
  have h2 : (a * p = b * p) = (a = b) := propext ⟨fun h => Int.eq_of_mul_eq_mul_right (Int.ne_of_gt hp) h, fun h => by rw [h]⟩
  simp only [h1, h2]
/-- A word of single precision: no number, or how it stands to others. -/
theorem cmp_lt {a b : Int} : (compare a b == Ordering.lt) = decide (a < b) := by
  rw [show compare a b = compareOfLessAndEq a b from rfl]; unfold compareOfLessAndEq
  split
  · simp [*]
  · split <;> simp [*]
theorem cmp_eq {a b : Int} : (compare a b == Ordering.eq) = decide (a = b) := by
  rw [show compare a b = compareOfLessAndEq a b from rfl]; unfold compareOfLessAndEq
  split
  · simp; omega
  · split <;> simp [*]
theorem cmp_gt {a b : Int} : (compare a b == Ordering.gt) = decide (b < a) := by
  rw [show compare a b = compareOfLessAndEq a b from rfl]; unfold compareOfLessAndEq
  split
  · simp; omega
  · split
    · simp; omega
    · simp; omega
/-! ### from nought -/
open Ieee in
theorem read_f32 (x : Nat) : single.read x = if x % 2147483648 < 8388608 then .number (x / 2147483648 % 2 == 1) (x % 2147483648) (-149) else if x % 2147483648 < 2139095040 then .number (x / 2147483648 % 2 == 1) (8388608 + x % 2147483648 % 8388608) (-149 + ((x % 2147483648 / 8388608 - 1 : Nat) : Int)) else if x % 2147483648 = 2139095040 then .infinity (x / 2147483648 % 2 == 1) else .nan (x / 2147483648 % 2 == 1) (x % 2147483648 - 2139095040) := by
  unfold Format.read
  rw [show single.binade = 8388608 from rfl, show single.infRung = 2139095040 by decide, show single.signWeight = 2147483648 from rfl, show single.leastPlace = -149 by decide]
open Ieee in
theorem read_rung {r : Nat} (h : r < 2147483648) : single.read r = if r < 8388608 then .number false r (-149) else if r < 2139095040 then .number false (8388608 + r % 8388608) (-149 + ((r / 8388608 - 1 : Nat) : Int)) else if r = 2139095040 then .infinity false else .nan false (r - 2139095040) := by
  rw [read_f32, Nat.mod_eq_of_lt h, Nat.div_eq_of_lt h]; rfl
open Ieee in
theorem word_rung (r : Nat) : single.word false r = r := rfl
open Ieee in
theorem log2_full {a : Nat} (h : a < 8388608) : (8388608 + a).log2 = 23 := by
  apply Nat.le_antisymm
  · have : (8388608 + a).log2 < 24 := (Nat.log2_lt (by omega)).2 (by omega)
    omega
  · have : ¬ (8388608 + a).log2 < 23 := fun hh => by
      have := (Nat.log2_lt (by omega)).1 hh; omega
    omega
open Ieee in
theorem near_low {r : Nat} (h0 : r ≠ 0) (h : r < 8388608) : single.nearest false r (-149) = r := by
  unfold Format.nearest
  rw [if_neg h0, show single.infRung = 2139095040 by decide, show single.binade = 8388608 from rfl, show single.leastPlace = -149 by decide, show single.fractionBits = 23 from rfl]
  have hlog : r.log2 < 23 := (Nat.log2_lt h0).2 h
  have hmax : max (-149 + (r.log2 : Int) - ((23 : Nat) : Int)) (-149) = -149 := by omega
  simp only [hmax, Int.sub_self, Int.toNat_zero, Nat.shiftLeft_zero, cut_zero, Nat.zero_mul, Nat.zero_add, word_rung]
  omega
open Ieee in
theorem near_gen (f : Format) {m : Nat} {e : Int} (h0 : m ≠ 0) (hl : m.log2 = f.fractionBits) (he : f.leastPlace ≤ e) : f.nearest false m e = min ((e - f.leastPlace).toNat * f.binade + m) f.infRung := by
  have hmax : max (e + ((f.fractionBits : Nat) : Int) - ((f.fractionBits : Nat) : Int)) f.leastPlace = e := by omega
  have hw : ∀ a : Nat, f.word false a = a := fun a => if_neg (by decide)
  unfold Format.nearest
  rw [if_neg h0, hl]
  dsimp only
  rw [hmax, Int.sub_self, Int.toNat_zero, Nat.shiftLeft_zero, cut_zero, hw]
open Ieee in
theorem near_full {r : Nat} (h0 : ¬ r < 8388608) (h : r < 2139095040) : single.nearest false (8388608 + r % 8388608) (-149 + ((r / 8388608 - 1 : Nat) : Int)) = r := by
  have hmd : r % 8388608 < 8388608 := Nat.mod_lt _ (by decide)
  have hl : single.leastPlace = -149 := by decide
  have hb : single.binade = 8388608 := rfl
  have hi : single.infRung = 2139095040 := by decide
  rw [near_gen single (by omega) (log2_full hmd) (by rw [hl]; omega), hl, hb, hi]
  have ht : (-149 + ((r / 8388608 - 1 : Nat) : Int) - -149).toNat = r / 8388608 - 1 := by omega
  rw [ht]
  have := Nat.div_add_mod r 8388608
  have h1 : 1 ≤ r / 8388608 := by omega
  have h2 : (r / 8388608 - 1) * 8388608 + (8388608 + r % 8388608) = r := by omega
  rw [h2]
  exact Nat.min_eq_left (Nat.le_of_lt h)
open Ieee in
theorem sub0_near {x m : Nat} {e : Int} (h : single.read x = .number true m e) (hm : m ≠ 0) (he : -149 ≤ e) : single.sub 0 x = some (single.nearest false m e) := by
  have h0 : single.read 0 = .number false 0 (-149) := by decide +kernel
  unfold Format.sub
  rw [h0, h]
  simp only [Datum.opposite, Datum.sum, Bool.not_true]
  have hmin : min (-149 : Int) e = -149 := by omega
  rw [hmin]
  have ht : signed false 0 (-149 - -149 : Int).toNat + signed false m (e - -149).toNat = ((m * 2 ^ (e + 149).toNat : Nat) : Int) := by
    simp [signed, Nat.shiftLeft_eq]
  rw [ht]
  have hp := Nat.two_pow_pos (e + 149).toNat
  have hne : m * 2 ^ (e + 149).toNat ≠ 0 := Nat.mul_ne_zero hm (by omega)
  rw [if_neg (by omega), Option.map_some]
  have hd : decide (((m * 2 ^ (e + 149).toNat : Nat) : Int) < 0) = false := decide_eq_false (by omega)
  rw [hd, Int.natAbs_natCast]
  show some (single.nearest false (m * 2 ^ (e + 149).toNat) (-149)) = _
  rw [nearest_shift]
  congr 2; omega
open Ieee in
theorem sub0_num {x m : Nat} {e : Int} (h : single.read x = .number true m e) (hm : m ≠ 0) : ∃ y, single.sub 0 x = some y ∧ single.read y = .number false m e := by
  refine ⟨x % 2147483648, ?_⟩
  have hr : x % 2147483648 < 2147483648 := Nat.mod_lt _ (by decide)
  have h' := h
  rw [read_f32] at h'
  rw [read_rung hr]
  by_cases h1 : x % 2147483648 < 8388608
  · rw [if_pos h1] at h' ⊢
    simp only [Datum.number.injEq] at h'
    obtain ⟨_, rfl, rfl⟩ := h'
    exact ⟨by rw [sub0_near h hm (by omega), near_low hm h1], rfl⟩
  · rw [if_neg h1] at h' ⊢
    by_cases h2 : x % 2147483648 < 2139095040
    · rw [if_pos h2] at h' ⊢
      simp only [Datum.number.injEq] at h'
      obtain ⟨_, rfl, rfl⟩ := h'
      exact ⟨by rw [sub0_near h hm (by omega), near_full h1 h2], rfl⟩
    · rw [if_neg h2] at h'
      split at h' <;> cases h'
open Ieee in
theorem sub0_inf {x : Nat} (h : single.read x = .infinity true) : ∃ y, single.sub 0 x = some y ∧ single.read y = .infinity false := by
  have h0 : single.read 0 = .number false 0 (-149) := by decide +kernel
  refine ⟨single.word false single.infRung, ?_, by decide +kernel⟩
  unfold Format.sub
  rw [h0, h]; rfl
/-! ### sizes -/
def sizI (x : Nat) : Nat := if fcmp .lss .f32 x (cz .f32 0) = true then fneg .f32 x else if fcmp .eql .f32 x (cz .f32 0) = true then cz .f32 0 else x
def sizS (x : Nat) : Nat := if fcmp .leq .f32 x (cz .f32 0) = true then fop .sub .f32 (cz .f32 0) x else x
theorem fc_lss {x y : Nat} {c : Option Ordering} (h : Ieee.single.order x y = c) : fcmp .lss .f32 x y = (c == some .lt) := by subst h; rfl
theorem fc_leq {x y : Nat} {c : Option Ordering} (h : Ieee.single.order x y = c) : fcmp .leq .f32 x y = (c == some .lt || c == some .eq) := by subst h; rfl
theorem fc_eql {x y : Nat} {c : Option Ordering} (h : Ieee.single.order x y = c) : fcmp .eql .f32 x y = (c == some .eq) := by subst h; rfl
theorem fc_gtr {x y : Nat} {c : Option Ordering} (h : Ieee.single.order x y = c) : fcmp .gtr .f32 x y = (c == some .gt) := by subst h; rfl
open Ieee in
theorem fop_sub0 {x y : Nat} (hy : single.sub 0 x = some y) (hn : (single.read y).isNaN = false) : single.read (fop .sub .f32 0 x) = single.read y := by
  have : fop .sub .f32 0 x = cz .f32 y := by
    show ((single.sub 0 x).map (cz .f32)).getD _ = _
    rw [hy]; rfl
  rw [this, cz32 _ hn]
theorem siz_not {x : Nat} {c : Option Ordering} (h : Ieee.single.order x 0 = c) (h1 : (c == some .lt) = false) (h2 : (c == some .eq) = false) : sizS x = x ∧ sizI x = x := by
  unfold sizS sizI
  rw [c0_32]
  have e1 := fc_leq h
  rw [h1, h2] at e1
  have e2 := fc_lss h
  rw [h1] at e2
  have e3 := fc_eql h
  rw [h2] at e3
  rw [if_neg (by rw [e1]; decide), if_neg (by rw [e2]; decide), if_neg (by rw [e3]; decide)]
  exact ⟨rfl, rfl⟩
theorem siz_lt {x : Nat} (h : Ieee.single.order x 0 = some .lt) : sizS x = fop .sub .f32 0 x ∧ sizI x = fneg .f32 x := by
  unfold sizS sizI
  rw [c0_32]
  have e1 := fc_leq h
  have e2 := fc_lss h
  exact ⟨if_pos (by rw [e1]; rfl), if_pos (by rw [e2]; rfl)⟩
theorem siz_0 {x : Nat} (h : Ieee.single.order x 0 = some .eq) : sizS x = fop .sub .f32 0 x ∧ sizI x = 0 := by
  unfold sizS sizI
  rw [c0_32]
  have e1 := fc_leq h
  have e2 := fc_lss h
  have e3 := fc_eql h
  refine ⟨if_pos (by rw [e1]; rfl), ?_⟩
  rw [if_neg (by rw [e2]; decide)]
  exact if_pos (by rw [e3]; rfl)
open Ieee in
theorem val_pos {m : Nat} {e : Int} (hm : m ≠ 0) : (0 : Int) < val (.number false m e) := by
  have hp := Nat.two_pow_pos (e + 149).toNat
  have hne : m * 2 ^ (e + 149).toNat ≠ 0 := Nat.mul_ne_zero hm (by omega)
  simp only [val, signed, Bool.false_eq_true, if_false, Nat.shiftLeft_eq]; omega
open Ieee in
theorem val_neg {m : Nat} {e : Int} : val (.number true m e) = - val (.number false m e) := by
  simp only [val, signed, Bool.false_eq_true, if_false, if_true]
open Ieee in
theorem read_0 : single.read 0 = .number false 0 (-149) := by decide +kernel
open Ieee in
/-- Both sizes read alike. -/
theorem siz_read (x : Nat) : single.read (sizS x) = single.read (sizI x) := by
  rcases read_single x with ⟨s, t, h⟩ | ⟨s, h⟩ | ⟨s, m, e, h, hm, he, _⟩
  · have ho : single.order x 0 = none := by unfold Format.order; rw [h]; rfl
    have := siz_not ho rfl rfl
    rw [this.1, this.2]
  · cases s
    · have ho : single.order x 0 = some .gt := by unfold Format.order; rw [h, read_0]; rfl
      have := siz_not ho rfl rfl
      rw [this.1, this.2]
    · have ho : single.order x 0 = some .lt := by unfold Format.order; rw [h, read_0]; rfl
      have := siz_lt ho
      obtain ⟨y, h1, h2⟩ := sub0_inf h
      rw [this.1, this.2, fop_sub0 h1 (by rw [h2]; rfl), h2, fneg_read (by rw [h]; rfl), h]; rfl
  · have ho : single.order x 0 = some (compare (val (.number s m e)) 0) := by
      unfold Format.order; rw [h, read_0, order_val he (by omega), show val (.number false 0 (-149)) = 0 by decide]
    by_cases hz : m = 0
    · subst hz
      have hv : val (.number s 0 e) = 0 := by cases s <;> simp [val, signed]
      rw [hv] at ho
      have := siz_0 ho
      have h1 : single.sub 0 x = some 0 := by
        unfold Format.sub
        rw [read_0, h]
        cases s <;> simp [Datum.opposite, Datum.sum, signed, Format.write, Format.nearest, Format.word]
      rw [this.1, this.2, fop_sub0 h1 (by rw [read_0]; rfl)]
    · have hv := val_pos (e := e) hz
      cases s
      · have hc : compare (val (.number false m e)) 0 = Ordering.gt := by
          have := cmp_gt (a := val (.number false m e)) (b := 0); rw [decide_eq_true hv] at this; exact eq_of_beq this
        rw [hc] at ho
        have := siz_not ho rfl rfl
        rw [this.1, this.2]
      · have hc : compare (val (.number true m e)) 0 = Ordering.lt := by
          have := cmp_lt (a := val (.number true m e)) (b := 0); rw [decide_eq_true (by rw [val_neg]; omega)] at this; exact eq_of_beq this
        rw [hc] at ho
        have := siz_lt ho
        obtain ⟨y, h1, h2⟩ := sub0_num h hz
        rw [this.1, this.2, fop_sub0 h1 (by rw [h2]; rfl), h2, fneg_read (by rw [h]; rfl), h]; rfl
theorem siz_cmp (op : BinOp) (x y : Nat) : fcmp op .f32 (sizS x) y = fcmp op .f32 (sizI x) y := by
  have h : Ieee.single.order (sizS x) y = Ieee.single.order (sizI x) y := by unfold Ieee.Format.order; rw [siz_read]
  unfold fcmp
  rw [show FloatKind.f32.format = Ieee.single from rfl, h]
theorem spec_l03Size_wp {a : Nat} {K : Nat → Prop} (h : K (sizS a)) : spec_l03Size.wp a K := by
  refine ⟨fun c => ?_, fun c => ?_⟩
  · rw [sizS, if_pos c] at h; exact h
  · rw [sizS, if_neg (by rw [c]; decide)] at h; exact h
theorem impl_size_wp {a : Nat} {K : Nat → Prop} (h : K (sizI a)) : impl_size.wp a K := by
  refine ⟨fun c => ?_, fun c => ⟨fun c2 => ?_, fun c2 => ?_⟩⟩
  · rw [sizI, if_pos c] at h; exact h
  · rw [sizI, if_neg (by rw [c]; decide), if_pos c2] at h; exact h
  · rw [sizI, if_neg (by rw [c]; decide), if_neg (by rw [c2]; decide)] at h; exact h

end Go.Proofs.Ytdoamcokkcoflaa.G

namespace Go.Proofs.Ytdoamcokkcoflaa.G
open Go Go.Ab
set_option maxRecDepth 100000
set_option linter.unusedVariables false
set_option linter.unusedSimpArgs false
set_option maxHeartbeats 1000000
open Ieee in
structure Fmt (f : Format) : Prop where
  b : f.binade = 2 ^ f.fractionBits
  i : f.infRung < f.signWeight
  r : f.infRung = (2 ^ f.exponentBits - 1) * f.binade
  x : 2 ≤ f.exponentBits
theorem fmt1 : Fmt Ieee.single := ⟨rfl, by decide, rfl, by decide⟩
theorem fmt2 : Fmt Ieee.double := ⟨rfl, by decide, rfl, by decide⟩
open Ieee in
theorem read_word {f : Format} (h : Fmt f) (s : Bool) {r : Nat} (hr : r ≤ f.infRung) : f.read (f.word s r) = if r < f.binade then .number s r f.leastPlace else if r < f.infRung then .number s (f.binade + r % f.binade) (f.leastPlace + (r / f.binade - 1 : Nat)) else .infinity s := by
  have hi := h.i
  have hl : r < f.signWeight := by omega
  have e1 : f.word s r % f.signWeight = r := by
    unfold Format.word
    split
    · rw [Nat.add_mod_left, Nat.mod_eq_of_lt hl]
    · exact Nat.mod_eq_of_lt hl
  have e2 : (f.word s r / f.signWeight % 2 == 1) = s := by
    unfold Format.word
    cases s with
    | true => rw [if_pos rfl, Nat.add_div_left _ (by omega), Nat.div_eq_of_lt hl]; rfl
    | false => rw [if_neg (by decide), Nat.div_eq_of_lt hl]; rfl
  unfold Format.read
  dsimp only
  rw [e1, e2]
  split
  · rfl
  · split
    · rfl
    · rw [if_pos (by omega)]
open Ieee in
theorem near_exact {f : Format} (h : Fmt f) (s : Bool) {M M0 k : Nat} {e : Int} (hM : M = M0 * 2 ^ k) (h0 : M0 < 2 ^ (f.fractionBits + 1)) (hL : f.leastPlace ≤ e + k) (hI : (e + k - f.leastPlace).toNat + 2 ≤ 2 ^ f.exponentBits - 1) : ∃ m e', f.read (f.nearest s M e) = .number s m e' ∧ f.leastPlace ≤ e' ∧ m * 2 ^ (e' - f.leastPlace).toNat = M0 * 2 ^ (e + k - f.leastPlace).toNat := by
  have hB := h.b
  have hBp : 0 < f.binade := by rw [hB]; exact Nat.two_pow_pos _
  generalize hp : f.fractionBits = p at *
  generalize hLL : f.leastPlace = L at *
  by_cases hz : M0 = 0
  · subst hz
    rw [Nat.zero_mul] at hM
    refine ⟨0, L, ?_, Int.le_refl _, by simp⟩
    unfold Format.nearest
    rw [if_pos hM, read_word h s (Nat.zero_le _), if_pos hBp, hLL]
  have hMz : M ≠ 0 := by rw [hM]; exact Nat.mul_ne_zero hz (by have := Nat.two_pow_pos k; omega)
  have hlog : M.log2 = M0.log2 + k := by
    refine (Nat.log2_eq_iff hMz).2 ⟨?_, ?_⟩
    · rw [hM, Nat.pow_add]; exact Nat.mul_le_mul_right _ (Nat.log2_self_le hz)
    · rw [hM, show M0.log2 + k + 1 = (M0.log2 + 1) + k by omega, Nat.pow_add]; exact Nat.mul_lt_mul_of_pos_right Nat.lt_log2_self (Nat.two_pow_pos k)
  have hg1 : M0 < 2 ^ (M0.log2 + 1) := Nat.lt_log2_self
  have hg2 : 2 ^ M0.log2 ≤ M0 := Nat.log2_self_le hz
  have hgp : M0.log2 ≤ p := by
    have := (Nat.pow_lt_pow_iff_right (a := 2) (by decide)).1 (Nat.lt_of_le_of_lt hg2 h0); omega
  generalize hg : M0.log2 = g at *
  unfold Format.nearest
  rw [if_neg hMz]
  dsimp only
  rw [hlog, hLL, hp, hB]
  generalize hla : max (e + ((g + k : Nat) : Int) - p) L = last
  have hlast : last ≤ e + k ∧ L ≤ last ∧ (last = L ∨ last = e + g + k - p) ∧ e + g + k - p ≤ last := by omega
  have hkept : Toward.even.cut s (M <<< (e - last).toNat) (last - e).toNat = M0 * 2 ^ (e + k - last).toNat := by
    unfold Toward.cut
    by_cases c : last ≤ e
    · have : (last - e).toNat = 0 := by omega
      rw [this]
      dsimp only
      rw [Nat.zero_min, Nat.shiftLeft_zero, Nat.div_one, Nat.mod_one, Nat.shiftLeft_eq, hM, Nat.mul_assoc, ← Nat.pow_add, show k + (e - last).toNat = (e + k - last).toNat by omega]
      rfl
    · have : (e - last).toNat = 0 := by omega
      rw [this, Nat.shiftLeft_zero]
      have hd : min (last - e).toNat (M.log2 + 2) = (last - e).toNat := by omega
      dsimp only
      rw [hd, Nat.shiftLeft_eq, Nat.one_mul]
      have hMe : M = M0 * 2 ^ (e + k - last).toNat * 2 ^ (last - e).toNat := by rw [hM, Nat.mul_assoc, ← Nat.pow_add]; congr 2; omega
      have hpp := Nat.two_pow_pos (last - e).toNat
      rw [hMe, Nat.mul_div_cancel _ hpp, Nat.mul_mod_left, Nat.mul_zero]
      have e1 : decide (2 ^ (last - e).toNat < 0) = false := by simp
      have e2 : (2 ^ (last - e).toNat == 0) = false := by simp
      rw [e1, e2]; rfl
  rw [hkept]
  have hkl : M0 * 2 ^ (e + k - last).toNat < 2 ^ (p + 1) := by
    have : M0 * 2 ^ (e + k - last).toNat < 2 ^ (g + 1) * 2 ^ (e + k - last).toNat := Nat.mul_lt_mul_of_pos_right hg1 (Nat.two_pow_pos _)
    refine Nat.lt_of_lt_of_le this ?_
    rw [← Nat.pow_add]
    exact Nat.pow_le_pow_right (by decide) (by omega)
  have hkb : last ≠ L → 2 ^ p ≤ M0 * 2 ^ (e + k - last).toNat := by
    intro c
    have : 2 ^ g * 2 ^ (e + k - last).toNat ≤ M0 * 2 ^ (e + k - last).toNat := Nat.mul_le_mul_right _ hg2
    refine Nat.le_trans ?_ this
    rw [← Nat.pow_add]
    exact Nat.pow_le_pow_right (by decide) (by omega)
  have hfin : M0 * 2 ^ (e + k - L).toNat = M0 * 2 ^ (e + k - last).toNat * 2 ^ (last - L).toNat := by
    rw [Nat.mul_assoc, ← Nat.pow_add]; congr 2; omega
  rw [hfin]
  generalize M0 * 2 ^ (e + k - last).toNat = q at *
  rw [Nat.pow_succ] at hkl
  rw [hB] at hBp
  have hinf : (last - L).toNat * 2 ^ p + q < f.infRung := by
    rw [h.r, hB]
    generalize hE : 2 ^ f.exponentBits - 1 = E at *
    have h1 : ((last - L).toNat + 2) * 2 ^ p ≤ E * 2 ^ p := Nat.mul_le_mul_right _ (by omega)
    rw [Nat.add_mul] at h1
    omega
  rw [Nat.min_eq_left (by omega), read_word h s (by omega), hB]
  by_cases c : q < 2 ^ p
  · have hl : last = L := by
      by_cases c2 : last = L
      · exact c2
      · have := hkb c2; omega
    subst hl
    refine ⟨q, last, ?_, Int.le_refl _, rfl⟩
    rw [show (last - last).toNat = 0 by omega, Nat.zero_mul, Nat.zero_add, if_pos c, hLL]
  · refine ⟨q, last, ?_, hlast.2.1, rfl⟩
    generalize ha : (last - L).toNat = a at *
    have h1 : (a * 2 ^ p + q) / 2 ^ p = a + 1 := by
      rw [Nat.mul_comm, Nat.mul_add_div hBp]
      congr 1
      rw [show q = (q - 2 ^ p) + 2 ^ p by omega, Nat.add_div_right _ hBp, Nat.div_eq_of_lt (by omega)]
    have h2 : (a * 2 ^ p + q) % 2 ^ p = q - 2 ^ p := by
      rw [Nat.mul_comm, Nat.mul_add_mod, Nat.mod_eq_sub_mod (by omega), Nat.mod_eq_of_lt (by omega)]
    have h3 : ¬ a * 2 ^ p + q < 2 ^ p := by omega
    rw [if_neg h3, if_pos hinf, h1, h2, hLL]
    congr 1
    · omega
    · omega
open Ieee in
theorem near_units {f : Format} (h : Fmt f) (hU : (-10 - f.leastPlace).toNat + f.fractionBits + 3 ≤ 2 ^ f.exponentBits - 1) (hL : f.leastPlace ≤ -10) (s : Bool) {M v : Nat} {e : Int} (hLe : M = 0 ∨ f.leastPlace ≤ e ∧ M * 2 ^ (e - f.leastPlace).toNat = v * 2 ^ (-10 - f.leastPlace).toNat) (hv : M = 0 → v = 0) (hb : v < 2 ^ (f.fractionBits + 1)) : ∃ m e', f.read (f.nearest s M e) = .number s m e' ∧ f.leastPlace ≤ e' ∧ m * 2 ^ (e' - f.leastPlace).toNat = v * 2 ^ (-10 - f.leastPlace).toNat := by
  by_cases hM : M = 0
  · refine ⟨0, f.leastPlace, ?_, Int.le_refl _, by rw [hv hM]; simp⟩
    unfold Format.nearest
    have hBp : 0 < f.binade := by rw [h.b]; exact Nat.two_pow_pos _
    rw [if_pos hM, read_word h s (Nat.zero_le _), if_pos hBp]
  have hLe : f.leastPlace ≤ e ∧ M * 2 ^ (e - f.leastPlace).toNat = v * 2 ^ (-10 - f.leastPlace).toNat := by
    rcases hLe with c | c
    · exact absurd c hM
    · exact c
  obtain ⟨hLe, hE⟩ := hLe
  by_cases c : e ≤ -10
  · have h1 : (-10 - f.leastPlace).toNat = (-10 - e).toNat + (e - f.leastPlace).toNat := by omega
    have h2 : M = v * 2 ^ (-10 - e).toNat := by
      rw [h1, Nat.pow_add, ← Nat.mul_assoc] at hE
      exact Nat.eq_of_mul_eq_mul_right (Nat.two_pow_pos _) hE
    have h3 : e + ((-10 - e).toNat : Nat) = -10 := by omega
    obtain ⟨m, e', r1, r2, r3⟩ := near_exact h s (e := e) h2 hb (by rw [h3]; exact hL) (by rw [h3]; omega)
    rw [h3] at r3
    exact ⟨m, e', r1, r2, r3⟩
  · have h1 : (e - f.leastPlace).toNat = (e + 10).toNat + (-10 - f.leastPlace).toNat := by omega
    have h2 : M * 2 ^ (e + 10).toNat = v := by
      rw [h1, Nat.pow_add, ← Nat.mul_assoc] at hE
      exact Nat.eq_of_mul_eq_mul_right (Nat.two_pow_pos _) hE
    have hM1 : M ≤ v := by
      rw [← h2]; exact Nat.le_mul_of_pos_right _ (Nat.two_pow_pos _)
    have h3 : 2 ^ (e + 10).toNat < 2 ^ (f.fractionBits + 1) := by
      refine Nat.lt_of_le_of_lt ?_ hb
      rw [← h2]; exact Nat.le_mul_of_pos_left _ (by omega)
    have h4 := (Nat.pow_lt_pow_iff_right (a := 2) (by decide)).1 h3
    obtain ⟨m, e', r1, r2, r3⟩ := near_exact h s (M := M) (M0 := M) (k := 0) (e := e) (by simp) (by omega) (by omega) (by omega)
    refine ⟨m, e', r1, r2, ?_⟩
    rw [r3, ← hE]; congr 2; omega
open Ieee in
def vD (L : Int) (s : Bool) (m : Nat) (e : Int) : Int := signed s m (e - L).toNat
theorem vD_abs (L : Int) (s : Bool) (m : Nat) (e : Int) : (vD L s m e).natAbs = m * 2 ^ (e - L).toNat := by
  unfold vD Ieee.signed
  rw [Nat.shiftLeft_eq]
  cases s
  · simp only [Bool.false_eq_true, if_false]; exact Int.natAbs_natCast _
  · simp only [if_true, Int.natAbs_neg]; exact Int.natAbs_natCast _
theorem vD_sign (L : Int) (s : Bool) (m : Nat) (e : Int) : (s = true → vD L s m e ≤ 0) ∧ (s = false → 0 ≤ vD L s m e) := by
  unfold vD Ieee.signed
  cases s
  · refine ⟨fun c => (by cases c), fun _ => ?_⟩; simp only [Bool.false_eq_true, if_false]; exact Int.natCast_nonneg _
  · refine ⟨fun _ => ?_, fun c => (by cases c)⟩; simp only [if_true]; exact Int.neg_nonpos_of_nonneg (Int.natCast_nonneg _)
/-- A word that stands for v / 1024. -/
def Dv (k : FloatKind) (x : Nat) (v : Int) : Prop := ∃ s m e, k.format.read x = .number s m e ∧ k.format.leastPlace ≤ e ∧ vD k.format.leastPlace s m e = v * (2 ^ (-10 - k.format.leastPlace).toNat : Nat)
def isFk (k : FloatKind) : Prop := Fmt k.format ∧ (-10 - k.format.leastPlace).toNat + k.format.fractionBits + 3 ≤ 2 ^ k.format.exponentBits - 1 ∧ k.format.leastPlace ≤ -10
theorem fk1 : isFk .f32 := ⟨fmt1, by decide, by decide⟩
theorem fk2 : isFk .f64 := ⟨fmt2, by decide, by decide⟩
theorem unit_pos (n : Nat) : (0 : Int) < ((2 ^ n : Nat) : Int) := by have := Nat.two_pow_pos n; omega
theorem dv_near {k : FloatKind} (hk : isFk k) {s : Bool} {M : Nat} {v e : Int} (hLe : M = 0 ∨ k.format.leastPlace ≤ e ∧ M * 2 ^ (e - k.format.leastPlace).toNat = v.natAbs * 2 ^ (-10 - k.format.leastPlace).toNat) (hv : M = 0 → v = 0) (hb : v.natAbs < 2 ^ (k.format.fractionBits + 1)) (hs : (s = true → v ≤ 0) ∧ (s = false → 0 ≤ v)) : Dv k (k.format.nearest s M e) v := by
  obtain ⟨m, e', r1, r2, r3⟩ := near_units hk.1 hk.2.1 hk.2.2 s (v := v.natAbs) hLe (fun c => by rw [hv c]; rfl) hb
  refine ⟨s, m, e', r1, r2, ?_⟩
  have h1 := vD_abs k.format.leastPlace s m e'
  have h2 := vD_sign k.format.leastPlace s m e'
  rw [r3] at h1
  generalize vD k.format.leastPlace s m e' = V at *
  have h3 : (v * ((2 ^ (-10 - k.format.leastPlace).toNat : Nat) : Int)).natAbs = v.natAbs * 2 ^ (-10 - k.format.leastPlace).toNat := by rw [Int.natAbs_mul]; rfl
  have hp := unit_pos (-10 - k.format.leastPlace).toNat
  rw [← h3] at h1
  cases s with
  | true =>
    have h4 : v * ((2 ^ (-10 - k.format.leastPlace).toNat : Nat) : Int) ≤ 0 := Int.mul_nonpos_of_nonpos_of_nonneg (hs.1 rfl) (Int.le_of_lt hp)
    have := h2.1 rfl; omega
  | false =>
    have h4 : 0 ≤ v * ((2 ^ (-10 - k.format.leastPlace).toNat : Nat) : Int) := Int.mul_nonneg (hs.2 rfl) (Int.le_of_lt hp)
    have := h2.2 rfl; omega
theorem dv_cz {k : FloatKind} {x : Nat} {v : Int} (h : Dv k x v) : cz k x = x := by
  obtain ⟨s, m, e, r, _⟩ := h
  unfold cz
  rw [show k.decode x = k.format.read x from rfl, r]; rfl
open Ieee in
theorem sum_num {L : Int} {s t : Bool} {m n : Nat} {i j : Int} (hi : L ≤ i) (hj : L ≤ j) : ∃ u M b, (Datum.number s m i).sum (.number t n j) = some (.number u M b) ∧ L ≤ b ∧ M * 2 ^ (b - L).toNat = (vD L s m i + vD L t n j).natAbs ∧ (u = true → vD L s m i + vD L t n j ≤ 0) ∧ (u = false → 0 ≤ vD L s m i + vD L t n j) := by
  have e1 : vD L s m i = signed s m (i - min i j).toNat * (2 ^ (min i j - L).toNat : Nat) := by
    unfold vD; rw [← signed_up]; congr 1; omega
  have e2 : vD L t n j = signed t n (j - min i j).toNat * (2 ^ (min i j - L).toNat : Nat) := by
    unfold vD; rw [← signed_up]; congr 1; omega
  rw [e1, e2]
  have hp := unit_pos (min i j - L).toNat
  refine ⟨_, _, _, rfl, by omega, ?_, ?_, ?_⟩
  · rw [← Int.add_mul, Int.natAbs_mul]; rfl
  · intro c
    rw [← Int.add_mul]
    refine Int.mul_nonpos_of_nonpos_of_nonneg ?_ (Int.le_of_lt hp)
    by_cases hz : signed s m (i - min i j).toNat + signed t n (j - min i j).toNat = 0
    · omega
    · rw [if_neg hz] at c; have := of_decide_eq_true c; omega
  · intro c
    rw [← Int.add_mul]
    refine Int.mul_nonneg ?_ (Int.le_of_lt hp)
    by_cases hz : signed s m (i - min i j).toNat + signed t n (j - min i j).toNat = 0
    · omega
    · rw [if_neg hz] at c; have := of_decide_eq_false c; omega
theorem dv_sumw {k : FloatKind} (hk : isFk k) {s t : Bool} {m n : Nat} {i j : Int} {a b : Int} (hi : k.format.leastPlace ≤ i) (hj : k.format.leastPlace ≤ j) (ha : vD k.format.leastPlace s m i = a * (2 ^ (-10 - k.format.leastPlace).toNat : Nat)) (hb : vD k.format.leastPlace t n j = b * (2 ^ (-10 - k.format.leastPlace).toNat : Nat)) (hab : (a + b).natAbs < 2 ^ (k.format.fractionBits + 1)) : ∃ z, ((Ieee.Datum.number s m i).sum (.number t n j)).map k.format.write = some z ∧ Dv k z (a + b) := by
  obtain ⟨u, M, c, h1, h2, h3, h4, h5⟩ := sum_num (s := s) (t := t) (m := m) (n := n) hi hj
  have hp := unit_pos (-10 - k.format.leastPlace).toNat
  rw [ha, hb, ← Int.add_mul] at h3 h4 h5
  refine ⟨_, by rw [h1]; rfl, ?_⟩
  rw [Int.natAbs_mul] at h3
  have h3' : M * 2 ^ (c - k.format.leastPlace).toNat = (a + b).natAbs * 2 ^ (-10 - k.format.leastPlace).toNat := h3
  refine dv_near hk (.inr ⟨h2, h3'⟩) (fun c => ?_) hab ⟨fun c => ?_, fun c => ?_⟩
  · rw [c, Nat.zero_mul] at h3'
    have := Nat.two_pow_pos (-10 - k.format.leastPlace).toNat
    rcases Nat.mul_eq_zero.1 h3'.symm with d | d
    · omega
    · omega
  · exact Int.not_lt.1 fun d => by have := Int.mul_pos d hp; have := h4 c; omega
  · exact Int.not_lt.1 fun d => by have := Int.mul_neg_of_neg_of_pos d hp; have := h5 c; omega
theorem fop_some {op : BinOp} {k : FloatKind} {x y z : Nat} {v : Int} (h : floatBits op k x y = some z) (hz : Dv k z v) : Dv k (fop op k x y) v := by
  unfold fop
  rw [h]
  show Dv k (cz k z) v
  rw [dv_cz hz]; exact hz
theorem dv_add {k : FloatKind} (hk : isFk k) {x y : Nat} {a b : Int} (hx : Dv k x a) (hy : Dv k y b) (hab : (a + b).natAbs < 2 ^ (k.format.fractionBits + 1)) : Dv k (fop .add k x y) (a + b) := by
  obtain ⟨s, m, i, r1, l1, v1⟩ := hx
  obtain ⟨t, n, j, r2, l2, v2⟩ := hy
  obtain ⟨z, h1, h2⟩ := dv_sumw hk l1 l2 v1 v2 hab
  refine fop_some (z := z) ?_ h2
  show k.format.add x y = some z
  unfold Ieee.Format.add
  rw [r1, r2]; exact h1
theorem vD_not (L : Int) (s : Bool) (m : Nat) (e : Int) : vD L (!s) m e = - vD L s m e := by
  unfold vD Ieee.signed; cases s <;> simp
theorem dv_sub {k : FloatKind} (hk : isFk k) {x y : Nat} {a b : Int} (hx : Dv k x a) (hy : Dv k y b) (hab : (a - b).natAbs < 2 ^ (k.format.fractionBits + 1)) : Dv k (fop .sub k x y) (a - b) := by
  obtain ⟨s, m, i, r1, l1, v1⟩ := hx
  obtain ⟨t, n, j, r2, l2, v2⟩ := hy
  obtain ⟨z, h1, h2⟩ := dv_sumw hk (t := !t) (b := -b) l1 l2 v1 (by rw [vD_not, v2, Int.neg_mul]) hab
  refine fop_some (z := z) ?_ h2
  show k.format.sub x y = some z
  unfold Ieee.Format.sub
  rw [r1, r2]; exact h1
/-! ### how they stand to others -/
open Ieee in
theorem order_vD {L : Int} {s t : Bool} {m n : Nat} {i j : Int} (hi : L ≤ i) (hj : L ≤ j) : (Datum.number s m i).order (.number t n j) = some (compare (vD L s m i) (vD L t n j)) := by
  have e1 : vD L s m i = signed s m (i - min i j).toNat * (2 ^ (min i j - L).toNat : Nat) := by
    unfold vD; rw [← signed_up]; congr 1; omega
  have e2 : vD L t n j = signed t n (j - min i j).toNat * (2 ^ (min i j - L).toNat : Nat) := by
    unfold vD; rw [← signed_up]; congr 1; omega
  rw [e1, e2]
  show some (compare (signed s m (i - min i j).toNat) (signed t n (j - min i j).toNat)) = _
  congr 1
  have hp := unit_pos (min i j - L).toNat
  generalize signed s m (i - min i j).toNat = a
  generalize signed t n (j - min i j).toNat = b
  generalize ((2 ^ (min i j - L).toNat : Nat) : Int) = p at hp
  rw [show compare a b = compareOfLessAndEq a b from rfl, show compare (a * p) (b * p) = compareOfLessAndEq (a * p) (b * p) from rfl]
  unfold compareOfLessAndEq
  have h1 : (a * p < b * p) = (a < b) := propext ⟨fun h => Int.lt_of_mul_lt_mul_right h (Int.le_of_lt hp), fun h => Int.mul_lt_mul_of_pos_right h hp⟩
  have h2 : (a * p = b * p) = (a = b) := propext ⟨fun h => Int.eq_of_mul_eq_mul_right (Int.ne_of_gt hp) h, fun h => by rw [h]⟩
  simp only [h1, h2]
theorem dv_order {k : FloatKind} {x y : Nat} {a b : Int} (hx : Dv k x a) (hy : Dv k y b) : k.format.order x y = some (compare a b) := by
  obtain ⟨s, m, i, r1, l1, v1⟩ := hx
  obtain ⟨t, n, j, r2, l2, v2⟩ := hy
  unfold Ieee.Format.order
  rw [r1, r2, order_vD l1 l2, v1, v2]
  congr 1
  have hp := unit_pos (-10 - k.format.leastPlace).toNat
  generalize ((2 ^ (-10 - k.format.leastPlace).toNat : Nat) : Int) = p at hp
  rw [show compare a b = compareOfLessAndEq a b from rfl, show compare (a * p) (b * p) = compareOfLessAndEq (a * p) (b * p) from rfl]
  unfold compareOfLessAndEq
  have h1 : (a * p < b * p) = (a < b) := propext ⟨fun h => Int.lt_of_mul_lt_mul_right h (Int.le_of_lt hp), fun h => Int.mul_lt_mul_of_pos_right h hp⟩
  have h2 : (a * p = b * p) = (a = b) := propext ⟨fun h => Int.eq_of_mul_eq_mul_right (Int.ne_of_gt hp) h, fun h => by rw [h]⟩
  simp only [h1, h2]
theorem cmp_le' {a b : Int} : (some (compare a b) == some Ordering.lt || some (compare a b) == some Ordering.eq) = decide (a ≤ b) := by
  have h1 := cmp_lt (a := a) (b := b); have h2 := cmp_eq (a := a) (b := b)
  show (compare a b == Ordering.lt || compare a b == Ordering.eq) = _
  rw [h1, h2, ← Bool.decide_or]
  exact decide_eq_decide.2 ⟨fun c => by omega, fun c => by omega⟩
theorem dv_lss {k : FloatKind} {x y : Nat} {a b : Int} (hx : Dv k x a) (hy : Dv k y b) : fcmp .lss k x y = decide (a < b) := by
  unfold fcmp; dsimp only; rw [dv_order hx hy]; exact cmp_lt
theorem dv_gtr {k : FloatKind} {x y : Nat} {a b : Int} (hx : Dv k x a) (hy : Dv k y b) : fcmp .gtr k x y = decide (b < a) := by
  unfold fcmp; dsimp only; rw [dv_order hx hy]; exact cmp_gt
theorem dv_eql {k : FloatKind} {x y : Nat} {a b : Int} (hx : Dv k x a) (hy : Dv k y b) : fcmp .eql k x y = decide (a = b) := by
  unfold fcmp; dsimp only; rw [dv_order hx hy]; exact cmp_eq
theorem dv_leq {k : FloatKind} {x y : Nat} {a b : Int} (hx : Dv k x a) (hy : Dv k y b) : fcmp .leq k x y = decide (a ≤ b) := by
  unfold fcmp; dsimp only; rw [dv_order hx hy]; exact cmp_le'
theorem dv_neq {k : FloatKind} {x y : Nat} {a b : Int} (hx : Dv k x a) (hy : Dv k y b) : fcmp .neq k x y = !decide (a = b) := by
  unfold fcmp; dsimp only; rw [dv_order hx hy]; show (!(compare a b == Ordering.eq)) = _; rw [cmp_eq]
/-- Against a word that is no such number. -/
theorem dv_order2 {k : FloatKind} {x y : Nat} {a : Int} {t : Bool} {n : Nat} {j : Int} (hx : Dv k x a) (hy : k.format.read y = .number t n j) (hj : k.format.leastPlace ≤ j) : k.format.order x y = some (compare (a * (2 ^ (-10 - k.format.leastPlace).toNat : Nat)) (vD k.format.leastPlace t n j)) := by
  obtain ⟨s, m, i, r1, l1, v1⟩ := hx
  unfold Ieee.Format.order
  rw [r1, hy, order_vD l1 hj, v1]
theorem dv_gtr2 {k : FloatKind} {x y : Nat} {a : Int} {t : Bool} {n : Nat} {j : Int} (hx : Dv k x a) (hy : k.format.read y = .number t n j) (hj : k.format.leastPlace ≤ j) : fcmp .gtr k x y = decide (vD k.format.leastPlace t n j < a * (2 ^ (-10 - k.format.leastPlace).toNat : Nat)) := by
  unfold fcmp; dsimp only; rw [dv_order2 hx hy hj]; exact cmp_gt
theorem dv_leq2 {k : FloatKind} {x y : Nat} {a : Int} {t : Bool} {n : Nat} {j : Int} (hx : Dv k x a) (hy : k.format.read y = .number t n j) (hj : k.format.leastPlace ≤ j) : fcmp .leq k x y = decide (a * (2 ^ (-10 - k.format.leastPlace).toNat : Nat) ≤ vD k.format.leastPlace t n j) := by
  unfold fcmp; dsimp only; rw [dv_order2 hx hy hj]; exact cmp_le'
/-! ### halves, and wider words -/
theorem dv_half {x : Nat} {a : Int} (hx : Dv .f32 x (2 * a)) (ha : a.natAbs < 2 ^ 24) : Dv .f32 (fop .mul .f32 1056964608 x) a := by
  obtain ⟨s, m, e, r, l, v⟩ := hx
  have hl : (FloatKind.f32.format).leastPlace = -149 := by decide
  have hr : (FloatKind.f32.format).read 1056964608 = .number false 8388608 (-24) := by decide +kernel
  have hm : m < 2 ^ 24 := by
    rcases read_single x with ⟨s', t, h⟩ | ⟨s', h⟩ | ⟨s', m', e', h, h1, h2, h3⟩
    · rw [show (FloatKind.f32.format).read x = Ieee.single.read x from rfl, h] at r; cases r
    · rw [show (FloatKind.f32.format).read x = Ieee.single.read x from rfl, h] at r; cases r
    · rw [show (FloatKind.f32.format).read x = Ieee.single.read x from rfl, h] at r; cases r; exact h1
  have h1 := vD_abs (-149) s m e
  have h2 := vD_sign (-149) s m e
  rw [hl] at l v
  rw [v] at h1 h2
  have hp := unit_pos (-10 - -149 : Int).toNat
  rw [Int.natAbs_mul] at h1
  have h1 : (2 * a).natAbs * 2 ^ 139 = m * 2 ^ (e - -149).toNat := h1
  have hz : m = 0 → a = 0 := by
    intro c; rw [c, Nat.zero_mul] at h1
    have := Nat.two_pow_pos 139
    rcases Nat.mul_eq_zero.1 h1 with d | d <;> omega
  refine fop_some (z := (FloatKind.f32.format).nearest s (8388608 * m) (-24 + e)) ?_ (dv_near fk1 ?_ (fun c => hz (by omega)) ha ⟨fun c => ?_, fun c => ?_⟩)
  · show (FloatKind.f32.format).mul 1056964608 x = _
    unfold Ieee.Format.mul
    rw [hr, r]
    show some ((FloatKind.f32.format).nearest (false ^^ s) _ _) = _
    rw [Bool.false_xor]
  · by_cases c : m = 0
    · left; rw [c]
    right
    have hbig : 115 < (e - -149).toNat := by
      have ha0 : a ≠ 0 := by
        intro d
        rw [d] at h1
        have h1 : 0 = m * 2 ^ (e - -149).toNat := by rw [← h1]; rfl
        have := Nat.two_pow_pos (e - -149).toNat
        rcases Nat.mul_eq_zero.1 h1.symm with d | d <;> omega
      have h3 : 2 ^ 139 ≤ m * 2 ^ (e - -149).toNat := by rw [← h1]; exact Nat.le_mul_of_pos_left _ (by omega)
      have h4 : m * 2 ^ (e - -149).toNat < 2 ^ 24 * 2 ^ (e - -149).toNat := Nat.mul_lt_mul_of_pos_right hm (Nat.two_pow_pos _)
      rw [← Nat.pow_add] at h4
      have := (Nat.pow_lt_pow_iff_right (a := 2) (by decide)).1 (Nat.lt_of_le_of_lt h3 h4); omega
    rw [hl]
    refine ⟨by omega, ?_⟩
    have h5 : (e - -149).toNat = (-24 + e - -149).toNat + 24 := by omega
    rw [h5, Nat.pow_add] at h1
    show 8388608 * m * 2 ^ (-24 + e - -149).toNat = a.natAbs * 2 ^ 139
    generalize 2 ^ (-24 + e - -149).toNat = q at *
    have h6 : (2 * a).natAbs = 2 * a.natAbs := by omega
    rw [h6] at h1
    have h7 : m * (q * 2 ^ 24) = 2 * (8388608 * m * q) := by
      rw [show (2 : Nat) ^ 24 = 2 * 8388608 by decide, ← Nat.mul_assoc, ← Nat.mul_assoc, Nat.mul_comm (m * q) 2, Nat.mul_assoc, Nat.mul_assoc 8388608 m q, Nat.mul_comm (m * q)]
    rw [h7, Nat.mul_assoc] at h1
    omega
  · exact Int.not_lt.1 fun d => by have := Int.mul_pos (show (0 : Int) < 2 * a by omega) hp; have := h2.1 c; omega
  · exact Int.not_lt.1 fun d => by have := Int.mul_neg_of_neg_of_pos (show 2 * a < 0 by omega) hp; have := h2.2 c; omega
theorem dv_widen {x : Nat} {a : Int} (hx : Dv .f32 x a) (ha : a.natAbs < 2 ^ 53) : Dv .f64 (widen x) a := by
  obtain ⟨s, m, e, r, l, v⟩ := hx
  have hl : (FloatKind.f32.format).leastPlace = -149 := by decide
  have hl2 : (FloatKind.f64.format).leastPlace = -1074 := by decide
  have h1 := vD_abs (-149) s m e
  have h2 := vD_sign (-149) s m e
  rw [hl] at l v
  rw [v] at h1 h2
  have hp := unit_pos (-10 - -149 : Int).toNat
  rw [Int.natAbs_mul] at h1
  have h1 : a.natAbs * 2 ^ 139 = m * 2 ^ (e - -149).toNat := h1
  have hn : Dv .f64 ((FloatKind.f64.format).nearest s m e) a := by
    refine dv_near fk2 (.inr ?_) (fun c => ?_) ha ⟨fun c => ?_, fun c => ?_⟩
    · rw [hl2]
      refine ⟨by omega, ?_⟩
      obtain ⟨w, hw⟩ : ∃ w : Nat, w = 925 := ⟨_, rfl⟩
      rw [show (e - -1074).toNat = (e - -149).toNat + w by omega, Nat.pow_add, ← Nat.mul_assoc, ← h1, Nat.mul_assoc, ← Nat.pow_add]
      congr 2
      omega
    · rw [c, Nat.zero_mul] at h1
      have := Nat.two_pow_pos 139
      rcases Nat.mul_eq_zero.1 h1 with d | d <;> omega
    · exact Int.not_lt.1 fun d => by have := Int.mul_pos d hp; have := h2.1 c; omega
    · exact Int.not_lt.1 fun d => by have := Int.mul_neg_of_neg_of_pos d hp; have := h2.2 c; omega
  have hw : fconv .f32 x .f64 = some ((FloatKind.f64.format).nearest s m e) := by
    unfold fconv
    rw [if_neg (by decide), show FloatKind.f32.decode x = (FloatKind.f32.format).read x from rfl, r]
    dsimp only
    have he : FloatKind.f64.encode (.number s m e) = (FloatKind.f64.format).nearest s m e := rfl
    rw [he, dv_cz hn]
    obtain ⟨s', m', e', r', _⟩ := hn
    rw [show FloatKind.f64.decode _ = (FloatKind.f64.format).read _ from rfl, r']; rfl
  unfold widen
  rw [hw]; exact hn

end Go.Proofs.Ytdoamcokkcoflaa.G

namespace Go.Proofs.Ytdoamcokkcoflaa.G
open Go Go.Ab
set_option maxRecDepth 100000
set_option linter.unusedVariables false
set_option linter.unusedSimpArgs false
set_option maxHeartbeats 1000000
def gridLen (n : Nat) : Bool := decide (n = 2) || decide (n = 3) || decide (n = 5) || decide (n = 9) || decide (n = 17) || decide (n = 33) || decide (n = 65)
def isGr (l : List Nat) : Bool := gridLen l.length && pAll l
theorem grid_bits : ∀ n : Nat, n < 65 → 1 ≤ n → decide (ibits .and .i64 (n : Int) (IntKind.i64.wrap ((n : Int) - 1)) = 0) = gridLen (n + 1) := by decide +kernel
theorem grid_small {n : Nat} (h : gridLen n = true) : n = 2 ∨ n = 3 ∨ n = 5 ∨ n = 9 ∨ n = 17 ∨ n = 33 ∨ n = 65 := by
  simp [gridLen] at h; omega
theorem gr_yes {l : List Nat} (h : l.length = 2 ∨ l.length = 3 ∨ l.length = 5 ∨ l.length = 9 ∨ l.length = 17 ∨ l.length = 33 ∨ l.length = 65) : isGr l = pAll l := by
  have : gridLen l.length = true := by simp [gridLen]; omega
  rw [isGr, this, Bool.true_and]
theorem gr_no {l : List Nat} (h : ¬ (l.length = 2 ∨ l.length = 3 ∨ l.length = 5 ∨ l.length = 9 ∨ l.length = 17 ∨ l.length = 33 ∨ l.length = 65)) : isGr l = false := by
  have : gridLen l.length = false := by simp [gridLen]; omega
  rw [isGr, this, Bool.false_and]
theorem gr_grid {l : List Nat} (h : isGr l = true) : gridLen l.length = true := by
  simp only [isGr, Bool.and_eq_true] at h; exact h.1
theorem impl_isGrid_wp {l : List Nat} {K : Bool → Prop} (hl : l.length ≤ 2 ^ 20) (h : K (isGr l)) : impl_isGrid.wp l K := by
  have e : IntKind.i64.wrap ((l.length : Int) - 1) = (l.length : Int) - 1 := wI (by omega)
  unfold impl_isGrid.wp
  rw [e]
  refine ⟨fun c1 => ⟨fun c2 => ?_, fun c2 => ?_⟩, fun c1 => ?_⟩
  · have hb := grid_bits (l.length - 1) (by omega) (by omega)
    rw [show ((l.length - 1 : Nat) : Int) = (l.length : Int) - 1 by omega, show l.length - 1 + 1 = l.length by omega] at hb
    refine ⟨fun c3 => impl_areFinite1_wp hl ?_, fun c3 => ?_⟩
    · rw [decide_eq_true c3] at hb
      rw [isGr, ← hb, Bool.true_and] at h; exact h
    · rw [decide_eq_false c3] at hb
      rw [isGr, ← hb, Bool.false_and] at h; exact h
  · rw [gr_no (by omega)] at h; exact h
  · rw [gr_no (by omega)] at h; exact h
theorem impl_copyOf_wp {l : List Nat} {K : List Nat → Prop} (hl : l.length ≤ 2 ^ 20) (h : K l) : impl_copyOf.wp l K :=
  ⟨by simp only [List.length_nil]; omega, h⟩
def half (x : Nat) : Nat := fop .mul .f32 1056964608 x
theorem cz_half : cz .f32 1056964608 = 1056964608 := by decide +kernel
theorem cz_two : cz .f32 1073741824 = 1073741824 := by decide +kernel
theorem getD_in0 (l : List Nat) {i : Nat} (hi : i < l.length) : l.getD i 0 = l[i] := by simp [List.getD, List.getElem?_eq_getElem hi]
/-! ### from a surplus -/
def frStep (l : List Nat) (h i : Nat) : List Nat := l.set i (fop .add .f32 (l.getD i 0) (half (fop .add .f32 (l.getD (i - h) 0) (l.getD (i + h) 0))))
def frIn (n h : Nat) : Nat → Nat → List Nat → List Nat
  | 0, _, l => l
  | f + 1, i, l => if i + 1 < n then frIn n h f (i + 2 * h) (frStep l h i) else l
def frOut (n : Nat) : Nat → Nat → List Nat → List Nat
  | 0, _, l => l
  | f + 1, h, l => if 1 ≤ h then frOut n f (h / 2) (frIn n h n h l) else l
theorem frStep_len (l : List Nat) (h i : Nat) : (frStep l h i).length = l.length := by simp [frStep]
theorem frIn_len (n h : Nat) : ∀ (f i : Nat) (l : List Nat), (frIn n h f i l).length = l.length
  | 0, _, _ => rfl
  | f + 1, i, l => by
    rw [frIn]; split
    · rw [frIn_len n h f, frStep_len]
    · rfl
theorem frOut_len (n : Nat) : ∀ (f h : Nat) (l : List Nat), (frOut n f h l).length = l.length
  | 0, _, _ => rfl
  | f + 1, h, l => by
    rw [frOut]; split
    · rw [frOut_len n f, frIn_len]
    · rfl
def fromL (l : List Nat) : List Nat := frOut l.length 64 ((l.length - 1) / 2) l
theorem fromL_len (l : List Nat) : (fromL l).length = l.length := frOut_len ..
def isStep (n h : Nat) : Prop := (h = 1 ∨ h = 2 ∨ h = 4 ∨ h = 8 ∨ h = 16 ∨ h = 32) ∧ (n - 1) % (2 * h) = 0
theorem step_half {n h : Nat} (hs : isStep n h) : h / 2 = 0 ∨ isStep n (h / 2) := by
  obtain ⟨h1, h2⟩ := hs
  rcases h1 with rfl | rfl | rfl | rfl | rfl | rfl
  · left; rfl
  all_goals right; refine ⟨by omega, by omega⟩
theorem from_loop {n : Nat} (hg : gridLen n = true) {X : List Nat → Int → Prop} {E : List Nat → Prop} (hX : ∀ (o : List Nat) (h : Nat), o.length = n → h ≤ 32 → (1 ≤ h → isStep n h) → (1 ≤ h → X (frIn n h n h o) ((h / 2 : Nat) : Int)) → (¬ 1 ≤ h → E o) → X o (h : Int)) {l : List Nat} (hl : l.length = n) (hend : E (fromL l)) : X l (((n - 1) / 2 : Nat) : Int) := by
  have key : ∀ (f h : Nat) (o : List Nat), h < f → (h = 0 ∨ isStep n h) → o.length = n → E (frOut n f h o) → X o (h : Int) := by
    intro f
    induction f with
    | zero => intro h o h1; omega
    | succ f ih =>
      intro h o h1 h2 h3 h4
      have h32 : h ≤ 32 := by rcases h2 with h2 | h2; omega; have := h2.1; omega
      refine hX o h h3 h32 (fun c => by rcases h2 with h2 | h2; omega; exact h2) (fun c => ?_) (fun c => ?_)
      · rw [frOut, if_pos c] at h4
        have hs : isStep n h := by rcases h2 with h2 | h2; omega; exact h2
        exact ih (h / 2) _ (by omega) (step_half hs) (by rw [frIn_len]; exact h3) h4
      · rw [frOut, if_neg c] at h4; exact h4
  have hn := grid_small hg
  refine key 64 ((n - 1) / 2) l (by omega) ?_ hl (by rw [fromL, hl] at hend; exact hend)
  rcases hn with h | h | h | h | h | h | h <;> rw [h] <;> simp [isStep]
theorem from_in {n h : Nat} (hs : isStep n h) {X : List Nat → Int → Prop} {E : List Nat → Prop} (hX : ∀ (o : List Nat) (i : Nat), o.length = n → h ≤ i → i ≤ n + 64 → (i + 1 < n → i + h < n) → (i + 1 < n → X (frStep o h i) ((i + 2 * h : Nat) : Int)) → (¬ i + 1 < n → E o) → X o (i : Int)) {l : List Nat} (hl : l.length = n) (hend : E (frIn n h n h l)) : X l (h : Int) := by
  have hh : 1 ≤ h ∧ h ≤ 32 := by have := hs.1; omega
  have key : ∀ (f i : Nat) (o : List Nat), n ≤ f + i → h ≤ i → i ≤ n + 64 → i % (2 * h) = h → o.length = n → E (frIn n h f i o) → X o (i : Int) := by
    intro f
    induction f with
    | zero => intro i o h1 h2 h2' h3 h4 h5; exact hX o i h4 h2 h2' (fun c => by omega) (fun c => by omega) (fun c => h5)
    | succ f ih =>
      intro i o h1 h2 h2' h3 h4 h5
      refine hX o i h4 h2 h2' (fun c => ?_) (fun c => ?_) (fun c => ?_)
      · obtain ⟨hs1, hs2⟩ := hs
        rcases hs1 with rfl | rfl | rfl | rfl | rfl | rfl <;> omega
      · rw [frIn, if_pos c] at h5
        refine ih (i + 2 * h) _ (by omega) (by omega) (by omega) ?_ (by rw [frStep_len]; exact h4) h5
        rw [Nat.add_mod_right]; exact h3
      · rw [frIn, if_neg c] at h5; exact h5
  exact key n h l (by omega) (by omega) (by omega) (Nat.mod_eq_of_lt (by omega)) hl hend
theorem tdiv2 (n : Nat) (h : n < 2 ^ 40) : IntKind.i64.wrap (Int.tdiv (n : Int) 2) = ((n / 2 : Nat) : Int) := by
  rw [show (n : Int).tdiv 2 = ((n / 2 : Nat) : Int) by rw [Int.tdiv_eq_ediv_of_nonneg (by omega)]; omega]
  exact wI (by omega)
theorem wl1 {n : Nat} (h0 : 1 ≤ n) (h : n < 2 ^ 40) : IntKind.i64.wrap ((n : Int) - 1) = ((n - 1 : Nat) : Int) := by rw [wI (by omega)]; omega
theorem wN {n : Int} {m : Nat} (h : n = m) (hm : m < 2 ^ 40) : IntKind.i64.wrap n = (m : Int) := by rw [wI (by omega)]; exact h
def fromF (l : List Nat) : Bool := isGr l && pAll (fromL l)
theorem impl_FromSurplus_wp {l : List Nat} {K : List Nat → Bool → Prop} (hl : l.length ≤ 2 ^ 20) (h : K (if fromF l = true then fromL l else []) (fromF l)) : impl_FromSurplus.wp l K := by
  refine impl_isGrid_wp hl ⟨fun h1 => ?_, fun h1 => by rw [show fromF l = false by rw [fromF, h1]; rfl, if_neg (by decide)] at h; exact h⟩
  have hg := gr_grid h1
  have hn := grid_small hg
  rw [show fromF l = pAll (fromL l) by rw [fromF, h1]; rfl] at h
  refine impl_copyOf_wp hl fun X hX => ?_
  rw [wl1 (by omega) (by omega), tdiv2 _ (by omega)]
  refine from_loop hg (X := X) (E := fun o => K (if pAll o = true then o else []) (pAll o)) (fun o s ho h32 hst h1 h2 => hX _ _ ⟨fun c => ?_, fun c => ?_⟩) rfl h
  rotate_left
  · have h2 := h2 (by omega)
    refine impl_finiteList_wp (by omega) ⟨fun h3 => ?_, fun h3 => ?_⟩
    · rw [h3, if_pos rfl] at h2; rw [h3]; exact h2
    · rw [h3, if_neg (by decide)] at h2; rw [h3]; exact h2
  have hst := hst (by omega)
  intro Y hY
  refine from_in hst (X := Y) (E := fun o => X o ((s / 2 : Nat) : Int)) (fun q i hq hi hi2 hb h3 h4 => hY _ _ ⟨fun c2 => ?_, fun c2 => ?_⟩) ho (h1 (by omega))
  · rw [wl1 (by omega) (by omega)] at c2
    have hb := hb (by omega)
    rw [wN (n := (i : Int) - s) (m := i - s) (by omega) (by omega), wN (n := (i : Int) + s) (m := i + s) (by omega) (by omega), wN (n := 2 * (s : Int)) (m := 2 * s) (by omega) (by omega), wN (n := (i : Int) + (2 * s : Nat)) (m := i + 2 * s) (by omega) (by omega), nn, nn, nn, cz_two, quo_two]
    exact ⟨⟨by omega, by omega⟩, ⟨by omega, by omega⟩, ⟨by omega, by omega⟩, h3 (by omega)⟩
  · rw [wl1 (by omega) (by omega)] at c2
    rw [tdiv2 _ (by omega)]; exact h4 (by omega)
/-! ### the surplus -/
/-- The lowest bit. -/
def low (p : Nat) : Nat := if p % 2 = 1 then 1 else if p % 4 = 2 then 2 else if p % 8 = 4 then 4 else if p % 16 = 8 then 8 else if p % 32 = 16 then 16 else if p % 64 = 32 then 32 else 64
theorem low_bits : ∀ p : Nat, p < 65 → 1 ≤ p → ibits .and .i64 (p : Int) (IntKind.i64.wrap (0 - (p : Int))) = (low p : Int) := by decide +kernel
def surAt (l : List Nat) (i h : Nat) : Nat := fop .sub .f32 (l.getD i 0) (half (fop .add .f32 (l.getD (i - h) 0) (l.getD (i + h) 0)))
/-- All below i done. -/
def surI (l : List Nat) (i : Nat) : List Nat := (List.range l.length).map fun p => if 0 < p ∧ p + 1 < l.length ∧ p < i then surAt l p (low p) else l.getD p 0
/-- All levels below h done, and level h below i. -/
def surH (l : List Nat) (h i : Nat) : List Nat := (List.range l.length).map fun p => if 0 < p ∧ p + 1 < l.length ∧ (p % h ≠ 0 ∨ (p % (2 * h) = h ∧ p < i)) then surAt l p (low p) else l.getD p 0
def surL (l : List Nat) : List Nat := surI l l.length
theorem surI_len (l : List Nat) (i : Nat) : (surI l i).length = l.length := by simp [surI]
theorem surH_len (l : List Nat) (h i : Nat) : (surH l h i).length = l.length := by simp [surH]
theorem surL_len (l : List Nat) : (surL l).length = l.length := surI_len ..
theorem surI_step (l : List Nat) {i : Nat} (h0 : 0 < i) (hi : i + 1 < l.length) : (surI l i).set i (surAt l i (low i)) = surI l (i + 1) := by
  apply List.ext_getElem (by simp [surI])
  intro p h1 h2
  have hp : p < l.length := by simpa [surI] using h2
  rw [List.getElem_set]
  simp only [surI, List.getElem_map, List.getElem_range]
  by_cases he : i = p
  · subst he; rw [if_pos rfl, if_pos ⟨h0, hi, by omega⟩]
  · rw [if_neg he]
    by_cases hc : 0 < p ∧ p + 1 < l.length ∧ p < i
    · rw [if_pos hc, if_pos ⟨hc.1, hc.2.1, by omega⟩]
    · rw [if_neg hc, if_neg (fun h => hc ⟨h.1, h.2.1, by omega⟩)]
theorem surI_0 (l : List Nat) : surI l 1 = l := by
  apply List.ext_getElem (by simp [surI])
  intro p h1 h2
  simp only [surI, List.getElem_map, List.getElem_range]
  rw [if_neg (by omega), getD_in0 l h2]
theorem surI_end (l : List Nat) {i : Nat} (hi : l.length ≤ i + 1) : surI l i = surL l := by
  apply List.ext_getElem (by simp [surI, surL])
  intro p h1 h2
  have hp : p < l.length := by simpa [surI] using h1
  simp only [surI, surL, List.getElem_map, List.getElem_range]
  by_cases hc : 0 < p ∧ p + 1 < l.length ∧ p < i
  · rw [if_pos hc, if_pos ⟨hc.1, hc.2.1, hp⟩]
  · rw [if_neg hc, if_neg (fun h => hc ⟨h.1, h.2.1, by omega⟩)]
def isPw (h : Nat) : Prop := h = 1 ∨ h = 2 ∨ h = 4 ∨ h = 8 ∨ h = 16 ∨ h = 32 ∨ h = 64
theorem low_of {h i : Nat} (hh : isPw h) (hi : i % (2 * h) = h) (hs : i < 65) : low i = h := by
  rcases hh with rfl | rfl | rfl | rfl | rfl | rfl | rfl <;> simp only [low] <;> (repeat' split) <;> omega
theorem surH_step (l : List Nat) {h i : Nat} (hh : isPw h) (him : i % (2 * h) = h) (hi : i + 1 < l.length) (hl : l.length ≤ 65) : (surH l h i).set i (surAt l i h) = surH l h (i + 2 * h) := by
  have hlow := low_of hh him (by omega)
  have h0 : 0 < i := by
    rcases hh with rfl | rfl | rfl | rfl | rfl | rfl | rfl <;> omega
  apply List.ext_getElem (by simp [surH])
  intro p h1 h2
  rw [List.getElem_set]
  simp only [surH, List.getElem_map, List.getElem_range]
  by_cases he : i = p
  · subst he
    rw [if_pos rfl, if_pos ⟨h0, hi, .inr ⟨him, by rcases hh with rfl | rfl | rfl | rfl | rfl | rfl | rfl <;> omega⟩⟩, hlow]
  · rw [if_neg he]
    have key : (p % h ≠ 0 ∨ (p % (2 * h) = h ∧ p < i)) ↔ (p % h ≠ 0 ∨ (p % (2 * h) = h ∧ p < i + 2 * h)) := by
      rcases hh with rfl | rfl | rfl | rfl | rfl | rfl | rfl <;> omega
    by_cases hc : 0 < p ∧ p + 1 < l.length ∧ (p % h ≠ 0 ∨ (p % (2 * h) = h ∧ p < i))
    · rw [if_pos hc, if_pos ⟨hc.1, hc.2.1, key.1 hc.2.2⟩]
    · rw [if_neg hc, if_neg (fun h => hc ⟨h.1, h.2.1, key.2 h.2.2⟩)]
theorem surH_up (l : List Nat) {h i : Nat} (hh : isPw h) (hi : l.length ≤ i + 1) : surH l h i = surH l (2 * h) (2 * h) := by
  apply List.ext_getElem (by simp [surH])
  intro p h1 h2
  have hp : p < l.length := by simpa [surH] using h1
  simp only [surH, List.getElem_map, List.getElem_range]
  have key : p + 1 < l.length → ((p % h ≠ 0 ∨ (p % (2 * h) = h ∧ p < i)) ↔ (p % (2 * h) ≠ 0 ∨ (p % (2 * (2 * h)) = 2 * h ∧ p < 2 * h))) := by
    intro hp'
    rcases hh with rfl | rfl | rfl | rfl | rfl | rfl | rfl <;> omega
  by_cases hc : 0 < p ∧ p + 1 < l.length ∧ (p % h ≠ 0 ∨ (p % (2 * h) = h ∧ p < i))
  · rw [if_pos hc, if_pos ⟨hc.1, hc.2.1, (key hc.2.1).1 hc.2.2⟩]
  · rw [if_neg hc, if_neg (fun h => hc ⟨h.1, h.2.1, (key h.2.1).2 h.2.2⟩)]
theorem surH_0 (l : List Nat) : surH l 1 1 = l := by
  apply List.ext_getElem (by simp [surH])
  intro p h1 h2
  simp only [surH, List.getElem_map, List.getElem_range]
  rw [if_neg (by omega), getD_in0 l h2]
theorem surH_end (l : List Nat) {h : Nat} (hh : isPw h) (hg : gridLen l.length = true) (hi : l.length ≤ 2 * h) : surH l h h = surL l := by
  have hn := grid_small hg
  apply List.ext_getElem (by simp [surH, surL, surI])
  intro p h1 h2
  have hp : p < l.length := by simpa [surH] using h1
  simp only [surH, surL, surI, List.getElem_map, List.getElem_range]
  have key : 0 < p → p + 1 < l.length → p % h ≠ 0 := by
    intro hp0 hp'
    rcases hh with rfl | rfl | rfl | rfl | rfl | rfl | rfl <;> omega
  by_cases hc : 0 < p ∧ p + 1 < l.length
  · rw [if_pos ⟨hc.1, hc.2, .inl (key hc.1 hc.2)⟩, if_pos ⟨hc.1, hc.2, hp⟩]
  · rw [if_neg (fun h => hc ⟨h.1, h.2.1⟩), if_neg (fun h => hc ⟨h.1, h.2.1⟩)]

def surF (l : List Nat) : Bool := isGr l && pAll (surL l)
theorem sur_loop {l : List Nat} (hg : gridLen l.length = true) {X : List Nat → Int → Prop} {E : List Nat → Prop} (hX : ∀ (o : List Nat) (i : Nat), o.length = l.length → 1 ≤ i → i ≤ l.length → (i + 1 < l.length → low i ≤ i ∧ i + low i < l.length) → (i + 1 < l.length → X (o.set i (surAt l i (low i))) ((i + 1 : Nat) : Int)) → (¬ i + 1 < l.length → E o) → X o (i : Int)) (hend : E (surL l)) : X l ((1 : Nat) : Int) := by
  have hn := grid_small hg
  have key := upFrom (Y := fun i => i + 1 ≤ l.length → X (surI l i) (i : Int)) 1 (l.length - 1) (by omega) (fun _ => ?_) (fun i h0 hi hn2 _ => ?_)
  · have := key (by omega); rw [surI_0] at this; exact this
  · refine hX _ _ (surI_len ..) (by omega) (by omega) (fun c => by omega) (fun c => by omega) (fun _ => ?_)
    rw [surI_end l (by omega)]; exact hend
  · refine hX _ _ (surI_len ..) (by omega) (by omega) (fun c => ?_) (fun c => ?_) (fun c => by omega)
    · simp only [low]; rcases hn with h | h | h | h | h | h | h <;> (repeat' split) <;> omega
    · rw [surI_step l (by omega) c]; exact hn2 (by omega)
theorem surH_loop {l : List Nat} (hg : gridLen l.length = true) {X : List Nat → Int → Prop} {E : List Nat → Prop} (hX : ∀ (o : List Nat) (h : Nat), isPw h → (2 * h < l.length → o = surH l h h) → (2 * h < l.length → X (surH l (2 * h) (2 * h)) ((2 * h : Nat) : Int)) → (¬ 2 * h < l.length → E o) → X o (h : Int)) (hend : E (surL l)) : X l ((1 : Nat) : Int) := by
  have hn := grid_small hg
  have key : ∀ (f h : Nat), l.length ≤ f + h → isPw h → X (surH l h h) (h : Int) := by
    intro f
    induction f with
    | zero => intro h h1 h2; exact hX _ _ h2 (fun _ => rfl) (fun c => by omega) (fun c => by rw [surH_end l h2 hg (by omega)]; exact hend)
    | succ f ih =>
      intro h h1 h2
      refine hX _ _ h2 (fun _ => rfl) (fun c => ih (2 * h) (by have := h2; simp only [isPw] at this; omega) ?_) (fun c => by rw [surH_end l h2 hg (by omega)]; exact hend)
      rcases h2 with rfl | rfl | rfl | rfl | rfl | rfl | rfl <;> first | omega | simp [isPw]
  have := key l.length 1 (by omega) (.inl rfl)
  rw [surH_0] at this; exact this
theorem surH_in {l : List Nat} (hg : gridLen l.length = true) {h : Nat} (hh : isPw h) (h2 : 2 * h < l.length) {X : List Nat → Int → Prop} {E : List Nat → Prop} (hX : ∀ (o : List Nat) (i : Nat), o.length = l.length → i ≤ l.length + 128 → (i + 1 < l.length → h ≤ i ∧ i + h < l.length) → (i + 1 < l.length → X (o.set i (surAt l i h)) ((i + 2 * h : Nat) : Int)) → (¬ i + 1 < l.length → E o) → X o (i : Int)) (hend : E (surH l (2 * h) (2 * h))) : X (surH l h h) (h : Int) := by
  have hn := grid_small hg
  have key : ∀ (f i : Nat), l.length ≤ f + i → i % (2 * h) = h → i ≤ l.length + 128 → X (surH l h i) (i : Int) := by
    intro f
    induction f with
    | zero => intro i h1 h3 h4; exact hX _ _ (surH_len ..) (by omega) (fun c => by omega) (fun c => by omega) (fun c => by rw [surH_up l hh (by omega)]; exact hend)
    | succ f ih =>
      intro i h1 h3 h4
      refine hX _ _ (surH_len ..) (by omega) (fun c => ?_) (fun c => ?_) (fun c => by rw [surH_up l hh (by omega)]; exact hend)
      · rcases hh with rfl | rfl | rfl | rfl | rfl | rfl | rfl <;> omega
      · rw [surH_step l hh h3 c (by omega)]
        refine ih (i + 2 * h) ?_ ?_ ?_
        · simp only [isPw] at hh; omega
        · rw [Nat.add_mod_right]; exact h3
        · simp only [isPw] at hh; omega
  refine key l.length h (by omega) (Nat.mod_eq_of_lt ?_) (by omega)
  simp only [isPw] at hh; omega
theorem impl_SurplusOf_wp {l : List Nat} {K : List Nat → Bool → Prop} (hl : l.length ≤ 2 ^ 20) (h : K (if surF l = true then surL l else []) (surF l)) : impl_SurplusOf.wp l K := by
  refine impl_isGrid_wp hl ⟨fun h1 => ?_, fun h1 => by rw [show surF l = false by rw [surF, h1]; rfl, if_neg (by decide)] at h; exact h⟩
  have hg := gr_grid h1
  have hn := grid_small hg
  rw [show surF l = pAll (surL l) by rw [surF, h1]; rfl] at h
  refine impl_copyOf_wp hl fun X hX => ?_
  refine sur_loop hg (X := X) (E := fun o => K (if pAll o = true then o else []) (pAll o)) (fun o i ho h0 hi hb h1 h2 => hX _ _ ?_) h
  rw [wl1 (by omega) (by omega)]
  refine ⟨fun c => ?_, fun c => ?_⟩
  · have hb := hb (by omega)
    rw [low_bits i (by omega) h0, wN (n := (i : Int) - (low i : Nat)) (m := i - low i) (by omega) (by omega), wN (n := (i : Int) + (low i : Nat)) (m := i + low i) (by omega) (by omega), w1 (by omega), nn, nn, nn, cz_two, quo_two]
    exact ⟨⟨by omega, by omega⟩, ⟨by omega, by omega⟩, ⟨by omega, by omega⟩, ⟨by omega, by omega⟩, h1 (by omega)⟩
  · have h2 := h2 (by omega)
    refine impl_finiteList_wp (by omega) ⟨fun h3 => ?_, fun h3 => ?_⟩
    · rw [h3, if_pos rfl] at h2; rw [h3]; exact h2
    · rw [h3, if_neg (by decide)] at h2; rw [h3]; exact h2

end Go.Proofs.Ytdoamcokkcoflaa.G

namespace Go.Proofs.Ytdoamcokkcoflaa.G
open Go Go.Ab
set_option maxRecDepth 100000
set_option linter.unusedVariables false
set_option linter.unusedSimpArgs false
set_option maxHeartbeats 1000000
/-- Small things made nought, between the ends; and how many are left. -/
def thin (a : Nat) : Nat → Nat → List Nat → Nat → List Nat × Nat
  | 0, _, o, n => (o, n)
  | m + 1, i, o, n => if fcmp .leq .f32 (sizI (o.getD i 0)) a = true then thin a m (i + 1) (o.set i (cz .f32 0)) n else thin a m (i + 1) o (n + 1)
theorem thin_len (a : Nat) : ∀ (m i : Nat) (o : List Nat) (n : Nat), (thin a m i o n).1.length = o.length
  | 0, _, _, _ => rfl
  | m + 1, i, o, n => by
    rw [thin]; split
    · rw [thin_len a m, List.length_set]
    · rw [thin_len a m]
theorem pFin_0 : pFin (cz .f32 0) = true := by decide +kernel
theorem pAll_set {l : List Nat} {i x : Nat} (h : pAll l = true) (hx : pFin x = true) : pAll (l.set i x) = true := by
  simp only [pAll, List.all_eq_true] at h ⊢
  intro y hy
  rcases List.mem_or_eq_of_mem_set hy with h1 | rfl
  · exact h y h1
  · exact hx
theorem thin_loop (a : Nat) {N : Nat} {X : List Nat → Int → Int → Prop} {E : List Nat → Nat → Prop} (hX : ∀ (o : List Nat) (n i : Nat), pAll o = true → o.length = N → n ≤ i → i ≤ N → (i + 1 < N → fcmp .leq .f32 (sizI (o.getD i 0)) a = true → X (o.set i (cz .f32 0)) n ((i + 1 : Nat) : Int)) → (i + 1 < N → fcmp .leq .f32 (sizI (o.getD i 0)) a = false → X o ((n + 1 : Nat) : Int) ((i + 1 : Nat) : Int)) → (¬ i + 1 < N → E o n) → X o n i) {l : List Nat} (hp : pAll l = true) (hl : l.length = N) (hN : 2 ≤ N) (hend : E (thin a (N - 2) 1 l 0).1 (thin a (N - 2) 1 l 0).2) : X l ((0 : Nat) : Int) ((1 : Nat) : Int) := by
  have key : ∀ (m i : Nat) (o : List Nat) (n : Nat), pAll o = true → m + i + 1 = N → n ≤ i → o.length = N → E (thin a m i o n).1 (thin a m i o n).2 → X o n i := by
    intro m
    induction m with
    | zero => intro i o n h0 h1 h2 h3 h4; exact hX o n i h0 h3 h2 (by omega) (fun c => by omega) (fun c => by omega) (fun _ => h4)
    | succ m ih =>
      intro i o n h0 h1 h2 h3 h4
      refine hX o n i h0 h3 h2 (by omega) (fun c c2 => ?_) (fun c c2 => ?_) (fun c => by omega)
      · rw [thin, if_pos c2] at h4
        exact ih (i + 1) _ n (pAll_set h0 pFin_0) (by omega) (by omega) (by rw [List.length_set]; exact h3) h4
      · rw [thin, if_neg (by rw [c2]; decide)] at h4
        exact ih (i + 1) _ _ h0 (by omega) (by omega) h3 h4
  exact key (N - 2) 1 l 0 hp (by omega) (by omega) hl hend
def thinL (l : List Nat) (a : Nat) : List Nat × Nat := thin a (l.length - 2) 1 (surL l) 0
def thinOk (l : List Nat) (a : Nat) : Bool := surF l && isLeast a && pAll (fromL (thinL l a).1)
theorem impl_ThinSurplus_wp {l : List Nat} {a : Nat} {K : List Nat → Int → Bool → Prop} (hl : l.length ≤ 2 ^ 20) (hk : K (if thinOk l a = true then fromL (thinL l a).1 else []) (if thinOk l a = true then (((thinL l a).2 : Nat) : Int) else 0) (thinOk l a)) : impl_ThinSurplus.wp l a K := by
  refine impl_SurplusOf_wp hl ⟨fun h1 => ?_, fun h1 => by rw [show thinOk l a = false by rw [thinOk, h1]; rfl, if_neg (by decide), if_neg (by decide)] at hk; exact hk⟩
  rw [if_pos h1]
  have hgr : isGr l = true := by simp only [surF, Bool.and_eq_true] at h1; exact h1.1
  have hg := gr_grid hgr
  have hsp : pAll (surL l) = true := by simp only [surF, Bool.and_eq_true] at h1; exact h1.2
  have hn := grid_small hg
  refine impl_isLeast_wp ⟨fun h2 => ?_, fun h2 => by rw [show thinOk l a = false by rw [thinOk, h2, Bool.and_false, Bool.false_and], if_neg (by decide), if_neg (by decide)] at hk; exact hk⟩
  rw [show thinOk l a = pAll (fromL (thinL l a).1) by rw [thinOk, h1, h2]; rfl] at hk
  intro X hX
  refine thin_loop a (N := l.length) (X := X) (E := fun o n => o.length = l.length → K (if pAll (fromL o) = true then fromL o else []) (if pAll (fromL o) = true then (n : Int) else 0) (pAll (fromL o))) (fun o n i hp ho hni hi h3 h4 h5 => hX _ _ _ ?_) hsp (surL_len l) (by omega) (fun _ => hk)
  rw [ho, wl1 (by omega) (by omega)]
  refine ⟨fun c => ⟨⟨by omega, by omega⟩, impl_size_wp ?_⟩, fun c => ?_⟩
  · rw [nn, w1 (by omega), w1 (by omega)]
    exact ⟨fun c2 => h3 (by omega) c2, fun c2 => h4 (by omega) c2⟩
  · have h5 := h5 (by omega) ho
    have hf : fromF o = pAll (fromL o) := by rw [fromF, isGr, ho, hg, hp]; rfl
    refine impl_FromSurplus_wp (by omega) ?_
    rw [hf]
    refine ⟨fun h6 => ?_, fun h6 => ?_⟩
    · rw [h6, if_pos rfl, if_pos rfl] at h5; rw [if_pos h6]; exact h5
    · rw [h6, if_neg (by decide), if_neg (by decide)] at h5; exact h5

end Go.Proofs.Ytdoamcokkcoflaa.G

namespace Go.Proofs.Ytdoamcokkcoflaa.G
open Go Go.Ab
set_option maxRecDepth 100000
set_option linter.unusedVariables false
set_option linter.unusedSimpArgs false
set_option maxHeartbeats 1000000
theorem dv_half' {x : Nat} {a : Int} (hx : Dv .f32 x (2 * a)) (ha : a.natAbs < 2 ^ 24) : Dv .f32 (half x) a := dv_half hx ha
theorem fkb1 : (FloatKind.f32.format).fractionBits + 1 = 24 := rfl
theorem fkb2 : (FloatKind.f64.format).fractionBits + 1 = 53 := rfl
/-- What can be tested. -/
def dvb (k : FloatKind) (x : Nat) (v : Int) : Bool := match k.format.read x with
  | .number s m e => decide (k.format.leastPlace ≤ e) && decide (vD k.format.leastPlace s m e = v * (2 ^ (-10 - k.format.leastPlace).toNat : Nat))
  | _ => false
theorem dvb_ok {k : FloatKind} {x : Nat} {v : Int} (h : dvb k x v = true) : Dv k x v := by
  unfold dvb at h
  split at h
  · rename_i s m e hr
    simp only [Bool.and_eq_true, decide_eq_true_eq] at h
    exact ⟨s, m, e, hr, h.1, h.2⟩
  · cases h
theorem dv_0 : Dv .f32 (cz .f32 0) 0 := dvb_ok (by decide +kernel)
theorem dv_00 : Dv .f64 (cz .f64 0) 0 := dvb_ok (by decide +kernel)
theorem dv_fin {x : Nat} {v : Int} (h : Dv .f32 x v) : pFin x = true := by
  unfold pFin
  have h1 := dv_sub fk1 h h (by rw [Int.sub_self]; decide)
  rw [Int.sub_self] at h1
  rw [dv_eql h1 dv_0]; rfl
/-- A list of exact numbers. -/
def Dl (l : List Nat) (v : Nat → Int) : Prop := ∀ j, j < l.length → Dv .f32 (l.getD j 0) (v j)
theorem dl_fin {l : List Nat} {v : Nat → Int} (h : Dl l v) : pAll l = true := by
  simp only [pAll, List.all_eq_true]
  intro x hx
  obtain ⟨i, hi, rfl⟩ := List.getElem_of_mem hx
  have := h i hi
  rw [gD hi] at this
  exact dv_fin this
def surZ (n : Nat) (v : Nat → Int) (j : Nat) : Int := if 0 < j ∧ j + 1 < n then v j - (v (j - low j) + v (j + low j)) / 2 else v j
theorem low_le {p : Nat} (h : 1 ≤ p) (h2 : p < 64) : 1 ≤ low p ∧ low p ≤ p ∧ p % (2 * low p) = low p ∧ low p ≤ 32 := by
  unfold low
  repeat' split
  all_goals omega
theorem low_in {n p : Nat} (hn : n = 2 ∨ n = 3 ∨ n = 5 ∨ n = 9 ∨ n = 17) (h : 1 ≤ p) (h2 : p + 1 < n) : p + low p < n := by
  unfold low
  repeat' split
  all_goals omega
/-- Small whole numbers. -/
def Qs (n : Nat) (v : Nat → Int) : Prop := ∀ j, j < n → (v j).natAbs ≤ 65536 ∧ (256 : Int) ∣ v j
theorem sur_dl {l : List Nat} {v : Nat → Int} (hn : l.length = 2 ∨ l.length = 3 ∨ l.length = 5 ∨ l.length = 9 ∨ l.length = 17) (h : Dl l v) (hq : Qs l.length v) : Dl (surL l) (surZ l.length v) := by
  intro j hj
  rw [surL_len] at hj
  have e : (surL l).getD j 0 = if 0 < j ∧ j + 1 < l.length ∧ j < l.length then surAt l j (low j) else l.getD j 0 := by
    rw [gD (by rw [surL_len]; exact hj)]; simp [surL, surI]
  rw [e]
  unfold surZ
  by_cases c : 0 < j ∧ j + 1 < l.length
  · rw [if_pos ⟨c.1, c.2, hj⟩, if_pos c]
    have h1 := low_le (p := j) (by omega) (by omega)
    have h2 := low_in hn (p := j) (by omega) c.2
    have a1 := hq (j - low j) (by omega)
    have a2 := hq (j + low j) h2
    have a3 := hq j hj
    have d1 := h (j - low j) (by omega)
    have d2 := h (j + low j) h2
    have d3 := h j hj
    generalize v (j - low j) = p1 at *
    generalize v (j + low j) = p2 at *
    generalize v j = p3 at *
    have d4 := dv_add fk1 d1 d2 (by rw [fkb1]; omega)
    rw [show p1 + p2 = 2 * ((p1 + p2) / 2) by omega] at d4
    have d5 := dv_half' d4 (by omega)
    exact dv_sub fk1 d3 d5 (by rw [fkb1]; omega)
  · rw [if_neg (by omega), if_neg c]; exact h j hj
/-! ### back -/
structure Bk (n h : Nat) (v t : Nat → Int) (lim B D : Int) (o : List Nat) (w : Nat → Int) : Prop where
  len : o.length = n
  dl : Dl o w
  up : ∀ j, j < n → j % (2 * h) = 0 → (w j - v j).natAbs ≤ B ∧ 2 * D ∣ w j
  no : ∀ j, j < n → j % (2 * h) ≠ 0 → w j = t j
structure Bi (n h i : Nat) (v t : Nat → Int) (lim B D : Int) (o : List Nat) (w : Nat → Int) : Prop where
  len : o.length = n
  dl : Dl o w
  up : ∀ j, j < n → j % (2 * h) = 0 → (w j - v j).natAbs ≤ B ∧ 2 * D ∣ w j
  mid : ∀ j, j < n → j % (2 * h) = h → j < i → (w j - v j).natAbs ≤ B + lim ∧ D ∣ w j
  no : ∀ j, j < n → j % (2 * h) ≠ 0 → (j % (2 * h) = h → i ≤ j) → w j = t j
theorem dl_set {o : List Nat} {w : Nat → Int} {i x : Nat} {u : Int} (h : Dl o w) (hx : Dv .f32 x u) : Dl (o.set i x) (fun j => if j = i then u else w j) := by
  intro j hj
  rw [List.length_set] at hj
  rw [gD (by rw [List.length_set]; exact hj), List.getElem_set]
  by_cases c : i = j
  · subst c; rw [if_pos rfl]; dsimp only; rw [if_pos rfl]; exact hx
  · rw [if_neg c]; dsimp only; rw [if_neg (fun d => c d.symm)]
    have := h j hj
    rw [gD hj] at this; exact this
theorem fr_num {x1 x2 x3 : Nat} {w1 w2 v1 v2 v3 t lim B D : Int} (e1 : Dv .f32 x1 w1) (e2 : Dv .f32 x2 w2) (e3 : Dv .f32 x3 t) (hl : 0 ≤ lim ∧ lim ≤ 4096) (hB : 0 ≤ B ∧ B ≤ 16384) (b1 : (w1 - v1).natAbs ≤ B) (b2 : (w2 - v2).natAbs ≤ B) (d1 : 2 * D ∣ w1) (d2 : 2 * D ∣ w2) (g1 : (t - (v3 - (v1 + v2) / 2)).natAbs ≤ lim) (d3 : D ∣ t) (g3 : t.natAbs ≤ 2 ^ 20) (q1 : v1.natAbs ≤ 65536) (q2 : v2.natAbs ≤ 65536) (p1 : (2 : Int) ∣ v1) (p2 : (2 : Int) ∣ v2) : ∃ u, Dv .f32 (fop .add .f32 x3 (half (fop .add .f32 x1 x2))) u ∧ (u - v3).natAbs ≤ B + lim ∧ D ∣ u := by
  obtain ⟨a1, d1⟩ := d1
  obtain ⟨a2, d2⟩ := d2
  obtain ⟨a3, d3⟩ := d3
  have s1 : w1 + w2 = 2 * (D * (a1 + a2)) := by rw [d1, d2, Int.mul_add, Int.mul_assoc, Int.mul_assoc, ← Int.mul_add, ← Int.mul_add]
  have e4 := dv_add fk1 e1 e2 (by rw [fkb1]; omega)
  have hu : D ∣ t + D * (a1 + a2) := by rw [d3, ← Int.mul_add]; exact Int.dvd_mul_right ..
  clear d1 d2 d3
  rw [s1] at e4
  generalize D * (a1 + a2) = y at *
  have e5 := dv_half' e4 (by omega)
  exact ⟨t + y, dv_add fk1 e3 e5 (by rw [fkb1]; omega), by omega, hu⟩
theorem st_all {n h : Nat} (hs : isStep n h) : h = 1 ∨ h = 2 ∨ h = 4 ∨ h = 8 ∨ h = 16 ∨ h = 32 := hs.1
theorem md1 {h i : Nat} (hs : h = 1 ∨ h = 2 ∨ h = 4 ∨ h = 8 ∨ h = 16 ∨ h = 32) (h2 : i % (2 * h) = h) : 1 ≤ h ∧ h ≤ i ∧ (i - h) % (2 * h) = 0 ∧ (i + h) % (2 * h) = 0 ∧ (i + 2 * h) % (2 * h) = h := by
  rcases hs with rfl | rfl | rfl | rfl | rfl | rfl <;> omega
theorem md2 {n h i : Nat} (hs : isStep n h) (h2 : i % (2 * h) = h) (c : i + 1 < n) : i + h < n := by
  obtain ⟨h0, h1⟩ := hs
  rcases h0 with rfl | rfl | rfl | rfl | rfl | rfl <;> omega
theorem md3 {h i j : Nat} (hs : h = 1 ∨ h = 2 ∨ h = 4 ∨ h = 8 ∨ h = 16 ∨ h = 32) (h2 : i % (2 * h) = h) (hj : j % (2 * h) = h) (h3 : j < i + 2 * h) (c : ¬ j = i) : j < i := by
  rcases hs with rfl | rfl | rfl | rfl | rfl | rfl <;> omega
theorem md4 {n h i j : Nat} (hs : isStep n h) (h2 : i % (2 * h) = h) (c : ¬ i + 1 < n) (hj : j < n) (hj2 : j % (2 * h) = h) (hn : 1 ≤ n) : j < i := by
  obtain ⟨h0, h1⟩ := hs
  rcases h0 with rfl | rfl | rfl | rfl | rfl | rfl <;> omega
theorem fr_in {n h : Nat} {v t : Nat → Int} {lim B D : Int} (hn : 1 ≤ n ∧ n ≤ 17) (hs : isStep n h) (hq : ∀ j, j < n → (v j).natAbs ≤ 65536) (hl : 0 ≤ lim ∧ lim ≤ 4096) (hB : 0 ≤ B ∧ B ≤ 16384) (ht : ∀ j, 0 < j → j + 1 < n → (t j - surZ n v j).natAbs ≤ lim ∧ D ∣ t j ∧ (t j).natAbs ≤ 2 ^ 20) (hv : ∀ j, j < n → (2 : Int) ∣ v j) :
    ∀ (f i : Nat) (o : List Nat) (w : Nat → Int), n ≤ f + i → i % (2 * h) = h → Bi n h i v t lim B D o w → ∃ w', Bi n h (n + 64) v t lim B D (frIn n h f i o) w' := by
  have hh := st_all hs
  have done : ∀ (i : Nat) (o : List Nat) (w : Nat → Int), ¬ i + 1 < n → i % (2 * h) = h → Bi n h i v t lim B D o w → ∃ w', Bi n h (n + 64) v t lim B D o w' := by
    intro i o w c hi H
    have hx : ∀ j, j < n → j % (2 * h) = h → j < i := fun j hj hj2 => md4 hs hi c hj hj2 hn.1
    exact ⟨w, H.len, H.dl, H.up, fun j hj h1 _ => H.mid j hj h1 (hx j hj h1), fun j hj h1 h2 => H.no j hj h1 (fun e => by have := h2 e; omega)⟩
  intro f
  induction f with
  | zero => intro i o w h1 h2 H; exact done i o w (by omega) h2 H
  | succ f ih =>
    intro i o w h1 h2 H
    rw [frIn]
    by_cases c : i + 1 < n
    · rw [if_pos c]
      obtain ⟨b1, b2, b3, b4, b5⟩ := md1 hh h2
      have b6 := md2 hs h2 c
      have hlow : low i = h := low_of (by unfold isPw; omega) h2 (by omega)
      have u1 := H.up (i - h) (by omega) b3
      have u2 := H.up (i + h) b6 b4
      have u3 := H.no i (by omega) (by omega) (fun _ => Nat.le_refl _)
      have g := ht i (by omega) c
      unfold surZ at g
      rw [if_pos ⟨by omega, c⟩, hlow] at g
      have e1 := H.dl (i - h) (by rw [H.len]; omega)
      have e2 := H.dl (i + h) (by rw [H.len]; omega)
      have e3 := H.dl i (by rw [H.len]; omega)
      rw [u3] at e3
      obtain ⟨u, n1, n2, n3⟩ := fr_num (v3 := v i) e1 e2 e3 hl hB u1.1 u2.1 u1.2 u2.2 g.1 g.2.1 g.2.2 (hq (i - h) (by omega)) (hq (i + h) b6) (hv (i - h) (by omega)) (hv (i + h) b6)
      have e7 := dl_set (i := i) H.dl n1
      refine ih (i + 2 * h) (frStep o h i) _ (by omega) b5 ⟨by rw [frStep_len]; exact H.len, e7, ?_, ?_, ?_⟩
      · intro j hj hj2
        rw [if_neg (fun c => by rw [c, h2] at hj2; omega)]
        exact H.up j hj hj2
      · intro j hj hj2 hj3
        by_cases c : j = i
        · rw [if_pos c, c]; exact ⟨n2, n3⟩
        · rw [if_neg c]
          exact H.mid j hj hj2 (md3 hh h2 hj2 hj3 c)
      · intro j hj hj2 hj3
        have c : ¬ j = i := fun c => by have := hj3 (by rw [c]; exact h2); omega
        rw [if_neg c]
        exact H.no j hj hj2 (fun e => by have := hj3 e; omega)
    · rw [if_neg c]; exact done i o w c h2 H
theorem fr_level {n h : Nat} {v t : Nat → Int} {lim B D : Int} {o : List Nat} {w : Nat → Int} (hn : 1 ≤ n ∧ n ≤ 17) (hs : isStep n h) (hq : ∀ j, j < n → (v j).natAbs ≤ 65536) (hl : 0 ≤ lim ∧ lim ≤ 4096) (hB : 0 ≤ B ∧ B ≤ 16384) (ht : ∀ j, 0 < j → j + 1 < n → (t j - surZ n v j).natAbs ≤ lim ∧ D ∣ t j ∧ (t j).natAbs ≤ 2 ^ 20) (hv : ∀ j, j < n → (2 : Int) ∣ v j) (H : Bk n h v t lim B D o w) :
    (frIn n h n h o).length = n ∧ ∃ w', Dl (frIn n h n h o) w' ∧ (∀ j, j < n → j % h = 0 → (w' j - v j).natAbs ≤ B + lim ∧ D ∣ w' j) ∧ (∀ j, j < n → j % h ≠ 0 → w' j = t j) := by
  have hh : h = 1 ∨ h = 2 ∨ h = 4 ∨ h = 8 ∨ h = 16 ∨ h = 32 := hs.1
  have hm : h % (2 * h) = h := by rcases hh with rfl | rfl | rfl | rfl | rfl | rfl <;> omega
  obtain ⟨w', W⟩ := fr_in hn hs hq hl hB ht hv n h o w (by omega) hm ⟨H.len, H.dl, H.up, fun j hj h1 h2 => by rcases hh with rfl | rfl | rfl | rfl | rfl | rfl <;> omega, fun j hj h1 _ => H.no j hj h1⟩
  refine ⟨W.len, w', W.dl, ?_, ?_⟩
  · intro j hj hj2
    by_cases c : j % (2 * h) = 0
    · have := W.up j hj c
      refine ⟨by omega, ?_⟩
      exact Int.dvd_trans (Int.dvd_mul_left 2 D) this.2
    · refine W.mid j hj ?_ (by omega)
      rcases hh with rfl | rfl | rfl | rfl | rfl | rfl <;> omega
  · intro j hj hj2
    refine W.no j hj ?_ (fun e => ?_)
    · rcases hh with rfl | rfl | rfl | rfl | rfl | rfl <;> omega
    · exfalso; apply hj2; rcases hh with rfl | rfl | rfl | rfl | rfl | rfl <;> omega
/-- Steps down from the widest. -/
theorem fr_all {n : Nat} {v t : Nat → Int} {lim : Int} {o : List Nat} (hn : n = 2 ∨ n = 3 ∨ n = 5 ∨ n = 9 ∨ n = 17) (hq : ∀ j, j < n → (v j).natAbs ≤ 65536 ∧ (256 : Int) ∣ v j) (hl : 0 ≤ lim ∧ lim ≤ 4096) (ht : ∀ j, 0 < j → j + 1 < n → (t j - surZ n v j).natAbs ≤ lim ∧ (128 : Int) ∣ t j ∧ (t j).natAbs ≤ 2 ^ 20) (he : t 0 = v 0 ∧ t (n - 1) = v (n - 1)) (hlen : o.length = n) (ho : Dl o t) : ∃ w, Dl (fromL o) w ∧ ∀ j, j < n → (w j - v j).natAbs ≤ 4 * lim := by
  have lev : ∀ (h : Nat) (B D : Int) (o : List Nat) (w : Nat → Int), isStep n h → (D = 128 ∨ D = 64 ∨ D = 32 ∨ D = 16) → 0 ≤ B ∧ B ≤ 16384 → o.length = n → Dl o w → (∀ j, j < n → j % (2 * h) = 0 → (w j - v j).natAbs ≤ B ∧ 2 * D ∣ w j) → (∀ j, j < n → j % (2 * h) ≠ 0 → w j = t j) → (frIn n h n h o).length = n ∧ ∃ w', Dl (frIn n h n h o) w' ∧ (∀ j, j < n → j % h = 0 → (w' j - v j).natAbs ≤ B + lim ∧ D ∣ w' j) ∧ (∀ j, j < n → j % h ≠ 0 → w' j = t j) := by
    intro h B D o w hs hD hB h1 h2 h3 h4
    refine fr_level (by omega) hs (fun j hj => (hq j hj).1) hl hB (fun j h0 hj => ?_) (fun j hj => Int.dvd_trans (by decide) (hq j hj).2) ⟨h1, h2, h3, h4⟩
    obtain ⟨a1, a2, a3⟩ := ht j h0 hj
    refine ⟨a1, Int.dvd_trans ?_ a2, a3⟩
    rcases hD with rfl | rfl | rfl | rfl <;> decide
  have fin : ∀ {o' : List Nat} {w : Nat → Int} {B : Int}, B ≤ 4 * lim → o' = fromL o → Dl o' w → (∀ j, j < n → (w j - v j).natAbs ≤ B) → ∃ w, Dl (fromL o) w ∧ ∀ j, j < n → (w j - v j).natAbs ≤ 4 * lim := by
    intro o' w B hB he hd hw
    subst he
    exact ⟨w, hd, fun j hj => by have := hw j hj; omega⟩
  have e0 : fromL o = frOut n 64 ((n - 1) / 2) o := by unfold fromL; rw [hlen]
  have top : ∀ h, n - 1 = 2 * h → ∀ j, j < n → j % (2 * h) = 0 → ((t j - v j).natAbs : Int) ≤ 0 ∧ 2 * (128 : Int) ∣ t j := by
    intro h hh j hj hj2
    have : j = 0 ∨ j = n - 1 := by
      rcases hn with rfl | rfl | rfl | rfl | rfl
      · omega
      · obtain rfl : h = 1 := by omega
        omega
      · obtain rfl : h = 2 := by omega
        omega
      · obtain rfl : h = 4 := by omega
        omega
      · obtain rfl : h = 8 := by omega
        omega
    rcases this with rfl | rfl
    · rw [he.1]; exact ⟨by omega, (hq 0 (by omega)).2⟩
    · rw [he.2]; exact ⟨by omega, (hq (n - 1) (by omega)).2⟩
  rcases hn with rfl | rfl | rfl | rfl | rfl
  · refine fin (o' := o) (w := t) (B := 0) (by omega) (by rw [e0]; rfl) ho fun j hj => ?_
    have : j = 0 ∨ j = 2 - 1 := by omega
    rcases this with rfl | rfl
    · rw [he.1]; omega
    · rw [he.2]; omega
  · obtain ⟨l1, w1, d1, u1, n1⟩ := lev 1 0 128 o t ⟨by omega, by omega⟩ (by omega) (by omega) hlen ho (top 1 rfl) (fun _ _ _ => rfl)
    exact fin (B := 0 + lim) (by omega) (by rw [e0]; rfl) d1 fun j hj => (u1 j hj (by omega)).1
  · obtain ⟨l2, w2, d2, u2, n2⟩ := lev 2 0 128 o t ⟨by omega, by omega⟩ (by omega) (by omega) hlen ho (top 2 rfl) (fun _ _ _ => rfl)
    obtain ⟨l1, w1, d1, u1, n1⟩ := lev 1 (0 + lim) 64 _ w2 ⟨by omega, by omega⟩ (by omega) (by omega) l2 d2 (fun j a b => u2 j a (by omega)) (fun j a b => n2 j a (by omega))
    exact fin (B := 0 + lim + lim) (by omega) (by rw [e0]; rfl) d1 fun j hj => (u1 j hj (by omega)).1
  · obtain ⟨l4, w4, d4, u4, n4⟩ := lev 4 0 128 o t ⟨by omega, by omega⟩ (by omega) (by omega) hlen ho (top 4 rfl) (fun _ _ _ => rfl)
    obtain ⟨l2, w2, d2, u2, n2⟩ := lev 2 (0 + lim) 64 _ w4 ⟨by omega, by omega⟩ (by omega) (by omega) l4 d4 (fun j a b => u4 j a (by omega)) (fun j a b => n4 j a (by omega))
    obtain ⟨l1, w1, d1, u1, n1⟩ := lev 1 (0 + lim + lim) 32 _ w2 ⟨by omega, by omega⟩ (by omega) (by omega) l2 d2 (fun j a b => u2 j a (by omega)) (fun j a b => n2 j a (by omega))
    exact fin (B := 0 + lim + lim + lim) (by omega) (by rw [e0]; rfl) d1 fun j hj => (u1 j hj (by omega)).1
  · obtain ⟨l8, w8, d8, u8, n8⟩ := lev 8 0 128 o t ⟨by omega, by omega⟩ (by omega) (by omega) hlen ho (top 8 rfl) (fun _ _ _ => rfl)
    obtain ⟨l4, w4, d4, u4, n4⟩ := lev 4 (0 + lim) 64 _ w8 ⟨by omega, by omega⟩ (by omega) (by omega) l8 d8 (fun j a b => u8 j a (by omega)) (fun j a b => n8 j a (by omega))
    obtain ⟨l2, w2, d2, u2, n2⟩ := lev 2 (0 + lim + lim) 32 _ w4 ⟨by omega, by omega⟩ (by omega) (by omega) l4 d4 (fun j a b => u4 j a (by omega)) (fun j a b => n4 j a (by omega))
    obtain ⟨l1, w1, d1, u1, n1⟩ := lev 1 (0 + lim + lim + lim) 16 _ w2 ⟨by omega, by omega⟩ (by omega) (by omega) l2 d2 (fun j a b => u2 j a (by omega)) (fun j a b => n2 j a (by omega))
    exact fin (B := 0 + lim + lim + lim + lim) (by omega) (by rw [e0]; rfl) d1 fun j hj => (u1 j hj (by omega)).1

end Go.Proofs.Ytdoamcokkcoflaa.G

namespace Go.Proofs.Ytdoamcokkcoflaa.G
open Go Go.Ab
set_option maxRecDepth 100000
set_option linter.unusedVariables false
set_option linter.unusedSimpArgs false
set_option maxHeartbeats 1000000
theorem dv_neg {x : Nat} {v : Int} (h : Dv .f32 x v) : Dv .f32 (fneg .f32 x) (-v) := by
  obtain ⟨s, m, e, r, l, q⟩ := h
  have hr : (FloatKind.f32.format).read (fneg .f32 x) = ((FloatKind.f32.format).read x).opposite := fneg_read (by rw [show Ieee.single.read x = (FloatKind.f32.format).read x from rfl, r]; rfl)
  rw [r] at hr
  exact ⟨!s, m, e, hr, l, by rw [vD_not, q, Int.neg_mul]⟩
theorem dv_size {x : Nat} {v : Int} (h : Dv .f32 x v) : Dv .f32 (sizI x) (v.natAbs : Int) := by
  unfold sizI
  rw [dv_lss h dv_0, dv_eql h dv_0]
  by_cases c : v < 0
  · rw [if_pos (decide_eq_true c), show (v.natAbs : Int) = -v by omega]; exact dv_neg h
  · rw [if_neg (by simp [c])]
    by_cases c2 : v = 0
    · subst c2; rw [if_pos (by simp)]; exact dv_0
    · rw [if_neg (by simp [c2]), show (v.natAbs : Int) = v by omega]; exact h
/-! ### thinned -/
def ctZ (lim : Int) (w : Nat → Int) : Nat → Nat → Nat
  | 0, _ => 0
  | m + 1, i => (if ((w i).natAbs : Int) ≤ lim then 0 else 1) + ctZ lim w m (i + 1)
theorem ctZ_congr {lim : Int} {w w' : Nat → Int} : ∀ (m i : Nat), (∀ j, i ≤ j → w j = w' j) → ctZ lim w m i = ctZ lim w' m i
  | 0, _, _ => rfl
  | m + 1, i, h => by rw [ctZ, ctZ, h i (Nat.le_refl _), ctZ_congr m (i + 1) fun j hj => h j (by omega)]
def thZ (lim : Int) (w : Nat → Int) (i k : Nat) (j : Nat) : Int := if i ≤ j ∧ j < k ∧ ((w j).natAbs : Int) ≤ lim then 0 else w j
theorem dl_congr {l : List Nat} {v w : Nat → Int} (h : Dl l v) (e : ∀ j, j < l.length → v j = w j) : Dl l w := fun j hj => by rw [← e j hj]; exact h j hj
theorem thin_dl {a : Nat} {lim : Int} (ha : Dv .f32 a lim) : ∀ (m i : Nat) (o : List Nat) (n : Nat) (w : Nat → Int), Dl o w → i + m ≤ o.length → Dl (thin a m i o n).1 (thZ lim w i (i + m)) ∧ (thin a m i o n).2 = n + ctZ lim w m i := by
  intro m
  induction m with
  | zero =>
    intro i o n w h hi
    exact ⟨dl_congr h fun j hj => by unfold thZ; rw [if_neg (by omega)], rfl⟩
  | succ m ih =>
    intro i o n w h hi
    have hd := dv_leq (dv_size (h i (by omega))) ha
    rw [thin, hd, ctZ]
    by_cases c : ((w i).natAbs : Int) ≤ lim
    · rw [if_pos (decide_eq_true c), if_pos c]
      have h2 := dl_set (i := i) h dv_0
      obtain ⟨r1, r2⟩ := ih (i + 1) _ n _ h2 (by rw [List.length_set]; omega)
      refine ⟨dl_congr r1 fun j hj => ?_, ?_⟩
      · unfold thZ
        dsimp only
        by_cases d : j = i
        · subst d; rw [if_neg (by omega), if_pos rfl, if_pos ⟨by omega, by omega, c⟩]
        · simp only [if_neg d]
          by_cases e : i + 1 ≤ j ∧ j < i + 1 + m ∧ ((w j).natAbs : Int) ≤ lim
          · rw [if_pos e, if_pos ⟨by omega, by omega, e.2.2⟩]
          · rw [if_neg e, if_neg (fun x => e ⟨by omega, by omega, x.2.2⟩)]
      · rw [r2, Nat.zero_add, ctZ_congr m (i + 1) (w' := w) fun j hj => by rw [if_neg (by omega)]]
    · rw [if_neg (by simp [c]), if_neg c]
      obtain ⟨r1, r2⟩ := ih (i + 1) o (n + 1) w h (by omega)
      refine ⟨dl_congr r1 fun j hj => ?_, by rw [r2]; omega⟩
      unfold thZ
      by_cases d : j = i
      · subst d; rw [if_neg (by omega), if_neg (fun x => c x.2.2)]
      · by_cases e : i + 1 ≤ j ∧ j < i + 1 + m ∧ ((w j).natAbs : Int) ≤ lim
        · rw [if_pos e, if_pos ⟨by omega, by omega, e.2.2⟩]
        · rw [if_neg e, if_neg (fun x => e ⟨by omega, by omega, x.2.2⟩)]
/-! ### numbers that can be tested one by one -/
theorem pick_dv : ∀ p : Nat, p < 65 → dvb .f32 (fop .quo .f32 (itof .f32 ((p : Int) - 32)) (cz .f32 1082130432)) (256 * ((p : Int) - 32)) = true := by decide +kernel
def limB (k : Nat) : Nat := fop .quo .f32 (itof .f32 (k : Int)) (cz .f32 1082130432)
theorem lim_dv : ∀ k : Nat, k < 17 → dvb .f32 (limB k) (256 * (k : Int)) = true ∧ isLeast (limB k) = true := by decide +kernel
theorem line_dv : ∀ a : Nat, a < 17 → ∀ k : Nat, k < 17 → dvb .f32 (fop .add .f32 (fop .mul .f32 (fop .quo .f32 (itof .f32 ((a : Int) - 8)) (cz .f32 1082130432)) (itof .f32 (k : Int))) (cz .f32 1065353216)) (256 * ((a : Int) - 8) * k + 1024) = true := by decide +kernel
def mostB (k : Nat) : Nat := fop .add .f64 (fop .mul .f64 (cz .f64 4617315517961601024) (widen (limB k))) (cz .f64 4562254508917369340)
def atLeast (x : Nat) (v : Int) : Bool := match (FloatKind.f64.format).read x with
  | .number s m e => decide ((FloatKind.f64.format).leastPlace ≤ e) && decide (v * (2 ^ (-10 - (FloatKind.f64.format).leastPlace).toNat : Nat) ≤ vD (FloatKind.f64.format).leastPlace s m e)
  | _ => false
theorem most_dv : ∀ k : Nat, k < 17 → atLeast (mostB k) (1024 * (k : Int)) = true := by decide +kernel
theorem near_dv : atLeast (cz .f64 4562254508917369340) 0 = true := by decide +kernel
theorem al_gtr {g x : Nat} {a v : Int} (h : atLeast x v = true) (hg : Dv .f64 g a) (hav : a ≤ v) : fcmp .gtr .f64 g x = false := by
  unfold atLeast at h
  split at h
  · rename_i s m e hr
    simp only [Bool.and_eq_true, decide_eq_true_eq] at h
    rw [dv_gtr2 hg hr h.1]
    have hp := unit_pos (-10 - (FloatKind.f64.format).leastPlace).toNat
    have h2 := Int.mul_le_mul_of_nonneg_right hav (Int.le_of_lt hp)
    exact decide_eq_false (by omega)
  · cases h
theorem al_leq {g x : Nat} {a v : Int} (h : atLeast x v = true) (hg : Dv .f64 g a) (hav : a ≤ v) : fcmp .leq .f64 g x = true := by
  unfold atLeast at h
  split at h
  · rename_i s m e hr
    simp only [Bool.and_eq_true, decide_eq_true_eq] at h
    rw [dv_leq2 hg hr h.1]
    have hp := unit_pos (-10 - (FloatKind.f64.format).leastPlace).toNat
    have h2 := Int.mul_le_mul_of_nonneg_right hav (Int.le_of_lt hp)
    exact decide_eq_true (by omega)
  · cases h
/-! ### the laws' own helpers -/
theorem b10Gap_wp {x y : Nat} {a b : Int} {K : Nat → Prop} (hx : Dv .f64 x a) (hy : Dv .f64 y b) (hab : (a - b).natAbs < 2 ^ 53) (h : ∀ g, Dv .f64 g ((a - b).natAbs : Int) → K g) : laws_b10Gap.wp x y K := by
  refine ⟨fun c => h _ ?_, fun c => h _ ?_⟩
  · rw [dv_lss hx hy] at c
    have c := of_decide_eq_true c
    rw [show ((a - b).natAbs : Int) = b - a by omega]
    exact dv_sub fk2 hy hx (by rw [fkb2]; omega)
  · rw [dv_lss hx hy] at c
    have c := of_decide_eq_false c
    rw [show ((a - b).natAbs : Int) = a - b by omega]
    exact dv_sub fk2 hx hy (by rw [fkb2]; omega)
theorem b10At_wp {l : List Int} {i n : Int} {K : Int → Prop} (hl : ∀ x ∈ l, 0 ≤ x ∧ x < 256) (hi : 0 ≤ i ∧ i ≤ 1000) (hn : 2 ≤ n ∧ n ≤ 2 ^ 30) (h : ∀ v, 0 ≤ v → v < n → K v) : laws_b10At.wp l i n K := by
  have key : ∀ x : Int, 0 ≤ x → 0 ≤ Int.tmod x n ∧ Int.tmod x n < n := by
    intro x hx
    rw [Int.tmod_eq_emod_of_nonneg hx]
    exact ⟨Int.emod_nonneg _ (by omega), Int.emod_lt_of_pos _ (by omega)⟩
  refine ⟨fun c => absurd c (by omega), fun _ => ⟨fun c => ⟨⟨hi.1, c⟩, by omega, ?_⟩, fun c => ⟨by omega, ?_⟩⟩⟩
  · have hi2 : i.toNat < l.length := by omega
    rw [gD hi2]
    have hb := hl _ (List.getElem_mem hi2)
    rw [wI (by omega)]
    have := key _ hb.1
    exact h _ this.1 this.2
  · rw [wI (n := i * 37) (by omega), wI (by omega)]
    have := key (i * 37 + 11) (by omega)
    exact h _ this.1 this.2
theorem b10Apart_wp {l m : List Nat} {v : Nat → Int} {x : Nat} {K : Bool → Prop} (hl : l.length ≤ 17) (he : l.length = m.length) (h1 : Dl l v) (h2 : Dl m v) (hv : ∀ j, j < l.length → (v j).natAbs ≤ 2 ^ 20) (hx : atLeast x 0 = true) (h : K false) : laws_b10Apart.wp l m x K := by
  refine ⟨fun _ X hX => ?_, fun c => absurd (show (l.length : Int) = m.length by omega) c⟩
  refine up (Y := fun i => X (i : Int)) l.length (hX _ ⟨fun c => absurd c (by omega), fun _ => h⟩) fun i hi hx2 => hX _ ⟨fun _ => ⟨⟨by omega, by omega⟩, ⟨by omega, by omega⟩, ?_⟩, fun c => absurd (show (i : Int) < l.length by omega) c⟩
  have hvi := hv i hi
  refine b10Gap_wp (dv_widen (h1 i hi) (by omega)) (dv_widen (h2 i (by omega)) (by omega)) (by omega) fun g hg => ?_
  rw [w1 (by omega)]
  exact tE (al_leq hx hg (by omega)) hx2
theorem spec_B10Signal_wp {l : List Int} {n : Nat} {K : List Nat → Prop} (hl : Byt l) (hn : n ≤ 17) (h : ∀ (o : List Nat) (v : Nat → Int), o.length = n → Dl o v → (∀ j, (v j).natAbs ≤ 8192 ∧ (256 : Int) ∣ v j) → K o) : spec_B10Signal.wp l (n : Int) K := by
  refine ⟨fun _ X hX => ?_, fun c => (by cases c)⟩
  have key : ∀ (m : Nat) (o : List Nat) (b t : Int) (v : Nat → Int), o.length + m = n → 0 ≤ b ∧ b ≤ 2 * o.length → Dl o v → (∀ j, (v j).natAbs ≤ 8192 ∧ (256 : Int) ∣ v j) → X o b t (m : Int) := by
    intro m
    induction m with
    | zero =>
      intro o b t v h1 h2 h3 h4
      exact hX _ _ _ _ ⟨fun c => absurd c (by decide), fun _ => h o v (by omega) h3 h4⟩
    | succ m ih =>
      intro o b t v h1 h2 h3 h4
      refine hX _ _ _ _ ⟨fun _ => spec_pick_wp hl (by omega) (by omega) fun w b' t' hw hb' => ⟨?_, ?_⟩, fun c => absurd (show (0 : Int) < ((m + 1 : Nat) : Int) by omega) c⟩
      · rw [len1]; omega
      · rw [wI (n := w - 32) (by omega), show IntKind.i64.wrap (((m + 1 : Nat) : Int) - 1) = (m : Int) by rw [wI (by omega)]; omega]
        have hp := dvb_ok (pick_dv w.toNat (by omega))
        rw [show ((w.toNat : Nat) : Int) = w by omega] at hp
        refine ih _ _ _ (fun j => if j = o.length then 256 * (w - 32) else v j) (by rw [List.length_append, len1]; omega) (by rw [List.length_append, len1]; omega) ?_ ?_
        · intro j hj
          rw [List.length_append, len1] at hj
          dsimp only
          by_cases c : j = o.length
          · subst c
            rw [if_pos rfl, List.getD_eq_getElem?_getD, List.getElem?_append_right (Nat.le_refl _), Nat.sub_self]; exact hp
          · rw [if_neg c, List.getD_eq_getElem?_getD, List.getElem?_append_left (by omega), ← List.getD_eq_getElem?_getD]; exact h3 j (by omega)
        · intro j
          by_cases c : j = o.length
          · rw [if_pos c]; exact ⟨by omega, by omega⟩
          · rw [if_neg c]; exact h4 j
  exact key n [] _ _ (fun _ => 0) (by simp) (by simp) (fun j hj => absurd hj (by simp)) (fun j => ⟨by simp, by simp⟩)
theorem sur_ok {l : List Nat} {v : Nat → Int} (hn : l.length = 2 ∨ l.length = 3 ∨ l.length = 5 ∨ l.length = 9 ∨ l.length = 17) (h : Dl l v) (hq : Qs l.length v) : surF l = true := by
  unfold surF
  rw [gr_yes (by omega), dl_fin h, dl_fin (sur_dl hn h hq)]; rfl
theorem from_ok {o : List Nat} {t w : Nat → Int} (hn : o.length = 2 ∨ o.length = 3 ∨ o.length = 5 ∨ o.length = 9 ∨ o.length = 17) (h : Dl o t) (hw : Dl (fromL o) w) : fromF o = true := by
  unfold fromF
  rw [gr_yes (by omega), dl_fin h, dl_fin hw]; rfl
theorem line_alg (g a b : Int) : g * a + 1024 - (g * (a - b) + 1024 + (g * (a + b) + 1024)) / 2 = 0 := by
  rw [Int.mul_sub, Int.mul_add]
  generalize g * b = p
  generalize g * a = q
  omega
-- HYPE: 0 1
theorem pureSurpluses (l0 l1 : List Int) (hb0 : ∀ y ∈ l0, 0 ≤ y ∧ y < 256) (hb1 : ∀ y ∈ l1, 0 ≤ y ∧ y < 256) : laws_FnSurpluses.wp l0 l1 (fun b => b = true) := by
  have hlong : ∀ {K : Bool → Prop}, (K true) → (l0.length ≤ 2 ^ 20 → l1.length ≤ 2 ^ 20 → K false) → laws_b10Long.wp l0 l1 K := by
    intro K h1 h2
    refine ⟨fun _ => h1, fun c => ?_⟩
    by_cases d : 1048576 < (l1.length : Int)
    · rw [decide_eq_true d]; exact h1
    · rw [decide_eq_false d]; exact h2 (by omega) (by omega)
  refine hlong (tT rfl) fun hl0 hl1 => tF ?_
  refine b10At_wp hb1 (by omega) (by omega) fun y hy1 hy2 => ⟨⟨hy1, hy2⟩, ?_⟩
  obtain ⟨n, hn, hn2⟩ : ∃ n : Nat, (n = 2 ∨ n = 3 ∨ n = 5 ∨ n = 9 ∨ n = 17) ∧ ([2, 3, 5, 9, 17] : List Int).getD y.toNat 0 = (n : Int) := by
    have : y = 0 ∨ y = 1 ∨ y = 2 ∨ y = 3 ∨ y = 4 := by omega
    rcases this with rfl | rfl | rfl | rfl | rfl
    · exact ⟨2, by omega, rfl⟩
    · exact ⟨3, by omega, rfl⟩
    · exact ⟨5, by omega, rfl⟩
    · exact ⟨9, by omega, rfl⟩
    · exact ⟨17, by omega, rfl⟩
  rw [hn2]
  refine spec_B10Signal_wp ⟨by omega, hb0⟩ (by omega) fun l v hl hv hq => ?_
  have hll : l.length = 2 ∨ l.length = 3 ∨ l.length = 5 ∨ l.length = 9 ∨ l.length = 17 := by omega
  have hQ : Qs l.length v := fun j _ => ⟨by have := (hq j).1; omega, (hq j).2⟩
  have hs1 := sur_ok hll hv hQ
  have hsd := sur_dl hll hv hQ
  have hsl := surL_len l
  -- what a surplus is at most
  have hsz : ∀ j, j < n → (surZ n v j).natAbs ≤ 16384 ∧ (128 : Int) ∣ surZ n v j := by
    intro j hj
    have a1 := hq j; have a2 := hq (j - low j); have a3 := hq (j + low j)
    unfold surZ
    split
    · exact ⟨by omega, by omega⟩
    · exact ⟨by omega, by omega⟩
  have hs0 : surZ n v 0 = v 0 ∧ surZ n v (n - 1) = v (n - 1) := ⟨if_neg (by omega), if_neg (by omega)⟩
  rw [hl] at hsd
  -- back
  obtain ⟨w, hw, hw2⟩ := fr_all (o := surL l) (lim := 0) hn (fun j hj => hQ j (by omega)) (by omega) (fun j _ hj => ⟨by omega, (hsz j (by omega)).2, by have := (hsz j (by omega)).1; omega⟩) hs0 (by omega) hsd
  have hwv : ∀ j, j < n → w j = v j := fun j hj => by have := hw2 j hj; omega
  have hf1 := from_ok (by omega) hsd hw
  have hbl : (fromL (surL l)).length = n := by rw [fromL_len]; omega
  refine impl_SurplusOf_wp (by omega) ?_
  rw [hs1, if_pos rfl]
  refine impl_FromSurplus_wp (by omega) ?_
  rw [hf1, if_pos rfl]
  refine b10At_wp hb1 (by omega) (by omega) fun k hk1 hk2 => ?_
  obtain ⟨k, rfl⟩ : ∃ m : Nat, k = m := ⟨k.toNat, by omega⟩
  obtain ⟨hlim, hleast⟩ := lim_dv k (by omega)
  have hlim := dvb_ok hlim
  have hmost := most_dv k (by omega)
  have hlb : fop .quo .f32 (itof .f32 (k : Int)) (cz .f32 1082130432) = limB k := rfl
  have hmb : fop .add .f64 (fop .mul .f64 (cz .f64 4617315517961601024) (widen (limB k))) (cz .f64 4562254508917369340) = mostB k := rfl
  rw [hlb, hmb]
  -- thinned
  obtain ⟨t1, t2⟩ := thin_dl hlim (l.length - 2) 1 (surL l) 0 _ hsd (by omega)
  have tlen : (thinL l (limB k)).1.length = n := by unfold thinL; rw [thin_len]; omega
  have htz : ∀ j, 0 < j → j + 1 < n → (thZ (256 * (k : Int)) (surZ n v) 1 (1 + (l.length - 2)) j - surZ n v j).natAbs ≤ 256 * (k : Int) ∧ (128 : Int) ∣ thZ (256 * (k : Int)) (surZ n v) 1 (1 + (l.length - 2)) j ∧ (thZ (256 * (k : Int)) (surZ n v) 1 (1 + (l.length - 2)) j).natAbs ≤ 2 ^ 20 := by
    intro j h0 hj
    have := hsz j (by omega)
    unfold thZ
    split
    · exact ⟨by omega, by omega, by omega⟩
    · exact ⟨by omega, this.2, by omega⟩
  have hte : thZ (256 * (k : Int)) (surZ n v) 1 (1 + (l.length - 2)) 0 = v 0 ∧ thZ (256 * (k : Int)) (surZ n v) 1 (1 + (l.length - 2)) (n - 1) = v (n - 1) := by
    constructor
    · unfold thZ; rw [if_neg (by omega)]; exact hs0.1
    · unfold thZ; rw [if_neg (by omega)]; exact hs0.2
  obtain ⟨u, hu, hu2⟩ := fr_all (o := (thinL l (limB k)).1) (lim := 256 * (k : Int)) hn (fun j hj => hQ j (by omega)) (by omega) htz hte tlen t1
  have hfin : pAll (fromL (thinL l (limB k)).1) = true := dl_fin hu
  have hok : thinOk l (limB k) = true := by unfold thinOk; rw [hs1, hleast, hfin]; rfl
  have hut : (fromL (thinL l (limB k)).1).length = n := by rw [fromL_len]; exact tlen
  refine impl_ThinSurplus_wp (by omega) ?_
  rw [hok, if_pos rfl, if_pos rfl]
  have hcnt : (thinL l (limB k)).2 = ctZ (256 * (k : Int)) (surZ n v) (n - 2) 1 := by
    have := t2; unfold thinL; rw [this, Nat.zero_add, hl]
  rw [hcnt]
  generalize fromL (thinL l (limB k)).1 = th at *
  generalize fromL (surL l) = bk at *
  refine b10At_wp hb1 (by omega) (by omega) fun a ha1 ha2 => ?_
  obtain ⟨a, rfl⟩ : ∃ m : Nat, a = m := ⟨a.toNat, by omega⟩
  intro X hX
  -- the line
  have lined : ∀ (o : List Nat), o.length = n → Dl o (fun j => 256 * ((a : Int) - 8) * j + 1024) → X o (n : Int) := by
    intro o ho hd
    refine hX _ _ ⟨fun c => absurd c (by omega), fun _ => ?_⟩
    have hol : o.length = 2 ∨ o.length = 3 ∨ o.length = 5 ∨ o.length = 9 ∨ o.length = 17 := by omega
    have hln : ∀ j : Nat, j < 17 → ∃ q : Int, 256 * ((a : Int) - 8) * j + 1024 = 256 * q + 1024 ∧ q.natAbs ≤ 136 := by
      intro j hj
      refine ⟨((a : Int) - 8) * j, by rw [Int.mul_assoc], ?_⟩
      rw [Int.natAbs_mul, Int.natAbs_natCast]
      exact Nat.le_trans (Nat.mul_le_mul (show ((a : Int) - 8).natAbs ≤ 8 by omega) (show j ≤ 17 by omega)) (by decide)
    have hq2 : Qs o.length (fun j => 256 * ((a : Int) - 8) * j + 1024) := by
      intro j hj
      obtain ⟨q, e, hq⟩ := hln j (by omega)
      dsimp only
      rw [e]
      exact ⟨by omega, by omega⟩
    have hz := sur_dl hol hd hq2
    rw [ho] at hz
    have hzl := surL_len o
    have hz0 : ∀ j, 0 < j → j + 1 < n → surZ n (fun j => 256 * ((a : Int) - 8) * j + 1024) j = 0 := by
      intro j h0 hj
      unfold surZ
      rw [if_pos ⟨h0, hj⟩]
      have h1 := low_le (p := j) (by omega) (by omega)
      dsimp only
      have e1 : ((j - low j : Nat) : Int) = (j : Int) - (low j : Int) := by omega
      have e2 : ((j + low j : Nat) : Int) = (j : Int) + (low j : Int) := by omega
      rw [e1, e2]
      exact line_alg _ _ _
    refine impl_SurplusOf_wp (by omega) ?_
    rw [sur_ok hol hd hq2, if_pos rfl]
    refine tT (tT (tT (tT (tP (by omega) (tP (by omega) (tP (by omega) (tN (by omega) (tN ?_ ?_))))))))
    · have hc : ∀ (lim : Int) (w : Nat → Int) (m i : Nat), ctZ lim w m i ≤ m := by
        intro lim w m
        induction m with
        | zero => intro i; exact Nat.le_refl _
        | succ m ih => intro i; rw [ctZ]; have := ih (i + 1); split <;> omega
      have := hc (256 * (k : Int)) (surZ n v) (n - 2) 1
      rw [wI (by omega)]; omega
    have e1 : IntKind.i64.wrap ((n : Int) - 1) = ((n - 1 : Nat) : Int) := by rw [wI (by omega)]; omega
    have ht := dl_congr hw (w := v) fun j hj => hwv j (by omega)
    refine b10Apart_wp (by omega) (by omega) ht hv (fun j _ => by have := (hq j).1; omega) near_dv (tF ⟨⟨by omega, by omega⟩, ⟨by omega, by omega⟩, ?_⟩)
    have d0 := hsd 0 (by omega)
    rw [hs0.1] at d0
    refine tG ?_ ?_
    · exact (dv_neq d0 (hv 0 (by omega))).trans (by simp)
    rw [e1]
    refine ⟨⟨by omega, by omega⟩, ⟨by omega, by omega⟩, ?_⟩
    rw [nn]
    have dn := hsd (n - 1) (by omega)
    rw [hs0.2] at dn
    refine tG ?_ ?_
    · rw [dv_neq dn (hv (n - 1) (by omega))]; simp
    intro Y hY
    have last : Y ((ctZ (256 * (k : Int)) (surZ n v) (n - 2) 1 : Nat) : Int) ((n - 1 : Nat) : Int) := by
      refine hY _ _ ⟨fun c => absurd c (by omega), fun _ Z hZ => ?_⟩
      refine up (Y := fun i => Z (i : Int)) l.length (hZ _ ⟨fun c => absurd c (by omega), fun _ => by simp⟩) fun i hi hx => hZ _ ⟨fun _ => ⟨⟨by omega, by omega⟩, ⟨by omega, by omega⟩, ?_⟩, fun c => absurd (show (i : Int) < l.length by omega) c⟩
      have u1 := hu2 i (by omega); have u2 := hq i
      rw [nn, w1 (by omega)]
      refine b10Gap_wp (dv_widen (hu i (by omega)) (by omega)) (dv_widen (hv i (by omega)) (by omega)) (by omega) fun g hg => ?_
      exact tG (al_gtr hmost hg (by omega)) hx
    have loop : ∀ (m i c : Nat), i + m = n - 1 → 1 ≤ i → c + ctZ (256 * (k : Int)) (surZ n v) m i = ctZ (256 * (k : Int)) (surZ n v) (n - 2) 1 → c < i → Y (c : Int) (i : Int) := by
      intro m
      induction m with
      | zero =>
        intro i c h1 h2 h3 h4
        obtain rfl : i = n - 1 := by omega
        rw [ctZ, Nat.add_zero] at h3
        rw [h3]; exact last
      | succ m ih =>
        intro i c h1 h2 h3 h4
        refine hY _ _ ⟨fun _ => ⟨⟨by omega, by omega⟩, ?_⟩, fun c => absurd (show (i : Int) < ((n - 1 : Nat) : Int) by omega) c⟩
        have g1 := hz i (by omega)
        rw [hz0 i (by omega) (by omega)] at g1
        have g2 := hsd i (by omega)
        have g3 := hsz i (by omega)
        rw [nn]
        refine b10Gap_wp (dv_widen g1 (by omega)) dv_00 (by omega) fun g hg => tG (al_gtr near_dv hg (by omega)) ⟨⟨by omega, by omega⟩, ?_⟩
        refine b10Gap_wp (dv_widen g2 (by omega)) dv_00 (by omega) fun g hg => ?_
        rw [dv_gtr hg (dv_widen hlim (by omega)), w1 (by omega), w1 (by omega), Int.sub_zero]
        rw [ctZ] at h3
        by_cases c3 : 256 * (k : Int) < ((surZ n v i).natAbs : Int)
        · rw [decide_eq_true c3]
          rw [if_neg (by omega)] at h3
          exact tT (ih (i + 1) (c + 1) (by omega) (by omega) (by omega) (by omega))
        · rw [decide_eq_false c3]
          rw [if_pos (by omega)] at h3
          exact tF (ih (i + 1) c (by omega) (by omega) (by omega) (by omega))
    exact loop (n - 2) 1 0 (by omega) (by omega) (by omega) (by omega)
  have hl8 : IntKind.i64.wrap ((a : Int) - 8) = (a : Int) - 8 := wI (by omega)
  rw [hl8] at hX
  have build : ∀ (m i : Nat) (o : List Nat), i + m = n → o.length = i → Dl o (fun j => 256 * ((a : Int) - 8) * j + 1024) → X o (i : Int) := by
    intro m
    induction m with
    | zero =>
      intro i o h1 h2 h3
      obtain rfl : i = n := by omega
      exact lined o h2 h3
    | succ m ih =>
      intro i o h1 h2 h3
      refine hX _ _ ⟨fun _ => ⟨by rw [len1]; omega, ?_⟩, fun c => absurd (show (i : Int) < (n : Int) by omega) c⟩
      rw [w1 (by omega)]
      refine ih (i + 1) _ (by omega) (by rw [List.length_append, len1]; omega) ?_
      have hp := dvb_ok (line_dv a (by omega) i (by omega))
      intro j hj
      rw [List.length_append, len1] at hj
      dsimp only
      by_cases c : j = i
      · subst c
        rw [List.getD_eq_getElem?_getD, List.getElem?_append_right (by omega), h2, Nat.sub_self]; exact hp
      · rw [List.getD_eq_getElem?_getD, List.getElem?_append_left (by omega), ← List.getD_eq_getElem?_getD]; exact h3 j (by omega)
  exact build n 0 [] (by omega) rfl (fun j hj => absurd hj (by simp))

end Go.Proofs.Ytdoamcokkcoflaa.G

