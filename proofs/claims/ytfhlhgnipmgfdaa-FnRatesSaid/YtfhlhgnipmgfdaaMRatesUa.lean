/-
  What the formulas say, over numbers and lists alone. Nothing here is trusted.
-/
import Derived.Test.YtfhlhgnipmgfdaaMRatesWa
namespace Go.Proofs.Ytfhlhgnipmgfdaa.G
open Go Go.Ab
set_option maxRecDepth 100000
set_option linter.unusedVariables false
set_option linter.unusedSimpArgs false
set_option maxHeartbeats 1000000
/-! ### truth -/
theorem tT {A B : Prop} (h : A) : (true = true → A) ∧ (true = false → B) := ⟨fun _ => h, fun c => (by cases c)⟩
theorem tF {A B : Prop} (h : B) : (false = true → A) ∧ (false = false → B) := ⟨fun c => (by cases c), fun _ => h⟩
theorem tE {A B : Prop} {b : Bool} (e : b = true) (h : A) : (b = true → A) ∧ (b = false → B) := ⟨fun _ => h, fun c => (by rw [e] at c; cases c)⟩
theorem tP {p A B : Prop} (e : p) (h : A) : (p → A) ∧ (¬p → B) := ⟨fun _ => h, fun c => absurd e c⟩
theorem tN {p A B : Prop} (e : ¬p) (h : B) : (p → A) ∧ (¬p → B) := ⟨fun c => absurd c e, fun _ => h⟩
/-! ### loops -/
theorem up {Y : Nat → Prop} (n : Nat) (last : Y n) (step : ∀ i, i < n → Y (i + 1) → Y i) : Y 0 := by
  have key : ∀ d i, i + d = n → Y i := by
    intro d
    induction d with
    | zero => intro i h; obtain rfl : i = n := by omega
              exact last
    | succ d ih => intro i h; exact step i (by omega) (ih (i + 1) (by omega))
  exact key n 0 (by omega)
theorem w1 {i : Nat} (h : i < 4611686018427387904) : IntKind.i64.wrap ((i : Int) + (1 : Int)) = ((i + 1 : Nat) : Int) := wrap_succ (by omega)
theorem wI {n : Int} (h : -9223372036854775808 ≤ n ∧ n < 9223372036854775808) : IntKind.i64.wrap n = n := wrap_i64 h.1 h.2
theorem nn (i : Nat) : ((i : Int)).toNat = i := rfl
theorem gD {α : Type} {l : List α} {i : Nat} (h : i < l.length) (d : α) : l.getD i d = l[i] := by rw [List.getD_eq_getElem?_getD, List.getElem?_eq_getElem h]; rfl
theorem dropC {α : Type} {l : List α} {i : Nat} (h : i < l.length) : l.drop i = l[i] :: l.drop (i + 1) := List.drop_eq_getElem_cons h
theorem len1 {α : Type} (a : α) : ([a] : List α).length = 1 := rfl
theorem cz32 (n : Nat) (h : (FloatKind.f32.decode n).isNaN = false) : cz .f32 n = n := by simp [cz, h]
theorem c0_32 : cz .f32 0 = 0 := cz_zero32
/-! ### copies, comparisons, marks -/
def pFin (x : Nat) : Bool := fcmp .eql .f32 (fop .sub .f32 x x) (cz .f32 0)
def pAll (l : List Nat) : Bool := l.all pFin
/-- A loop that ends early where something does not hold. -/
theorem all_loop {α : Type} (l : List α) (p : α → Bool) {X : Int → Prop} {T F : Prop} (hX : ∀ (i : Nat) (h : i < l.length), ((p l[i] = true → X ((i + 1 : Nat) : Int)) ∧ (p l[i] = false → F)) → X (i : Int))
    (hend : T → X (l.length : Int)) (ht : l.all p = true → T) (hf : l.all p = false → F) : X (0 : Int) := by
  have key := up (Y := fun i => ((l.drop i).all p = true → T) → ((l.drop i).all p = false → F) → X (i : Int)) l.length (fun h _ => hend (h (by rw [List.drop_length]; rfl))) fun i hi hn h1 h2 => ?_
  · exact key (by rw [List.drop_zero]; exact ht) (by rw [List.drop_zero]; exact hf)
  · rw [dropC hi, List.all_cons] at h1 h2
    refine hX i hi ⟨fun e => hn (fun a => h1 (by rw [e, a]; rfl)) (fun a => h2 (by rw [e, a]; rfl)), fun e => h2 (by rw [e]; rfl)⟩
/-- A loop that makes a list, and ends early where something does not hold. -/
theorem map_loop {α β : Type} (l : List α) (p : α → Bool) (f : α → β) {X : List β → Int → Prop} {T F : Prop} (hX : ∀ (i : Nat) (h : i < l.length) (o : List β), o.length = i → ((p l[i] = true → X (o ++ [f l[i]]) ((i + 1 : Nat) : Int)) ∧ (p l[i] = false → F)) → X o (i : Int))
    (hend : T → X (l.map f) (l.length : Int)) (ht : l.all p = true → T) (hf : l.all p = false → F) : X [] (0 : Int) := by
  have key := up (Y := fun i => ((l.drop i).all p = true → T) → ((l.drop i).all p = false → F) → X ((l.take i).map f) (i : Int)) l.length (fun h _ => by rw [List.take_length]; exact hend (h (by rw [List.drop_length]; rfl))) fun i hi hn h1 h2 => ?_
  · have := key (by rw [List.drop_zero]; exact ht) (by rw [List.drop_zero]; exact hf)
    rw [List.take_zero] at this; exact this
  · rw [dropC hi, List.all_cons] at h1 h2
    refine hX i hi _ (by rw [List.length_map, List.length_take]; omega) ⟨fun e => ?_, fun e => h2 (by rw [e]; rfl)⟩
    have := hn (fun a => h1 (by rw [e, a]; rfl)) (fun a => h2 (by rw [e, a]; rfl))
    rw [List.take_succ_eq_append_getElem hi, List.map_append] at this
    exact this
theorem spec_l01Finite_wp {a : Nat} {K : Bool → Prop} (h : K (pFin a)) : spec_l01Finite.wp a K := h
theorem impl_IsFinite_wp {a : Nat} {K : Bool → Prop} (h : K (pFin a)) : impl_IsFinite.wp a K := h
theorem spec_l02Finite_wp {l : List Nat} {K : Bool → Prop} (hl : l.length ≤ 2 ^ 20) (h : K (pAll l)) : spec_l02Finite.wp l K := by
  intro X hX
  refine all_loop l pFin (X := X) (T := K true) (F := K false) (fun i hi hh => ?_) (fun ht => hX _ ⟨fun c => absurd c (by omega), fun _ => ht⟩) (fun e => by rw [pAll, e] at h; exact h) (fun e => by rw [pAll, e] at h; exact h)
  refine hX _ ⟨fun _ => ⟨⟨by omega, by omega⟩, spec_l01Finite_wp ?_⟩, fun c => absurd (show (i : Int) < l.length by omega) c⟩
  rw [nn, gD hi, w1 (by omega)]; exact hh
theorem impl_areFinite_wp {ll : List (List Nat)} {K : Bool → Prop} (hll : ll.length ≤ 2 ^ 20) (hl : ∀ l ∈ ll, l.length ≤ 2 ^ 20) (h : K (ll.all pAll)) : impl_areFinite.wp ll K := by
  intro X hX
  refine all_loop ll pAll (X := X) (T := K true) (F := K false) (fun i hi hh => ?_) (fun ht => hX _ ⟨fun c => absurd c (by omega), fun _ => ht⟩) (fun e => by rw [e] at h; exact h) (fun e => by rw [e] at h; exact h)
  refine hX _ ⟨fun _ => ⟨⟨by omega, by omega⟩, fun Y hY => ?_⟩, fun c => absurd (show (i : Int) < ll.length by omega) c⟩
  have hlen := hl ll[i] (List.getElem_mem hi)
  rw [nn, gD hi, w1 (by omega)] at hY
  refine all_loop ll[i] pFin (X := Y) (T := X ((i + 1 : Nat) : Int)) (F := K false) (fun j hj h2 => ?_) (fun ht => hY _ ⟨fun c => absurd c (by omega), fun _ => ht⟩) (fun e => hh.1 e) (fun e => hh.2 e)
  refine hY _ ⟨fun _ => ⟨⟨by omega, by omega⟩, impl_IsFinite_wp ?_⟩, fun c => absurd (show (j : Int) < ll[i].length by omega) c⟩
  rw [nn, gD hj, w1 (by omega)]; exact h2
theorem impl_areFinite1_wp {l : List Nat} {K : Bool → Prop} (hl : l.length ≤ 2 ^ 20) (h : K (pAll l)) : impl_areFinite.wp [l] K := by
  refine impl_areFinite_wp (by simp) (fun x hx => by rw [List.mem_singleton] at hx; subst hx; exact hl) ?_
  rw [List.all_cons, List.all_nil, Bool.and_true]; exact h
theorem impl_within_wp {a b c : Int} {K : Bool → Prop} (h : K (decide (b ≤ a ∧ a ≤ c))) : impl_within.wp a b c K := by
  refine ⟨fun h1 => ?_, fun h1 => ?_⟩
  · have : decide (b ≤ a ∧ a ≤ c) = decide (a ≤ c) := by simp [h1]
    rw [this] at h; exact h
  · have : decide (b ≤ a ∧ a ≤ c) = false := by simp [h1]
    rw [this] at h; exact h
theorem spec_l00In_wp {a b c : Int} {K : Bool → Prop} (h : K (decide (b ≤ a ∧ a ≤ c))) : spec_l00In.wp a b c K := by
  refine ⟨fun h1 => ?_, fun h1 => ?_⟩
  · have : decide (b ≤ a ∧ a ≤ c) = decide (a ≤ c) := by simp [h1]
    rw [this] at h; exact h
  · have : decide (b ≤ a ∧ a ≤ c) = false := by simp [h1]
    rw [this] at h; exact h
def isL (l : List Nat) : Bool := decide (1 ≤ l.length ∧ l.length ≤ 128) && pAll l
theorem spec_l02Is_wp {l : List Nat} {K : Bool → Prop} (hl : l.length ≤ 2 ^ 20) (h : K (isL l)) : spec_l02Is.wp l K := by
  refine ⟨fun h1 => ⟨fun h2 => spec_l02Finite_wp hl ?_, fun h2 => ?_⟩, fun h1 => ?_⟩
  · rw [isL, decide_eq_true (show 1 ≤ l.length ∧ l.length ≤ 128 by omega), Bool.true_and] at h; exact h
  · rw [isL, decide_eq_false (show ¬(1 ≤ l.length ∧ l.length ≤ 128) by omega), Bool.false_and] at h; exact h
  · rw [isL, decide_eq_false (show ¬(1 ≤ l.length ∧ l.length ≤ 128) by omega), Bool.false_and] at h; exact h
theorem impl_IsList_wp {l : List Nat} {K : Bool → Prop} (hl : l.length ≤ 2 ^ 20) (h : K (isL l)) : impl_IsList.wp l K := by
  refine impl_within_wp ⟨fun h1 => ?_, fun h1 => ?_⟩
  · have h1 := of_decide_eq_true h1
    refine impl_areFinite1_wp hl ?_
    rw [isL, decide_eq_true (show 1 ≤ l.length ∧ l.length ≤ 128 by omega), Bool.true_and] at h; exact h
  · have h1 := of_decide_eq_false h1
    rw [isL, decide_eq_false (show ¬(1 ≤ l.length ∧ l.length ≤ 128) by omega), Bool.false_and] at h; exact h
def isOver (x : Nat) : Bool := pFin x && fcmp .gtr .f32 x (cz .f32 0)
def isLeast (x : Nat) : Bool := pFin x && fcmp .geq .f32 x (cz .f32 0)
theorem spec_l02Above_wp {a : Nat} {K : Bool → Prop} (h : K (isOver a)) : spec_l02Above.wp a K := by
  refine spec_l01Finite_wp ⟨fun h1 => ?_, fun h1 => ?_⟩ <;> (rw [isOver, h1] at h; exact h)
theorem impl_isOver_wp {a : Nat} {K : Bool → Prop} (h : K (isOver a)) : impl_isOver.wp a K := by
  refine impl_IsFinite_wp ⟨fun h1 => ?_, fun h1 => ?_⟩ <;> (rw [isOver, h1] at h; exact h)
theorem impl_isLeast_wp {a : Nat} {K : Bool → Prop} (h : K (isLeast a)) : impl_isLeast.wp a K := by
  refine impl_IsFinite_wp ⟨fun h1 => ?_, fun h1 => ?_⟩ <;> (rw [isLeast, h1] at h; exact h)
def isShare (x : Nat) : Bool := fcmp .geq .f32 x (cz .f32 0) && fcmp .leq .f32 x (cz .f32 1065353216)
theorem spec_l02Share_wp {a : Nat} {K : Bool → Prop} (h : K (isShare a)) : spec_l02Share.wp a K := by
  refine ⟨fun h1 => ?_, fun h1 => ?_⟩ <;> (rw [isShare, h1] at h; exact h)
theorem impl_isShare_wp {a : Nat} {K : Bool → Prop} (h : K (isShare a)) : impl_isShare.wp a K := by
  refine ⟨fun h1 => ?_, fun h1 => ?_⟩ <;> (rw [isShare, h1] at h; exact h)
/-! ### integers -/
def bnd (m : Int) (l : List Int) : Bool := l.all fun n => decide (-m ≤ n ∧ n ≤ m)
def isI (l : List Int) : Bool := decide (1 ≤ l.length ∧ l.length ≤ 128) && bnd 1000000 l
theorem spec_l02Bound_wp {l : List Int} {m : Int} {K : Bool → Prop} (hl : l.length ≤ 2 ^ 20) (hm : 0 ≤ m ∧ m ≤ 2 ^ 40) (h : K (bnd m l)) : spec_l02Bound.wp l m K := by
  intro X hX
  refine all_loop l (fun n => decide (-m ≤ n ∧ n ≤ m)) (X := X) (T := K true) (F := K false) (fun i hi hh => ?_) (fun ht => hX _ ⟨fun c => absurd c (by omega), fun _ => ht⟩) (fun e => by rw [bnd, e] at h; exact h) (fun e => by rw [bnd, e] at h; exact h)
  refine hX _ ⟨fun _ => ⟨⟨by omega, by omega⟩, spec_l00In_wp ?_⟩, fun c => absurd (show (i : Int) < l.length by omega) c⟩
  rw [nn, gD hi, w1 (by omega), wI (show -9223372036854775808 ≤ (0 : Int) - m ∧ (0 : Int) - m < 9223372036854775808 by omega), Int.zero_sub]; exact hh
theorem impl_areWithin_wp {l : List Int} {m : Int} {K : Bool → Prop} (hl : l.length ≤ 2 ^ 20) (hm : 0 ≤ m ∧ m ≤ 2 ^ 40) (h : K (bnd m l)) : impl_areWithin.wp l m K := by
  intro X hX
  refine all_loop l (fun n => decide (-m ≤ n ∧ n ≤ m)) (X := X) (T := K true) (F := K false) (fun i hi hh => ?_) (fun ht => hX _ ⟨fun c => absurd c (by omega), fun _ => ht⟩) (fun e => by rw [bnd, e] at h; exact h) (fun e => by rw [bnd, e] at h; exact h)
  refine hX _ ⟨fun _ => ⟨⟨by omega, by omega⟩, impl_within_wp ?_⟩, fun c => absurd (show (i : Int) < l.length by omega) c⟩
  rw [nn, gD hi, w1 (by omega), wI (show -9223372036854775808 ≤ (0 : Int) - m ∧ (0 : Int) - m < 9223372036854775808 by omega), Int.zero_sub]; exact hh
theorem spec_l02Integers_wp {l : List Int} {K : Bool → Prop} (hl : l.length ≤ 2 ^ 20) (h : K (isI l)) : spec_l02Integers.wp l K := by
  refine ⟨fun h1 => ⟨fun h2 => spec_l02Bound_wp hl (by omega) ?_, fun h2 => ?_⟩, fun h1 => ?_⟩
  · rw [isI, decide_eq_true (show 1 ≤ l.length ∧ l.length ≤ 128 by omega), Bool.true_and] at h; exact h
  · rw [isI, decide_eq_false (show ¬(1 ≤ l.length ∧ l.length ≤ 128) by omega), Bool.false_and] at h; exact h
  · rw [isI, decide_eq_false (show ¬(1 ≤ l.length ∧ l.length ≤ 128) by omega), Bool.false_and] at h; exact h
theorem impl_AreIntegers_wp {l : List Int} {K : Bool → Prop} (hl : l.length ≤ 2 ^ 20) (h : K (isI l)) : impl_AreIntegers.wp l K := by
  refine impl_within_wp ⟨fun h1 => ?_, fun h1 => ?_⟩
  · have h1 := of_decide_eq_true h1
    refine impl_areWithin_wp hl (by omega) ?_
    rw [isI, decide_eq_true (show 1 ≤ l.length ∧ l.length ≤ 128 by omega), Bool.true_and] at h; exact h
  · have h1 := of_decide_eq_false h1
    rw [isI, decide_eq_false (show ¬(1 ≤ l.length ∧ l.length ≤ 128) by omega), Bool.false_and] at h; exact h
theorem impl_finiteList_wp {l : List Nat} {K : Bool → Bool → Prop} (hl : l.length ≤ 2 ^ 20) (h : K (pAll l) (pAll l)) : impl_finiteList.wp l K := by
  refine impl_areFinite1_wp hl ⟨fun h1 => ?_, fun h1 => ?_⟩ <;> (rw [h1] at h; exact h)
theorem spec_l02List_wp {l : List Nat} {K : Bool → Bool → Prop} (hl : l.length ≤ 2 ^ 20) (h : K (pAll l) (pAll l)) : spec_l02List.wp l K := by
  refine spec_l02Finite_wp hl ⟨fun h1 => ?_, fun h1 => ?_⟩ <;> (rw [h1] at h; exact h)
def Byt (l : List Int) : Prop := l.length ≤ 2 ^ 30 ∧ ∀ x ∈ l, 0 ≤ x ∧ x < 256
theorem iand255 (x : Int) : 0 ≤ IntKind.i64.wrap (ibits .and .u64 x 255) ∧ IntKind.i64.wrap (ibits .and .u64 x 255) < 256 := by
  have h : (BitVec.ofInt 64 x &&& BitVec.ofInt 64 255).toNat < 256 := by
    rw [BitVec.toNat_and]
    exact Nat.lt_of_le_of_lt Nat.and_le_right (by decide)
  have e : ibits .and .u64 x 255 = ((BitVec.ofInt 64 x &&& BitVec.ofInt 64 255).toNat : Int) := by
    show IntKind.u64.wrap ((BitVec.ofInt 64 x &&& BitVec.ofInt 64 255).toNat : Int) = _
    show _ % 18446744073709551616 = _
    omega
  rw [e, wI (by omega)]; omega
theorem spec_next_wp {l : List Int} {a s : Int} {K : Int → Int → Int → Prop} (hl : Byt l) (ha : 0 ≤ a ∧ a ≤ 2 ^ 40) (h : ∀ v t, 0 ≤ v ∧ v < 256 → K v (a + 1) t) : spec_l00Src_next.wp l a s K := by
  have ea : IntKind.i64.wrap (a + 1) = a + 1 := wI (by omega)
  refine ⟨fun c => ⟨⟨ha.1, c⟩, fun c2 => ?_, fun c2 => ?_⟩, fun c => ⟨fun c2 => ?_, fun c2 => ?_⟩⟩
  · rw [ea]
    have hi : a.toNat < l.length := by omega
    rw [gD hi]
    have hb := hl.2 _ (List.getElem_mem hi)
    rw [wI (by omega)]
    exact h _ _ hb
  · rw [ea]; exact h _ _ (iand255 _)
  · rw [ea]; exact h _ _ ⟨by decide, by decide⟩
  · rw [ea]; exact h _ _ (iand255 _)
theorem spec_pick_wp {l : List Int} {a s n : Int} {K : Int → Int → Int → Prop} (hl : Byt l) (ha : 0 ≤ a ∧ a ≤ 2 ^ 39) (hn : 1 ≤ n ∧ n ≤ 2 ^ 40) (h : ∀ v b t, 0 ≤ v ∧ v < n → a ≤ b ∧ b ≤ a + 2 → K v b t) : spec_l00Src_pick.wp l a s n K := by
  refine ⟨fun c => h _ _ _ (by omega) (by omega), fun c => ?_⟩
  refine spec_next_wp hl (by omega) fun v t hv => ⟨fun c2 => ?_, fun c2 => ⟨by omega, ?_⟩⟩
  · refine spec_next_wp hl (by omega) fun w u hw => ⟨by omega, ?_⟩
    rw [wI (n := v * 256) (by omega), wI (n := v * 256 + w) (by omega)]
    have e := Int.tmod_eq_emod_of_nonneg (a := v * 256 + w) (b := n) (by omega)
    have h1 := Int.emod_nonneg (v * 256 + w) (show n ≠ 0 by omega)
    have h2 := Int.emod_lt_of_pos (v * 256 + w) (show 0 < n by omega)
    exact h _ _ _ (by omega) (by omega)
  · have e := Int.tmod_eq_emod_of_nonneg (a := v) (b := n) (by omega)
    have h1 := Int.emod_nonneg v (show n ≠ 0 by omega)
    have h2 := Int.emod_lt_of_pos v (show 0 < n by omega)
    exact h _ _ _ (by omega) (by omega)
theorem r8At_wp {l : List Int} {k n : Int} {K : Int → Prop} (hl : Byt l) (hk : 0 ≤ k) (hn : 1 ≤ n ∧ n ≤ 2 ^ 40) (h : ∀ v : Nat, (v : Int) < n → K (v : Int)) : laws_r8At.wp l k n K := by
  refine ⟨fun c => h 0 (by omega), fun c => ⟨fun c2 => h 0 (by omega), fun c2 => ⟨⟨hk, by omega⟩, by omega, ?_⟩⟩⟩
  have hi : k.toNat < l.length := by omega
  rw [gD hi]
  have hb := hl.2 _ (List.getElem_mem hi)
  rw [wI (by omega)]
  have e := Int.tmod_eq_emod_of_nonneg (a := l[k.toNat]) (b := n) (by omega)
  have h1 := Int.emod_nonneg l[k.toNat] (show n ≠ 0 by omega)
  have h2 := Int.emod_lt_of_pos l[k.toNat] (show 0 < n by omega)
  rw [show Int.tmod l[k.toNat] n = ((Int.tmod l[k.toNat] n).toNat : Int) by omega]
  exact h _ (by omega)

def Sm (n : Int) : Prop := -1000000 ≤ n ∧ n ≤ 1000000
theorem u64w {k : Nat} (h : k < 2 ^ 40) : IntKind.u64.wrap (k : Int) = (k : Int) := by
  show (k : Int) % 18446744073709551616 = _; omega
theorem shr (y k : Nat) (hk : k ≤ 60) : Int.fdiv (y : Int) (2 ^ (min (k : Int).toNat IntKind.i64.bits)) = ((y / 2 ^ k : Nat) : Int) := by
  have e : min (k : Int).toNat IntKind.i64.bits = k := by
    rw [Int.toNat_natCast, show IntKind.i64.bits = 64 from rfl]; omega
  rw [e, Int.fdiv_eq_ediv_of_nonneg _ (by exact Int.le_of_lt (Int.pow_pos (by decide)))]
  rw [show (2 : Int) ^ k = ((2 ^ k : Nat) : Int) by rw [Int.natCast_pow]; rfl]
  rfl
theorem impl_farC_wp {n : Int} {K : Int → Prop} (h : Sm n) (hk : K (n.natAbs : Int)) : impl_far.wp n K := by
  obtain ⟨h1, h2⟩ := h
  show K (mxI n (IntKind.i64.wrap (0 - n)))
  rw [wI (n := 0 - n) (by omega)]
  have : mxI n (0 - n) = (n.natAbs : Int) := by unfold mxI; split <;> omega
  rw [this]; exact hk
/-- How many digits the greatest has. -/
def IsTop (l : List Int) (n : Nat) : Prop := (∀ x ∈ l, x.natAbs < 2 ^ n) ∧ (n = 0 ∨ ∃ x ∈ l, 2 ^ (n - 1) ≤ x.natAbs)
theorem top_uniq {l : List Int} {n m : Nat} (h1 : IsTop l n) (h2 : IsTop l m) : n = m := by
  have key : ∀ {n m : Nat}, IsTop l n → IsTop l m → n ≤ m := by
    intro n m h1 h2
    rcases h1.2 with h | ⟨x, hx, h3⟩
    · omega
    · have h4 := h2.1 x hx
      rcases Nat.lt_or_ge m n with h5 | h5
      · have : 2 ^ m ≤ 2 ^ (n - 1) := Nat.pow_le_pow_right (by decide) (by omega)
        omega
      · exact h5
  exact Nat.le_antisymm (key h1 h2) (key h2 h1)
theorem top_le {l : List Int} {n : Nat} (hg : ∀ x ∈ l, Sm x) (h : IsTop l n) : n ≤ 20 := by
  rcases h.2 with h | ⟨x, hx, h3⟩
  · omega
  · obtain ⟨h1, h2⟩ := hg x hx
    rcases Nat.lt_or_ge 20 n with h5 | h5
    · have : 2 ^ 20 ≤ 2 ^ (n - 1) := Nat.pow_le_pow_right (by decide) (by omega)
      omega
    · exact h5
def tab8 : List UInt8 := ([0, 1, 2, 2, 3, 3, 3, 3, 4, 4, 4, 4, 4, 4, 4, 4, 5, 5, 5, 5, 5, 5, 5, 5, 5, 5, 5, 5, 5, 5, 5, 5] ++ List.replicate 32 6) ++ (List.replicate 64 7 ++ List.replicate 128 8)
def bitL (n : Nat) : Nat := if n = 0 then 0 else n.log2 + 1
def bN8 (n : Nat) : Nat := (tab8.getD n 0).toNat
theorem tab8_at : ∀ n, n < 256 → bN8 n = bitL n := by decide +kernel
theorem bitL_lt (n : Nat) : n < 2 ^ bitL n := by
  unfold bitL; split
  · rename_i h; subst h; decide
  · exact Nat.lt_log2_self
theorem bitL_le {n : Nat} (h : n ≠ 0) : 2 ^ (bitL n - 1) ≤ n := by
  unfold bitL; rw [if_neg h, Nat.add_sub_cancel]; exact Nat.log2_self_le h
theorem fdivu (y k : Nat) (hk : k ≤ 60) : Int.fdiv (y : Int) (2 ^ (min (k : Int).toNat IntKind.u64.bits)) = ((y / 2 ^ k : Nat) : Int) := by
  have e : min (k : Int).toNat IntKind.u64.bits = k := by
    rw [Int.toNat_natCast, show IntKind.u64.bits = 64 from rfl]; omega
  rw [e, Int.fdiv_eq_ediv_of_nonneg _ (by exact Int.le_of_lt (Int.pow_pos (by decide)))]
  rw [show (2 : Int) ^ k = ((2 ^ k : Nat) : Int) by rw [Int.natCast_pow]; rfl]
  rfl
theorem u8w {n : Nat} (h : n < 256) : IntKind.u8.wrap (n : Int) = (n : Int) := by
  show (n : Int) % 256 = _; omega
theorem bt_tab {n : Nat} (h : n < 256) : IntKind.i64.wrap (bt tab8 (n : Int)) = ((bitL n : Nat) : Int) := by
  have e : bt tab8 (n : Int) = ((bitL n : Nat) : Int) := by
    rw [← tab8_at n h]; rfl
  have hb : bitL n ≤ 8 := by
    unfold bitL; split
    · omega
    · have : n.log2 < 8 := (Nat.log2_lt (by assumption)).2 (by omega)
      omega
  rw [e, wI (by omega)]
theorem bitL8 {n : Nat} (h : n < 256) : bitL n ≤ 8 := by
  unfold bitL; split
  · omega
  · have : n.log2 < 8 := (Nat.log2_lt (by assumption)).2 (by omega)
    omega
/-- The digits of a number are those of its upper part, and the lower ones. -/
theorem bits_up {m s : Nat} (h : m / 2 ^ s ≠ 0) : m < 2 ^ (s + bitL (m / 2 ^ s)) ∧ 2 ^ (s + bitL (m / 2 ^ s) - 1) ≤ m := by
  have h1 := bitL_lt (m / 2 ^ s)
  have h2 := bitL_le h
  have h0 : bitL (m / 2 ^ s) ≠ 0 := by unfold bitL; rw [if_neg h]; omega
  have hp := Nat.two_pow_pos s
  constructor
  · rw [Nat.pow_add]; exact Nat.lt_of_lt_of_le ((Nat.div_lt_iff_lt_mul hp).1 h1) (Nat.le_of_eq (Nat.mul_comm _ _))
  · rw [show s + bitL (m / 2 ^ s) - 1 = s + (bitL (m / 2 ^ s) - 1) by omega, Nat.pow_add, Nat.mul_comm]
    exact (Nat.le_div_iff_mul_le hp).1 h2
theorem Len64_wp {m : Nat} {K : Int → Prop} (hm : m ≤ 1000000) (h : ∀ n, n ≤ 40 → m < 2 ^ n → (n = 0 ∨ 2 ^ (n - 1) ≤ m) → K (n : Nat)) : math_bits_Len64.wp (m : Int) K := by
  refine ⟨fun c => absurd c (by omega), fun _ => ⟨fun c => ?_, fun c => ?_⟩⟩
  · have e : Int.fdiv (m : Int) (2 ^ (min (16 : Int).toNat IntKind.u64.bits)) = ((m / 2 ^ 16 : Nat) : Int) := fdivu m 16 (by decide)
    have hd : m / 2 ^ 16 < 256 := by omega
    rw [e]
    refine ⟨fun c2 => absurd c2 (by omega), fun _ => ?_⟩
    rw [u8w hd]
    have hb := bitL8 hd
    refine ⟨⟨by omega, by show ((m / 2 ^ 16 : Nat) : Int) < 256; omega⟩, ?_⟩
    show K (IntKind.i64.wrap (IntKind.i64.wrap (0 + 16) + IntKind.i64.wrap (bt tab8 ((m / 2 ^ 16 : Nat) : Int))))
    rw [bt_tab hd, show IntKind.i64.wrap (IntKind.i64.wrap (0 + 16) + ((bitL (m / 2 ^ 16) : Nat) : Int)) = ((16 + bitL (m / 2 ^ 16) : Nat) : Int) by rw [show IntKind.i64.wrap (0 + 16) = 16 from by decide, wI (by omega)]; omega]
    have := bits_up (m := m) (s := 16) (by omega)
    exact h _ (by omega) this.1 (.inr this.2)
  · refine ⟨fun c2 => ?_, fun c2 => ?_⟩
    · have e : Int.fdiv (m : Int) (2 ^ (min (8 : Int).toNat IntKind.u64.bits)) = ((m / 2 ^ 8 : Nat) : Int) := fdivu m 8 (by decide)
      have hd : m / 2 ^ 8 < 256 := by omega
      rw [e, u8w hd]
      have hb := bitL8 hd
      refine ⟨⟨by omega, by show ((m / 2 ^ 8 : Nat) : Int) < 256; omega⟩, ?_⟩
      show K (IntKind.i64.wrap (IntKind.i64.wrap (0 + 8) + IntKind.i64.wrap (bt tab8 ((m / 2 ^ 8 : Nat) : Int))))
      rw [bt_tab hd, show IntKind.i64.wrap (IntKind.i64.wrap (0 + 8) + ((bitL (m / 2 ^ 8) : Nat) : Int)) = ((8 + bitL (m / 2 ^ 8) : Nat) : Int) by rw [show IntKind.i64.wrap (0 + 8) = 8 from by decide, wI (by omega)]; omega]
      have := bits_up (m := m) (s := 8) (by omega)
      exact h _ (by omega) this.1 (.inr this.2)
    · have hd : m < 256 := by omega
      rw [u8w hd]
      have hb := bitL8 hd
      refine ⟨⟨by omega, by show (m : Int) < 256; omega⟩, ?_⟩
      show K (IntKind.i64.wrap (0 + IntKind.i64.wrap (bt tab8 (m : Int))))
      rw [bt_tab hd, show IntKind.i64.wrap (0 + ((bitL m : Nat) : Int)) = ((bitL m : Nat) : Int) by rw [wI (by omega)]; omega]
      refine h _ (by omega) (bitL_lt m) ?_
      by_cases h0 : m = 0
      · exact .inl (by unfold bitL; rw [if_pos h0])
      · exact .inr (bitL_le h0)
theorem impl_planesFor_wp {l : List Int} {K : Int → Prop} (hl : l.length ≤ 128) (hg : ∀ x ∈ l, Sm x) (h : ∀ n, IsTop l n → K (n : Nat)) : impl_planesFor.wp l K := by
  intro X hX
  have key : ∀ (d i m : Nat), d + i = l.length → m ≤ 1000000 → (∀ x ∈ l.take i, x.natAbs ≤ m) → (m = 0 ∨ ∃ x ∈ l, x.natAbs = m) → X (m : Int) (i : Int) := by
    intro d
    induction d with
    | zero =>
      intro i m h1 hm h2 h3
      obtain rfl : i = l.length := by omega
      rw [List.take_length] at h2
      refine hX _ _ ⟨fun c => absurd c (by omega), fun _ => ?_⟩
      rw [u64w (by omega)]
      refine Len64_wp hm fun n _ h4 h5 => h n ⟨fun x hx => Nat.lt_of_le_of_lt (h2 x hx) h4, ?_⟩
      rcases h5 with h5 | h5
      · exact .inl h5
      · rcases h3 with h3 | ⟨x, hx, h3⟩
        · have := Nat.two_pow_pos (n - 1); omega
        · exact .inr ⟨x, hx, by rw [h3]; exact h5⟩
    | succ d ih =>
      intro i m h1 hm h2 h3
      have hi : i < l.length := by omega
      have hz := hg _ (List.getElem_mem hi)
      refine hX _ _ ⟨fun _ => ⟨⟨by omega, by omega⟩, ?_⟩, fun c => absurd (show (i : Int) < l.length by omega) c⟩
      rw [nn, gD hi, w1 (by omega)]
      refine impl_farC_wp hz ?_
      have hzb : l[i].natAbs ≤ 1000000 := by obtain ⟨h5, h6⟩ := hz; omega
      have hmx : mxI (m : Int) (l[i].natAbs : Int) = ((max m l[i].natAbs : Nat) : Int) := by unfold mxI; split <;> omega
      rw [hmx]
      refine ih (i + 1) _ (by omega) (by omega) (fun x hx => ?_) ?_
      · rw [List.take_succ_eq_append_getElem hi] at hx
        rcases List.mem_append.1 hx with hx | hx
        · have := h2 x hx; omega
        · rw [List.mem_singleton.1 hx]; omega
      · rcases Nat.le_total m l[i].natAbs with h5 | h5
        · exact .inr ⟨l[i], List.getElem_mem hi, by omega⟩
        · rcases h3 with h3 | ⟨x, hx, h3⟩
          · exact .inl (by omega)
          · exact .inr ⟨x, hx, by omega⟩
  exact key l.length 0 0 (by omega) (by omega) (fun x hx => by simp at hx) (.inl rfl)
/-- One integer's bits of a plane. -/
def dgt (a k : Nat) : Bool := decide (ibits .and .i64 ((a / 2 ^ k : Nat) : Int) 1 = 1)
def oneC (n : Int) (k : Nat) : List Bool := if dgt n.natAbs k = true then (if n.natAbs / 2 ^ (k + 1) = 0 then [true, decide (n < 0)] else [true]) else [false]
theorem oneC_len (n : Int) (k : Nat) : (oneC n k).length ≤ 2 := by unfold oneC; split <;> (try split) <;> simp
def planeC (l : List Int) (k : Nat) : List Bool := l.flatMap fun n => oneC n k
def codeC (l : List Int) (p : Nat) : Nat → List Bool
  | 0 => []
  | j + 1 => planeC l (p + j) ++ codeC l p j
theorem flat_len {l : List Int} {k : Nat} : (planeC l k).length ≤ 2 * l.length := by
  unfold planeC
  induction l with
  | nil => simp
  | cons a l ih => rw [List.flatMap_cons, List.length_append, List.length_cons]; have := oneC_len a k; omega
theorem impl_digit_wp {n : Int} {k : Nat} {K : Bool → Prop} (h : Sm n) (hk : k ≤ 40) (hK : K (dgt n.natAbs k)) : impl_digit.wp n (k : Int) K := by
  refine impl_farC_wp h ?_
  rw [shr _ _ (by omega)]
  exact ⟨by omega, hK⟩
/-- The inner loop. -/
theorem plane_loop (l : List Int) (k : Nat) {X : List Bool → Int → Prop} (o : List Bool) (hX : ∀ (q : List Bool) (i : Nat) (hi : i < l.length), q.length + (oneC l[i] k).length ≤ o.length + 2 * l.length → X (q ++ oneC l[i] k) ((i + 1 : Nat) : Int) → X q (i : Int)) (hend : X (o ++ planeC l k) (l.length : Int)) : X o ((0 : Nat) : Int) := by
  have key : ∀ m i q, m + i = l.length → q ++ planeC (l.drop i) k = o ++ planeC l k → X q (i : Int) := by
    intro m
    induction m with
    | zero => intro i q h1 h3
              obtain rfl : i = l.length := by omega
              rw [List.drop_length] at h3
              have h3 : q ++ [] = _ := h3
              rw [List.append_nil] at h3
              rw [h3]; exact hend
    | succ m ih =>
      intro i q h1 h3
      have hi : i < l.length := by omega
      rw [dropC hi] at h3
      have h3 : q ++ (oneC l[i] k ++ planeC (l.drop (i + 1)) k) = _ := h3
      have h4 := congrArg List.length h3
      rw [List.length_append, List.length_append, List.length_append] at h4
      have h5 := flat_len (l := l) (k := k)
      exact hX q i hi (by omega) (ih (i + 1) _ (by omega) (by rw [List.append_assoc]; exact h3))
  exact key l.length 0 o (by omega) (by rw [List.drop_zero])
/-- The outer loop: planes down to p. -/
theorem planes_loop (l : List Int) (hl : l.length ≤ 128) (p T : Nat) (hT : T ≤ 40) {X : List Bool → Int → Prop} (hX : ∀ (o : List Bool) (j : Nat), j < T → o.length + 2 * l.length ≤ 2 * l.length * T → X (o ++ planeC l (p + j)) (((p + j : Nat) : Int) - 1) → X o (((p + j : Nat)) : Int)) (hend : X (codeC l p T) ((p : Int) - 1)) : X [] (((p + T : Nat) : Int) - 1) := by
  have key : ∀ j o, j ≤ T → o.length + 2 * l.length * j ≤ 2 * l.length * T → o ++ codeC l p j = codeC l p T → X o (((p + j : Nat) : Int) - 1) := by
    intro j
    induction j with
    | zero =>
      intro o h1 h2 h3
      rw [codeC, List.append_nil] at h3
      rw [h3]; exact hend
    | succ j ih =>
      intro o h1 h2 h3
      rw [codeC] at h3
      rw [Nat.mul_succ] at h2
      have h5 := flat_len (l := l) (k := p + j)
      have := hX o j (by omega) (by omega) (ih _ (by omega) (by rw [List.length_append]; omega) (by rw [List.append_assoc]; exact h3))
      rw [show ((p + (j + 1) : Nat) : Int) - 1 = ((p + j : Nat) : Int) by omega]; exact this
  exact key T [] (Nat.le_refl _) (by simp) rfl
theorem shr1 {n : Int} {k : Nat} (hk : k ≤ 40) {A B : Prop} (h : (n.natAbs / 2 ^ (k + 1) = 0 → A) ∧ (¬ n.natAbs / 2 ^ (k + 1) = 0 → B)) : (Int.fdiv (n.natAbs : Int) (2 ^ (min ((k + 1 : Nat) : Int).toNat IntKind.i64.bits)) = 0 → A) ∧ (¬ Int.fdiv (n.natAbs : Int) (2 ^ (min ((k + 1 : Nat) : Int).toNat IntKind.i64.bits)) = 0 → B) := by
  rw [shr _ _ (by omega)]
  exact ⟨fun c => h.1 (by omega), fun c => h.2 (by omega)⟩
theorem impl_codeUntil_wp {l : List Int} {p n : Nat} {K : List Bool → Prop} (hl : l.length ≤ 128) (hg : ∀ x ∈ l, Sm x) (hp : p ≤ 40) (hn20 : n ≤ 20) (h : K (codeC l p (n - p))) : impl_codeUntil.wp l (n : Int) (p : Int) K := by
  intro X hX
  rw [wI (by omega)]
  have main : X [] (((p + (n - p) : Nat) : Int) - 1) := by
    refine planes_loop l hl p (n - p) (by omega) (X := X) (fun o j hj ho hn1 => hX _ _ ⟨fun _ => fun Y hY => ?_, fun c => absurd (show (p : Int) ≤ ((p + j : Nat) : Int) by omega) c⟩) (hX _ _ ⟨fun c => absurd c (by omega), fun _ => h⟩)
    have hb : 2 * l.length * (n - p) ≤ 256 * 20 := Nat.mul_le_mul (by omega) (by omega)
    refine plane_loop l (p + j) (X := Y) o (fun q i hi hq hn2 => hY _ _ ⟨fun _ => ⟨⟨by omega, by omega⟩, ?_⟩, fun c => absurd (show (i : Int) < l.length by omega) c⟩) (hY _ _ ⟨fun c => absurd c (by omega), fun _ => ?_⟩)
    · have hz := hg _ (List.getElem_mem hi)
      rw [nn, gD hi, w1 (by omega)]
      refine impl_digit_wp hz (by omega) ⟨by rw [len1]; omega, fun c => ?_, fun c => ?_⟩
      · refine impl_farC_wp hz ?_
        rw [w1 (by omega)]
        refine ⟨by omega, shr1 (by omega) ⟨fun c2 => ⟨by rw [List.length_append, len1, len1]; omega, ?_⟩, fun c2 => ?_⟩⟩
        · rw [oneC, if_pos c, if_pos c2] at hn2
          rw [c, List.append_assoc]; exact hn2
        · rw [oneC, if_pos c, if_neg c2] at hn2
          rw [c]; exact hn2
      · rw [oneC, if_neg (by rw [c]; decide)] at hn2
        rw [c]
        first | exact hn2 | (rw [w1 (by omega)]; exact hn2)
    · rw [wI (by omega)]; exact hn1
  by_cases hc : p ≤ n
  · rw [show (n : Int) - 1 = ((p + (n - p) : Nat) : Int) - 1 by omega]; exact main
  · refine hX _ _ ⟨fun c => absurd c (by omega), fun _ => ?_⟩
    rw [show n - p = 0 by omega] at h; exact h
theorem top_ex (l : List Int) : ∃ n, IsTop l n := by
  have h0 : ∀ m, (∀ x ∈ l, x.natAbs < 2 ^ m) → ∃ n, IsTop l n := by
    intro m
    induction m with
    | zero => intro h; exact ⟨0, h, .inl rfl⟩
    | succ m ih =>
      intro h
      by_cases hc : ∃ x ∈ l, 2 ^ m ≤ x.natAbs
      · exact ⟨m + 1, h, .inr hc⟩
      · refine ih fun x hx => ?_
        rcases Nat.lt_or_ge x.natAbs (2 ^ m) with h1 | h1
        · exact h1
        · exact absurd ⟨x, hx, h1⟩ hc
  have hb : ∀ l : List Int, ∃ m, ∀ x ∈ l, x.natAbs < 2 ^ m := by
    intro l
    induction l with
    | nil => exact ⟨0, fun x hx => by cases hx⟩
    | cons a l ih =>
      obtain ⟨m, hm⟩ := ih
      refine ⟨m + bitL a.natAbs, fun x hx => ?_⟩
      rcases List.mem_cons.1 hx with rfl | hx
      · exact Nat.lt_of_lt_of_le (bitL_lt _) (Nat.pow_le_pow_right (by decide) (by omega))
      · exact Nat.lt_of_lt_of_le (hm x hx) (Nat.pow_le_pow_right (by decide) (by omega))
  obtain ⟨m, hm⟩ := hb l
  exact h0 m hm


def isSch (l : List Nat) (s : Nat) : Bool := decide (1 ≤ (l.length : Int) ∧ (l.length : Int) ≤ 8) && pAll l && isOver s
theorem impl_ValidScheme_wp {l : List Nat} {s : Nat} {K : Bool → Prop} (hl : l.length ≤ 2 ^ 20) (h : K (isSch l s)) : impl_ValidScheme.wp l s K := by
  refine impl_within_wp ⟨fun h1 => impl_areFinite1_wp hl ⟨fun h3 => impl_isOver_wp ?_, fun h3 => ?_⟩, fun h1 => ?_⟩
  · rw [isSch, h1, h3] at h; exact h
  · rw [isSch, h1, h3] at h; exact h
  · rw [isSch, h1] at h; exact h
theorem impl_copyOf_wp {l : List Nat} {K : List Nat → Prop} (hl : l.length ≤ 2 ^ 20) (h : K l) : impl_copyOf.wp l K :=
  ⟨by simp only [List.length_nil]; omega, h⟩
/-! ### from a surplus -/
/-! ### the surplus -/
open Ieee in
theorem neg_read (b : Nat) : single.read (Op.negFloat .f32 b) = (single.read b).opposite := by
  have hs : single.signWeight = 2 ^ 31 := rfl
  have h2 : Op.negFloat .f32 b % 2 ^ 31 = b % 2 ^ 31 := by
    show (b ^^^ 2 ^ 31) % 2 ^ 31 = _
    rw [Nat.xor_mod_two_pow]; simp
  have h3 : Op.negFloat .f32 b / 2 ^ 31 % 2 = (b / 2 ^ 31 + 1) % 2 := by
    show (b ^^^ 2 ^ 31) / 2 ^ 31 % 2 = _
    rw [Nat.xor_div_two_pow, Nat.div_self (by decide)]
    have := Nat.xor_mod_two_pow (a := b / 2 ^ 31) (b := 1) (n := 1)
    rw [Nat.pow_one] at this; rw [this]
    rcases Nat.mod_two_eq_zero_or_one (b / 2 ^ 31) with h | h
    · rw [h, show (b / 2 ^ 31 + 1) % 2 = 1 by omega]; decide
    · rw [h, show (b / 2 ^ 31 + 1) % 2 = 0 by omega]; decide
  have h4 : (Op.negFloat .f32 b / 2 ^ 31 % 2 == 1) = !(b / 2 ^ 31 % 2 == 1) := by
    rw [h3]
    rcases Nat.mod_two_eq_zero_or_one (b / 2 ^ 31) with h | h
    · rw [h, show (b / 2 ^ 31 + 1) % 2 = 1 by omega]; rfl
    · rw [h, show (b / 2 ^ 31 + 1) % 2 = 0 by omega]; rfl
  unfold Format.read
  rw [hs, h2, h4]
  dsimp only
  split
  · rfl
  · split
    · rfl
    · split <;> rfl
open Ieee in
theorem fneg_read {b : Nat} (h : (single.read b).isNaN = false) : single.read (fneg .f32 b) = (single.read b).opposite := by
  have e : (FloatKind.f32.decode (Op.negFloat .f32 b)).isNaN = false := by
    show (single.read _).isNaN = false
    rw [neg_read]; cases hr : single.read b with
    | nan s t => rw [hr] at h; cases h
    | _ => rfl
  rw [fneg, cz32 _ e, neg_read]
/-! ### values, in units of the last place -/
open Ieee in
def val : Datum → Int
  | .number s m e => signed s m (e + 149).toNat
  | _ => 0
open Ieee in
theorem signed_up (s : Bool) (m a b : Nat) : signed s m (a + b) = signed s m a * (2 ^ b : Nat) := by
  unfold signed
  cases s <;> simp [Nat.shiftLeft_eq, Nat.pow_add, Int.mul_assoc, Int.neg_mul]
open Ieee in
theorem order_val {s t : Bool} {m n : Nat} {i j : Int} (hi : -149 ≤ i) (hj : -149 ≤ j) : (Datum.number s m i).order (.number t n j) = some (compare (val (.number s m i)) (val (.number t n j))) := by
  have e1 : val (.number s m i) = signed s m (i - min i j).toNat * (2 ^ (min i j + 149).toNat : Nat) := by
    show signed s m _ = _
    rw [← signed_up]; congr 1; omega
  have e2 : val (.number t n j) = signed t n (j - min i j).toNat * (2 ^ (min i j + 149).toNat : Nat) := by
    show signed t n _ = _
    rw [← signed_up]; congr 1; omega
  rw [e1, e2]
  show some (compare (signed s m (i - min i j).toNat) (signed t n (j - min i j).toNat)) = _
  congr 1
  have hp : (0 : Int) < ((2 ^ (min i j + 149).toNat : Nat) : Int) := by have := Nat.two_pow_pos (min i j + 149).toNat; omega
  generalize signed s m (i - min i j).toNat = a
  generalize signed t n (j - min i j).toNat = b
  generalize ((2 ^ (min i j + 149).toNat : Nat) : Int) = p at hp
  rw [show compare a b = compareOfLessAndEq a b from rfl, show compare (a * p) (b * p) = compareOfLessAndEq (a * p) (b * p) from rfl]
  unfold compareOfLessAndEq
  have h1 : (a * p < b * p) = (a < b) := propext ⟨fun h => Int.lt_of_mul_lt_mul_right h (Int.le_of_lt hp), fun h => Int.mul_lt_mul_of_pos_right h hp⟩
  have h2 : (a * p = b * p) = (a = b) := propext ⟨fun h => Int.eq_of_mul_eq_mul_right (Int.ne_of_gt hp) h, fun h => by rw [h]⟩
  simp only [h1, h2]
/-- A word of single precision: no number, or how it stands to others. -/
theorem cmp_lt {a b : Int} : (compare a b == Ordering.lt) = decide (a < b) := by
  rw [show compare a b = compareOfLessAndEq a b from rfl]; unfold compareOfLessAndEq
  split
  · simp [*]
  · split <;> simp [*]
theorem cmp_eq {a b : Int} : (compare a b == Ordering.eq) = decide (a = b) := by
  rw [show compare a b = compareOfLessAndEq a b from rfl]; unfold compareOfLessAndEq
  split
  · simp; omega
  · split <;> simp [*]
theorem cmp_gt {a b : Int} : (compare a b == Ordering.gt) = decide (b < a) := by
  rw [show compare a b = compareOfLessAndEq a b from rfl]; unfold compareOfLessAndEq
  split
  · simp; omega
  · split
    · simp; omega
    · simp; omega
/-! ### from nought -/
open Ieee in
theorem read_f32 (x : Nat) : single.read x = if x % 2147483648 < 8388608 then .number (x / 2147483648 % 2 == 1) (x % 2147483648) (-149) else if x % 2147483648 < 2139095040 then .number (x / 2147483648 % 2 == 1) (8388608 + x % 2147483648 % 8388608) (-149 + ((x % 2147483648 / 8388608 - 1 : Nat) : Int)) else if x % 2147483648 = 2139095040 then .infinity (x / 2147483648 % 2 == 1) else .nan (x / 2147483648 % 2 == 1) (x % 2147483648 - 2139095040) := by
  unfold Format.read
  rw [show single.binade = 8388608 from rfl, show single.infRung = 2139095040 by decide, show single.signWeight = 2147483648 from rfl, show single.leastPlace = -149 by decide]
/-! ### sizes -/
def sizI (x : Nat) : Nat := if fcmp .lss .f32 x (cz .f32 0) = true then fneg .f32 x else if fcmp .eql .f32 x (cz .f32 0) = true then cz .f32 0 else x
def sizS (x : Nat) : Nat := if fcmp .leq .f32 x (cz .f32 0) = true then fop .sub .f32 (cz .f32 0) x else x
theorem fc_lss {x y : Nat} {c : Option Ordering} (h : Ieee.single.order x y = c) : fcmp .lss .f32 x y = (c == some .lt) := by subst h; rfl
theorem fc_leq {x y : Nat} {c : Option Ordering} (h : Ieee.single.order x y = c) : fcmp .leq .f32 x y = (c == some .lt || c == some .eq) := by subst h; rfl
theorem fc_eql {x y : Nat} {c : Option Ordering} (h : Ieee.single.order x y = c) : fcmp .eql .f32 x y = (c == some .eq) := by subst h; rfl
theorem fc_gtr {x y : Nat} {c : Option Ordering} (h : Ieee.single.order x y = c) : fcmp .gtr .f32 x y = (c == some .gt) := by subst h; rfl
theorem siz_not {x : Nat} {c : Option Ordering} (h : Ieee.single.order x 0 = c) (h1 : (c == some .lt) = false) (h2 : (c == some .eq) = false) : sizS x = x ∧ sizI x = x := by
  unfold sizS sizI
  rw [c0_32]
  have e1 := fc_leq h
  rw [h1, h2] at e1
  have e2 := fc_lss h
  rw [h1] at e2
  have e3 := fc_eql h
  rw [h2] at e3
  rw [if_neg (by rw [e1]; decide), if_neg (by rw [e2]; decide), if_neg (by rw [e3]; decide)]
  exact ⟨rfl, rfl⟩
theorem siz_lt {x : Nat} (h : Ieee.single.order x 0 = some .lt) : sizS x = fop .sub .f32 0 x ∧ sizI x = fneg .f32 x := by
  unfold sizS sizI
  rw [c0_32]
  have e1 := fc_leq h
  have e2 := fc_lss h
  exact ⟨if_pos (by rw [e1]; rfl), if_pos (by rw [e2]; rfl)⟩
theorem siz_0 {x : Nat} (h : Ieee.single.order x 0 = some .eq) : sizS x = fop .sub .f32 0 x ∧ sizI x = 0 := by
  unfold sizS sizI
  rw [c0_32]
  have e1 := fc_leq h
  have e2 := fc_lss h
  have e3 := fc_eql h
  refine ⟨if_pos (by rw [e1]; rfl), ?_⟩
  rw [if_neg (by rw [e2]; decide)]
  exact if_pos (by rw [e3]; rfl)
open Ieee in
theorem val_neg {m : Nat} {e : Int} : val (.number true m e) = - val (.number false m e) := by
  simp only [val, signed, Bool.false_eq_true, if_false, if_true]
open Ieee in
theorem read_0 : single.read 0 = .number false 0 (-149) := by decide +kernel
theorem impl_size_wp {a : Nat} {K : Nat → Prop} (h : K (sizI a)) : impl_size.wp a K := by
  refine ⟨fun c => ?_, fun c => ⟨fun c2 => ?_, fun c2 => ?_⟩⟩
  · rw [sizI, if_pos c] at h; exact h
  · rw [sizI, if_neg (by rw [c]; decide), if_pos c2] at h; exact h
  · rw [sizI, if_neg (by rw [c]; decide), if_neg (by rw [c2]; decide)] at h; exact h

def stp (back : Bool) (w x s : Nat) : Nat := bif back then fop .sub .f32 x (fop .mul .f32 w s) else fop .add .f32 x (fop .mul .f32 w s)
/-- A loop that changes a list at each of its places. -/
theorem set_loop {P o0 : List Nat} (hP : P.length = o0.length) {X : List Nat → Int → Prop} (hX : ∀ (o : List Nat) (i : Nat), i < o0.length → o.length = o0.length → o.getD i 0 = o0.getD i 0 → X (o.set i (P.getD i 0)) ((i + 1 : Nat) : Int) → X o (i : Int)) (hend : X P (o0.length : Int)) : X o0 0 := by
  have hl : ∀ i, i ≤ o0.length → (P.take i ++ o0.drop i).length = o0.length := fun i hi => by rw [List.length_append, List.length_take, List.length_drop]; omega
  refine up (Y := fun i => X (P.take i ++ o0.drop i) (i : Int)) o0.length ?_ fun i hi hx => hX _ i hi (hl i (by omega)) ?_ ?_
  · show X (P.take o0.length ++ o0.drop o0.length) _
    rw [List.take_of_length_le (by omega), List.drop_of_length_le (by omega), List.append_nil]; exact hend
  · rw [gD (by rw [hl i (by omega)]; exact hi), List.getElem_append_right (by rw [List.length_take]; omega), gD hi]
    simp only [List.length_take, List.getElem_drop]
    congr 1; omega
  · have e : (P.take i ++ o0.drop i).set i (P.getD i 0) = P.take (i + 1) ++ o0.drop (i + 1) := by
      rw [dropC hi, List.take_succ_eq_append_getElem (by omega), gD (by omega : i < P.length), List.set_append_right _ _ (by rw [List.length_take]; omega), List.length_take, Nat.min_eq_left (by omega), Nat.sub_self, List.set_cons_zero, List.append_assoc]; rfl
    rw [e]; exact hx
theorem rg_at {n i : Nat} {f : Nat → Nat} (h : i < n) : ((List.range n).map f).getD i 0 = f i := by
  rw [gD (by simpa using h)]; simp
theorem mp_at {l : List Nat} {i : Nat} {f : Nat → Nat} (h : i < l.length) : (l.map f).getD i 0 = f (l.getD i 0) := by
  rw [gD (by simpa using h), gD h]; simp
/-! ### one step -/
structure Fit (ev od : List Nat) : Prop where
  a : 1 ≤ od.length
  b : od.length ≤ ev.length
  c : ev.length ≤ od.length + 1
  d : ev.length + od.length ≤ 128
def besO (ev : List Nat) (j : Nat) : Nat := fop .add .f32 (ev.getD j 0) (ev.getD (min (j + 1) (ev.length - 1)) 0)
def besE (od : List Nat) (j : Nat) : Nat := fop .add .f32 (od.getD (j - 1) 0) (od.getD (min j (od.length - 1)) 0)
def wO (ev od : List Nat) (w : Nat) (back : Bool) : List Nat := (List.range od.length).map fun j => stp back w (od.getD j 0) (besO ev j)
def wE (ev od : List Nat) (w : Nat) (back : Bool) : List Nat := (List.range ev.length).map fun j => stp back w (ev.getD j 0) (besE od j)
def wgh (k w : Nat) (back : Bool) (x : List Nat × List Nat) : List Nat × List Nat := if k % 2 = 0 then (x.1, wO x.1 x.2 w back) else (wE x.1 x.2 w back, x.2)
theorem wgh_len (k w : Nat) (back : Bool) (x : List Nat × List Nat) : (wgh k w back x).1.length = x.1.length ∧ (wgh k w back x).2.length = x.2.length := by
  unfold wgh; split
  · exact ⟨rfl, by simp [wO]⟩
  · exact ⟨by simp [wE], rfl⟩
theorem Fit.wgh {k w : Nat} {back : Bool} {x : List Nat × List Nat} (h : Fit x.1 x.2) : Fit (wgh k w back x).1 (wgh k w back x).2 := by
  obtain ⟨h1, h2⟩ := wgh_len k w back x
  obtain ⟨a, b, c, d⟩ := h
  exact ⟨by omega, by omega, by omega, by omega⟩
theorem tm2 (k : Nat) : Int.tmod (k : Int) 2 = ((k % 2 : Nat) : Int) := by rw [Int.tmod_eq_emod_of_nonneg (by omega)]; rfl
theorem mn_of {a b : Int} {n : Nat} (h : (a ≤ b → a = n) ∧ (b ≤ a → b = n)) : mnI a b = (n : Int) := by
  unfold mnI; split <;> omega
theorem mx_of {a b : Int} {n : Nat} (h : (b ≤ a → a = n) ∧ (a ≤ b → b = n)) : mxI a b = (n : Int) := by
  unfold mxI; split <;> omega
theorem besideOdd_wp {ev : List Nat} {j : Nat} {K : Nat → Nat → Prop} (hj : j < ev.length) (hl : ev.length ≤ 128) (h : K (ev.getD j 0) (ev.getD (min (j + 1) (ev.length - 1)) 0)) : impl_besideOdd_float32.wp ev (j : Int) K := by
  have e : mnI (IntKind.i64.wrap ((j : Int) + 1)) (IntKind.i64.wrap ((ev.length : Int) - 1)) = ((min (j + 1) (ev.length - 1) : Nat) : Int) := by
    rw [w1 (by omega), wI (n := (ev.length : Int) - 1) (by omega)]
    exact mn_of (by omega)
  refine ⟨⟨by omega, by omega⟩, ?_⟩
  rw [e]
  exact ⟨⟨by omega, by omega⟩, h⟩
theorem besideEven_wp {od : List Nat} {j : Nat} {K : Nat → Nat → Prop} (h1 : 1 ≤ od.length) (hj : j ≤ od.length) (hl : od.length ≤ 128) (h : K (od.getD (j - 1) 0) (od.getD (min j (od.length - 1)) 0)) : impl_besideEven_float32.wp od (j : Int) K := by
  have e1 : mxI (IntKind.i64.wrap ((j : Int) - 1)) 0 = ((j - 1 : Nat) : Int) := by
    rw [wI (n := (j : Int) - 1) (by omega)]
    exact mx_of (by omega)
  have e2 : mnI (j : Int) (IntKind.i64.wrap ((od.length : Int) - 1)) = ((min j (od.length - 1) : Nat) : Int) := by
    rw [wI (n := (od.length : Int) - 1) (by omega)]
    exact mn_of (by omega)
  unfold impl_besideEven_float32.wp
  rw [e1, e2]
  exact ⟨⟨by omega, by omega⟩, ⟨by omega, by omega⟩, h⟩
theorem weigh1_wp {l : List Nat} {j a b w : Nat} {back : Bool} {K : List Nat → Prop} (h : K (l.set j (stp back w (l.getD j 0) (fop .add .f32 a b)))) : impl_weigh_1.wp l (j : Int) a b w back K := by
  refine ⟨fun c => ?_, fun c => ?_⟩ <;> (subst c; exact h)
theorem impl_weigh_wp {ev od : List Nat} {k w : Nat} {back : Bool} {K : List Nat → List Nat → Prop} (hf : Fit ev od) (h : K (wgh k w back (ev, od)).1 (wgh k w back (ev, od)).2) : impl_weigh.wp ev od (k : Int) w back K := by
  obtain ⟨a, b, c, d⟩ := hf
  unfold wgh at h
  refine ⟨fun c1 => ?_, fun c1 => ?_⟩ <;> rw [tm2] at c1
  · rw [if_pos (by omega)] at h
    intro X hX
    refine set_loop (P := wO ev od w back) (by simp [wO]) (fun o i hi ho hoi hn => hX _ _ ⟨fun _ => besideOdd_wp (by omega) (by omega) ⟨⟨by omega, by omega⟩, weigh1_wp ?_⟩, fun c => absurd (show (i : Int) < od.length by omega) c⟩) (hX _ _ ⟨fun c => absurd c (by omega), fun _ => h⟩)
    rw [hoi, w1 (by omega)]
    rw [wO, rg_at hi] at hn
    exact hn
  · rw [if_neg (by omega)] at h
    intro X hX
    refine set_loop (P := wE ev od w back) (by simp [wE]) (fun o i hi ho hoi hn => hX _ _ ⟨fun _ => besideEven_wp (by omega) (by omega) (by omega) ⟨⟨by omega, by omega⟩, weigh1_wp ?_⟩, fun c => absurd (show (i : Int) < ev.length by omega) c⟩) (hX _ _ ⟨fun c => absurd c (by omega), fun _ => h⟩)
    rw [hoi, w1 (by omega)]
    rw [wE, rg_at hi] at hn
    exact hn
/-! ### split -/
def spE (l : List Nat) : Nat → List Nat
  | 0 => []
  | i + 1 => if i % 2 = 0 then spE l i ++ [l.getD i 0] else spE l i
def spO (l : List Nat) : Nat → List Nat
  | 0 => []
  | i + 1 => if i % 2 = 0 then spO l i else spO l i ++ [l.getD i 0]
theorem spE_len (l : List Nat) : ∀ i, (spE l i).length = (i + 1) / 2
  | 0 => rfl
  | i + 1 => by
    have := spE_len l i
    rw [spE]; split
    · rw [List.length_append, len1]; omega
    · omega
theorem spO_len (l : List Nat) : ∀ i, (spO l i).length = i / 2
  | 0 => rfl
  | i + 1 => by
    have := spO_len l i
    rw [spO]; split
    · omega
    · rw [List.length_append, len1]; omega
theorem sp_fit {l : List Nat} (h : 2 ≤ l.length ∧ l.length ≤ 128) : Fit (spE l l.length) (spO l l.length) := by
  have h1 := spE_len l l.length
  have h2 := spO_len l l.length
  exact ⟨by omega, by omega, by omega, by omega⟩
theorem sp_loop {l : List Nat} (hl : l.length ≤ 128) {X : List Nat → List Nat → Int → Prop} (hX : ∀ (od ev : List Nat) (i : Nat), i < l.length → od.length ≤ 128 → ev.length ≤ 128 → (i % 2 = 0 → X od (ev ++ [l.getD i 0]) ((i + 1 : Nat) : Int)) ∧ (i % 2 ≠ 0 → X (od ++ [l.getD i 0]) ev ((i + 1 : Nat) : Int)) → X od ev (i : Int)) (hend : X (spO l l.length) (spE l l.length) (l.length : Int)) : X [] [] 0 := by
  refine up (Y := fun i => X (spO l i) (spE l i) (i : Int)) l.length hend fun i hi hx => ?_
  have h1 := spE_len l i
  have h2 := spO_len l i
  refine hX _ _ i hi (by omega) (by omega) ⟨fun c => ?_, fun c => ?_⟩
  · rw [spO, spE, if_pos c, if_pos c] at hx; exact hx
  · rw [spO, spE, if_neg c, if_neg c] at hx; exact hx
theorem impl_split_wp {l : List Nat} {K : List Nat → List Nat → Prop} (hl : l.length ≤ 128) (h : K (spE l l.length) (spO l l.length)) : impl_split_float32.wp l K := by
  intro X hX
  refine sp_loop hl (X := X) (fun od ev i hi h1 h2 hn => hX _ _ _ ⟨fun _ => ⟨⟨by omega, by omega⟩, fun c => ⟨by rw [len1]; omega, ?_⟩, fun c => ⟨by rw [len1]; omega, ?_⟩⟩, fun c => absurd (show (i : Int) < l.length by omega) c⟩) (hX _ _ _ ⟨fun c => absurd c (by omega), fun _ => h⟩)
  · rw [tm2] at c; rw [nn, w1 (by omega)]; exact hn.1 (by omega)
  · rw [tm2] at c; rw [nn, w1 (by omega)]; exact hn.2 (by omega)
/-! ### lifted once -/
def lfA (ws : List Nat) (x : List Nat × List Nat) : Nat → List Nat × List Nat
  | 0 => x
  | k + 1 => wgh k (ws.getD k 0) false (lfA ws x k)
theorem lfA_fit {ws : List Nat} {x : List Nat × List Nat} (h : Fit x.1 x.2) : ∀ k, Fit (lfA ws x k).1 (lfA ws x k).2
  | 0 => h
  | k + 1 => (lfA_fit h k).wgh
theorem lfA_len (ws : List Nat) (x : List Nat × List Nat) : ∀ k, (lfA ws x k).1.length = x.1.length ∧ (lfA ws x k).2.length = x.2.length
  | 0 => ⟨rfl, rfl⟩
  | k + 1 => by
    have h1 := wgh_len k (ws.getD k 0) false (lfA ws x k)
    have h2 := lfA_len ws x k
    rw [lfA]; omega
def lftX (ws : List Nat) (sc : Nat) (l : List Nat) : List Nat × List Nat := ((lfA ws (spE l l.length, spO l l.length) ws.length).1.map fun x => fop .mul .f32 x sc, (lfA ws (spE l l.length, spO l l.length) ws.length).2.map fun x => fop .quo .f32 x sc)
def lftOk (ws : List Nat) (sc : Nat) (l : List Nat) : Bool := pAll (lftX ws sc l).1 && pAll (lftX ws sc l).2
theorem lftX_len (ws : List Nat) (sc : Nat) (l : List Nat) : (lftX ws sc l).1.length = (l.length + 1) / 2 ∧ (lftX ws sc l).2.length = l.length / 2 := by
  have h1 := lfA_len ws (spE l l.length, spO l l.length) ws.length
  have h2 := spE_len l l.length
  have h3 := spO_len l l.length
  unfold lftX
  simp only [List.length_map]
  simp only at h1
  omega
theorem impl_LiftOnce_wp {ws l : List Nat} {sc : Nat} {K : List Nat → List Nat → Bool → Prop} (hs : isSch ws sc = true) (hl : isL l = true) (h2 : 2 ≤ l.length) (h : if lftOk ws sc l = true then K (lftX ws sc l).1 (lftX ws sc l).2 true else K [] [] false) : impl_LiftOnce.wp ws sc l K := by
  have hll : 1 ≤ l.length ∧ l.length ≤ 128 := by
    unfold isL at hl; rw [Bool.and_eq_true, decide_eq_true_eq] at hl; exact hl.1
  have hws : 1 ≤ ws.length ∧ ws.length ≤ 8 := by
    unfold isSch at hs; rw [Bool.and_eq_true, Bool.and_eq_true, decide_eq_true_eq] at hs; omega
  have hfit := sp_fit (l := l) ⟨h2, hll.2⟩
  have hso := spO_len l l.length
  refine impl_ValidScheme_wp (by omega) (tE hs (impl_IsList_wp (by omega) (tE hl (impl_split_wp (by omega) (tN (by omega) ?_)))))
  intro X hX
  have hfa := fun k => lfA_fit (ws := ws) (x := (spE l l.length, spO l l.length)) hfit k
  refine up (Y := fun k => X (lfA ws (spE l l.length, spO l l.length) k).1 (lfA ws (spE l l.length, spO l l.length) k).2 (k : Int)) ws.length (hX _ _ _ ⟨fun c => absurd c (by omega), fun _ => ?_⟩) fun k hk hx => hX _ _ _ ⟨fun _ => ⟨⟨by omega, by omega⟩, impl_weigh_wp (hfa k) ?_⟩, fun c => absurd (show (k : Int) < ws.length by omega) c⟩
  rotate_left
  · rw [nn, w1 (by omega)]; exact hx
  have hF := hfa ws.length
  unfold lftOk lftX at h
  generalize lfA ws (spE l l.length, spO l l.length) ws.length = x at h hF
  obtain ⟨a, b, c, d⟩ := hF
  intro Y hY
  refine set_loop (P := x.1.map fun x => fop .mul .f32 x sc) (by simp) (fun o i hi ho hoi hn => hY _ _ ⟨fun _ => ⟨⟨by omega, by omega⟩, ?_⟩, fun c => absurd (show (i : Int) < x.1.length by omega) c⟩) (hY _ _ ⟨fun c => absurd c (by omega), fun _ => ?_⟩)
  · rw [mp_at hi] at hn
    rw [nn, hoi, w1 (by omega)]; exact hn
  intro Z hZ
  refine set_loop (P := x.2.map fun x => fop .quo .f32 x sc) (by simp) (fun o i hi ho hoi hn => hZ _ _ ⟨fun _ => ⟨⟨by omega, by omega⟩, ?_⟩, fun c => absurd (show (i : Int) < x.2.length by omega) c⟩) (hZ _ _ ⟨fun c => absurd c (by omega), fun _ => ?_⟩)
  · rw [mp_at hi] at hn
    rw [nn, hoi, w1 (by omega)]; exact hn
  refine impl_areFinite_wp (by simp) (fun y hy => ?_) ?_
  · simp only [List.mem_cons, List.not_mem_nil, or_false] at hy
    rcases hy with rfl | rfl <;> (rw [List.length_map]; omega)
  · rw [List.all_cons, List.all_cons, List.all_nil, Bool.and_true]
    dsimp only at h
    refine ⟨fun e => ?_, fun e => ?_⟩ <;> rw [e] at h
    · rw [if_pos rfl] at h; exact h
    · rw [if_neg (by decide)] at h; exact h
/-! ### led back once -/
def wvF (ev od : List Nat) : Nat → List Nat
  | 0 => []
  | i + 1 => if i < od.length then wvF ev od i ++ [ev.getD i 0] ++ [od.getD i 0] else wvF ev od i ++ [ev.getD i 0]
theorem wvF_len (ev od : List Nat) : ∀ i, (wvF ev od i).length = i + min i od.length
  | 0 => by simp [wvF]
  | i + 1 => by
    have := wvF_len ev od i
    rw [wvF]; split
    · rw [List.length_append, List.length_append, len1, len1]; omega
    · rw [List.length_append, len1]; omega
theorem wv_loop {ev od : List Nat} (he : ev.length ≤ 128) {X : List Nat → Int → Prop} (hX : ∀ (o : List Nat) (i : Nat), i < ev.length → o.length ≤ 256 → (i < od.length → X (o ++ [ev.getD i 0] ++ [od.getD i 0]) ((i + 1 : Nat) : Int)) ∧ (¬ i < od.length → X (o ++ [ev.getD i 0]) ((i + 1 : Nat) : Int)) → X o (i : Int)) (hend : X (wvF ev od ev.length) (ev.length : Int)) : X [] 0 := by
  refine up (Y := fun i => X (wvF ev od i) (i : Int)) ev.length hend fun i hi hx => ?_
  have h1 := wvF_len ev od i
  refine hX _ i hi (by omega) ⟨fun c => ?_, fun c => ?_⟩
  · rw [wvF, if_pos c] at hx; exact hx
  · rw [wvF, if_neg c] at hx; exact hx
theorem impl_woven_wp {ev od : List Nat} {K : List Nat → Prop} (he : ev.length ≤ 128) (hd : od.length ≤ 128) (h : K (wvF ev od ev.length)) : impl_woven_float32.wp ev od K := by
  intro X hX
  refine wv_loop he (X := X) (od := od) (fun o i hi ho hn => hX _ _ ⟨fun _ => ⟨⟨by omega, by omega⟩, by rw [len1]; omega, fun c => ⟨⟨by omega, by omega⟩, by rw [List.length_append, len1, len1]; omega, ?_⟩, fun c => ?_⟩, fun c => absurd (show (i : Int) < ev.length by omega) c⟩) (hX _ _ ⟨fun c => absurd c (by omega), fun _ => h⟩)
  · rw [nn, w1 (by omega)]; exact hn.1 (by omega)
  · rw [nn, w1 (by omega)]; exact hn.2 (by omega)
def lfD (ws : List Nat) : Nat → List Nat × List Nat → List Nat × List Nat
  | 0, x => x
  | k + 1, x => lfD ws k (wgh k (ws.getD k 0) true x)
def drpX (ws : List Nat) (sc : Nat) (ev od : List Nat) : List Nat × List Nat := lfD ws ws.length (ev.map fun x => fop .quo .f32 x sc, od.map fun x => fop .mul .f32 x sc)
def drpL (ws : List Nat) (sc : Nat) (ev od : List Nat) : List Nat := wvF (drpX ws sc ev od).1 (drpX ws sc ev od).2 (drpX ws sc ev od).1.length
theorem lfD_len (ws : List Nat) : ∀ k x, (lfD ws k x).1.length = x.1.length ∧ (lfD ws k x).2.length = x.2.length
  | 0, x => ⟨rfl, rfl⟩
  | k + 1, x => by
    have h1 := wgh_len k (ws.getD k 0) true x
    have h2 := lfD_len ws k (wgh k (ws.getD k 0) true x)
    rw [lfD]; omega
theorem drpX_len (ws : List Nat) (sc : Nat) (ev od : List Nat) : (drpX ws sc ev od).1.length = ev.length ∧ (drpX ws sc ev od).2.length = od.length := by
  have := lfD_len ws ws.length (ev.map fun x => fop .quo .f32 x sc, od.map fun x => fop .mul .f32 x sc)
  unfold drpX
  simp only [List.length_map] at this
  exact this
theorem drpL_len {ws : List Nat} {sc : Nat} {ev od : List Nat} (hf : Fit ev od) : (drpL ws sc ev od).length = ev.length + od.length := by
  have h1 := drpX_len ws sc ev od
  have h2 := wvF_len (drpX ws sc ev od).1 (drpX ws sc ev od).2 (drpX ws sc ev od).1.length
  obtain ⟨a, b, c, d⟩ := hf
  unfold drpL; omega
theorem drop_loop {ws : List Nat} (hws : ws.length ≤ 8) {X : List Nat → List Nat → Int → Prop} {x : List Nat × List Nat} (hf : Fit x.1 x.2) (hX : ∀ (y : List Nat × List Nat) (k : Nat), Fit y.1 y.2 → k < ws.length → X (wgh k (ws.getD k 0) true y).2 (wgh k (ws.getD k 0) true y).1 ((k : Int) - 1) → X y.2 y.1 (k : Int)) (hend : ∀ y : List Nat × List Nat, y = lfD ws ws.length x → X y.2 y.1 (-1)) : X x.2 x.1 ((ws.length : Int) - 1) := by
  have key : ∀ k (y : List Nat × List Nat), k ≤ ws.length → Fit y.1 y.2 → lfD ws k y = lfD ws ws.length x → X y.2 y.1 ((k : Int) - 1) := by
    intro k
    induction k with
    | zero => intro y _ _ h2; exact hend y h2
    | succ k ih =>
      intro y hk h1 h2
      rw [show (((k + 1 : Nat) : Int) - 1) = (k : Int) by omega]
      exact hX y k h1 (by omega) (ih _ (by omega) h1.wgh (by rw [lfD] at h2; exact h2))
  exact key ws.length x (Nat.le_refl _) hf rfl
theorem impl_DropOnce_wp {ws ev od : List Nat} {sc : Nat} {K : List Nat → Bool → Prop} (hs : isSch ws sc = true) (hf : Fit ev od) (h1 : pAll ev = true) (h2 : pAll od = true) (h : if pAll (drpL ws sc ev od) = true then K (drpL ws sc ev od) true else K [] false) : impl_DropOnce.wp ws sc ev od K := by
  have hws : 1 ≤ ws.length ∧ ws.length ≤ 8 := by
    unfold isSch at hs; rw [Bool.and_eq_true, Bool.and_eq_true, decide_eq_true_eq] at hs; omega
  obtain ⟨fa, fb, fc, fd⟩ := hf
  have hall : ([ev, od] : List (List Nat)).all pAll = true := by rw [List.all_cons, List.all_cons, h1, h2]; rfl
  have hm : ∀ y ∈ ([ev, od] : List (List Nat)), y.length ≤ 2 ^ 20 := fun y hy => by
    simp only [List.mem_cons, List.not_mem_nil, or_false] at hy
    rcases hy with rfl | rfl <;> omega
  have hw : IntKind.i64.wrap ((ev.length : Int) + (od.length : Int)) = (ev.length : Int) + (od.length : Int) := wI (by omega)
  have hwl : IntKind.i64.wrap ((ws.length : Int) - 1) = (ws.length : Int) - 1 := wI (by omega)
  refine impl_ValidScheme_wp (by omega) (tE hs (tN (by omega) ⟨fun _ => ⟨fun c => absurd c (by rw [hw]; omega), fun _ => impl_areFinite_wp (by simp) hm (tE hall (impl_copyOf_wp (by omega) (impl_copyOf_wp (by omega) (tN (by omega) ?_))))⟩, fun _ => ⟨fun _ => ⟨fun c => absurd c (by rw [hw]; omega), fun _ => impl_areFinite_wp (by simp) hm (tE hall (impl_copyOf_wp (by omega) (impl_copyOf_wp (by omega) (tN (by omega) ?_))))⟩, fun c => absurd (show (od.length : Int) = _ by rw [wI (by omega)]; omega) c⟩⟩))
  all_goals
    intro X hX
    refine set_loop (P := ev.map fun x => fop .quo .f32 x sc) (by simp) (fun o i hi ho hoi hn => hX _ _ ⟨fun _ => ⟨⟨by omega, by omega⟩, ?_⟩, fun c => absurd (show (i : Int) < ev.length by omega) c⟩) (hX _ _ ⟨fun c => absurd c (by omega), fun _ => ?_⟩)
    · rw [mp_at hi] at hn
      rw [nn, hoi, w1 (by omega)]; exact hn
    intro Y hY
    refine set_loop (P := od.map fun x => fop .mul .f32 x sc) (by simp) (fun o i hi ho hoi hn => hY _ _ ⟨fun _ => ⟨⟨by omega, by omega⟩, ?_⟩, fun c => absurd (show (i : Int) < od.length by omega) c⟩) (hY _ _ ⟨fun c => absurd c (by omega), fun _ => ?_⟩)
    · rw [mp_at hi] at hn
      rw [nn, hoi, w1 (by omega)]; exact hn
    intro Z hZ
    rw [hwl]
    refine drop_loop (X := Z) (x := (ev.map fun x => fop .quo .f32 x sc, od.map fun x => fop .mul .f32 x sc)) hws.2 ⟨by simp only [List.length_map]; omega, by simp only [List.length_map]; omega, by simp only [List.length_map]; omega, by simp only [List.length_map]; omega⟩ (fun y k hy hk hn => hZ _ _ _ ⟨fun _ => ⟨⟨by omega, by omega⟩, impl_weigh_wp hy ?_⟩, fun c => absurd (show (0 : Int) ≤ (k : Int) by omega) c⟩) (fun y hy => hZ _ _ _ ⟨fun c => absurd c (by decide), fun _ => ?_⟩)
    · rw [nn, show IntKind.i64.wrap ((k : Int) - 1) = (k : Int) - 1 from wI (by omega)]; exact hn
    have hyd : y = drpX ws sc ev od := hy
    have hyl := drpX_len ws sc ev od
    rw [← hyd] at hyl
    have hwv := wvF_len y.1 y.2 y.1.length
    refine impl_woven_wp (by omega) (by omega) (impl_finiteList_wp (by omega) ?_)
    have e : wvF y.1 y.2 y.1.length = drpL ws sc ev od := by unfold drpL; rw [hyd]
    rw [e]
    refine ⟨fun c => ?_, fun c => ?_⟩ <;> rw [c] at h ⊢
    · rw [if_pos rfl] at h; exact h
    · rw [if_neg (by decide)] at h; exact h
def bandsI : Nat → Int → List Int
  | 0, n => [n]
  | r + 1, n => if 2 ≤ n then n / 2 :: bandsI r ((n + 1) / 2) else [n]
/-- The sum of the first. -/
def sumTo (sz : List Int) : Nat → Int
  | 0 => 0
  | k + 1 => sumTo sz k + sz.getD k 0
theorem td2 {n : Int} (h : 0 ≤ n ∧ n < 2 ^ 40) : IntKind.i64.wrap (Int.tdiv n 2) = n / 2 := by
  rw [Int.tdiv_eq_ediv_of_nonneg h.1, wI (by omega)]
theorem impl_BandSizes_wp {n lv : Int} {K : List Int → Bool → Prop} (h : if (1 ≤ n ∧ n ≤ 128) ∧ 1 ≤ lv ∧ lv ≤ 6 then K (bandsI lv.toNat n) true else K [] false) : impl_BandSizes.wp n lv K := by
  refine impl_within_wp ⟨fun h1 => impl_within_wp ⟨fun h2 => ?_, fun h2 => ?_⟩, fun h1 => ?_⟩
  rotate_left
  · have h2 := of_decide_eq_false h2
    rw [if_neg (by omega)] at h; exact h
  · have h1 := of_decide_eq_false h1
    rw [if_neg (by omega)] at h; exact h
  have h1 := of_decide_eq_true h1
  have h2 := of_decide_eq_true h2
  rw [if_pos ⟨h1, h2⟩] at h
  obtain ⟨lv, rfl⟩ : ∃ k : Nat, lv = k := ⟨lv.toNat, by omega⟩
  rw [nn] at h
  intro X hX
  have key : ∀ (r : Nat) (m : Int) (k : Nat) (o : List Int), k + r = lv → 1 ≤ m ∧ m ≤ 2 ^ 20 → o.length ≤ 6 → o.length = k → o ++ bandsI r m = bandsI lv n → X o m (k : Int) := by
    intro r
    induction r with
    | zero =>
      intro m k o h1 h2 h3 h4 h5
      rw [bandsI] at h5
      refine hX _ _ _ ⟨fun c => absurd c (by omega), fun _ => ⟨by rw [len1]; omega, by rw [h5]; exact h⟩⟩
    | succ r ih =>
      intro m k o h1 h2 h3 h4 h5
      rw [bandsI] at h5
      refine hX _ _ _ ⟨fun _ => ⟨fun c => ⟨by rw [len1]; omega, ?_⟩, fun c => ⟨by rw [len1]; omega, ?_⟩⟩, fun c => absurd (show (k : Int) < lv by omega) c⟩
      · rw [if_pos (by omega)] at h5
        rw [td2 (by omega), w1 (by omega), wI (n := m - m / 2) (by omega), show m - m / 2 = (m + 1) / 2 by omega]
        exact ih _ (k + 1) _ (by omega) (by omega) (by rw [List.length_append, len1]; omega) (by rw [List.length_append, len1]; omega) (by rw [List.append_assoc]; exact h5)
      · rw [if_neg (by omega)] at h5
        rw [h5]; exact h
  exact key lv n 0 [] (by omega) (by omega) (by simp) rfl rfl
/-! ### lifted some times -/
def dpF (ws : List Nat) (sc : Nat) : Nat → List Nat → List (List Nat) → Option (List (List Nat))
  | 0, now, out => some (out ++ [now])
  | f + 1, now, out => if 2 ≤ now.length then (if lftOk ws sc now = true then dpF ws sc f (lftX ws sc now).1 (out ++ [(lftX ws sc now).2]) else none) else some (out ++ [now])
def endD (K : List (List Nat) → Bool → Prop) : Option (List (List Nat)) → Prop
  | some r => K r true
  | none => K [] false
theorem endD_some {K : List (List Nat) → Bool → Prop} {r : List (List Nat)} : endD K (some r) = K r true := rfl
theorem endD_none {K : List (List Nat) → Bool → Prop} : endD K none = K [] false := rfl
open Classical in
noncomputable def dpL (ws : List Nat) (sc : Nat) (l : List Nat) (lv : Int) : Option (List (List Nat)) := if isSch ws sc = true ∧ isL l = true ∧ (1 ≤ lv ∧ lv ≤ 6) then dpF ws sc lv.toNat l [] else none
theorem isL_len {l : List Nat} (h : isL l = true) : (1 ≤ l.length ∧ l.length ≤ 128) ∧ pAll l = true := by
  unfold isL at h
  rw [Bool.and_eq_true, decide_eq_true_eq] at h
  exact h
theorem isL_of {l : List Nat} (h : 1 ≤ l.length ∧ l.length ≤ 128) (h2 : pAll l = true) : isL l = true := by
  unfold isL
  rw [decide_eq_true h, h2]; rfl
theorem isSch_len {ws : List Nat} {sc : Nat} (hs : isSch ws sc = true) : 1 ≤ ws.length ∧ ws.length ≤ 8 := by
  unfold isSch at hs; rw [Bool.and_eq_true, Bool.and_eq_true, decide_eq_true_eq] at hs; omega
theorem lft_isL {ws : List Nat} {sc : Nat} {l : List Nat} (h : lftOk ws sc l = true) (hl : 2 ≤ l.length ∧ l.length ≤ 128) : isL (lftX ws sc l).1 = true := by
  have := lftX_len ws sc l
  unfold lftOk at h
  rw [Bool.and_eq_true] at h
  exact isL_of (by omega) h.1
theorem impl_LiftDeep_wp {ws l : List Nat} {sc : Nat} {lv : Int} {K : List (List Nat) → Bool → Prop} (hw : ws.length ≤ 2 ^ 20) (hl : l.length ≤ 2 ^ 20) (h : endD K (dpL ws sc l lv)) : impl_LiftDeep.wp ws sc l lv K := by
  unfold dpL at h
  have no : ¬ (isSch ws sc = true ∧ isL l = true ∧ (1 ≤ lv ∧ lv ≤ 6)) → K [] false := fun c => by rw [if_neg c] at h; exact h
  refine impl_ValidScheme_wp hw ⟨fun c1 => impl_IsList_wp hl ⟨fun c2 => impl_within_wp ⟨fun c3 => impl_copyOf_wp hl ?_, fun c3 => no fun x => absurd x.2.2 (of_decide_eq_false c3)⟩, fun c2 => no fun x => by rw [c2] at x; exact Bool.false_ne_true x.2.1⟩, fun c1 => no fun x => by rw [c1] at x; exact Bool.false_ne_true x.1⟩
  have c3 := of_decide_eq_true c3
  rw [if_pos ⟨c1, c2, c3⟩] at h
  obtain ⟨n, rfl⟩ : ∃ n : Nat, lv = n := ⟨lv.toNat, by omega⟩
  rw [nn] at h
  intro X hX
  have key : ∀ f k now out, k + f = n → isL now = true → out.length ≤ k → endD K (dpF ws sc f now out) → X now out (k : Int) := by
    intro f
    induction f with
    | zero =>
      intro k now out h1 h2 h3 h4
      exact hX _ _ _ ⟨fun c => absurd c (by omega), fun _ => ⟨by rw [len1]; omega, h4⟩⟩
    | succ f ih =>
      intro k now out h1 h2 h3 h4
      have hnl := isL_len h2
      rw [dpF] at h4
      refine hX _ _ _ ⟨fun _ => ⟨fun c => impl_LiftOnce_wp c1 h2 (by omega) ?_, fun c => ⟨by rw [len1]; omega, ?_⟩⟩, fun c => absurd (show (k : Int) < (n : Int) by omega) c⟩
      · rw [if_pos (by omega)] at h4
        split
        · rename_i ho
          rw [if_pos ho] at h4
          refine tT ⟨by rw [len1]; omega, ?_⟩
          rw [w1 (by omega)]
          exact ih (k + 1) _ _ (by omega) (lft_isL ho (by omega)) (by rw [List.length_append, len1]; omega) h4
        · rename_i ho
          rw [if_neg ho] at h4
          exact tF h4
      · rw [if_neg (by omega)] at h4
        exact h4
  exact key n 0 l [] (by omega) c2 (by simp) h
/-! ### what bands are like -/
def szL (d : List (List Nat)) : List Int := d.map fun y => (y.length : Int)
theorem dpF_is {ws : List Nat} {sc : Nat} : ∀ f now out r, isL now = true → dpF ws sc f now out = some r → ∃ t, r = out ++ t ∧ szL t = bandsI f (now.length : Int) ∧ ∀ y ∈ t, pAll y = true
  | 0, now, out, r, h1, h => by
    cases h
    exact ⟨[now], rfl, rfl, fun y hy => by rw [List.mem_singleton.1 hy]; exact (isL_len h1).2⟩
  | f + 1, now, out, r, h1, h => by
    have hnl := isL_len h1
    rw [dpF] at h
    by_cases c : 2 ≤ now.length
    · rw [if_pos c] at h
      by_cases ho : lftOk ws sc now = true
      · rw [if_pos ho] at h
        obtain ⟨t, e1, e2, e3⟩ := dpF_is f _ _ r (lft_isL ho ⟨c, hnl.1.2⟩) h
        have hx := lftX_len ws sc now
        refine ⟨(lftX ws sc now).2 :: t, by rw [e1, List.append_assoc]; rfl, ?_, fun y hy => ?_⟩
        · rw [bandsI, if_pos (by omega)]
          show ((lftX ws sc now).2.length : Int) :: szL t = _
          rw [e2, hx.1, hx.2]
          congr 1
        · rcases List.mem_cons.1 hy with rfl | hy
          · unfold lftOk at ho; rw [Bool.and_eq_true] at ho; exact ho.2
          · exact e3 y hy
      · rw [if_neg ho] at h; cases h
    · rw [if_neg c] at h
      cases h
      refine ⟨[now], rfl, ?_, fun y hy => by rw [List.mem_singleton.1 hy]; exact hnl.2⟩
      rw [bandsI, if_neg (by omega)]; rfl
def szF (L : List Int) : Nat → Int → Bool
  | 0, n => decide (n ≤ 128)
  | m + 1, n => decide (1 ≤ L.getD m 0) && (decide (L.getD m 0 = n ∨ L.getD m 0 = n - 1) && (decide (n + L.getD m 0 ≤ 128) && szF L m (n + L.getD m 0)))
def arSz (L : List Int) : Bool := decide (1 ≤ L.length ∧ L.length ≤ 7) && (decide (1 ≤ L.getD (L.length - 1) 0 ∧ L.getD (L.length - 1) 0 ≤ 128) && (decide (L.length = 1 → L.getD 0 0 = 1) && szF L (L.length - 1) (L.getD (L.length - 1) 0)))
def posB (L : List Int) : Bool := L.all fun x => decide (1 ≤ x ∧ x ≤ 128)
theorem bands_all : ∀ n : Nat, n < 129 → ∀ lv : Nat, lv < 7 → (decide (n = 0) || (decide (lv = 0) || (arSz (bandsI lv (n : Int)) && (posB (bandsI lv (n : Int)) && decide (sumTo (bandsI lv (n : Int)) (bandsI lv (n : Int)).length = (n : Int)))))) = true := by decide +kernel
structure SzOk (S : List Int) (n : Nat) : Prop where
  a : arSz S = true
  p : ∀ k, k < S.length → 1 ≤ S.getD k 0 ∧ S.getD k 0 ≤ 128
  s : sumTo S S.length = (n : Int)
  n : 1 ≤ n ∧ n ≤ 128
theorem sz_of {n lv : Nat} (hn : 1 ≤ n ∧ n ≤ 128) (hv : 1 ≤ lv ∧ lv ≤ 6) : SzOk (bandsI lv (n : Int)) n := by
  have h := bands_all n (by omega) lv (by omega)
  rw [decide_eq_false (by omega), decide_eq_false (by omega), Bool.false_or, Bool.false_or, Bool.and_eq_true, Bool.and_eq_true, decide_eq_true_eq] at h
  refine ⟨h.1, fun k hk => ?_, h.2.2, hn⟩
  have := h.2.1
  unfold posB at this
  rw [List.all_eq_true] at this
  rw [gD hk]
  exact of_decide_eq_true (this _ (List.getElem_mem hk))
theorem ar_len {L : List Int} (h : arSz L = true) : (1 ≤ L.length ∧ L.length ≤ 7) ∧ (1 ≤ L.getD (L.length - 1) 0 ∧ L.getD (L.length - 1) 0 ≤ 128) ∧ (L.length = 1 → L.getD 0 0 = 1) ∧ szF L (L.length - 1) (L.getD (L.length - 1) 0) = true := by
  unfold arSz at h
  rw [Bool.and_eq_true, Bool.and_eq_true, Bool.and_eq_true, decide_eq_true_eq, decide_eq_true_eq, decide_eq_true_eq] at h
  exact h
theorem sz_loop {L : List Int} {X : Int → Int → Prop} (hX : ∀ (n : Int) (i : Nat), 1 ≤ n → n ≤ 128 → i < L.length → 1 ≤ L.getD i 0 → (L.getD i 0 = n ∨ L.getD i 0 = n - 1) → n + L.getD i 0 ≤ 128 → X (n + L.getD i 0) ((i : Int) - 1) → X n (i : Int)) (hend : ∀ n, n ≤ 128 → X n (-1)) : ∀ (m : Nat) (n : Int), m ≤ L.length → 1 ≤ n → n ≤ 128 → szF L m n = true → X n ((m : Int) - 1)
  | 0, n, _, _, h2, _ => hend n h2
  | m + 1, n, hm, h1, h2, h => by
    rw [szF, Bool.and_eq_true, Bool.and_eq_true, Bool.and_eq_true, decide_eq_true_eq, decide_eq_true_eq, decide_eq_true_eq] at h
    obtain ⟨a, b, c, d⟩ := h
    rw [show (((m + 1 : Nat) : Int) - 1) = (m : Int) by omega]
    exact hX n m h1 h2 (by omega) a b c (sz_loop hX hend m _ (by omega) (by omega) c d)
theorem impl_areSizes_wp {L : List Int} {K : Bool → Prop} (h : arSz L = true) (hK : K true) : impl_areSizes.wp L K := by
  obtain ⟨h1, h2, h3, h4⟩ := ar_len h
  have hw : IntKind.i64.wrap ((L.length : Int) - 1) = ((L.length - 1 : Nat) : Int) := by rw [wI (by omega)]; omega
  unfold impl_areSizes.wp
  rw [hw, nn]
  have hw2 : IntKind.i64.wrap (((L.length - 1 : Nat) : Int) - 1) = ((L.length - 1 : Nat) : Int) - 1 := wI (by omega)
  rw [hw2]
  refine impl_within_wp (tE (decide_eq_true (by omega)) ⟨⟨by omega, by omega⟩, tN (by omega) ⟨fun c => ⟨⟨by omega, by omega⟩, tP (h3 (by omega)) fun X hX => ?_⟩, fun c => fun X hX => ?_⟩⟩)
  all_goals
    refine sz_loop (X := X) (fun n i g1 g2 g3 g4 g5 g6 hn => hX _ _ ⟨fun _ => ⟨⟨by omega, by omega⟩, ?_⟩, fun c => absurd (show (0 : Int) ≤ (i : Int) by omega) c⟩) (fun n g => hX _ _ ⟨fun c => absurd c (by decide), fun _ => by rw [decide_eq_true g]; exact hK⟩) _ _ (by omega) h2.1 h2.2 h4
    rw [nn, wI (n := n + L.getD i 0) (by omega), wI (n := n - 1) (by omega), wI (n := (i : Int) - 1) (by omega)]
    exact tN (by omega) ⟨fun c => tN (by omega) hn, fun c => tP (by omega) (tN (by omega) hn)⟩
/-! ### valid bands -/
structure Bds (d : List (List Nat)) (n : Nat) : Prop where
  z : SzOk (szL d) n
  f : ∀ y ∈ d, pAll y = true
theorem szL_len (d : List (List Nat)) : (szL d).length = d.length := List.length_map ..
theorem szL_at {d : List (List Nat)} {i : Nat} (h : i < d.length) : (szL d).getD i 0 = ((d.getD i ([] : List Nat)).length : Int) := by
  rw [gD (by rw [szL_len]; exact h), gD h]
  unfold szL
  rw [List.getElem_map]
theorem Bds.le {d : List (List Nat)} {n : Nat} (h : Bds d n) {i : Nat} (hi : i < d.length) : 1 ≤ (d.getD i ([] : List Nat)).length ∧ (d.getD i ([] : List Nat)).length ≤ 128 := by
  have := h.z.p i (by rw [szL_len]; exact hi)
  rw [szL_at hi] at this
  omega
theorem Bds.fin {d : List (List Nat)} {n : Nat} (h : Bds d n) {i : Nat} (hi : i < d.length) : pAll (d.getD i ([] : List Nat)) = true := by
  rw [gD hi]; exact h.f _ (List.getElem_mem hi)
theorem Bds.len {d : List (List Nat)} {n : Nat} (h : Bds d n) : 1 ≤ d.length ∧ d.length ≤ 7 := by
  have := (ar_len h.z.a).1
  rw [szL_len] at this; exact this
theorem impl_AreBands_wp {d : List (List Nat)} {n : Nat} {K : Bool → Prop} (h : Bds d n) (hK : K true) : impl_AreBands.wp d K := by
  have hl := h.len
  have hz : impl_sizesOf_float32.wp d fun y101 => impl_areSizes.wp y101 fun y105 => ((y105 = true → impl_areFinite.wp d fun y108 => K (y108)) ∧ (y105 = false → K (false))) := by
    intro X hX
    refine map_loop d (fun _ => true) (fun y => (y.length : Int)) (X := X) (T := True) (F := False) (fun i hi o ho hh => hX _ _ ⟨fun _ => ⟨⟨by omega, by omega⟩, by rw [len1]; omega, ?_⟩, fun c => absurd (show (i : Int) < d.length by omega) c⟩) (fun _ => hX _ _ ⟨fun c => absurd c (by omega), fun _ => ?_⟩) (fun _ => trivial) (fun c => by simp at c)
    · rw [nn, gD hi, w1 (by omega)]; exact hh.1 rfl
    · refine impl_areSizes_wp h.z.a (tT (impl_areFinite_wp (by omega) (fun y hy => ?_) ?_))
      · obtain ⟨i, hi, rfl⟩ := List.getElem_of_mem hy
        have := h.le hi
        rw [gD hi] at this; omega
      · rw [show d.all pAll = true from List.all_eq_true.2 h.f]; exact hK
  exact hz
/-! ### flattened -/
def flF (d : List (List Nat)) : Nat → List Nat → List Nat
  | 0, o => o
  | m + 1, o => flF d m (o ++ d.getD m ([] : List Nat))
theorem flF_len {d : List (List Nat)} : ∀ m o, m ≤ d.length → ((flF d m o).length : Int) = (o.length : Int) + sumTo (szL d) m
  | 0, o, _ => by rw [flF, sumTo]; omega
  | m + 1, o, h => by
    rw [flF, flF_len m _ (by omega), sumTo, szL_at (by omega), List.length_append]; omega
def flL' (d : List (List Nat)) : List Nat := flF d d.length []
theorem fl_loop {d : List (List Nat)} {n : Nat} (h : Bds d n) {X : List Nat → Int → Prop} (hX : ∀ (o : List Nat) (i : Nat), i < d.length → o.length + (d.getD i ([] : List Nat)).length ≤ 2000 → X (o ++ d.getD i ([] : List Nat)) ((i : Int) - 1) → X o (i : Int)) (hend : X (flL' d) (-1)) : X [] ((d.length : Int) - 1) := by
  have key : ∀ m o, m ≤ d.length → o.length + 128 * m ≤ 1000 → flF d m o = flL' d → X o ((m : Int) - 1) := by
    intro m
    induction m with
    | zero => intro o _ _ h2; rw [flF] at h2; rw [h2]; exact hend
    | succ m ih =>
      intro o h1 h2 h3
      have := h.le (i := m) (by omega)
      rw [show (((m + 1 : Nat) : Int) - 1) = (m : Int) by omega]
      exact hX o m (by omega) (by omega) (ih _ (by omega) (by rw [List.length_append]; omega) h3)
  have := h.len
  exact key d.length [] (Nat.le_refl _) (by simp only [List.length_nil]; omega) rfl
theorem impl_FlatBands_wp {d : List (List Nat)} {n : Nat} {K : List Nat → Bool → Prop} (h : Bds d n) (hK : K (flL' d) true) : impl_FlatBands.wp d K := by
  have hl := h.len
  refine impl_AreBands_wp h (tT fun X hX => ?_)
  rw [wI (by omega)]
  refine fl_loop h (X := X) (fun o i hi h1 hn => hX _ _ ⟨fun _ => ⟨⟨by omega, by omega⟩, by rw [nn]; omega, ?_⟩, fun c => absurd (show (0 : Int) ≤ (i : Int) by omega) c⟩) (hX _ _ ⟨fun c => absurd c (by decide), fun _ => hK⟩)
  rw [nn, wI (n := (i : Int) - 1) (by omega)]; exact hn
theorem flL'_len {d : List (List Nat)} {n : Nat} (h : Bds d n) : (flL' d).length = n := by
  have h1 := flF_len (d := d) d.length [] (Nat.le_refl _)
  have h2 := h.z.s
  rw [szL_len] at h2
  have h3 : ((flL' d).length : Int) = (n : Int) := by
    unfold flL'
    rw [h1, h2]; simp
  omega
/-! ### cut -/
def offN (S : List Int) (k : Nat) : Nat := (sumTo S S.length - sumTo S (k + 1)).toNat
def n_ (l : List Nat) : Nat := l.length
def cutB (l : List Nat) (S : List Int) (k : Nat) : List Nat := (l.drop (offN S k)).take (S.getD k 0).toNat
def cutL (l : List Nat) (S : List Int) : List (List Nat) := (List.range S.length).map (cutB l S)
theorem cutL_len (l : List Nat) (S : List Int) : (cutL l S).length = S.length := by simp [cutL]
theorem cutL_at {l : List Nat} {S : List Int} {k : Nat} (h : k < S.length) : (cutL l S).getD k ([] : List Nat) = cutB l S k := by
  rw [gD (by rw [cutL_len]; exact h)]; simp [cutL]
theorem SzOk.mono {S : List Int} {n : Nat} (h : SzOk S n) : ∀ m k, k + m ≤ S.length → sumTo S k ≤ sumTo S (k + m)
  | 0, k, _ => Int.le_refl _
  | m + 1, k, hk => by
    have h1 := h.mono m k (by omega)
    have h2 := h.p (k + m) (by omega)
    rw [show k + (m + 1) = k + m + 1 by omega, sumTo]; omega
theorem SzOk.zero {S : List Int} {n : Nat} (h : SzOk S n) {k : Nat} (hk : k ≤ S.length) : 0 ≤ sumTo S k ∧ sumTo S k ≤ (n : Int) := by
  have h1 := h.mono k 0 (by omega)
  have h2 := h.mono (S.length - k) k (by omega)
  rw [Nat.zero_add, show sumTo S 0 = 0 from rfl] at h1
  rw [show k + (S.length - k) = S.length by omega, h.s] at h2
  exact ⟨h1, h2⟩
theorem SzOk.off {S : List Int} {n : Nat} (h : SzOk S n) {k : Nat} (hk : k < S.length) : ((offN S k : Nat) : Int) = (n : Int) - sumTo S (k + 1) ∧ ((offN S k : Nat) : Int) + S.getD k 0 = (n : Int) - sumTo S k := by
  have h1 := h.zero (k := k + 1) (by omega)
  have h2 := h.s
  unfold offN
  rw [h2]
  rw [sumTo] at h1 ⊢
  omega
theorem cutB_len {l : List Nat} {S : List Int} (h : SzOk S l.length) {k : Nat} (hk : k < S.length) : ((cutB l S k).length : Int) = S.getD k 0 := by
  have h1 := h.off hk
  have h2 := h.zero (k := k) (by omega)
  have h3 := h.p k hk
  unfold cutB
  rw [List.length_take, List.length_drop]; omega
theorem pAll_part {l : List Nat} (h : pAll l = true) (a b : Nat) : pAll ((l.drop a).take b) = true := by
  unfold pAll at *
  rw [List.all_eq_true] at *
  intro x hx
  exact h x (List.mem_of_mem_drop (List.mem_of_mem_take hx))
theorem cut_bds {l : List Nat} {S : List Int} (h : SzOk S l.length) (hf : pAll l = true) : Bds (cutL l S) l.length := by
  have e : szL (cutL l S) = S := by
    refine List.ext_getElem (by rw [szL_len, cutL_len]) fun i h1 h2 => ?_
    have h3 : i < (cutL l S).length := by rw [cutL_len]; exact h2
    have := szL_at h3
    rw [gD h1, cutL_at h2, cutB_len h h2, gD h2] at this
    exact this
  refine ⟨by rw [e]; exact h, fun y hy => ?_⟩
  obtain ⟨k, _, rfl⟩ := List.mem_map.1 hy
  exact pAll_part hf _ _
theorem impl_CutFlat_wp {l : List Nat} {lv : Nat} {K : List (List Nat) → Bool → Prop} (hl : isL l = true) (hv : 1 ≤ lv ∧ lv ≤ 6) (hK : K (cutL l (bandsI lv (l.length : Int))) true) : impl_CutFlat.wp l (lv : Int) K := by
  have hll := (isL_len hl).1
  have hz := sz_of hll hv
  refine impl_BandSizes_wp (by
    rw [if_pos (by omega)]
    rw [nn]
    refine tT (impl_IsList_wp (by omega) (tE hl ?_))
    generalize bandsI lv (l.length : Int) = S at *
    have hS := (ar_len hz.a).1
    refine ⟨⟨by omega, by omega, by omega, by omega⟩, fun X hX => ?_⟩
    have hc := cutL_len l S
    have key : ∀ m, m ≤ S.length → X (List.replicate m ([] : List Nat) ++ (cutL l S).drop m) ((n_ l : Int) - sumTo S m) ((m : Int) - 1) := by
      intro m
      induction m with
      | zero =>
        intro _
        refine hX _ _ _ ⟨fun c => absurd c (by omega), fun _ => ?_⟩
        rw [List.replicate_zero, List.nil_append, List.drop_zero]; exact hK
      | succ m ih =>
        intro hm
        have h1 := hz.off (k := m) (by omega)
        have h2 := hz.zero (k := m) (by omega)
        have h3 := hz.p m (by omega)
        have hw : IntKind.i64.wrap ((n_ l : Int) - sumTo S (m + 1) + S.getD m 0) = (n_ l : Int) - sumTo S m := by
          rw [sumTo, wI (by unfold n_; omega)]; omega
        rw [show (((m + 1 : Nat) : Int) - 1) = (m : Int) by omega]
        refine hX _ _ _ ⟨fun _ => ⟨⟨by omega, by omega⟩, ?_⟩, fun c => absurd (show (0 : Int) ≤ (m : Int) by omega) c⟩
        rw [nn, hw]
        have hlen : (List.replicate (m + 1) ([] : List Nat) ++ (cutL l S).drop (m + 1)).length = S.length := by
          rw [List.length_append, List.length_replicate, List.length_drop]; omega
        have e1 : ((n_ l : Int) - sumTo S (m + 1)).toNat = offN S m := by unfold n_; omega
        have e2 : ((n_ l : Int) - sumTo S m).toNat - offN S m = (S.getD m 0).toNat := by unfold n_; omega
        refine ⟨⟨by unfold n_; omega, by rw [sumTo]; omega, by unfold n_; omega⟩, ?_⟩
        rw [e1, e2]
        have hcb := cutB_len hz (k := m) (by omega)
        refine impl_copyOf_wp (l := cutB l S m) (by omega) ⟨⟨by omega, by rw [hlen]; omega⟩, ?_⟩
        rw [show IntKind.i64.wrap ((m : Int) - 1) = (m : Int) - 1 from wI (by omega)]
        have e3 : (List.replicate (m + 1) ([] : List Nat) ++ (cutL l S).drop (m + 1)).set m (cutB l S m) = List.replicate m ([] : List Nat) ++ (cutL l S).drop m := by
          rw [dropC (show m < (cutL l S).length by omega), List.set_append_left _ _ (by rw [List.length_replicate]; omega), List.replicate_succ', List.set_append_right _ _ (by rw [List.length_replicate]; omega), List.length_replicate, Nat.sub_self, List.set_cons_zero, List.append_assoc]
          have := cutL_at (l := l) (S := S) (k := m) (by omega)
          rw [gD (by omega)] at this
          rw [this]; rfl
        rw [e3]
        exact ih (by omega)
    have := key S.length (Nat.le_refl _)
    rw [show (n_ l : Int) - sumTo S S.length = 0 by rw [hz.s]; unfold n_; omega, List.drop_of_length_le (by omega), List.append_nil] at this
    rw [wI (by omega), nn]
    exact this)
/-! ### led back -/
def udF (ws : List Nat) (sc : Nat) (d : List (List Nat)) : Nat → List Nat → Option (List Nat)
  | 0, now => some now
  | m + 1, now => if pAll (drpL ws sc now (d.getD m ([] : List Nat))) = true then udF ws sc d m (drpL ws sc now (d.getD m ([] : List Nat))) else none
def endU (K : List Nat → Bool → Prop) : Option (List Nat) → Prop
  | some r => K r true
  | none => K [] false
theorem endU_some {K : List Nat → Bool → Prop} {r : List Nat} : endU K (some r) = K r true := rfl
theorem endU_none {K : List Nat → Bool → Prop} : endU K none = K [] false := rfl
def udL (ws : List Nat) (sc : Nat) (d : List (List Nat)) : Option (List Nat) := udF ws sc d (d.length - 1) (d.getD (d.length - 1) ([] : List Nat))
theorem szF_fit {d : List (List Nat)} {m : Nat} {now : List Nat} (hm : m < d.length) (h : szF (szL d) (m + 1) (now.length : Int) = true) : Fit now (d.getD m ([] : List Nat)) ∧ szF (szL d) m ((now.length : Int) + ((d.getD m ([] : List Nat)).length : Int)) = true := by
  rw [szF, Bool.and_eq_true, Bool.and_eq_true, Bool.and_eq_true, decide_eq_true_eq, decide_eq_true_eq, decide_eq_true_eq, szL_at hm] at h
  obtain ⟨a, b, c, e⟩ := h
  exact ⟨⟨by omega, by omega, by omega, by omega⟩, e⟩
theorem ud_loop {ws : List Nat} {sc : Nat} {d : List (List Nat)} {K : List Nat → Bool → Prop} (hd : ∀ y ∈ d, pAll y = true) {X : List Nat → Int → Prop} (hX : ∀ (now : List Nat) (i : Nat), i < d.length → Fit now (d.getD i ([] : List Nat)) → pAll now = true → (if pAll (drpL ws sc now (d.getD i ([] : List Nat))) = true then X (drpL ws sc now (d.getD i ([] : List Nat))) ((i : Int) - 1) else K [] false) → X now (i : Int)) (hend : ∀ now, K now true → X now (-1)) : ∀ m now, m < d.length → pAll now = true → szF (szL d) m (now.length : Int) = true → endU K (udF ws sc d m now) → X now ((m : Int) - 1)
  | 0, now, _, _, _, h => hend now h
  | m + 1, now, hm, hf, hz, h => by
    obtain ⟨g1, g2⟩ := szF_fit (by omega) hz
    rw [show (((m + 1 : Nat) : Int) - 1) = (m : Int) by omega]
    refine hX now m (by omega) g1 hf ?_
    rw [udF] at h
    split
    · rename_i c
      rw [if_pos c] at h
      refine ud_loop hd hX hend m _ (by omega) c ?_ h
      rw [drpL_len g1, show (((now.length + (d.getD m ([] : List Nat)).length : Nat)) : Int) = (now.length : Int) + ((d.getD m ([] : List Nat)).length : Int) by omega]
      exact g2
    · rename_i c
      rw [if_neg c] at h
      exact h
theorem bds_last {d : List (List Nat)} {n : Nat} (h : Bds d n) : szF (szL d) (d.length - 1) ((d.getD (d.length - 1) ([] : List Nat)).length : Int) = true := by
  have hl := h.len
  have h1 := (ar_len h.z.a).2.2.2
  rw [szL_len, szL_at (by omega)] at h1
  exact h1
theorem impl_DropDeep_wp {ws : List Nat} {sc : Nat} {d : List (List Nat)} {n : Nat} {K : List Nat → Bool → Prop} (hs : isSch ws sc = true) (h : Bds d n) (hK : endU K (udL ws sc d)) : impl_DropDeep.wp ws sc d K := by
  have hl := h.len
  have hsl := isSch_len hs
  refine impl_ValidScheme_wp (by omega) (tE hs (impl_AreBands_wp h (tT ?_)))
  have hw : IntKind.i64.wrap ((d.length : Int) - 1) = ((d.length - 1 : Nat) : Int) := by rw [wI (by omega)]; omega
  have hw2 : IntKind.i64.wrap ((d.length : Int) - 2) = ((d.length - 1 : Nat) : Int) - 1 := by rw [wI (by omega)]; omega
  rw [hw, hw2, nn]
  have hle := h.le (i := d.length - 1) (by omega)
  refine ⟨⟨by omega, by omega⟩, impl_copyOf_wp (by omega) fun X hX => ?_⟩
  refine ud_loop (K := K) (X := X) h.f (fun now i hi hf hp hn => hX _ _ ⟨fun _ => ⟨⟨by omega, by omega⟩, ?_⟩, fun c => absurd (show (0 : Int) ≤ (i : Int) by omega) c⟩) (fun now hk => hX _ _ ⟨fun c => absurd c (by decide), fun _ => hk⟩) _ _ (by omega) (h.fin (by omega)) (bds_last h) hK
  rw [nn]
  refine impl_DropOnce_wp hs hf hp (h.fin hi) ?_
  split at hn
  · rename_i c
    rw [if_pos c]
    refine tT ?_
    rw [wI (by omega)]; exact hn
  · rename_i c
    rw [if_neg c]
    exact tF hn
theorem udF_len {ws : List Nat} {sc : Nat} {d : List (List Nat)} : ∀ m now r, m < d.length → szF (szL d) m (now.length : Int) = true → udF ws sc d m now = some r → (r.length : Int) = (now.length : Int) + sumTo (szL d) m
  | 0, now, r, _, _, h => by cases h; rw [sumTo]; omega
  | m + 1, now, r, hm, hz, h => by
    obtain ⟨g1, g2⟩ := szF_fit (by omega) hz
    rw [udF] at h
    split at h
    · have hdl := drpL_len (ws := ws) (sc := sc) g1
      have := udF_len m _ r (by omega) (by rw [hdl, show (((now.length + (d.getD m ([] : List Nat)).length : Nat)) : Int) = (now.length : Int) + ((d.getD m ([] : List Nat)).length : Int) by omega]; exact g2) h
      rw [this, hdl, sumTo, szL_at (by omega)]; omega
    · cases h
theorem udL_len {ws : List Nat} {sc : Nat} {d : List (List Nat)} {n : Nat} {r : List Nat} (h : Bds d n) (hr : udL ws sc d = some r) : r.length = n := by
  have hl := h.len
  have h1 := udF_len _ _ r (by omega) (bds_last h) hr
  have h2 := h.z.s
  rw [szL_len] at h2
  have h3 : sumTo (szL d) d.length = sumTo (szL d) (d.length - 1) + ((d.getD (d.length - 1) ([] : List Nat)).length : Int) := by
    conv => lhs; rw [show d.length = d.length - 1 + 1 by omega, sumTo]
    rw [szL_at (by omega)]
  omega
def unsc (n : Int) (s h : Nat) : Nat := if 0 < n then fop .mul .f32 s (fop .add .f32 (itof .f32 n) h) else if n < 0 then fop .mul .f32 s (fop .sub .f32 (itof .f32 n) h) else cz .f32 0
def losOk (l : List Int) (s h : Nat) : Bool := isI l && isOver s && isShare h && pAll (l.map fun n => unsc n s h)
theorem spec_l06Unscale_wp {n : Int} {s h : Nat} {K : Nat → Prop} (hk : K (unsc n s h)) : spec_l06Unscale.wp n s h K := by
  refine ⟨fun h1 => ?_, fun h1 => ⟨fun h2 => ?_, fun h2 => ?_⟩⟩
  · rw [unsc, if_pos h1] at hk; exact hk
  · rw [unsc, if_neg h1, if_pos h2] at hk; exact hk
  · rw [unsc, if_neg h1, if_neg h2] at hk; exact hk
theorem los_wp (l : List Int) (s h : Nat) (hl : l.length ≤ 2 ^ 20) : (∀ K : List Nat → Bool → Prop, K (if losOk l s h = true then l.map fun n => unsc n s h else []) (losOk l s h) → spec_ListOfScale.wp l s h K) ∧ (∀ K : List Nat → Bool → Prop, K (if losOk l s h = true then l.map fun n => unsc n s h else []) (losOk l s h) → impl_ListOfScale.wp l s h K) := by
  refine ⟨fun K hk => ?_, fun K hk => ?_⟩
  · refine spec_l02Integers_wp hl ⟨fun h1 => spec_l02Above_wp ⟨fun h2 => spec_l02Share_wp ⟨fun h3 => fun X hX => ?_, fun h3 => ?_⟩, fun h2 => ?_⟩, fun h1 => ?_⟩
    · have e : losOk l s h = pAll (l.map fun n => unsc n s h) := by simp [losOk, h1, h2, h3]
      rw [e] at hk
      refine map_loop l (fun _ => true) (fun n => unsc n s h) (X := X) (T := True) (F := False) (fun i hi o ho hh => ?_) (fun _ => ?_) (fun _ => trivial) (fun c => by simp at c)
      · refine hX _ _ ⟨fun _ => ⟨⟨by omega, by omega⟩, spec_l06Unscale_wp ⟨?_, ?_⟩⟩, fun c => absurd (show (i : Int) < l.length by omega) c⟩
        · rw [len1, ho]; omega
        · rw [nn, gD hi, w1 (by omega)]; exact hh.1 rfl
      · refine hX _ _ ⟨fun c => absurd c (by omega), fun _ => spec_l02List_wp (by rw [List.length_map]; exact hl) ⟨fun h4 => ?_, fun h4 => ?_⟩⟩
        · rw [h4, if_pos rfl] at hk; rw [h4]; exact hk
        · rw [h4, if_neg (by simp)] at hk; rw [h4]; exact hk
    · rw [show losOk l s h = false by simp [losOk, h3], if_neg (by simp)] at hk; exact hk
    · rw [show losOk l s h = false by simp [losOk, h2], if_neg (by simp)] at hk; exact hk
    · rw [show losOk l s h = false by simp [losOk, h1], if_neg (by simp)] at hk; exact hk
  · refine impl_AreIntegers_wp hl ⟨fun h1 => impl_isOver_wp ⟨fun h2 => impl_isShare_wp ⟨fun h3 => fun X hX => ?_, fun h3 => ?_⟩, fun h2 => ?_⟩, fun h1 => ?_⟩
    · have e : losOk l s h = pAll (l.map fun n => unsc n s h) := by simp [losOk, h1, h2, h3]
      rw [e] at hk
      refine map_loop l (fun _ => true) (fun n => unsc n s h) (X := X) (T := True) (F := False) (fun i hi o ho hh => ?_) (fun _ => ?_) (fun _ => trivial) (fun c => by simp at c)
      · have hh := hh.1 rfl
        refine hX _ _ ⟨fun _ => ⟨⟨by omega, by omega⟩, ⟨fun c => ?_, fun c => ⟨fun c2 => ?_, fun c2 => ?_⟩⟩⟩, fun c => absurd (show (i : Int) < l.length by omega) c⟩
        all_goals (try rw [nn, gD hi] at c); (try rw [nn, gD hi] at c2); refine ⟨by rw [len1, ho]; omega, ?_⟩; rw [w1 (by omega)]
        · rw [unsc, if_neg (by omega), if_neg (by omega)] at hh; exact hh
        · rw [unsc, if_pos c2] at hh; rw [nn, gD hi]; exact hh
        · rw [unsc, if_neg c2, if_pos (by omega)] at hh; rw [nn, gD hi]; exact hh
      · refine hX _ _ ⟨fun c => absurd c (by omega), fun _ => impl_finiteList_wp (by rw [List.length_map]; exact hl) ⟨fun h4 => ?_, fun h4 => ?_⟩⟩
        · rw [h4, if_pos rfl] at hk; rw [h4]; exact hk
        · rw [h4, if_neg (by simp)] at hk; rw [h4]; exact hk
    · rw [show losOk l s h = false by simp [losOk, h3], if_neg (by simp)] at hk; exact hk
    · rw [show losOk l s h = false by simp [losOk, h2], if_neg (by simp)] at hk; exact hk
    · rw [show losOk l s h = false by simp [losOk, h1], if_neg (by simp)] at hk; exact hk
open Ieee in
structure Fmt (f : Format) : Prop where
  b : f.binade = 2 ^ f.fractionBits
  i : f.infRung < f.signWeight
  r : f.infRung = (2 ^ f.exponentBits - 1) * f.binade
  x : 2 ≤ f.exponentBits
theorem fmt1 : Fmt Ieee.single := ⟨rfl, by decide, rfl, by decide⟩
theorem fmt2 : Fmt Ieee.double := ⟨rfl, by decide, rfl, by decide⟩
open Ieee in
theorem read_word {f : Format} (h : Fmt f) (s : Bool) {r : Nat} (hr : r ≤ f.infRung) : f.read (f.word s r) = if r < f.binade then .number s r f.leastPlace else if r < f.infRung then .number s (f.binade + r % f.binade) (f.leastPlace + (r / f.binade - 1 : Nat)) else .infinity s := by
  have hi := h.i
  have hl : r < f.signWeight := by omega
  have e1 : f.word s r % f.signWeight = r := by
    unfold Format.word
    split
    · rw [Nat.add_mod_left, Nat.mod_eq_of_lt hl]
    · exact Nat.mod_eq_of_lt hl
  have e2 : (f.word s r / f.signWeight % 2 == 1) = s := by
    unfold Format.word
    cases s with
    | true => rw [if_pos rfl, Nat.add_div_left _ (by omega), Nat.div_eq_of_lt hl]; rfl
    | false => rw [if_neg (by decide), Nat.div_eq_of_lt hl]; rfl
  unfold Format.read
  dsimp only
  rw [e1, e2]
  split
  · rfl
  · split
    · rfl
    · rw [if_pos (by omega)]
open Ieee in
theorem near_exact {f : Format} (h : Fmt f) (s : Bool) {M M0 k : Nat} {e : Int} (hM : M = M0 * 2 ^ k) (h0 : M0 < 2 ^ (f.fractionBits + 1)) (hL : f.leastPlace ≤ e + k) (hI : (e + k - f.leastPlace).toNat + 2 ≤ 2 ^ f.exponentBits - 1) : ∃ m e', f.read (f.nearest s M e) = .number s m e' ∧ f.leastPlace ≤ e' ∧ m * 2 ^ (e' - f.leastPlace).toNat = M0 * 2 ^ (e + k - f.leastPlace).toNat := by
  have hB := h.b
  have hBp : 0 < f.binade := by rw [hB]; exact Nat.two_pow_pos _
  generalize hp : f.fractionBits = p at *
  generalize hLL : f.leastPlace = L at *
  by_cases hz : M0 = 0
  · subst hz
    rw [Nat.zero_mul] at hM
    refine ⟨0, L, ?_, Int.le_refl _, by simp⟩
    unfold Format.nearest
    rw [if_pos hM, read_word h s (Nat.zero_le _), if_pos hBp, hLL]
  have hMz : M ≠ 0 := by rw [hM]; exact Nat.mul_ne_zero hz (by have := Nat.two_pow_pos k; omega)
  have hlog : M.log2 = M0.log2 + k := by
    refine (Nat.log2_eq_iff hMz).2 ⟨?_, ?_⟩
    · rw [hM, Nat.pow_add]; exact Nat.mul_le_mul_right _ (Nat.log2_self_le hz)
    · rw [hM, show M0.log2 + k + 1 = (M0.log2 + 1) + k by omega, Nat.pow_add]; exact Nat.mul_lt_mul_of_pos_right Nat.lt_log2_self (Nat.two_pow_pos k)
  have hg1 : M0 < 2 ^ (M0.log2 + 1) := Nat.lt_log2_self
  have hg2 : 2 ^ M0.log2 ≤ M0 := Nat.log2_self_le hz
  have hgp : M0.log2 ≤ p := by
    have := (Nat.pow_lt_pow_iff_right (a := 2) (by decide)).1 (Nat.lt_of_le_of_lt hg2 h0); omega
  generalize hg : M0.log2 = g at *
  unfold Format.nearest
  rw [if_neg hMz]
  dsimp only
  rw [hlog, hLL, hp, hB]
  generalize hla : max (e + ((g + k : Nat) : Int) - p) L = last
  have hlast : last ≤ e + k ∧ L ≤ last ∧ (last = L ∨ last = e + g + k - p) ∧ e + g + k - p ≤ last := by omega
  have hkept : Toward.even.cut s (M <<< (e - last).toNat) (last - e).toNat = M0 * 2 ^ (e + k - last).toNat := by
    unfold Toward.cut
    by_cases c : last ≤ e
    · have : (last - e).toNat = 0 := by omega
      rw [this]
      dsimp only
      rw [Nat.zero_min, Nat.shiftLeft_zero, Nat.div_one, Nat.mod_one, Nat.shiftLeft_eq, hM, Nat.mul_assoc, ← Nat.pow_add, show k + (e - last).toNat = (e + k - last).toNat by omega]
      rfl
    · have : (e - last).toNat = 0 := by omega
      rw [this, Nat.shiftLeft_zero]
      have hd : min (last - e).toNat (M.log2 + 2) = (last - e).toNat := by omega
      dsimp only
      rw [hd, Nat.shiftLeft_eq, Nat.one_mul]
      have hMe : M = M0 * 2 ^ (e + k - last).toNat * 2 ^ (last - e).toNat := by rw [hM, Nat.mul_assoc, ← Nat.pow_add]; congr 2; omega
      have hpp := Nat.two_pow_pos (last - e).toNat
      rw [hMe, Nat.mul_div_cancel _ hpp, Nat.mul_mod_left, Nat.mul_zero]
      have e1 : decide (2 ^ (last - e).toNat < 0) = false := by simp
      have e2 : (2 ^ (last - e).toNat == 0) = false := by simp
      rw [e1, e2]; rfl
  rw [hkept]
  have hkl : M0 * 2 ^ (e + k - last).toNat < 2 ^ (p + 1) := by
    have : M0 * 2 ^ (e + k - last).toNat < 2 ^ (g + 1) * 2 ^ (e + k - last).toNat := Nat.mul_lt_mul_of_pos_right hg1 (Nat.two_pow_pos _)
    refine Nat.lt_of_lt_of_le this ?_
    rw [← Nat.pow_add]
    exact Nat.pow_le_pow_right (by decide) (by omega)
  have hkb : last ≠ L → 2 ^ p ≤ M0 * 2 ^ (e + k - last).toNat := by
    intro c
    have : 2 ^ g * 2 ^ (e + k - last).toNat ≤ M0 * 2 ^ (e + k - last).toNat := Nat.mul_le_mul_right _ hg2
    refine Nat.le_trans ?_ this
    rw [← Nat.pow_add]
    exact Nat.pow_le_pow_right (by decide) (by omega)
  have hfin : M0 * 2 ^ (e + k - L).toNat = M0 * 2 ^ (e + k - last).toNat * 2 ^ (last - L).toNat := by
    rw [Nat.mul_assoc, ← Nat.pow_add]; congr 2; omega
  rw [hfin]
  generalize M0 * 2 ^ (e + k - last).toNat = q at *
  rw [Nat.pow_succ] at hkl
  rw [hB] at hBp
  have hinf : (last - L).toNat * 2 ^ p + q < f.infRung := by
    rw [h.r, hB]
    generalize hE : 2 ^ f.exponentBits - 1 = E at *
    have h1 : ((last - L).toNat + 2) * 2 ^ p ≤ E * 2 ^ p := Nat.mul_le_mul_right _ (by omega)
    rw [Nat.add_mul] at h1
    omega
  rw [Nat.min_eq_left (by omega), read_word h s (by omega), hB]
  by_cases c : q < 2 ^ p
  · have hl : last = L := by
      by_cases c2 : last = L
      · exact c2
      · have := hkb c2; omega
    subst hl
    refine ⟨q, last, ?_, Int.le_refl _, rfl⟩
    rw [show (last - last).toNat = 0 by omega, Nat.zero_mul, Nat.zero_add, if_pos c, hLL]
  · refine ⟨q, last, ?_, hlast.2.1, rfl⟩
    generalize ha : (last - L).toNat = a at *
    have h1 : (a * 2 ^ p + q) / 2 ^ p = a + 1 := by
      rw [Nat.mul_comm, Nat.mul_add_div hBp]
      congr 1
      rw [show q = (q - 2 ^ p) + 2 ^ p by omega, Nat.add_div_right _ hBp, Nat.div_eq_of_lt (by omega)]
    have h2 : (a * 2 ^ p + q) % 2 ^ p = q - 2 ^ p := by
      rw [Nat.mul_comm, Nat.mul_add_mod, Nat.mod_eq_sub_mod (by omega), Nat.mod_eq_of_lt (by omega)]
    have h3 : ¬ a * 2 ^ p + q < 2 ^ p := by omega
    rw [if_neg h3, if_pos hinf, h1, h2, hLL]
    congr 1
    · omega
    · omega
open Ieee in
def vD (L : Int) (s : Bool) (m : Nat) (e : Int) : Int := signed s m (e - L).toNat
theorem vD_abs (L : Int) (s : Bool) (m : Nat) (e : Int) : (vD L s m e).natAbs = m * 2 ^ (e - L).toNat := by
  unfold vD Ieee.signed
  rw [Nat.shiftLeft_eq]
  cases s
  · simp only [Bool.false_eq_true, if_false]; exact Int.natAbs_natCast _
  · simp only [if_true, Int.natAbs_neg]; exact Int.natAbs_natCast _
theorem vD_sign (L : Int) (s : Bool) (m : Nat) (e : Int) : (s = true → vD L s m e ≤ 0) ∧ (s = false → 0 ≤ vD L s m e) := by
  unfold vD Ieee.signed
  cases s
  · refine ⟨fun c => (by cases c), fun _ => ?_⟩; simp only [Bool.false_eq_true, if_false]; exact Int.natCast_nonneg _
  · refine ⟨fun _ => ?_, fun c => (by cases c)⟩; simp only [if_true]; exact Int.neg_nonpos_of_nonneg (Int.natCast_nonneg _)
theorem unit_pos (n : Nat) : (0 : Int) < ((2 ^ n : Nat) : Int) := by have := Nat.two_pow_pos n; omega
open Ieee in
theorem sum_num {L : Int} {s t : Bool} {m n : Nat} {i j : Int} (hi : L ≤ i) (hj : L ≤ j) : ∃ u M b, (Datum.number s m i).sum (.number t n j) = some (.number u M b) ∧ L ≤ b ∧ M * 2 ^ (b - L).toNat = (vD L s m i + vD L t n j).natAbs ∧ (u = true → vD L s m i + vD L t n j ≤ 0) ∧ (u = false → 0 ≤ vD L s m i + vD L t n j) := by
  have e1 : vD L s m i = signed s m (i - min i j).toNat * (2 ^ (min i j - L).toNat : Nat) := by
    unfold vD; rw [← signed_up]; congr 1; omega
  have e2 : vD L t n j = signed t n (j - min i j).toNat * (2 ^ (min i j - L).toNat : Nat) := by
    unfold vD; rw [← signed_up]; congr 1; omega
  rw [e1, e2]
  have hp := unit_pos (min i j - L).toNat
  refine ⟨_, _, _, rfl, by omega, ?_, ?_, ?_⟩
  · rw [← Int.add_mul, Int.natAbs_mul]; rfl
  · intro c
    rw [← Int.add_mul]
    refine Int.mul_nonpos_of_nonpos_of_nonneg ?_ (Int.le_of_lt hp)
    by_cases hz : signed s m (i - min i j).toNat + signed t n (j - min i j).toNat = 0
    · omega
    · rw [if_neg hz] at c; have := of_decide_eq_true c; omega
  · intro c
    rw [← Int.add_mul]
    refine Int.mul_nonneg ?_ (Int.le_of_lt hp)
    by_cases hz : signed s m (i - min i j).toNat + signed t n (j - min i j).toNat = 0
    · omega
    · rw [if_neg hz] at c; have := of_decide_eq_false c; omega
theorem vD_not (L : Int) (s : Bool) (m : Nat) (e : Int) : vD L (!s) m e = - vD L s m e := by
  unfold vD Ieee.signed; cases s <;> simp
/-! ### how they stand to others -/
open Ieee in
theorem order_vD {L : Int} {s t : Bool} {m n : Nat} {i j : Int} (hi : L ≤ i) (hj : L ≤ j) : (Datum.number s m i).order (.number t n j) = some (compare (vD L s m i) (vD L t n j)) := by
  have e1 : vD L s m i = signed s m (i - min i j).toNat * (2 ^ (min i j - L).toNat : Nat) := by
    unfold vD; rw [← signed_up]; congr 1; omega
  have e2 : vD L t n j = signed t n (j - min i j).toNat * (2 ^ (min i j - L).toNat : Nat) := by
    unfold vD; rw [← signed_up]; congr 1; omega
  rw [e1, e2]
  show some (compare (signed s m (i - min i j).toNat) (signed t n (j - min i j).toNat)) = _
  congr 1
  have hp := unit_pos (min i j - L).toNat
  generalize signed s m (i - min i j).toNat = a
  generalize signed t n (j - min i j).toNat = b
  generalize ((2 ^ (min i j - L).toNat : Nat) : Int) = p at hp
  rw [show compare a b = compareOfLessAndEq a b from rfl, show compare (a * p) (b * p) = compareOfLessAndEq (a * p) (b * p) from rfl]
  unfold compareOfLessAndEq
  have h1 : (a * p < b * p) = (a < b) := propext ⟨fun h => Int.lt_of_mul_lt_mul_right h (Int.le_of_lt hp), fun h => Int.mul_lt_mul_of_pos_right h hp⟩
  have h2 : (a * p = b * p) = (a = b) := propext ⟨fun h => Int.eq_of_mul_eq_mul_right (Int.ne_of_gt hp) h, fun h => by rw [h]⟩
  simp only [h1, h2]
/-! ### halves, and wider words -/
open Ieee in
theorem rung_val {f : Format} (h : Fmt f) (s : Bool) {r : Nat} (hr : r < f.infRung) : ∃ m e, f.read (f.word s r) = .number s m e ∧ f.leastPlace ≤ e ∧ (∀ n, r ≤ (n + 2) * 2 ^ f.fractionBits → m * 2 ^ (e - f.leastPlace).toNat ≤ 2 ^ (f.fractionBits + 1 + n)) ∧ (∀ n, (n + 1) * 2 ^ f.fractionBits ≤ r → 2 ^ (f.fractionBits + n) ≤ m * 2 ^ (e - f.leastPlace).toNat) := by
  have hB := h.b
  rw [read_word h s (Nat.le_of_lt hr), hB]
  generalize f.fractionBits = p at *
  generalize f.leastPlace = L at *
  have hp : 0 < 2 ^ p := Nat.two_pow_pos _
  by_cases c : r < 2 ^ p
  · rw [if_pos c]
    refine ⟨_, _, rfl, Int.le_refl _, ?_, ?_⟩
    · intro n _
      rw [Int.sub_self]
      have : 2 ^ p ≤ 2 ^ (p + 1 + n) := Nat.pow_le_pow_right (by decide) (by omega)
      simp; omega
    · intro n hn
      have : 1 * 2 ^ p ≤ (n + 1) * 2 ^ p := Nat.mul_le_mul_right _ (by omega)
      omega
  · rw [if_neg c, if_pos hr]
    have hj : 1 ≤ r / 2 ^ p := (Nat.le_div_iff_mul_le hp).2 (by omega)
    have hm : r % 2 ^ p < 2 ^ p := Nat.mod_lt _ hp
    have hd := Nat.div_add_mod r (2 ^ p)
    refine ⟨_, _, rfl, by omega, ?_, ?_⟩
    · intro n hn
      have e1 : (L + ((r / 2 ^ p - 1 : Nat) : Int) - L).toNat = r / 2 ^ p - 1 := by omega
      rw [e1]
      have hjn : r / 2 ^ p ≤ n + 2 := by
        refine (Nat.div_le_iff_le_mul_add_pred hp).2 ?_
        rw [Nat.mul_comm]; omega
      by_cases cj : r / 2 ^ p ≤ n + 1
      · have h1 : 2 ^ (r / 2 ^ p - 1) ≤ 2 ^ n := Nat.pow_le_pow_right (by decide) (by omega)
        rw [Nat.pow_add 2 (p + 1) n]
        refine Nat.mul_le_mul ?_ h1
        rw [Nat.pow_succ]; omega
      · have h2 : r / 2 ^ p = n + 2 := by omega
        rw [h2] at hd ⊢
        rw [Nat.mul_comm] at hd
        have h3 : r % 2 ^ p = 0 := by omega
        rw [h3, Nat.add_zero, ← Nat.pow_add]
        exact Nat.le_of_eq (by congr 1; omega)
    · intro n hn
      have e1 : (L + ((r / 2 ^ p - 1 : Nat) : Int) - L).toNat = r / 2 ^ p - 1 := by omega
      rw [e1]
      have hjn : n + 1 ≤ r / 2 ^ p := (Nat.le_div_iff_mul_le hp).2 hn
      rw [Nat.pow_add]
      exact Nat.mul_le_mul (by omega) (Nat.pow_le_pow_right (by decide) (by omega))
open Ieee in
theorem cut_zero (s : Bool) (n : Nat) : Toward.even.cut s n 0 = n := by
  unfold Toward.cut
  simp [Nat.mod_one]
open Ieee in
theorem cut_le (s : Bool) (n d : Nat) : n / 2 ^ min d (n.log2 + 2) ≤ Toward.even.cut s n d ∧ Toward.even.cut s n d ≤ n / 2 ^ min d (n.log2 + 2) + 1 := by
  unfold Toward.cut
  rw [Nat.one_shiftLeft]
  dsimp only
  have : ∀ b : Bool, b.toNat ≤ 1 := by intro b; cases b <;> decide
  constructor
  · exact Nat.le_add_right _ _
  · exact Nat.add_le_add_left (this _) _
open Ieee in
theorem near_log {f : Format} (h : Fmt f) (s : Bool) {M : Nat} {e : Int} (hM : M ≠ 0) (hI : (e + M.log2 - f.fractionBits - f.leastPlace).toNat + 4 ≤ 2 ^ f.exponentBits) : ∃ m q, f.read (f.nearest s M e) = .number s m q ∧ f.leastPlace ≤ q ∧ m * 2 ^ (q - f.leastPlace).toNat ≤ 2 ^ (f.fractionBits + 1 + (e + M.log2 - f.fractionBits - f.leastPlace).toNat) ∧ (f.leastPlace + f.fractionBits ≤ e + M.log2 → 2 ^ (e + M.log2 - f.leastPlace).toNat ≤ m * 2 ^ (q - f.leastPlace).toNat) := by
  have hB := h.b
  have hr := h.r
  have hp : 0 < 2 ^ f.fractionBits := Nat.two_pow_pos _
  have g1 : M < 2 ^ (M.log2 + 1) := Nat.lt_log2_self
  have g2 : 2 ^ M.log2 ≤ M := Nat.log2_self_le hM
  unfold Format.nearest
  rw [if_neg hM]
  dsimp only
  have key : ∃ kept, Toward.even.cut s (M <<< (e - max (e + M.log2 - f.fractionBits) f.leastPlace).toNat) (max (e + M.log2 - f.fractionBits) f.leastPlace - e).toNat = kept ∧ kept ≤ 2 ^ (f.fractionBits + 1) ∧ (f.leastPlace + f.fractionBits ≤ e + M.log2 → 2 ^ f.fractionBits ≤ kept) := by
    refine ⟨_, rfl, ?_⟩
    generalize f.fractionBits = p at *
    generalize f.leastPlace = L at *
    generalize hg : M.log2 = g at *
    generalize hl : max (e + g - p) L = last at *
    rw [Nat.shiftLeft_eq]
    by_cases c : last ≤ e
    · rw [show (last - e).toNat = 0 by omega, cut_zero]
      constructor
      · have h1 : M * 2 ^ (e - last).toNat < 2 ^ (g + 1) * 2 ^ (e - last).toNat := Nat.mul_lt_mul_of_pos_right g1 (Nat.two_pow_pos _)
        rw [← Nat.pow_add] at h1
        have h2 : 2 ^ (g + 1 + (e - last).toNat) ≤ 2 ^ (p + 1) := Nat.pow_le_pow_right (by decide) (by omega)
        omega
      · intro hc
        have h1 : 2 ^ g * 2 ^ (e - last).toNat ≤ M * 2 ^ (e - last).toNat := Nat.mul_le_mul_right _ g2
        rw [← Nat.pow_add, show g + (e - last).toNat = p by omega] at h1
        exact h1
    · rw [show (e - last).toNat = 0 by omega, Nat.pow_zero, Nat.mul_one]
      obtain ⟨k1, k2⟩ := cut_le s M (last - e).toNat
      rw [hg] at k1 k2
      constructor
      · refine Nat.le_trans k2 ?_
        have hx : M / 2 ^ min (last - e).toNat (g + 2) < 2 ^ (p + 1) := by
          refine (Nat.div_lt_iff_lt_mul (Nat.two_pow_pos _)).2 (Nat.lt_of_lt_of_le g1 ?_)
          rw [← Nat.pow_add]
          exact Nat.pow_le_pow_right (by decide) (by omega)
        omega
      · intro hc
        refine Nat.le_trans ?_ k1
        refine (Nat.le_div_iff_mul_le (Nat.two_pow_pos _)).2 ?_
        rw [← Nat.pow_add]
        exact Nat.le_trans (Nat.pow_le_pow_right (by decide) (by omega)) g2
  obtain ⟨kept, k0, k1, k2⟩ := key
  rw [k0]
  have hn : (max (e + M.log2 - f.fractionBits) f.leastPlace - f.leastPlace).toNat = (e + M.log2 - f.fractionBits - f.leastPlace).toNat := by omega
  rw [hn]
  generalize hN : (e + M.log2 - f.fractionBits - f.leastPlace).toNat = n at *
  rw [Nat.pow_succ] at k1
  have hu : n * f.binade + kept ≤ (n + 2) * 2 ^ f.fractionBits := by
    rw [hB, Nat.add_mul]; omega
  have hlt : n * f.binade + kept < f.infRung := by
    refine Nat.lt_of_le_of_lt hu ?_
    rw [hr, hB]
    exact Nat.mul_lt_mul_of_pos_right (by omega) hp
  rw [Nat.min_eq_left (Nat.le_of_lt hlt)]
  obtain ⟨m, q, r1, r2, r3, r4⟩ := rung_val h s hlt
  refine ⟨m, q, r1, r2, r3 n hu, ?_⟩
  intro hc
  have := r4 n (by rw [hB, Nat.add_mul]; have := k2 hc; omega)
  rw [show (e + M.log2 - f.leastPlace).toNat = f.fractionBits + n by omega]
  exact this
open Ieee in
/-- The word x of kind k is a number of at most 2 ^ A least places. -/
def Bf (k : FloatKind) (x A : Nat) : Prop := ∃ s m e, k.format.read x = .number s m e ∧ k.format.leastPlace ≤ e ∧ m * 2 ^ (e - k.format.leastPlace).toNat ≤ 2 ^ A
theorem bf_cz {k : FloatKind} {x A : Nat} (h : Bf k x A) : cz k x = x := by
  obtain ⟨s, m, e, r, _⟩ := h
  unfold cz
  rw [show k.decode x = k.format.read x from rfl, r]; rfl
theorem Bf.up {k : FloatKind} {x A B : Nat} (h : Bf k x A) (hAB : A ≤ B) : Bf k x B := by
  obtain ⟨s, m, e, r, l, v⟩ := h
  exact ⟨s, m, e, r, l, Nat.le_trans v (Nat.pow_le_pow_right (by decide) hAB)⟩
theorem log_le {M a A : Nat} (hM : M ≠ 0) (h : M * 2 ^ a ≤ 2 ^ A) : M.log2 + a ≤ A := by
  have h1 : 2 ^ M.log2 * 2 ^ a ≤ M * 2 ^ a := Nat.mul_le_mul_right _ (Nat.log2_self_le hM)
  rw [← Nat.pow_add] at h1
  exact (Nat.pow_le_pow_iff_right (a := 2) (by decide)).1 (Nat.le_trans h1 h)
theorem bf_near {k : FloatKind} (hk : Fmt k.format) (s : Bool) {M A : Nat} {e : Int} (hA : k.format.fractionBits ≤ A) (hI : A + 4 ≤ 2 ^ k.format.exponentBits + k.format.fractionBits) (h : M ≠ 0 → e + M.log2 - k.format.leastPlace ≤ A) : Bf k (k.format.nearest s M e) (A + 1) := by
  by_cases hM : M = 0
  · refine ⟨s, 0, k.format.leastPlace, ?_, Int.le_refl _, by simp⟩
    unfold Ieee.Format.nearest
    have hBp : 0 < k.format.binade := by rw [hk.b]; exact Nat.two_pow_pos _
    rw [if_pos hM, read_word hk s (Nat.zero_le _), if_pos hBp]
  · have := h hM
    obtain ⟨m, q, r1, r2, r3, _⟩ := near_log hk s (e := e) hM (by omega)
    exact ⟨s, m, q, r1, r2, Nat.le_trans r3 (Nat.pow_le_pow_right (by decide) (by omega))⟩
open Ieee in
theorem fconv_some {y A : Nat} (h : Bf .f64 y A) (hA : A ≤ 1170) : (fconv .f64 y .f32).isSome = true := by
  obtain ⟨s, m, e, r, l, v⟩ := h
  unfold fconv
  rw [if_neg (by decide), show FloatKind.decode .f64 y = (FloatKind.format .f64).read y from rfl, r]
  have hL : (FloatKind.format .f64).leastPlace = -1074 := by decide
  rw [hL] at l v
  have hb : Bf .f32 (FloatKind.encode .f32 (.number s m e)) (254 + 1) := by
    refine bf_near (k := .f32) (M := m) (e := e) (A := 254) fmt1 s (by decide) (by decide) ?_
    intro hm
    have := log_le hm v
    have h2 : (FloatKind.format .f32).leastPlace = -149 := by decide
    rw [h2]; omega
  obtain ⟨s2, m2, e2, r2, _⟩ := hb
  dsimp only
  rw [show FloatKind.decode .f32 (FloatKind.encode .f32 (.number s m e)) = (FloatKind.format .f32).read (FloatKind.encode .f32 (.number s m e)) from rfl, r2]
  rfl
end Go.Proofs.Ytfhlhgnipmgfdaa.G
namespace Go.Proofs.Ytfhlhgnipmgfdaa.G
open Go Go.Ab
set_option maxRecDepth 100000
set_option linter.unusedVariables false
set_option linter.unusedSimpArgs false
set_option maxHeartbeats 1000000
set_option exponentiation.threshold 4000
open Ieee Ieee.Datum in
theorem root_from (n : Nat) : ∀ todo root, root * root ≤ n → rootFrom n todo root * rootFrom n todo root ≤ n
  | 0, root, h => h
  | todo + 1, root, h => by
    rw [rootFrom]
    split
    · rename_i c; exact root_from n todo _ c
    · exact root_from n todo _ h
open Ieee in
theorem root_bf {m : Nat} {e : Int} (l : -1074 ≤ e) (hv : m * 2 ^ (e + 1074).toNat ≤ 2 ^ 1202) (s : Bool) : ((Datum.number s m e).root 54).map double.write = none ∨ ∃ z, ((Datum.number s m e).root 54).map double.write = some z ∧ Bf .f64 z 1170 := by
  unfold Datum.root
  dsimp only
  by_cases h0 : m = 0
  · rw [if_pos h0]
    refine .inr ⟨_, rfl, ?_⟩
    have := bf_near (k := .f64) (M := m) (e := e) (A := 1100) fmt2 s (by decide) (by decide) (fun c => absurd h0 c)
    exact this.up (by omega)
  · rw [if_neg h0]
    cases s with
    | true => exact .inl rfl
    | false =>
      right
      rw [if_neg (by decide)]
      generalize hmore : 2 * 54 - m.log2 + ((e - ((2 * 54 - m.log2 : Nat) : Int)) % 2).toNat = more
      have hev : (e - (more : Int)) % 2 = 0 := by omega
      generalize hwh : Datum.rootFrom (m <<< more) ((m <<< more).log2 / 2 + 1) 0 = whole
      have hw : whole * whole ≤ m * 2 ^ more := by
        have := root_from (m <<< more) ((m <<< more).log2 / 2 + 1) 0 (by simp)
        rw [hwh, Nat.shiftLeft_eq] at this
        exact this
      have hlog := log_le h0 hv
      refine ⟨_, rfl, ?_⟩
      have hb : (whole * whole != m <<< more).toNat ≤ 1 := by cases (whole * whole != m <<< more) <;> decide
      generalize (whole * whole != m <<< more).toNat = b at hb
      have := bf_near (k := .f64) (M := 2 * whole + b) (e := (e - (more : Int)) / 2 - 1) (A := 1150) fmt2 false (by decide) (by decide) (fun hz => by
        have hL : (FloatKind.f64.format).leastPlace = -1074 := by decide
        rw [hL]
        by_cases c : whole = 0
        · have hM : 2 * whole + b = 1 := by omega
          rw [hM, show (1 : Nat).log2 = 0 by decide]
          omega
        · have g1 : (2 * whole + b).log2 ≤ whole.log2 + 1 := by
            have h1 : 2 * whole + b < 2 ^ (whole.log2 + 1 + 1) := by
              have := Nat.lt_log2_self (n := whole)
              rw [Nat.pow_succ]; omega
            have := (Nat.log2_lt hz).2 h1
            omega
          have g2 : 2 * whole.log2 < m.log2 + 1 + more := by
            have h1 : 2 ^ whole.log2 * 2 ^ whole.log2 ≤ whole * whole := Nat.mul_le_mul (Nat.log2_self_le c) (Nat.log2_self_le c)
            have h2 : m * 2 ^ more < 2 ^ (m.log2 + 1) * 2 ^ more := Nat.mul_lt_mul_of_pos_right Nat.lt_log2_self (Nat.two_pow_pos _)
            rw [← Nat.pow_add] at h1 h2
            have := (Nat.pow_lt_pow_iff_right (a := 2) (by decide)).1 (Nat.lt_of_le_of_lt h1 (Nat.lt_of_le_of_lt hw h2))
            omega
          omega)
      exact this.up (by omega)
theorem rt_q : (fconv .f64 (sqrtW (qnan .f64)) .f32).isSome = true := by decide +kernel
theorem rt_i (s : Bool) : (fconv .f64 (sqrtW (cz .f64 (FloatKind.f64.encode (.infinity s)))) .f32).isSome = true := by cases s <;> decide +kernel
theorem rt_n : (fconv .f64 (qnan .f64) .f32).isSome = true := by decide +kernel
theorem cz_numR {k : FloatKind} {z m : Nat} {s : Bool} {e : Int} (r : k.format.read z = .number s m e) : cz k z = z := by
  unfold cz
  rw [show k.decode z = k.format.read z from rfl, r]; rfl
open Ieee in
theorem rt_some (x : Nat) : (fconv .f64 (sqrtW (widen x)) .f32).isSome = true := by
  cases hx : (FloatKind.f32.format).read x with
  | nan s f =>
    have : widen x = qnan .f64 := by
      unfold widen fconv
      rw [if_neg (by decide), show FloatKind.f32.decode x = (FloatKind.f32.format).read x from rfl, hx]; rfl
    rw [this]; exact rt_q
  | infinity s =>
    have : widen x = cz .f64 (FloatKind.f64.encode (.infinity s)) := by
      unfold widen fconv
      rw [if_neg (by decide), show FloatKind.f32.decode x = (FloatKind.f32.format).read x from rfl, hx]; rfl
    rw [this]; exact rt_i s
  | number s m e =>
    have hr := read_f32 x
    rw [show single.read x = (FloatKind.f32.format).read x from rfl, hx] at hr
    have hme : m < 16777216 ∧ -149 ≤ e ∧ e ≤ 104 := by
      have hlt := Nat.mod_lt x (show 0 < 2147483648 by decide)
      generalize x % 2147483648 = r at hr hlt
      by_cases h1 : r < 8388608
      · rw [if_pos h1] at hr
        simp only [Datum.number.injEq] at hr
        omega
      · rw [if_neg h1] at hr
        by_cases h2 : r < 2139095040
        · rw [if_pos h2] at hr
          simp only [Datum.number.injEq] at hr
          omega
        · rw [if_neg h2] at hr
          split at hr <;> cases hr
    have hL2 : (FloatKind.f64.format).leastPlace = -1074 := by decide
    have hp : (FloatKind.f64.format).fractionBits = 52 := by decide
    have hxb : (FloatKind.f64.format).exponentBits = 11 := by decide
    obtain ⟨m', e', k1, k2, k3⟩ := near_exact (f := FloatKind.f64.format) fmt2 s (M := m) (M0 := m) (k := 0) (e := e) (by simp) (by rw [hp]; omega) (by rw [hL2]; omega) (by rw [hL2, hxb]; omega)
    have hw : widen x = (FloatKind.f64.format).nearest s m e := by
      have : fconv .f32 x .f64 = some ((FloatKind.f64.format).nearest s m e) := by
        unfold fconv
        rw [if_neg (by decide), show FloatKind.f32.decode x = (FloatKind.f32.format).read x from rfl, hx]
        dsimp only
        rw [show FloatKind.f64.decode (FloatKind.encode .f64 (.number s m e)) = (FloatKind.f64.format).read ((FloatKind.f64.format).nearest s m e) from rfl, k1]
        show (if false = true then none else some (cz .f64 ((FloatKind.f64.format).nearest s m e))) = _
        rw [if_neg (by decide), cz_numR k1]
      rw [widen, this]; rfl
    rw [hw]
    generalize (FloatKind.f64.format).nearest s m e = y at *
    rw [hL2] at k2 k3
    have hv : m' * 2 ^ (e' + 1074).toNat ≤ 2 ^ 1202 := by
      rw [show e' + 1074 = e' - -1074 by omega, k3]
      have h1 : m * 2 ^ (e + ((0 : Nat) : Int) - -1074).toNat ≤ 2 ^ 24 * 2 ^ 1178 := Nat.mul_le_mul (by omega) (Nat.pow_le_pow_right (by decide) (by omega))
      rw [← Nat.pow_add] at h1
      exact h1
    have hs : FloatKind.f64.format.sqrt y = ((Datum.number s m' e').root 54).map double.write := by
      unfold Format.sqrt
      rw [k1]; rfl
    unfold sqrtW
    rw [hs]
    rcases root_bf k2 hv s with h | ⟨z, h, hz⟩
    · rw [h]; exact rt_n
    · rw [h]
      show (fconv .f64 (cz .f64 z) .f32).isSome = true
      rw [bf_cz hz]
      exact fconv_some hz (by decide)
end Go.Proofs.Ytfhlhgnipmgfdaa.G
namespace Go.Proofs.Ytfhlhgnipmgfdaa.G
open Go Go.Ab
set_option maxRecDepth 100000
set_option linter.unusedVariables false
set_option linter.unusedSimpArgs false
set_option maxHeartbeats 1000000
open Ieee in
theorem read_M : single.read 1232348176 = .number false 16000016 (-4) := by decide +kernel
open Ieee in
theorem read_mM : single.read 3379831824 = .number true 16000016 (-4) := by decide +kernel
theorem cz_M : cz .f32 1232348176 = 1232348176 := by decide +kernel
theorem cz_mM : cz .f32 3379831824 = 3379831824 := by decide +kernel
/-- One million and one, in units of the last place. -/
def vM : Int := 16000016 * (2 ^ 145 : Nat)
open Ieee in
theorem val_M : val (.number false 16000016 (-4)) = vM := by decide +kernel
open Ieee in
theorem val_mM : val (.number true 16000016 (-4)) = -vM := by decide +kernel
open Ieee in
theorem ord_numS {x y : Nat} {s t : Bool} {m n : Nat} {e k : Int} (h : single.read x = .number s m e) (h2 : single.read y = .number t n k) (he : -149 ≤ e) (hk : -149 ≤ k) : single.order x y = some (compare (val (.number s m e)) (val (.number t n k))) := by
  unfold Format.order; rw [h, h2, order_val he hk]
theorem lt_num {x y : Nat} {a b : Int} (h : Ieee.single.order x y = some (compare a b)) : fcmp .lss .f32 x y = decide (a < b) := by
  rw [fc_lss h, ← cmp_lt]; rfl
theorem gt_num {x y : Nat} {a b : Int} (h : Ieee.single.order x y = some (compare a b)) : fcmp .gtr .f32 x y = decide (b < a) := by
  rw [fc_gtr h, ← cmp_gt]; rfl
open Ieee in
/-- What the size is of a number. -/
theorem siz_val {x m : Nat} {s : Bool} {e : Int} (h : single.read x = .number s m e) (he : -149 ≤ e) : ∃ t n k, single.read (sizI x) = .number t n k ∧ -149 ≤ k ∧ val (.number t n k) = ((val (.number s m e)).natAbs : Int) := by
  have ho : single.order x 0 = some (compare (val (.number s m e)) 0) := by rw [ord_numS h read_0 he (by omega)]; rfl
  rcases Int.lt_trichotomy (val (.number s m e)) 0 with hv | hv | hv
  · have hc : compare (val (.number s m e)) 0 = Ordering.lt := by
      have := cmp_lt (a := val (.number s m e)) (b := 0); rw [decide_eq_true hv] at this; exact eq_of_beq this
    rw [hc] at ho
    refine ⟨!s, m, e, ?_, he, ?_⟩
    · rw [(siz_lt ho).2, fneg_read (by rw [h]; rfl), h]; rfl
    · have : val (.number (!s) m e) = - val (.number s m e) := by cases s <;> simp [val, signed]
      rw [this]; omega
  · rw [hv] at ho
    refine ⟨false, 0, -149, ?_, by omega, ?_⟩
    · rw [(siz_0 ho).2, read_0]
    · rw [hv]; rfl
  · have hc : compare (val (.number s m e)) 0 = Ordering.gt := by
      have := cmp_gt (a := val (.number s m e)) (b := 0); rw [decide_eq_true hv] at this; exact eq_of_beq this
    rw [hc] at ho
    refine ⟨s, m, e, ?_, he, ?_⟩
    · rw [(siz_not ho rfl rfl).2, h]
    · omega
/-- Between the two bounds: by either test. -/
theorem siz_M (x : Nat) : fcmp .lss .f32 (sizI x) 1232348176 = (fcmp .gtr .f32 x 3379831824 && fcmp .lss .f32 x 1232348176) := by
  rcases read_single x with ⟨s, t, h⟩ | ⟨s, h⟩ | ⟨s, m, e, h, hm, he, _⟩
  · have ho : Ieee.single.order x 0 = none := by unfold Ieee.Format.order; rw [h]; rfl
    have h1 : Ieee.single.order x 1232348176 = none := by unfold Ieee.Format.order; rw [h]; rfl
    rw [(siz_not ho rfl rfl).2, fc_lss h1]
    simp
  · cases s
    · have ho : Ieee.single.order x 0 = some .gt := by unfold Ieee.Format.order; rw [h, read_0]; rfl
      have h1 : Ieee.single.order x 1232348176 = some .gt := by unfold Ieee.Format.order; rw [h, read_M]; rfl
      rw [(siz_not ho rfl rfl).2, fc_lss h1]
      simp
    · have ho : Ieee.single.order x 0 = some .lt := by unfold Ieee.Format.order; rw [h, read_0]; rfl
      have h1 : Ieee.single.order x 3379831824 = some .lt := by unfold Ieee.Format.order; rw [h, read_mM]; rfl
      have h2 : Ieee.single.order (sizI x) 1232348176 = some .gt := by
        unfold Ieee.Format.order; rw [(siz_lt ho).2, fneg_read (by rw [h]; rfl), h, read_M]; rfl
      rw [fc_gtr h1, fc_lss h2]
      rfl
  · obtain ⟨t, n, k, h1, hk, h2⟩ := siz_val h he
    rw [lt_num (ord_numS h1 read_M hk (by omega)), gt_num (ord_numS h read_mM he (by omega)), lt_num (ord_numS h read_M he (by omega)), h2, val_M, val_mM]
    generalize val (.number s m e) = v
    generalize vM = w
    rw [Bool.eq_iff_iff]
    simp only [decide_eq_true_eq, Bool.and_eq_true]
    omega
open Ieee in
theorem cutz (s : Bool) (n d : Nat) : Toward.zero.cut s n d = n / 2 ^ d := by
  simp only [Toward.cut, Nat.shiftLeft_eq, Nat.one_mul, Bool.toNat_false, Nat.add_zero]
  by_cases h : d ≤ n.log2 + 2
  · rw [Nat.min_eq_left h]
  · rw [Nat.min_eq_right (by omega)]
    have h1 : n < 2 ^ (n.log2 + 1) := Nat.lt_log2_self
    have h2 : 2 ^ (n.log2 + 1) ≤ 2 ^ (n.log2 + 2) := Nat.pow_le_pow_right (by decide) (by omega)
    have h3 : 2 ^ (n.log2 + 1) ≤ 2 ^ d := Nat.pow_le_pow_right (by decide) (by omega)
    rw [Nat.div_eq_of_lt (by omega), Nat.div_eq_of_lt (by omega)]
open Ieee in
/-- The whole part is below the bound. -/
theorem whole_M {m : Nat} {e : Int} (he : -149 ≤ e) (hv : val (.number false m e) < vM) : (m <<< e.toNat) / 2 ^ (-e).toNat ≤ 1000000 := by
  have hv' : m * 2 ^ (e + 149).toNat < 1000001 * 2 ^ 149 := by
    have e1 : val (.number false m e) = ((m * 2 ^ (e + 149).toNat : Nat) : Int) := by simp [val, signed, Nat.shiftLeft_eq]
    have e2 : vM = ((1000001 * 2 ^ 149 : Nat) : Int) := by decide +kernel
    rw [e1, e2] at hv; exact Int.ofNat_lt.1 hv
  rw [Nat.shiftLeft_eq]
  by_cases h : 0 ≤ e
  · rw [show (-e).toNat = 0 by omega, Nat.pow_zero, Nat.div_one]
    rw [show (e + 149).toNat = e.toNat + 149 by omega, Nat.pow_add, ← Nat.mul_assoc] at hv'
    have := Nat.lt_of_mul_lt_mul_right hv'
    omega
  · rw [show e.toNat = 0 by omega, Nat.pow_zero, Nat.mul_one]
    have h1 : (2 : Nat) ^ 149 = 2 ^ (-e).toNat * 2 ^ (e + 149).toNat := by rw [← Nat.pow_add]; congr 1; omega
    rw [h1, ← Nat.mul_assoc] at hv'
    have h2 := Nat.lt_of_mul_lt_mul_right hv'
    have h3 : m / 2 ^ (-e).toNat < 1000001 := (Nat.div_lt_iff_lt_mul (Nat.two_pow_pos _)).2 h2
    omega
/-- A number between the bounds has a whole part, and it is small. -/
theorem whole_of {x : Nat} (h1 : fcmp .gtr .f32 x 3379831824 = true) (h2 : fcmp .lss .f32 x 1232348176 = true) : (floatToIntVal .f32 x .i64).isSome = true ∧ -1000000 ≤ ftoi .f32 x .i64 ∧ ftoi .f32 x .i64 ≤ 1000000 := by
  rcases read_single x with ⟨s, t, h⟩ | ⟨s, h⟩ | ⟨s, m, e, h, hm, he, _⟩
  · have h3 : Ieee.single.order x 1232348176 = none := by unfold Ieee.Format.order; rw [h]; rfl
    rw [fc_lss h3] at h2; cases h2
  · cases s
    · have h3 : Ieee.single.order x 1232348176 = some .gt := by unfold Ieee.Format.order; rw [h, read_M]; rfl
      rw [fc_lss h3] at h2; cases h2
    · have h3 : Ieee.single.order x 3379831824 = some .lt := by unfold Ieee.Format.order; rw [h, read_mM]; rfl
      rw [fc_gtr h3] at h1; cases h1
  · rw [gt_num (ord_numS h read_mM he (by omega)), val_mM, decide_eq_true_eq] at h1
    rw [lt_num (ord_numS h read_M he (by omega)), val_M, decide_eq_true_eq] at h2
    have hv : val (.number false m e) < vM := by
      cases s
      · exact h2
      · rw [val_neg] at h1; omega
    have hw := whole_M he hv
    have hn : ∃ n : Int, (FloatKind.f32.decode x).toInt .zero = some n ∧ -1000000 ≤ n ∧ n ≤ 1000000 := by
      refine ⟨Ieee.signed s ((m <<< e.toNat) / 2 ^ (-e).toNat) 0, ?_, ?_⟩
      · show (Ieee.single.read x).toInt .zero = _
        rw [h]
        simp only [Ieee.Datum.toInt, Ieee.Datum.integral, cutz]
      · generalize (m <<< e.toNat) / 2 ^ (-e).toNat = w at hw
        cases s <;> simp only [Ieee.signed, Nat.shiftLeft_zero, if_true, Bool.false_eq_true, if_false] <;> omega
    obtain ⟨n, h5, h6⟩ := hn
    have hf : floatToIntVal .f32 x .i64 = some n := by
      unfold floatToIntVal
      rw [h5]
      have hmin : IntKind.min .i64 = -9223372036854775808 := by decide +kernel
      have hmax : IntKind.max .i64 = 9223372036854775807 := by decide +kernel
      show (if IntKind.min .i64 ≤ n ∧ n ≤ IntKind.max .i64 then some n else none) = some n
      rw [hmin, hmax, if_pos (by omega)]
    unfold ftoi
    rw [hf]; exact ⟨rfl, h6⟩
def okM (x : Nat) : Bool := fcmp .gtr .f32 x 3379831824 && fcmp .lss .f32 x 1232348176
def slOk (l : List Nat) (s : Nat) : Bool := isL l && isOver s && l.all fun x => okM (fop .quo .f32 x s)
def slL (l : List Nat) (s : Nat) : List Int := l.map fun x => ftoi .f32 (fop .quo .f32 x s) .i64
theorem slL_is {l : List Nat} {s : Nat} (h : slOk l s = true) : isI (slL l s) = true := by
  simp only [slOk, isL, Bool.and_eq_true, decide_eq_true_eq] at h
  simp only [isI, slL, List.length_map, Bool.and_eq_true, decide_eq_true_eq]
  refine ⟨h.1.1.1, ?_⟩
  simp only [bnd, List.all_eq_true, List.mem_map, decide_eq_true_eq]
  rintro n ⟨x, hx, rfl⟩
  have := List.all_eq_true.1 h.2 x hx
  simp only [okM, Bool.and_eq_true] at this
  exact (whole_of this.1 this.2).2
theorem sl_wp (l : List Nat) (s : Nat) (hl : l.length ≤ 2 ^ 20) : (∀ K : List Int → Bool → Prop, K (if slOk l s = true then slL l s else []) (slOk l s) → spec_ScaleList.wp l s K) ∧ (∀ K : List Int → Bool → Prop, K (if slOk l s = true then slL l s else []) (slOk l s) → impl_ScaleList.wp l s K) := by
  refine ⟨fun K hk => ?_, fun K hk => ?_⟩
  · refine spec_l02Is_wp hl ⟨fun h1 => spec_l02Above_wp ⟨fun h2 => fun X hX => ?_, fun h2 => ?_⟩, fun h1 => ?_⟩
    · have e : slOk l s = l.all fun x => okM (fop .quo .f32 x s) := by rw [slOk, h1, h2]; rfl
      refine map_loop l (fun x => okM (fop .quo .f32 x s)) (fun x => ftoi .f32 (fop .quo .f32 x s) .i64) (X := X) (T := slOk l s = true) (F := K [] false) (fun i hi o ho hh => ?_) (fun ht => ?_) (fun ht => by rw [e]; exact ht) (fun hf => by rw [e, hf, if_neg (by decide)] at hk; exact hk)
      · refine hX _ _ ⟨fun _ => ⟨⟨by omega, by omega⟩, ?_⟩, fun c => absurd (show (i : Int) < l.length by omega) c⟩
        rw [nn, gD hi, w1 (by omega), cz_M, cz_mM]
        refine ⟨fun c1 => ⟨fun c2 => ⟨(whole_of c1 c2).1, by rw [len1, ho]; omega, hh.1 (by rw [okM, c1, c2]; rfl)⟩, fun c2 => hh.2 (by rw [okM, c2, Bool.and_false])⟩, fun c1 => hh.2 (by rw [okM, c1]; rfl)⟩
      · refine hX _ _ ⟨fun c => absurd c (by omega), fun _ => spec_l02Integers_wp (by rw [List.length_map]; exact hl) ?_⟩
        have := slL_is ht
        rw [ht, if_pos rfl] at hk
        exact tE this hk
    · rw [show slOk l s = false by rw [slOk, h2, Bool.and_false, Bool.false_and], if_neg (by decide)] at hk; exact hk
    · rw [show slOk l s = false by rw [slOk, h1]; rfl, if_neg (by decide)] at hk; exact hk
  · refine impl_IsList_wp hl ⟨fun h1 => impl_isOver_wp ⟨fun h2 => fun X hX => ?_, fun h2 => ?_⟩, fun h1 => ?_⟩
    · have e : slOk l s = l.all fun x => okM (fop .quo .f32 x s) := by rw [slOk, h1, h2]; rfl
      refine map_loop l (fun x => okM (fop .quo .f32 x s)) (fun x => ftoi .f32 (fop .quo .f32 x s) .i64) (X := X) (T := slOk l s = true) (F := K [] false) (fun i hi o ho hh => ?_) (fun ht => ?_) (fun ht => by rw [e]; exact ht) (fun hf => by rw [e, hf, if_neg (by decide)] at hk; exact hk)
      · refine hX _ _ ⟨fun _ => ⟨⟨by omega, by omega⟩, impl_size_wp ?_⟩, fun c => absurd (show (i : Int) < l.length by omega) c⟩
        rw [nn, gD hi, w1 (by omega), cz_M, siz_M]
        refine ⟨fun c => ?_, fun c => hh.2 c⟩
        have c' := c
        rw [Bool.and_eq_true] at c'
        exact ⟨(whole_of c'.1 c'.2).1, by rw [len1, ho]; omega, hh.1 c⟩
      · refine hX _ _ ⟨fun c => absurd c (by omega), fun _ => ?_⟩
        rw [ht, if_pos rfl] at hk
        exact hk
    · rw [show slOk l s = false by rw [slOk, h2, Bool.and_false, Bool.false_and], if_neg (by decide)] at hk; exact hk
    · rw [show slOk l s = false by rw [slOk, h1]; rfl, if_neg (by decide)] at hk; exact hk
theorem isI_smR {l : List Int} (h : isI l = true) : (1 ≤ l.length ∧ l.length ≤ 128) ∧ ∀ x ∈ l, Sm x := by
  unfold isI bnd at h
  rw [Bool.and_eq_true, decide_eq_true_eq, List.all_eq_true] at h
  exact ⟨h.1, fun x hx => of_decide_eq_true (p := -1000000 ≤ x ∧ x ≤ 1000000) (h.2 x hx)⟩
theorem impl_BitsUntilR_wp {l : List Int} {p n : Nat} {K : Int → Bool → Prop} (hl : l.length ≤ 2 ^ 20) (h1 : isI l = true) (hn : IsTop l n) (hp : p ≤ 24) (h : K ((codeC l p (n - p)).length : Int) true) : impl_BitsUntil.wp l (p : Int) K := by
  have hg := isI_smR h1
  refine impl_AreIntegers_wp hl (tE h1 (impl_within_wp (tE (decide_eq_true (by omega)) (impl_planesFor_wp hg.1.2 hg.2 fun m hm => ?_))))
  rw [top_uniq hm hn]
  exact impl_codeUntil_wp hg.1.2 hg.2 (by omega) (top_le hg.2 hn) h
/-! ### the planes above one -/
def abvF (p : Nat) (n : Int) : Int := if n < 0 then -((n.natAbs / 2 ^ p * 2 ^ p : Nat) : Int) else ((n.natAbs / 2 ^ p * 2 ^ p : Nat) : Int)
theorem fdv (m p : Nat) (hp : p ≤ 24) (hm : m ≤ 1000000) : IntKind.i64.wrap (Int.fdiv (m : Int) (2 ^ (min ((p : Int)).toNat IntKind.i64.bits)) * (2 ^ (min ((p : Int)).toNat IntKind.i64.bits))) = ((m / 2 ^ p * 2 ^ p : Nat) : Int) := by
  have hb : min ((p : Int)).toNat IntKind.i64.bits = p := by
    show min ((p : Int)).toNat 64 = p
    rw [nn]; omega
  rw [hb]
  have h1 : Int.fdiv (m : Int) (2 ^ p) = ((m / 2 ^ p : Nat) : Int) := by
    have e : ((2 : Int) ^ p) = ((2 ^ p : Nat) : Int) := by simp
    rw [e, Int.fdiv_eq_ediv_of_nonneg _ (Int.natCast_nonneg _)]; rfl
  have h2 : ((m / 2 ^ p : Nat) : Int) * (2 : Int) ^ p = ((m / 2 ^ p * 2 ^ p : Nat) : Int) := by simp
  rw [h1, h2]
  have := Nat.div_mul_le_self m (2 ^ p)
  exact wI (by omega)
theorem impl_above_wp {n : Int} {p : Nat} {K : Int → Prop} (h : Sm n) (hp : p ≤ 24) (hK : K (abvF p n)) : impl_above.wp n (p : Int) K := by
  obtain ⟨h1, h2⟩ := h
  unfold abvF at hK
  have hle := Nat.div_mul_le_self n.natAbs (2 ^ p)
  refine ⟨fun c => ⟨by omega, ?_⟩, fun c => ⟨by omega, ?_⟩⟩
  · rw [if_pos c] at hK
    rw [wI (n := 0 - n) (by omega), show 0 - n = ((n.natAbs : Nat) : Int) by omega, fdv _ _ hp (by omega), wI (by omega), Int.zero_sub]
    exact hK
  · rw [if_neg c] at hK
    rw [show n = ((n.natAbs : Nat) : Int) by omega, fdv _ _ hp (by omega)]
    exact hK
/-! ### how far -/
def ssq (l b : List Nat) : Nat → Nat
  | 0 => cz .f32 0
  | i + 1 => fop .add .f32 (ssq l b i) (fop .mul .f32 (fop .sub .f32 (l.getD i 0) (b.getD i 0)) (fop .sub .f32 (l.getD i 0) (b.getD i 0)))
def rtW (x : Nat) : Nat := narrow (sqrtW (widen x))
def farW (l b : List Nat) : Nat := rtW (fop .quo .f32 (ssq l b l.length) (itof .f32 (l.length : Int)))
theorem impl_RootNumber_wp {x : Nat} {K : Nat → Prop} (h : K (rtW x)) : impl_RootNumber.wp x K := ⟨rt_some x, h⟩
/-! ### one plane -/
def toldOk (cd : List Int) (st p : Nat) : Bool := losOk (cd.map (abvF p)) st (cz .f32 1056964608)
def told (cd : List Int) (st p : Nat) : List Nat := (cd.map (abvF p)).map fun n => unsc n st (cz .f32 1056964608)
def backF (ws : List Nat) (sc : Nat) (cd : List Int) (lv st p : Nat) : Option (List Nat) := if toldOk cd st p = true then udL ws sc (cutL (told cd st p) (bandsI lv ((told cd st p).length : Int))) else none
theorem told_is {cd : List Int} {st p : Nat} (hc : 1 ≤ cd.length ∧ cd.length ≤ 128) (h : toldOk cd st p = true) : isL (told cd st p) = true ∧ (told cd st p).length = cd.length := by
  have e : (told cd st p).length = cd.length := by unfold told; rw [List.length_map, List.length_map]
  refine ⟨isL_of (by omega) ?_, e⟩
  unfold toldOk losOk at h
  rw [Bool.and_eq_true, Bool.and_eq_true, Bool.and_eq_true] at h
  exact h.2
theorem told_bds {cd : List Int} {lv st p : Nat} (hc : 1 ≤ cd.length ∧ cd.length ≤ 128) (hv : 1 ≤ lv ∧ lv ≤ 6) (h : toldOk cd st p = true) : Bds (cutL (told cd st p) (bandsI lv ((told cd st p).length : Int))) (told cd st p).length := by
  obtain ⟨h1, h2⟩ := told_is hc h
  obtain ⟨h3, h4⟩ := isL_len h1
  exact cut_bds (sz_of h3 hv) h4
theorem backF_len {ws : List Nat} {sc : Nat} {cd : List Int} {lv st p : Nat} {r : List Nat} (hc : 1 ≤ cd.length ∧ cd.length ≤ 128) (hv : 1 ≤ lv ∧ lv ≤ 6) (h : backF ws sc cd lv st p = some r) : r.length = cd.length := by
  unfold backF at h
  split at h
  · rename_i c
    have := udL_len (told_bds hc hv c) h
    have := (told_is hc c).2
    omega
  · cases h
def endM (K : Nat → Bool → Prop) (l : List Nat) : Option (List Nat) → Prop
  | some b => if pFin (farW l b) = true then K (farW l b) true else K (cz .f32 0) false
  | none => K (cz .f32 0) false
theorem impl_missAbove_wp {ws : List Nat} {sc : Nat} {l : List Nat} {cd : List Int} {lv p st : Nat} {K : Nat → Bool → Prop} (hs : isSch ws sc = true) (hl : l.length = cd.length) (hc : isI cd = true) (hv : 1 ≤ lv ∧ lv ≤ 6) (hp : p ≤ 24) (hK : endM K l (backF ws sc cd lv st p)) : impl_missAbove.wp ws sc l cd (lv : Int) (p : Int) st K := by
  obtain ⟨h1, h2⟩ := isI_smR hc
  intro X hX
  refine map_loop cd (fun _ => true) (abvF p) (X := X) (T := True) (F := False) (fun i hi o ho hh => hX _ _ ⟨fun _ => ⟨⟨by omega, by omega⟩, ?_⟩, fun c => absurd (show (i : Int) < cd.length by omega) c⟩) (fun _ => hX _ _ ⟨fun c => absurd c (by omega), fun _ => ?_⟩) (fun _ => trivial) (fun c => by simp at c)
  · rw [nn, gD hi]
    refine impl_above_wp (h2 _ (List.getElem_mem hi)) hp ⟨by rw [len1, ho]; omega, ?_⟩
    rw [w1 (by omega)]; exact hh.1 rfl
  refine (los_wp (cd.map (abvF p)) st (cz .f32 1056964608) (by rw [List.length_map]; omega)).2 _ ?_
  unfold backF toldOk told at hK
  have ht := told_is (cd := cd) (st := st) (p := p) h1
  have hb := told_bds (cd := cd) (lv := lv) (st := st) (p := p) h1 hv
  unfold toldOk told at ht hb
  cases hlo : losOk (cd.map (abvF p)) st (cz .f32 1056964608) with
  | false =>
    rw [hlo, if_neg (by decide)] at hK
    exact tF hK
  | true =>
    rw [hlo] at hK
    rw [if_pos rfl] at hK ⊢
    obtain ⟨t1, t2⟩ := ht hlo
    have hb := hb hlo
    refine tT (impl_CutFlat_wp t1 hv (tT (impl_DropDeep_wp hs hb ?_)))
    cases hu : udL ws sc (cutL ((cd.map (abvF p)).map fun n => unsc n st (cz .f32 1056964608)) (bandsI lv (((cd.map (abvF p)).map fun n => unsc n st (cz .f32 1056964608)).length : Int))) with
    | none => rw [hu] at hK; rw [endU_none]; exact tF hK
    | some b =>
      rw [hu] at hK
      rw [endU_some]
      have hbl := udL_len hb hu
      refine tT fun Y hY => ?_
      refine up (Y := fun i => Y (ssq l b i) (i : Int)) l.length (hY _ _ ⟨fun c => absurd c (by omega), fun _ => impl_RootNumber_wp ?_⟩) fun i hi hx => hY _ _ ⟨fun _ => ⟨⟨by omega, by omega⟩, ⟨by omega, by omega⟩, ?_⟩, fun c => absurd (show (i : Int) < l.length by omega) c⟩
      · refine impl_IsFinite_wp ?_
        have hK : if pFin (farW l b) = true then K (farW l b) true else K (cz .f32 0) false := hK
        show (pFin (farW l b) = true → K (farW l b) true) ∧ (pFin (farW l b) = false → K (cz .f32 0) false)
        refine ⟨fun c => ?_, fun c => ?_⟩ <;> rw [c] at hK
        · rw [if_pos rfl] at hK; exact hK
        · rw [if_neg (by decide)] at hK; exact hK
      · rw [nn, w1 (by omega)]; exact hx
/-! ### the table -/
def tblF (ws : List Nat) (sc : Nat) (l : List Nat) (cd : List Int) (lv st n : Nat) : Nat → List Int → List Nat → Option (List Int × List Nat)
  | 0, b, ms => some (b, ms)
  | m + 1, b, ms => match backF ws sc cd lv st m with
    | none => none
    | some r => if pFin (farW l r) = true then tblF ws sc l cd lv st n m (b ++ [((codeC cd m (n - m)).length : Int)]) (ms ++ [farW l r]) else none
def endT (K : List Int → List Nat → Bool → Prop) : Option (List Int × List Nat) → Prop
  | some x => K x.1 x.2 true
  | none => K [] [] false
open Classical in
noncomputable def rateF (ws : List Nat) (sc : Nat) (l : List Nat) (lv : Int) (st : Nat) : Option (List Int × List Nat) := match dpL ws sc l lv with
  | none => none
  | some d => if slOk (flL' d) st = true then (if h : ∃ n, IsTop (slL (flL' d) st) n then tblF ws sc l (slL (flL' d) st) lv.toNat st (Classical.choose h) (Classical.choose h + 1) [] [] else none) else none
theorem dp_bds {ws : List Nat} {sc : Nat} {l : List Nat} {lv : Int} {d : List (List Nat)} (h : dpL ws sc l lv = some d) : (isSch ws sc = true ∧ isL l = true ∧ (1 ≤ lv ∧ lv ≤ 6)) ∧ Bds d l.length := by
  unfold dpL at h
  split at h
  · rename_i c
    obtain ⟨t, e1, e2, e3⟩ := dpF_is _ _ _ _ c.2.1 h
    rw [List.nil_append] at e1
    subst e1
    refine ⟨c, ?_, e3⟩
    rw [e2]
    have hl := (isL_len c.2.1).1
    exact sz_of hl (by omega)
  · cases h
theorem impl_RateTable_wp {ws : List Nat} {sc : Nat} {l : List Nat} {lv : Int} {st : Nat} {K : List Int → List Nat → Bool → Prop} (hw : ws.length ≤ 2 ^ 20) (hl : l.length ≤ 2 ^ 20) (hK : endT K (rateF ws sc l lv st)) : impl_RateTable.wp ws sc l lv st K := by
  refine impl_LiftDeep_wp hw hl ?_
  unfold rateF at hK
  cases hd : dpL ws sc l lv with
  | none => rw [hd] at hK; rw [endD_none]; exact tF hK
  | some d =>
    rw [hd] at hK
    rw [endD_some]
    obtain ⟨⟨c1, c2, c3⟩, hb⟩ := dp_bds hd
    have hll := (isL_len c2).1
    obtain ⟨v, rfl⟩ : ∃ n : Nat, lv = n := ⟨lv.toNat, by omega⟩
    dsimp only at hK
    rw [nn] at hK
    have hfl := flL'_len hb
    refine tT (impl_FlatBands_wp hb ((sl_wp (flL' d) st (by omega)).2 _ (tT ?_)))
    cases hso : slOk (flL' d) st with
    | false => rw [hso, if_neg (by decide)] at hK; exact tF hK
    | true =>
      rw [hso, if_pos rfl] at hK
      rw [if_pos rfl]
      have hI := slL_is hso
      have hcl : (slL (flL' d) st).length = l.length := by unfold slL; rw [List.length_map]; exact hfl
      obtain ⟨g1, g2⟩ := isI_smR hI
      generalize slL (flL' d) st = cd at *
      refine tT (impl_planesFor_wp g1.2 g2 fun n hn => ?_)
      have hex : ∃ n, IsTop cd n := ⟨n, hn⟩
      rw [dif_pos hex, top_uniq (Classical.choose_spec hex) hn] at hK
      have hn20 := top_le g2 hn
      intro X hX
      have key : ∀ m b ms, m ≤ n + 1 → b.length + m = n + 1 → ms.length + m = n + 1 → endT K (tblF ws sc l cd v st n m b ms) → X ms b ((m : Int) - 1) := by
        intro m
        induction m with
        | zero => intro b ms _ _ _ h; exact hX _ _ _ ⟨fun c => absurd c (by decide), fun _ => h⟩
        | succ m ih =>
          intro b ms h1 h2 h3 h4
          rw [show (((m + 1 : Nat) : Int) - 1) = (m : Int) by omega]
          rw [tblF] at h4
          refine hX _ _ _ ⟨fun _ => impl_BitsUntilR_wp (n := n) (by omega) hI hn (by omega) (impl_missAbove_wp c1 (by omega) hI (by omega) (by omega) ?_), fun c => absurd (show (0 : Int) ≤ (m : Int) by omega) c⟩
          cases hbk : backF ws sc cd v st m with
          | none =>
            rw [hbk] at h4
            exact tT (tF h4)
          | some r =>
            rw [hbk] at h4
            dsimp only at h4
            show if pFin (farW l r) = true then _ else _
            split at h4
            · rename_i c
              rw [if_pos c]
              refine tT (tT ⟨by rw [len1]; omega, by rw [len1]; omega, ?_⟩)
              rw [wI (by omega)]
              exact ih _ _ (by omega) (by rw [List.length_append, len1]; omega) (by rw [List.length_append, len1]; omega) h4
            · rename_i c
              rw [if_neg c]
              exact tT (tF h4)
      have := key (n + 1) [] [] (Nat.le_refl _) (by simp) (by simp) hK
      rw [show (((n + 1 : Nat) : Int) - 1) = (n : Int) by omega] at this
      exact this
open Ieee in
/-- The value of a word by its rung. -/
theorem rung_eq {f : Format} (h : Fmt f) (s : Bool) {n kept : Nat} (hk : kept ≤ 2 * 2 ^ f.fractionBits) (hn : 0 < n → 2 ^ f.fractionBits ≤ kept) (hr : n * f.binade + kept < f.infRung) : ∃ m e, f.read (f.word s (n * f.binade + kept)) = .number s m e ∧ f.leastPlace ≤ e ∧ m * 2 ^ (e - f.leastPlace).toNat = kept * 2 ^ n := by
  have hB := h.b
  rw [read_word h s (Nat.le_of_lt hr)]
  rw [hB] at hr ⊢
  clear hB
  generalize f.fractionBits = p at *
  generalize f.leastPlace = L at *
  have hp : 0 < 2 ^ p := Nat.two_pow_pos _
  by_cases c : n * 2 ^ p + kept < 2 ^ p
  · rw [if_pos c]
    have hn0 : n = 0 := by
      refine Nat.eq_zero_of_not_pos fun c2 => ?_
      have : 1 * 2 ^ p ≤ n * 2 ^ p := Nat.mul_le_mul_right _ c2
      omega
    subst hn0
    exact ⟨_, _, rfl, Int.le_refl _, by rw [Int.sub_self]; simp⟩
  · rw [if_neg c, if_pos hr]
    refine ⟨_, _, rfl, by omega, ?_⟩
    have e1 : (L + (((n * 2 ^ p + kept) / 2 ^ p - 1 : Nat) : Int) - L).toNat = (n * 2 ^ p + kept) / 2 ^ p - 1 := by omega
    rw [e1]
    have hge : 2 ^ p ≤ kept := by
      by_cases c2 : 0 < n
      · exact hn c2
      · have : n = 0 := by omega
        subst this; omega
    by_cases c3 : kept = 2 * 2 ^ p
    · have e2 : n * 2 ^ p + kept = (n + 2) * 2 ^ p := by rw [c3, Nat.add_mul]
      rw [e2, Nat.mul_div_cancel _ hp, Nat.mul_mod_left, c3, show n + 2 - 1 = n + 1 by omega, Nat.pow_succ]
      rw [Nat.add_zero, Nat.mul_comm 2 (2 ^ p), Nat.mul_assoc, Nat.mul_comm 2]
    · have e2 : n * 2 ^ p + kept = (kept - 2 ^ p) + (n + 1) * 2 ^ p := by rw [Nat.add_mul]; omega
      rw [e2, Nat.add_mul_div_right _ _ hp, Nat.add_mul_mod_self_right, Nat.div_eq_of_lt (by omega), Nat.mod_eq_of_lt (by omega)]
      rw [show 0 + (n + 1) - 1 = n by omega, show 2 ^ p + (kept - 2 ^ p) = kept by omega]
open Ieee in
theorem near_le {f : Format} (h : Fmt f) (s : Bool) {M v q a b : Nat} {e : Int} (hM : M ≠ 0) (hv : v < 2 ^ (f.fractionBits + 1)) (hab : (a : Int) - b = e - f.leastPlace) (hle : M * 2 ^ a ≤ v * 2 ^ q * 2 ^ b) (hI : (e + M.log2 - f.fractionBits - f.leastPlace).toNat + 4 ≤ 2 ^ f.exponentBits) (hq : q + f.fractionBits + 5 ≤ 2 ^ f.exponentBits) :
    ∃ m e', f.read (f.nearest s M e) = .number s m e' ∧ f.leastPlace ≤ e' ∧ m * 2 ^ (e' - f.leastPlace).toNat ≤ v * 2 ^ q := by
  have hB := h.b
  have hr := h.r
  -- exactly
  by_cases hx : M * 2 ^ a = v * 2 ^ q * 2 ^ b
  · rw [Nat.mul_assoc, ← Nat.pow_add] at hx
    by_cases c : a ≤ q + b
    · have e1 : M = v * 2 ^ (q + b - a) := by
        have : q + b = (q + b - a) + a := by omega
        rw [this, Nat.pow_add, ← Nat.mul_assoc] at hx
        exact Nat.eq_of_mul_eq_mul_right (Nat.two_pow_pos _) hx
      obtain ⟨m, e', r1, r2, r3⟩ := near_exact h s (M := M) (M0 := v) (k := q + b - a) (e := e) e1 hv (by omega) (by omega)
      refine ⟨m, e', r1, r2, ?_⟩
      rw [r3]
      exact Nat.le_of_eq (by congr 2; omega)
    · have e1 : v = M * 2 ^ (a - (q + b)) := by
        have : a = (a - (q + b)) + (q + b) := by omega
        rw [this, Nat.pow_add, ← Nat.mul_assoc] at hx
        exact (Nat.eq_of_mul_eq_mul_right (Nat.two_pow_pos _) hx).symm
      have hMv : M ≤ v := by rw [e1]; exact Nat.le_mul_of_pos_right _ (Nat.two_pow_pos _)
      obtain ⟨m, e', r1, r2, r3⟩ := near_exact h s (M := M) (M0 := M) (k := 0) (e := e) (by rw [Nat.pow_zero, Nat.mul_one]) (by omega) (by omega) (by
        have : M.log2 ≤ f.fractionBits := by
          have := (Nat.log2_lt hM).2 (show M < 2 ^ (f.fractionBits + 1) by omega)
          omega
        have hlv : (a - (q + b)) ≤ f.fractionBits := by
          refine Nat.le_of_not_lt fun c2 => ?_
          have h1 : 2 ^ (f.fractionBits + 1) ≤ 2 ^ (a - (q + b)) := Nat.pow_le_pow_right (by decide) (by omega)
          have h2 : 1 * 2 ^ (a - (q + b)) ≤ M * 2 ^ (a - (q + b)) := Nat.mul_le_mul_right _ (by omega)
          omega
        omega)
      refine ⟨m, e', r1, r2, ?_⟩
      rw [r3, e1, Nat.mul_assoc, ← Nat.pow_add]
      exact Nat.le_of_eq (by congr 2; omega)
  -- less
  have hlt : M * 2 ^ a < v * 2 ^ q * 2 ^ b := Nat.lt_of_le_of_ne hle hx
  have g1 : M < 2 ^ (M.log2 + 1) := Nat.lt_log2_self
  have g2 : 2 ^ M.log2 ≤ M := Nat.log2_self_le hM
  unfold Format.nearest
  rw [if_neg hM]
  dsimp only
  have key : ∃ kept, Toward.even.cut s (M <<< (e - max (e + M.log2 - f.fractionBits) f.leastPlace).toNat) (max (e + M.log2 - f.fractionBits) f.leastPlace - e).toNat = kept ∧ kept ≤ 2 * 2 ^ f.fractionBits ∧ (0 < (max (e + M.log2 - f.fractionBits) f.leastPlace - f.leastPlace).toNat → 2 ^ f.fractionBits ≤ kept) ∧ kept * 2 ^ (max (e + M.log2 - f.fractionBits) f.leastPlace - f.leastPlace).toNat ≤ v * 2 ^ q := by
    refine ⟨_, rfl, ?_⟩
    generalize f.fractionBits = p at *
    generalize f.leastPlace = L at *
    generalize hg : M.log2 = g at *
    generalize hl : max (e + g - p) L = last at *
    rw [Nat.shiftLeft_eq]
    by_cases c : last ≤ e
    · rw [show (last - e).toNat = 0 by omega, cut_zero]
      refine ⟨?_, fun hc => ?_, ?_⟩
      · have h1 : M * 2 ^ (e - last).toNat < 2 ^ (g + 1) * 2 ^ (e - last).toNat := Nat.mul_lt_mul_of_pos_right g1 (Nat.two_pow_pos _)
        rw [← Nat.pow_add] at h1
        have h2 : 2 ^ (g + 1 + (e - last).toNat) ≤ 2 ^ (p + 1) := Nat.pow_le_pow_right (by decide) (by omega)
        rw [Nat.pow_succ] at h2; omega
      · have h1 : 2 ^ g * 2 ^ (e - last).toNat ≤ M * 2 ^ (e - last).toNat := Nat.mul_le_mul_right _ g2
        rw [← Nat.pow_add, show g + (e - last).toNat = p by omega] at h1
        exact h1
      · rw [Nat.mul_assoc, ← Nat.pow_add]
        have e1 : a = ((e - last).toNat + (last - L).toNat) + b := by omega
        rw [e1, Nat.pow_add, ← Nat.mul_assoc] at hle
        exact Nat.le_of_mul_le_mul_right hle (Nat.two_pow_pos _)
    · rw [show (e - last).toNat = 0 by omega, Nat.pow_zero, Nat.mul_one]
      obtain ⟨k1, k2⟩ := cut_le s M (last - e).toNat
      rw [hg] at k1 k2
      generalize hd : (last - e).toNat = d at *
      generalize hG : (last - L).toNat = G at *
      have hdiv : M / 2 ^ min d (g + 2) < 2 ^ (p + 1) := by
        refine (Nat.div_lt_iff_lt_mul (Nat.two_pow_pos _)).2 (Nat.lt_of_lt_of_le g1 ?_)
        rw [← Nat.pow_add]
        exact Nat.pow_le_pow_right (by decide) (by omega)
      refine ⟨?_, fun hc => ?_, ?_⟩
      · rw [Nat.pow_succ] at hdiv; omega
      · refine Nat.le_trans ?_ k1
        refine (Nat.le_div_iff_mul_le (Nat.two_pow_pos _)).2 ?_
        rw [← Nat.pow_add]
        exact Nat.le_trans (Nat.pow_le_pow_right (by decide) (by omega)) g2
      · -- the grid
        have hGq : G ≤ q := by
          refine Nat.le_of_not_lt fun c2 => ?_
          have hG0 : 0 < G := by omega
          have h1 : 2 ^ g * 2 ^ a ≤ M * 2 ^ a := Nat.mul_le_mul_right _ g2
          have h2 : v * 2 ^ q * 2 ^ b < 2 ^ (p + 1) * 2 ^ q * 2 ^ b := Nat.mul_lt_mul_of_pos_right (Nat.mul_lt_mul_of_pos_right hv (Nat.two_pow_pos _)) (Nat.two_pow_pos _)
          have h3 : 2 ^ g * 2 ^ a < 2 ^ (p + 1) * 2 ^ q * 2 ^ b := by omega
          rw [← Nat.pow_add, ← Nat.pow_add, ← Nat.pow_add] at h3
          have := (Nat.pow_lt_pow_iff_right (a := 2) (by decide)).1 h3
          omega
        have h5 : M < v * 2 ^ (q - G) * 2 ^ d := by
          have e1 : b + G = d + a := by omega
          have h6 : M * 2 ^ a * 2 ^ G < v * 2 ^ q * 2 ^ b * 2 ^ G := Nat.mul_lt_mul_of_pos_right hlt (Nat.two_pow_pos _)
          have e2 : v * 2 ^ q * 2 ^ b * 2 ^ G = v * 2 ^ (q - G) * 2 ^ d * 2 ^ a * 2 ^ G := by
            rw [Nat.mul_assoc, Nat.mul_assoc, Nat.mul_assoc, Nat.mul_assoc, Nat.mul_assoc, ← Nat.pow_add, ← Nat.pow_add, ← Nat.pow_add, ← Nat.pow_add, ← Nat.pow_add]
            congr 2; omega
          rw [e2] at h6
          have h7 := Nat.lt_of_mul_lt_mul_right h6
          exact Nat.lt_of_mul_lt_mul_right h7
        have h6 : M / 2 ^ min d (g + 2) < v * 2 ^ (q - G) := by
          by_cases c3 : d ≤ g + 2
          · rw [Nat.min_eq_left c3]
            exact (Nat.div_lt_iff_lt_mul (Nat.two_pow_pos _)).2 h5
          · rw [Nat.min_eq_right (by omega)]
            have : M / 2 ^ (g + 2) = 0 := Nat.div_eq_of_lt (Nat.lt_of_lt_of_le g1 (Nat.pow_le_pow_right (by decide) (by omega)))
            rw [this]
            refine Nat.pos_of_ne_zero fun c4 => ?_
            rw [c4, Nat.zero_mul] at h5; omega
        have h7 : Toward.even.cut s M d ≤ v * 2 ^ (q - G) := by omega
        have h8 := Nat.mul_le_mul_right (2 ^ G) h7
        rw [Nat.mul_assoc, ← Nat.pow_add, show q - G + G = q by omega] at h8
        exact h8
  obtain ⟨kept, k0, k1, k2, k3⟩ := key
  rw [k0]
  generalize hN : (max (e + M.log2 - f.fractionBits) f.leastPlace - f.leastPlace).toNat = n at *
  have hn : n = (e + M.log2 - f.fractionBits - f.leastPlace).toNat := by omega
  have hp : 0 < 2 ^ f.fractionBits := Nat.two_pow_pos _
  have hrl : n * f.binade + kept < f.infRung := by
    have hu : n * f.binade + kept ≤ (n + 2) * 2 ^ f.fractionBits := by
      rw [hB, Nat.add_mul]; omega
    refine Nat.lt_of_le_of_lt hu ?_
    rw [hr, hB]
    exact Nat.mul_lt_mul_of_pos_right (by omega) hp
  rw [Nat.min_eq_left (Nat.le_of_lt hrl)]
  obtain ⟨m, e', r1, r2, r3⟩ := rung_eq h s k1 k2 hrl
  exact ⟨m, e', r1, r2, by rw [r3]; exact k3⟩
def sgn (x : Nat) : Bool := (x / 2147483648 % 2 == 1)
open Ieee in
/-- The canonical form: which rung it is. -/
theorem rung_of {x : Nat} {s : Bool} {m : Nat} {e : Int} (h : single.read x = .number s m e) : s = sgn x ∧ -149 ≤ e ∧ (e = -149 ∧ m < 16777216 ∧ x % 2147483648 = m ∨ -149 < e ∧ 8388608 ≤ m ∧ m < 16777216 ∧ x % 2147483648 = (e + 150).toNat * 8388608 + (m - 8388608)) := by
  rw [read_f32] at h
  have hr : x % 2147483648 < 2147483648 := Nat.mod_lt _ (by decide)
  generalize x % 2147483648 = r at h hr
  by_cases h1 : r < 8388608
  · rw [if_pos h1] at h
    simp only [Datum.number.injEq] at h
    obtain ⟨rfl, rfl, rfl⟩ := h
    exact ⟨rfl, by omega, .inl ⟨rfl, by omega, rfl⟩⟩
  · rw [if_neg h1] at h
    by_cases h2 : r < 2139095040
    · rw [if_pos h2] at h
      simp only [Datum.number.injEq] at h
      obtain ⟨rfl, rfl, rfl⟩ := h
      have hmd : r % 8388608 < 8388608 := Nat.mod_lt _ (by decide)
      have hdm := Nat.div_add_mod r 8388608
      refine ⟨rfl, by omega, ?_⟩
      by_cases h3 : r / 8388608 = 1
      · left; refine ⟨by omega, by omega, by omega⟩
      · right
        refine ⟨by omega, by omega, by omega, ?_⟩
        rw [show (-149 + ((r / 8388608 - 1 : Nat) : Int) + 150).toNat = r / 8388608 by omega]
        omega
    · rw [if_neg h2] at h; split at h <;> cases h
end Go.Proofs.Ytfhlhgnipmgfdaa.G
namespace Go.Proofs.Ytfhlhgnipmgfdaa.G
open Go Go.Ab
set_option maxRecDepth 100000
set_option linter.unusedVariables false
set_option linter.unusedSimpArgs false
set_option maxHeartbeats 1000000
set_option exponentiation.threshold 4000
theorem cmp_geqI {a b : Int} : ((some (compare a b) : Option Ordering) == some .gt || (some (compare a b) : Option Ordering) == some .eq) = decide (b ≤ a) := by
  have h1 := cmp_gt (a := a) (b := b)
  have h2 := cmp_eq (a := a) (b := b)
  show (compare a b == Ordering.gt || compare a b == Ordering.eq) = _
  rw [h1, h2, Bool.eq_iff_iff, Bool.or_eq_true, decide_eq_true_eq, decide_eq_true_eq, decide_eq_true_eq]; omega
open Ieee in
theorem near_ge {f : Format} (h : Fmt f) (s : Bool) {M v q a b : Nat} {e : Int} (hM : M ≠ 0) (hv : v < 2 ^ (f.fractionBits + 1)) (hab : (a : Int) - b = e - f.leastPlace) (hle : v * 2 ^ q * 2 ^ b ≤ M * 2 ^ a) (hI : (e + M.log2 - f.fractionBits - f.leastPlace).toNat + 4 ≤ 2 ^ f.exponentBits) :
    ∃ m e', f.read (f.nearest s M e) = .number s m e' ∧ f.leastPlace ≤ e' ∧ v * 2 ^ q ≤ m * 2 ^ (e' - f.leastPlace).toNat := by
  have hB := h.b
  have hr := h.r
  have g1 : M < 2 ^ (M.log2 + 1) := Nat.lt_log2_self
  have g2 : 2 ^ M.log2 ≤ M := Nat.log2_self_le hM
  unfold Format.nearest
  rw [if_neg hM]
  dsimp only
  have key : ∃ kept, Toward.even.cut s (M <<< (e - max (e + M.log2 - f.fractionBits) f.leastPlace).toNat) (max (e + M.log2 - f.fractionBits) f.leastPlace - e).toNat = kept ∧ kept ≤ 2 * 2 ^ f.fractionBits ∧ (0 < (max (e + M.log2 - f.fractionBits) f.leastPlace - f.leastPlace).toNat → 2 ^ f.fractionBits ≤ kept) ∧ v * 2 ^ q ≤ kept * 2 ^ (max (e + M.log2 - f.fractionBits) f.leastPlace - f.leastPlace).toNat := by
    refine ⟨_, rfl, ?_⟩
    generalize f.fractionBits = p at *
    generalize f.leastPlace = L at *
    generalize hg : M.log2 = g at *
    generalize hl : max (e + g - p) L = last at *
    rw [Nat.shiftLeft_eq]
    by_cases c : last ≤ e
    · rw [show (last - e).toNat = 0 by omega, cut_zero]
      refine ⟨?_, fun hc => ?_, ?_⟩
      · have h1 : M * 2 ^ (e - last).toNat < 2 ^ (g + 1) * 2 ^ (e - last).toNat := Nat.mul_lt_mul_of_pos_right g1 (Nat.two_pow_pos _)
        rw [← Nat.pow_add] at h1
        have h2 : 2 ^ (g + 1 + (e - last).toNat) ≤ 2 ^ (p + 1) := Nat.pow_le_pow_right (by decide) (by omega)
        rw [Nat.pow_succ] at h2; omega
      · have h1 : 2 ^ g * 2 ^ (e - last).toNat ≤ M * 2 ^ (e - last).toNat := Nat.mul_le_mul_right _ g2
        rw [← Nat.pow_add, show g + (e - last).toNat = p by omega] at h1
        exact h1
      · rw [Nat.mul_assoc, ← Nat.pow_add]
        have e1 : a = ((e - last).toNat + (last - L).toNat) + b := by omega
        rw [e1, Nat.pow_add, ← Nat.mul_assoc] at hle
        exact Nat.le_of_mul_le_mul_right hle (Nat.two_pow_pos _)
    · rw [show (e - last).toNat = 0 by omega, Nat.pow_zero, Nat.mul_one]
      obtain ⟨k1, k2⟩ := cut_le s M (last - e).toNat
      rw [hg] at k1 k2
      generalize hd : (last - e).toNat = d at *
      generalize hG : (last - L).toNat = G at *
      have hdiv : M / 2 ^ min d (g + 2) < 2 ^ (p + 1) := by
        refine (Nat.div_lt_iff_lt_mul (Nat.two_pow_pos _)).2 (Nat.lt_of_lt_of_le g1 ?_)
        rw [← Nat.pow_add]
        exact Nat.pow_le_pow_right (by decide) (by omega)
      have hlow : 0 < G → 2 ^ p ≤ Toward.even.cut s M d := fun hc => by
        refine Nat.le_trans ?_ k1
        refine (Nat.le_div_iff_mul_le (Nat.two_pow_pos _)).2 ?_
        rw [← Nat.pow_add]
        exact Nat.le_trans (Nat.pow_le_pow_right (by decide) (by omega)) g2
      refine ⟨?_, hlow, ?_⟩
      · rw [Nat.pow_succ] at hdiv; omega
      · by_cases c2 : G ≤ q
        · have h5 : v * 2 ^ (q - G) * 2 ^ d ≤ M := by
            have e1 : b + G = d + a := by omega
            have h6 : v * 2 ^ q * 2 ^ b * 2 ^ G ≤ M * 2 ^ a * 2 ^ G := Nat.mul_le_mul_right _ hle
            have e2 : v * 2 ^ q * 2 ^ b * 2 ^ G = v * 2 ^ (q - G) * 2 ^ d * 2 ^ a * 2 ^ G := by
              rw [Nat.mul_assoc, Nat.mul_assoc, Nat.mul_assoc, Nat.mul_assoc, Nat.mul_assoc, ← Nat.pow_add, ← Nat.pow_add, ← Nat.pow_add, ← Nat.pow_add, ← Nat.pow_add]
              congr 2; omega
            rw [e2] at h6
            exact Nat.le_of_mul_le_mul_right (Nat.le_of_mul_le_mul_right h6 (Nat.two_pow_pos _)) (Nat.two_pow_pos _)
          have h6 : v * 2 ^ (q - G) ≤ M / 2 ^ min d (g + 2) := by
            by_cases c3 : d ≤ g + 2
            · rw [Nat.min_eq_left c3]
              exact (Nat.le_div_iff_mul_le (Nat.two_pow_pos _)).2 h5
            · have h7 : v * 2 ^ (q - G) = 0 := by
                refine Nat.eq_zero_of_not_pos fun c4 => ?_
                have h8 : 1 * 2 ^ d ≤ v * 2 ^ (q - G) * 2 ^ d := Nat.mul_le_mul_right _ c4
                have h9 : 2 ^ (g + 1) ≤ 2 ^ d := Nat.pow_le_pow_right (by decide) (by omega)
                omega
              rw [h7]; exact Nat.zero_le _
          have h8 := Nat.mul_le_mul_right (2 ^ G) (Nat.le_trans h6 k1)
          rw [Nat.mul_assoc, ← Nat.pow_add, show q - G + G = q by omega] at h8
          exact h8
        · have h3 : v * 2 ^ q ≤ 2 ^ (p + 1) * 2 ^ q := Nat.mul_le_mul_right _ (Nat.le_of_lt hv)
          have h4 := Nat.mul_le_mul_right (2 ^ G) (hlow (by omega))
          rw [← Nat.pow_add] at h3 h4
          have h5 : 2 ^ (p + 1 + q) ≤ 2 ^ (p + G) := Nat.pow_le_pow_right (by decide) (by omega)
          omega
  obtain ⟨kept, k0, k1, k2, k3⟩ := key
  rw [k0]
  generalize hN : (max (e + M.log2 - f.fractionBits) f.leastPlace - f.leastPlace).toNat = n at *
  have hn : n = (e + M.log2 - f.fractionBits - f.leastPlace).toNat := by omega
  have hp : 0 < 2 ^ f.fractionBits := Nat.two_pow_pos _
  have hrl : n * f.binade + kept < f.infRung := by
    have hu : n * f.binade + kept ≤ (n + 2) * 2 ^ f.fractionBits := by
      rw [hB, Nat.add_mul]; omega
    refine Nat.lt_of_le_of_lt hu ?_
    rw [hr, hB]
    exact Nat.mul_lt_mul_of_pos_right (by omega) hp
  rw [Nat.min_eq_left (Nat.le_of_lt hrl)]
  obtain ⟨m, e', r1, r2, r3⟩ := rung_eq h s k1 k2 hrl
  exact ⟨m, e', r1, r2, by rw [r3]; exact k3⟩
open Ieee in
theorem rnd {f : Format} (h : Fmt f) (s : Bool) {M a b : Nat} {e : Int} (hab : (a : Int) - b = e - f.leastPlace) (hI : M ≠ 0 → (e + M.log2 - f.fractionBits - f.leastPlace).toNat + 4 ≤ 2 ^ f.exponentBits) :
    ∃ m e', f.read (f.nearest s M e) = .number s m e' ∧ f.leastPlace ≤ e' ∧ (∀ v q, v < 2 ^ (f.fractionBits + 1) → q + f.fractionBits + 5 ≤ 2 ^ f.exponentBits → M * 2 ^ a ≤ v * 2 ^ q * 2 ^ b → m * 2 ^ (e' - f.leastPlace).toNat ≤ v * 2 ^ q) ∧ (∀ v q, v < 2 ^ (f.fractionBits + 1) → v * 2 ^ q * 2 ^ b ≤ M * 2 ^ a → v * 2 ^ q ≤ m * 2 ^ (e' - f.leastPlace).toNat) := by
  by_cases hM : M = 0
  · refine ⟨0, f.leastPlace, ?_, Int.le_refl _, fun v q _ _ _ => by simp, fun v q _ hv => ?_⟩
    · unfold Format.nearest
      have hBp : 0 < f.binade := by rw [h.b]; exact Nat.two_pow_pos _
      rw [if_pos hM, read_word h s (Nat.zero_le _), if_pos hBp]
    · rw [hM, Nat.zero_mul] at hv
      rcases Nat.mul_eq_zero.1 (Nat.le_zero.1 hv) with c | c
      · rw [c]; exact Nat.zero_le _
      · have := Nat.two_pow_pos b; omega
  · obtain ⟨m, e', r1, r2, _⟩ := near_ge (v := 0) (q := 0) h s hM (Nat.two_pow_pos _) hab (by simp) (hI hM)
    refine ⟨m, e', r1, r2, fun v q hv hq hle => ?_, fun v q hv hle => ?_⟩
    · obtain ⟨m2, e2, w1, w2, w3⟩ := near_le h s hM hv hab hle (hI hM) hq
      rw [r1] at w1; cases w1; exact w3
    · obtain ⟨m2, e2, w1, w2, w3⟩ := near_ge h s hM hv hab hle (hI hM)
      rw [r1] at w1; cases w1; exact w3
open Ieee in
/-- The word x of kind k is v least places. -/
def Vl (k : FloatKind) (x : Nat) (v : Int) : Prop := ∃ s m e, k.format.read x = .number s m e ∧ k.format.leastPlace ≤ e ∧ vD k.format.leastPlace s m e = v
open Ieee in
def vlb (k : FloatKind) (x : Nat) (v : Int) : Bool := match k.format.read x with
  | .number s m e => decide (k.format.leastPlace ≤ e) && decide (vD k.format.leastPlace s m e = v)
  | _ => false
theorem vl_of {k : FloatKind} {x : Nat} {v : Int} (h : vlb k x v = true) : Vl k x v := by
  unfold vlb at h
  split at h
  · rename_i s m e hr
    rw [Bool.and_eq_true, decide_eq_true_eq, decide_eq_true_eq] at h
    exact ⟨s, m, e, hr, h.1, h.2⟩
  · cases h
theorem vl_order {k : FloatKind} {x y : Nat} {a b : Int} (hx : Vl k x a) (hy : Vl k y b) : k.format.order x y = some (compare a b) := by
  obtain ⟨s, m, i, r1, l1, v1⟩ := hx
  obtain ⟨t, n, j, r2, l2, v2⟩ := hy
  unfold Ieee.Format.order
  rw [r1, r2, order_vD l1 l2, v1, v2]
theorem vl_lss {k : FloatKind} {x y : Nat} {a b : Int} (hx : Vl k x a) (hy : Vl k y b) : fcmp .lss k x y = decide (a < b) := by
  unfold fcmp; dsimp only; rw [vl_order hx hy]; exact cmp_lt
theorem vl_gtr {k : FloatKind} {x y : Nat} {a b : Int} (hx : Vl k x a) (hy : Vl k y b) : fcmp .gtr k x y = decide (b < a) := by
  unfold fcmp; dsimp only; rw [vl_order hx hy]; exact cmp_gt
theorem vl_eql {k : FloatKind} {x y : Nat} {a b : Int} (hx : Vl k x a) (hy : Vl k y b) : fcmp .eql k x y = decide (a = b) := by
  unfold fcmp; dsimp only; rw [vl_order hx hy]; exact cmp_eq
theorem vl_geq {k : FloatKind} {x y : Nat} {a b : Int} (hx : Vl k x a) (hy : Vl k y b) : fcmp .geq k x y = decide (b ≤ a) := by
  unfold fcmp; dsimp only; rw [vl_order hx hy]; exact cmp_geqI
theorem vl_cz {k : FloatKind} {x : Nat} {v : Int} (h : Vl k x v) : cz k x = x := by
  obtain ⟨s, m, e, r, _⟩ := h
  unfold cz
  rw [show k.decode x = k.format.read x from rfl, r]; rfl
theorem fop_vl {op : BinOp} {k : FloatKind} {x y z : Nat} {v : Int} (h : floatBits op k x y = some z) (r : Vl k z v) : Vl k (fop op k x y) v := by
  unfold fop
  rw [h]
  show Vl k (cz k z) v
  rw [vl_cz r]; exact r
/-- R is a number of the format. -/
def RepZ (f : Ieee.Format) (R : Int) : Prop := ∃ v q, v < 2 ^ (f.fractionBits + 1) ∧ q + f.fractionBits + 5 ≤ 2 ^ f.exponentBits ∧ R.natAbs = v * 2 ^ q
theorem rndZ {k : FloatKind} (h : Fmt k.format) (s : Bool) {M a b : Nat} {e S : Int} (hab : (a : Int) - b = e - k.format.leastPlace) (hI : M ≠ 0 → (e + M.log2 - k.format.fractionBits - k.format.leastPlace).toNat + 4 ≤ 2 ^ k.format.exponentBits) (hS : S.natAbs = M * 2 ^ a) (h1 : s = true → S ≤ 0) (h2 : s = false → 0 ≤ S) :
    ∃ r : Int, Vl k (k.format.nearest s M e) r ∧ ∀ R, RepZ k.format R → (S ≤ R * ((2 ^ b : Nat) : Int) → r ≤ R) ∧ (R * ((2 ^ b : Nat) : Int) ≤ S → R ≤ r) := by
  obtain ⟨m, e', r1, r2, r3, r4⟩ := rnd h s hab hI
  refine ⟨_, ⟨s, m, e', r1, r2, rfl⟩, fun R hR => ?_⟩
  obtain ⟨v, q, hv, hq, hRv⟩ := hR
  have a1 := vD_abs k.format.leastPlace s m e'
  have a2 := vD_sign k.format.leastPlace s m e'
  have b1 := r3 v q hv hq
  have b2 := r4 v q hv
  generalize vD k.format.leastPlace s m e' = r at *
  have hB : (0 : Int) < ((2 ^ b : Nat) : Int) := unit_pos b
  have p1 : (R * ((2 ^ b : Nat) : Int)).natAbs = v * 2 ^ q * 2 ^ b := by rw [Int.natAbs_mul, hRv, Int.natAbs_natCast]
  have p2 : 0 ≤ R → 0 ≤ R * ((2 ^ b : Nat) : Int) := fun c => Int.mul_nonneg c (Int.le_of_lt hB)
  have p3 : R < 0 → R * ((2 ^ b : Nat) : Int) < 0 := fun c => Int.mul_neg_of_neg_of_pos c hB
  have p4 : 0 < R → 0 < R * ((2 ^ b : Nat) : Int) := fun c => Int.mul_pos c hB
  generalize R * ((2 ^ b : Nat) : Int) = P at *
  generalize v * 2 ^ q * 2 ^ b = Y at *
  generalize v * 2 ^ q = Z at *
  generalize M * 2 ^ a = X at *
  generalize m * 2 ^ (e' - k.format.leastPlace).toNat = W at *
  cases s with
  | false =>
    have a2 := a2.2 rfl
    have h2 := h2 rfl
    refine ⟨fun c => ?_, fun c => ?_⟩
    · by_cases c2 : 0 ≤ R
      · have := p2 c2
        have := b1 (by omega)
        omega
      · have := p3 (by omega); omega
    · by_cases c2 : 0 ≤ R
      · have := p2 c2
        have := b2 (by omega)
        omega
      · omega
  | true =>
    have a2 := a2.1 rfl
    have h1 := h1 rfl
    refine ⟨fun c => ?_, fun c => ?_⟩
    · by_cases c2 : 0 ≤ R
      · omega
      · have := p3 (by omega)
        have := b2 (by omega)
        omega
    · by_cases c2 : 0 < R
      · have := p4 c2; omega
      · have : P ≤ 0 := by
          by_cases c3 : R = 0
          · subst c3; have : Y = 0 ∨ 0 < Y := Nat.eq_zero_or_pos Y; omega
          · exact Int.le_of_lt (p3 (by omega))
        have := b1 (by omega)
        omega
/-- The word x lies between two bounds, told in least places. -/
def Iv (k : FloatKind) (x : Nat) (lo hi : Int) : Prop := ∃ r, Vl k x r ∧ lo ≤ r ∧ r ≤ hi
theorem Vl.iv {k : FloatKind} {x : Nat} {v : Int} (h : Vl k x v) : Iv k x v v := ⟨v, h, Int.le_refl _, Int.le_refl _⟩
theorem iv_sumw {k : FloatKind} (h : Fmt k.format) {s t : Bool} {m n A : Nat} {i j lo hi : Int} (l1 : k.format.leastPlace ≤ i) (l2 : k.format.leastPlace ≤ j) (hlo : RepZ k.format lo) (hhi : RepZ k.format hi) (c1 : lo ≤ vD k.format.leastPlace s m i + vD k.format.leastPlace t n j) (c2 : vD k.format.leastPlace s m i + vD k.format.leastPlace t n j ≤ hi) (hl : lo.natAbs ≤ 2 ^ A) (hh : hi.natAbs ≤ 2 ^ A) (hA : A + 4 ≤ 2 ^ k.format.exponentBits) : ∃ z, ((Ieee.Datum.number s m i).sum (.number t n j)).map k.format.write = some z ∧ Iv k z lo hi := by
  obtain ⟨u, M, c, h1, h2, h3, h4, h5⟩ := sum_num (s := s) (t := t) (m := m) (n := n) l1 l2
  obtain ⟨r, w1, w2⟩ := rndZ (b := 0) (a := (c - k.format.leastPlace).toNat) (e := c) h u (by omega) (fun hM => by
    have h6 : M * 2 ^ (c - k.format.leastPlace).toNat ≤ 2 ^ A := by
      rw [h3]
      generalize 2 ^ A = B at *
      omega
    have := log_le hM h6
    omega) h3.symm h4 h5
  refine ⟨_, by rw [h1]; rfl, r, w1, ?_, ?_⟩
  · exact (w2 lo hlo).2 (by rw [Nat.pow_zero]; omega)
  · exact (w2 hi hhi).1 (by rw [Nat.pow_zero]; omega)
theorem iv_add {k : FloatKind} (h : Fmt k.format) {x y A : Nat} {a b c d lo hi : Int} (hx : Iv k x a b) (hy : Iv k y c d) (hlo : RepZ k.format lo) (hhi : RepZ k.format hi) (c1 : lo ≤ a + c) (c2 : b + d ≤ hi) (hl : lo.natAbs ≤ 2 ^ A) (hh : hi.natAbs ≤ 2 ^ A) (hA : A + 4 ≤ 2 ^ k.format.exponentBits) : Iv k (fop .add k x y) lo hi := by
  obtain ⟨r1, ⟨s, m, i, e1, l1, v1⟩, g1, g2⟩ := hx
  obtain ⟨r2, ⟨t, n, j, e2, l2, v2⟩, g3, g4⟩ := hy
  obtain ⟨z, z1, r, z2, z3⟩ := iv_sumw h (s := s) (t := t) (m := m) (n := n) l1 l2 hlo hhi (by omega) (by omega) hl hh hA
  refine ⟨r, fop_vl (z := z) ?_ z2, z3⟩
  show k.format.add x y = some z
  unfold Ieee.Format.add
  rw [e1, e2]; exact z1
theorem iv_sub {k : FloatKind} (h : Fmt k.format) {x y A : Nat} {a b c d lo hi : Int} (hx : Iv k x a b) (hy : Iv k y c d) (hlo : RepZ k.format lo) (hhi : RepZ k.format hi) (c1 : lo ≤ a - d) (c2 : b - c ≤ hi) (hl : lo.natAbs ≤ 2 ^ A) (hh : hi.natAbs ≤ 2 ^ A) (hA : A + 4 ≤ 2 ^ k.format.exponentBits) : Iv k (fop .sub k x y) lo hi := by
  obtain ⟨r1, ⟨s, m, i, e1, l1, v1⟩, g1, g2⟩ := hx
  obtain ⟨r2, ⟨t, n, j, e2, l2, v2⟩, g3, g4⟩ := hy
  have hn := vD_not k.format.leastPlace t n j
  obtain ⟨z, z1, r, z2, z3⟩ := iv_sumw h (s := s) (t := !t) (m := m) (n := n) l1 l2 hlo hhi (by omega) (by omega) hl hh hA
  refine ⟨r, fop_vl (z := z) ?_ z2, z3⟩
  show k.format.sub x y = some z
  unfold Ieee.Format.sub
  rw [e1, e2]; exact z1
theorem mul_lin {w r a b lo hi : Int} (h1 : a ≤ r) (h2 : r ≤ b) (l1 : lo ≤ w * a) (l2 : lo ≤ w * b) (u1 : w * a ≤ hi) (u2 : w * b ≤ hi) : lo ≤ w * r ∧ w * r ≤ hi := by
  rcases Int.le_total 0 w with c | c
  · have := Int.mul_le_mul_of_nonneg_left h1 c
    have := Int.mul_le_mul_of_nonneg_left h2 c
    omega
  · have := Int.mul_le_mul_of_nonpos_left c h1
    have := Int.mul_le_mul_of_nonpos_left c h2
    omega
open Ieee in
theorem iv_mul {k : FloatKind} (h : Fmt k.format) {x y A b' : Nat} {w a b lo hi : Int} (hb : (b' : Int) = - k.format.leastPlace) (hx : Vl k x w) (hy : Iv k y a b) (hlo : RepZ k.format lo) (hhi : RepZ k.format hi) (l1 : lo * ((2 ^ b' : Nat) : Int) ≤ w * a) (l2 : lo * ((2 ^ b' : Nat) : Int) ≤ w * b) (u1 : w * a ≤ hi * ((2 ^ b' : Nat) : Int)) (u2 : w * b ≤ hi * ((2 ^ b' : Nat) : Int)) (hl : lo.natAbs ≤ 2 ^ A) (hh : hi.natAbs ≤ 2 ^ A) (hA : A + 4 ≤ 2 ^ k.format.exponentBits) : Iv k (fop .mul k x y) lo hi := by
  obtain ⟨s, m, i, e1, k1, v1⟩ := hx
  obtain ⟨r2, ⟨t, n, j, e2, k2, v2⟩, g3, g4⟩ := hy
  obtain ⟨q1, q2⟩ := mul_lin g3 g4 l1 l2 u1 u2
  have a1 := vD_abs k.format.leastPlace s m i
  have a2 := vD_abs k.format.leastPlace t n j
  have s1 := vD_sign k.format.leastPlace s m i
  have s2 := vD_sign k.format.leastPlace t n j
  rw [v1] at a1 s1
  rw [v2] at a2 s2
  have hS : (w * r2).natAbs = m * n * 2 ^ ((i - k.format.leastPlace).toNat + (j - k.format.leastPlace).toNat) := by
    rw [Int.natAbs_mul, a1, a2, Nat.pow_add]; ac_rfl
  have hB := unit_pos b'
  have hlb : (lo * ((2 ^ b' : Nat) : Int)).natAbs ≤ 2 ^ A * 2 ^ b' := by
    rw [Int.natAbs_mul, Int.natAbs_natCast]; exact Nat.mul_le_mul_right _ hl
  have hhb : (hi * ((2 ^ b' : Nat) : Int)).natAbs ≤ 2 ^ A * 2 ^ b' := by
    rw [Int.natAbs_mul, Int.natAbs_natCast]; exact Nat.mul_le_mul_right _ hh
  have hSb : (w * r2).natAbs ≤ 2 ^ (A + b') := by
    rw [Nat.pow_add]
    generalize 2 ^ A * 2 ^ b' = V at *
    generalize lo * ((2 ^ b' : Nat) : Int) = X at *
    generalize hi * ((2 ^ b' : Nat) : Int) = Y at *
    generalize w * r2 = Z at *
    omega
  have hs1 : (s ^^ t) = true → w * r2 ≤ 0 := by
    intro c
    cases s <;> cases t <;> simp only [Bool.xor_self, Bool.false_xor, Bool.xor_false, Bool.true_xor, Bool.not_true, Bool.not_false] at c
    · cases c
    · exact Int.mul_nonpos_of_nonneg_of_nonpos (s1.2 rfl) (s2.1 rfl)
    · exact Int.mul_nonpos_of_nonpos_of_nonneg (s1.1 rfl) (s2.2 rfl)
    · cases c
  have hs2 : (s ^^ t) = false → 0 ≤ w * r2 := by
    intro c
    cases s <;> cases t <;> simp only [Bool.xor_self, Bool.false_xor, Bool.xor_false, Bool.true_xor, Bool.not_true, Bool.not_false] at c
    · exact Int.mul_nonneg (s1.2 rfl) (s2.2 rfl)
    · cases c
    · cases c
    · exact Int.mul_nonneg_of_nonpos_of_nonpos (s1.1 rfl) (s2.1 rfl)
  obtain ⟨r, w1, w2⟩ := rndZ (b := b') (a := (i - k.format.leastPlace).toNat + (j - k.format.leastPlace).toNat) (e := i + j) (M := m * n) h (s ^^ t) (by omega) (fun hM => by
    have := log_le hM (Nat.le_trans (Nat.le_of_eq hS.symm) hSb)
    omega) hS hs1 hs2
  refine ⟨r, fop_vl (z := k.format.nearest (s ^^ t) (m * n) (i + j)) ?_ w1, (w2 lo hlo).2 q1, (w2 hi hhi).1 q2⟩
  show k.format.mul x y = _
  unfold Format.mul
  rw [e1, e2]; rfl
theorem vl_fin {x : Nat} {v : Int} (h : Vl .f32 x v) : pFin x = true := by
  obtain ⟨r, z1, z2, z3⟩ := iv_sub (k := .f32) (A := 0) fmt1 h.iv h.iv (lo := 0) (hi := 0) ⟨0, 0, by decide, by decide, rfl⟩ ⟨0, 0, by decide, by decide, rfl⟩ (by omega) (by omega) (by decide) (by decide) (by decide)
  unfold pFin
  rw [vl_eql z1 (vl_of (v := 0) (by decide +kernel))]
  exact decide_eq_true (by omega)
theorem cz_num {k : FloatKind} {z m : Nat} {s : Bool} {e : Int} (r : k.format.read z = .number s m e) : cz k z = z := by
  unfold cz
  rw [show k.decode z = k.format.read z from rfl, r]; rfl
open Ieee in
theorem widen_read {x m : Nat} {s : Bool} {e : Int} (r : (FloatKind.f32.format).read x = .number s m e) (l : (FloatKind.f32.format).leastPlace ≤ e) : ∃ m' e', (FloatKind.f64.format).read (widen x) = .number s m' e' ∧ (FloatKind.f64.format).leastPlace ≤ e' ∧ m' * 2 ^ (e' - (FloatKind.f64.format).leastPlace).toNat = m * 2 ^ (e + ((0 : Nat) : Int) - (FloatKind.f64.format).leastPlace).toNat := by
  have hL : (FloatKind.f32.format).leastPlace = -149 := by decide
  have hL2 : (FloatKind.f64.format).leastPlace = -1074 := by decide
  have hp : (FloatKind.f64.format).fractionBits = 52 := by decide
  have hxb : (FloatKind.f64.format).exponentBits = 11 := by decide
  have hr := rung_of (x := x) r
  have hm : m < 16777216 := by omega
  have he : e ≤ 200 := by
    rcases hr.2.2 with c | c
    · omega
    · have := Nat.mod_lt x (show 0 < 2147483648 by decide)
      omega
  rw [hL] at l
  obtain ⟨m', e', k1, k2, k3⟩ := near_exact (f := FloatKind.f64.format) fmt2 s (M := m) (M0 := m) (k := 0) (e := e) (by simp) (by rw [hp]; omega) (by rw [hL2]; omega) (by rw [hL2, hxb]; omega)
  have hc : cz .f64 ((FloatKind.f64.format).nearest s m e) = (FloatKind.f64.format).nearest s m e := cz_num k1
  have hw : widen x = (FloatKind.f64.format).nearest s m e := by
    have : fconv .f32 x .f64 = some ((FloatKind.f64.format).nearest s m e) := by
      unfold fconv
      rw [if_neg (by decide), show FloatKind.f32.decode x = (FloatKind.f32.format).read x from rfl, r]
      dsimp only
      rw [show FloatKind.f64.decode (FloatKind.encode .f64 (.number s m e)) = (FloatKind.f64.format).read ((FloatKind.f64.format).nearest s m e) from rfl, k1]
      show (if false = true then none else some (cz .f64 ((FloatKind.f64.format).nearest s m e))) = _
      rw [if_neg (by decide), hc]
    rw [widen, this]; rfl
  rw [hw]
  exact ⟨m', e', k1, k2, k3⟩
open Ieee in
theorem scale_val {L1 L2 : Int} {s : Bool} {m m' n : Nat} {e e' : Int} (h1 : L1 ≤ e) (hn : L1 - L2 = n) (k3 : m' * 2 ^ (e' - L2).toNat = m * 2 ^ (e + ((0 : Nat) : Int) - L2).toNat) : vD L2 s m' e' = vD L1 s m e * ((2 ^ n : Nat) : Int) := by
  have a1 := vD_abs L1 s m e
  have a2 := vD_abs L2 s m' e'
  have s1 := vD_sign L1 s m e
  have s2 := vD_sign L2 s m' e'
  have e2 : m * 2 ^ (e + ((0 : Nat) : Int) - L2).toNat = m * 2 ^ (e - L1).toNat * 2 ^ n := by
    rw [Nat.mul_assoc, ← Nat.pow_add]; congr 2; omega
  rw [k3, e2, ← a1] at a2
  generalize vD L1 s m e = V at *
  generalize vD L2 s m' e' = W at *
  have hP := unit_pos n
  have a3 : (V * ((2 ^ n : Nat) : Int)).natAbs = W.natAbs := by rw [Int.natAbs_mul, a2, Int.natAbs_natCast]
  have p1 : 0 ≤ V → 0 ≤ V * ((2 ^ n : Nat) : Int) := fun c => Int.mul_nonneg c (Int.le_of_lt hP)
  have p2 : V ≤ 0 → V * ((2 ^ n : Nat) : Int) ≤ 0 := fun c => Int.mul_nonpos_of_nonpos_of_nonneg c (Int.le_of_lt hP)
  clear hP a2 k3 e2
  generalize V * ((2 ^ n : Nat) : Int) = Q at *
  cases s with
  | false =>
    have h1 := s1.2 rfl
    have h2 := s2.2 rfl
    have h3 := p1 h1
    omega
  | true =>
    have h1 := s1.1 rfl
    have h2 := s2.1 rfl
    have h3 := p2 h1
    omega
theorem vl_widen {x : Nat} {v : Int} (h : Vl .f32 x v) : Vl .f64 (widen x) (v * ((2 ^ 925 : Nat) : Int)) := by
  obtain ⟨s, m, e, r, l, rfl⟩ := h
  obtain ⟨m', e', k1, k2, k3⟩ := widen_read r l
  exact ⟨s, m', e', k1, k2, scale_val (n := 925) l (by decide) k3⟩
/-- A place of numbers below 2 ^ (9 + k). -/
def T (k : Nat) : Int := ((2 ^ (135 + k) : Nat) : Int)
theorem T_pos (k : Nat) : 0 < T k := unit_pos _
def One : Int := ((2 ^ 149 : Nat) : Int)
theorem One_abs : One.natAbs = 2 ^ 149 := by decide +kernel
theorem two22 : ((2 ^ 22 : Nat) : Int) = 4194304 := by decide +kernel
theorem One_T : One = 16384 * T 0 := by decide +kernel
theorem T3_T : T 3 = 8 * T 0 := by decide +kernel
theorem repT {k : Nat} (hk : k ≤ 60) {q : Int} (h1 : -16777216 < q) (h2 : q < 16777216) : RepZ (FloatKind.f32.format) (q * T k) ∧ (q * T k).natAbs ≤ 2 ^ 220 := by
  have hp : (FloatKind.f32.format).fractionBits = 23 := by decide
  have hx : (FloatKind.f32.format).exponentBits = 8 := by decide
  have e : (q * T k).natAbs = q.natAbs * 2 ^ (135 + k) := by
    unfold T
    rw [Int.natAbs_mul, Int.natAbs_natCast]
  refine ⟨⟨q.natAbs, 135 + k, by rw [hp]; omega, by rw [hp, hx]; omega, e⟩, ?_⟩
  rw [e]
  have h3 : q.natAbs ≤ 2 ^ 24 := by omega
  have h4 : 2 ^ (135 + k) ≤ 2 ^ 196 := Nat.pow_le_pow_right (by decide) (by omega)
  have h5 := Nat.mul_le_mul h3 h4
  rw [← Nat.pow_add] at h5
  exact h5
theorem grid {k : Nat} (hk : k ≤ 60) {S : Int} (h1 : -(8388608 * T k) ≤ S) (h2 : S ≤ 8388608 * T k) : ∃ lo hi, (RepZ (FloatKind.f32.format) lo ∧ lo.natAbs ≤ 2 ^ 220) ∧ (RepZ (FloatKind.f32.format) hi ∧ hi.natAbs ≤ 2 ^ 220) ∧ lo ≤ S ∧ S ≤ hi ∧ hi = lo + T k := by
  have hT := T_pos k
  have e1 := Int.mul_ediv_add_emod S (T k)
  have e2 := Int.emod_nonneg S (show T k ≠ 0 by omega)
  have e3 := Int.emod_lt_of_pos S hT
  have b1 : -8388608 ≤ S / T k := Int.le_ediv_of_mul_le hT (by rw [Int.neg_mul]; exact h1)
  have b2 : S / T k ≤ 8388608 := by
    refine Int.le_of_lt_add_one (Int.ediv_lt_of_lt_mul hT ?_)
    rw [Int.add_mul]; omega
  refine ⟨S / T k * T k, (S / T k + 1) * T k, repT hk (by omega) (by omega), repT hk (by omega) (by omega), ?_, ?_, ?_⟩
  · rw [Int.mul_comm]; omega
  · rw [Int.add_mul, Int.mul_comm]; omega
  · rw [Int.add_mul]; omega
theorem radd (k : Nat) (hk : k ≤ 60) {x y : Nat} {a b : Int} (hx : Vl .f32 x a) (hy : Vl .f32 y b) (h1 : -(8388608 * T k) ≤ a + b) (h2 : a + b ≤ 8388608 * T k) : ∃ r, Vl .f32 (fop .add .f32 x y) r ∧ a + b - T k ≤ r ∧ r ≤ a + b + T k := by
  obtain ⟨lo, hi, g1, g2, g3, g4, g5⟩ := grid hk h1 h2
  obtain ⟨r, v, l1, l2⟩ := iv_add (k := .f32) (A := 220) fmt1 hx.iv hy.iv g1.1 g2.1 g3 g4 g1.2 g2.2 (by decide)
  exact ⟨r, v, by omega, by omega⟩
theorem rsub (k : Nat) (hk : k ≤ 60) {x y : Nat} {a b : Int} (hx : Vl .f32 x a) (hy : Vl .f32 y b) (h1 : -(8388608 * T k) ≤ a - b) (h2 : a - b ≤ 8388608 * T k) : ∃ r, Vl .f32 (fop .sub .f32 x y) r ∧ a - b - T k ≤ r ∧ r ≤ a - b + T k := by
  obtain ⟨lo, hi, g1, g2, g3, g4, g5⟩ := grid hk h1 h2
  obtain ⟨r, v, l1, l2⟩ := iv_sub (k := .f32) (A := 220) fmt1 hx.iv hy.iv g1.1 g2.1 g3 g4 g1.2 g2.2 (by decide)
  exact ⟨r, v, by omega, by omega⟩
theorem rmul (k : Nat) (hk : k ≤ 60) {x y : Nat} {w a p : Int} (hx : Vl .f32 x w) (hy : Vl .f32 y a) (hp1 : p * One ≤ w * a) (hp2 : w * a ≤ (p + 1) * One) (h1 : -(8388608 * T k) ≤ p) (h2 : p + 1 ≤ 8388608 * T k) : ∃ r, Vl .f32 (fop .mul .f32 x y) r ∧ p - T k ≤ r ∧ r ≤ p + 1 + T k := by
  have hT := T_pos k
  obtain ⟨lo, hi, g1, g2, g3, g4, g5⟩ := grid (S := p) hk (by omega) (by omega)
  obtain ⟨lo', hi', g1', g2', g3', g4', g5'⟩ := grid (S := p + 1) hk (by omega) (by omega)
  have hO : (0 : Int) ≤ One := by decide +kernel
  have m1 := Int.mul_le_mul_of_nonneg_right g3 hO
  have m2 := Int.mul_le_mul_of_nonneg_right g4' hO
  unfold One at m1 m2 hp1 hp2
  obtain ⟨r, v, l1, l2⟩ := iv_mul (k := .f32) (A := 220) (b' := 149) fmt1 (by decide) hx hy.iv g1.1 g2'.1 (by omega) (by omega) (by omega) (by omega) g1.2 g2'.2 (by decide)
  exact ⟨r, v, by omega, by omega⟩
/-! ### by the two weights, and by one -/
def wm5 : Nat := cz .f32 3204448256
def wp25 : Nat := cz .f32 1048576000
def w1c : Nat := cz .f32 1065353216
theorem wm5_v : Vl .f32 wm5 (-((2 ^ 148 : Nat) : Int)) := vl_of (by decide +kernel)
theorem wp25_v : Vl .f32 wp25 ((2 ^ 147 : Nat) : Int) := vl_of (by decide +kernel)
theorem w1_v : Vl .f32 w1c One := vl_of (by decide +kernel)
theorem One_2 : One = 2 * ((2 ^ 148 : Nat) : Int) := by decide +kernel
theorem One_4 : One = 4 * ((2 ^ 147 : Nat) : Int) := by decide +kernel
theorem scl {q s c : Int} (n : Int) (hn : 0 ≤ n) (h : q * c ≤ s) : q * (c * n) ≤ s * n := by
  have := Int.mul_le_mul_of_nonneg_right h hn
  rw [Int.mul_assoc] at this; exact this
theorem scl' {q s c : Int} (n : Int) (hn : 0 ≤ n) (h : s ≤ q * c) : s * n ≤ q * (c * n) := by
  have := Int.mul_le_mul_of_nonneg_right h hn
  rw [Int.mul_assoc] at this; exact this
theorem rm5 (k : Nat) (hk : k ≤ 60) {y : Nat} {a : Int} (hy : Vl .f32 y a) (h1 : -(16777200 * T k) ≤ a) (h2 : a ≤ 16777200 * T k) : ∃ r, Vl .f32 (fop .mul .f32 wm5 y) r ∧ -a - 4 * T k ≤ 2 * r ∧ 2 * r ≤ -a + 4 * T k := by
  have hT := T_pos k
  have hn : (0 : Int) ≤ ((2 ^ 148 : Nat) : Int) := Int.natCast_nonneg _
  have e : -((2 ^ 148 : Nat) : Int) * a = (-a) * ((2 ^ 148 : Nat) : Int) := by rw [Int.neg_mul, Int.neg_mul, Int.mul_comm]
  obtain ⟨r, v, l1, l2⟩ := rmul k hk (p := (-a) / 2) wm5_v hy (by rw [One_2, e]; exact scl _ hn (by omega)) (by rw [One_2, e]; exact scl' _ hn (by omega)) (by omega) (by omega)
  exact ⟨r, v, by omega, by omega⟩
theorem rp25 (k : Nat) (hk : k ≤ 60) {y : Nat} {a : Int} (hy : Vl .f32 y a) (h1 : -(16777200 * T k) ≤ a) (h2 : a ≤ 16777200 * T k) : ∃ r, Vl .f32 (fop .mul .f32 wp25 y) r ∧ a - 8 * T k ≤ 4 * r ∧ 4 * r ≤ a + 8 * T k := by
  have hT := T_pos k
  have hn : (0 : Int) ≤ ((2 ^ 147 : Nat) : Int) := Int.natCast_nonneg _
  have e : ((2 ^ 147 : Nat) : Int) * a = a * ((2 ^ 147 : Nat) : Int) := Int.mul_comm _ _
  obtain ⟨r, v, l1, l2⟩ := rmul k hk (p := a / 4) wp25_v hy (by rw [One_4, e]; exact scl _ hn (by omega)) (by rw [One_4, e]; exact scl' _ hn (by omega)) (by omega) (by omega)
  exact ⟨r, v, by omega, by omega⟩
theorem r1 (k : Nat) (hk : k ≤ 60) {y : Nat} {a : Int} (hy : Vl .f32 y a) (h1 : -(8388600 * T k) ≤ a) (h2 : a ≤ 8388600 * T k) : ∃ r, Vl .f32 (fop .mul .f32 y w1c) r ∧ a - 2 * T k ≤ r ∧ r ≤ a + 2 * T k := by
  have hT := T_pos k
  have hn : (0 : Int) ≤ One := by decide +kernel
  obtain ⟨r, v, l1, l2⟩ := rmul k hk (p := a) hy w1_v (Int.le_refl _) (Int.mul_le_mul_of_nonneg_right (by omega) hn) (by omega) (by omega)
  exact ⟨r, v, by omega, by omega⟩
/-! ### divided -/
theorem quo_fin {r s S a B A T O : Int} (hs : 0 < s) (hB : 0 < B) (hT : 4 ≤ T) (hA : 4 * A ≤ T * B) (h1 : a * O * B - s * A ≤ S * s) (h2 : S * s ≤ a * O * B + s * A) (g1 : S - (T + 1) * B ≤ r * B) (g2 : r * B ≤ S + (T + 1) * B) : (r - 2 * T) * s ≤ a * O ∧ a * O ≤ (r + 2 * T) * s := by
  have k1 := Int.mul_le_mul_of_nonneg_right g1 (Int.le_of_lt hs)
  have k2 := Int.mul_le_mul_of_nonneg_right g2 (Int.le_of_lt hs)
  have k3 := Int.mul_le_mul_of_nonneg_right hA (Int.le_of_lt hs)
  have k4 := Int.mul_le_mul_of_nonneg_right hT (Int.le_of_lt (Int.mul_pos hB hs))
  rw [Int.sub_mul] at k1
  rw [Int.add_mul] at k2
  have e1 : (T + 1) * B * s = T * (B * s) + B * s := by rw [Int.add_mul, Int.one_mul, Int.add_mul, Int.mul_assoc]
  have e2 : 4 * A * s = 4 * (s * A) := by rw [Int.mul_assoc, Int.mul_comm A s]
  have e3 : T * B * s = T * (B * s) := Int.mul_assoc _ _ _
  have e4 : r * B * s = r * s * B := by rw [Int.mul_assoc, Int.mul_comm B s, ← Int.mul_assoc]
  rw [e1, e4] at k1 k2
  rw [e2, e3] at k3
  have f1 : (r - 2 * T) * s * B = r * s * B - 2 * (T * (B * s)) := by
    rw [Int.sub_mul, Int.sub_mul, Int.mul_assoc 2 T s, Int.mul_assoc 2, Int.mul_assoc T s B, Int.mul_comm s B]
  have f2 : (r + 2 * T) * s * B = r * s * B + 2 * (T * (B * s)) := by
    rw [Int.add_mul, Int.add_mul, Int.mul_assoc 2 T s, Int.mul_assoc 2, Int.mul_assoc T s B, Int.mul_comm s B]
  constructor
  · refine Int.le_of_mul_le_mul_right (a := B) ?_ hB
    rw [f1]; omega
  · refine Int.le_of_mul_le_mul_right (a := B) ?_ hB
    rw [f2]; omega
theorem quo_near {a s S : Int} {A B : Nat} {sg : Bool} {X' Y' Z' : Nat} (hX : (a * One * ((2 ^ B : Nat) : Int)).natAbs = X') (hY : (S * s).natAbs = Y') (hZ : (s * ((2 ^ A : Nat) : Int)).natAbs = Z') (m1 : Y' ≤ X' + Z') (m2 : X' ≤ Y' + Z') (c1 : sg = false → 0 ≤ a ∧ 0 ≤ S) (c2 : sg = true → a ≤ 0 ∧ S ≤ 0) (hs : 0 < s) : a * One * ((2 ^ B : Nat) : Int) - s * ((2 ^ A : Nat) : Int) ≤ S * s ∧ S * s ≤ a * One * ((2 ^ B : Nat) : Int) + s * ((2 ^ A : Nat) : Int) := by
  have hBp := unit_pos B
  have hAp := unit_pos A
  have hOp : (0 : Int) < One := by decide +kernel
  have hz0 : 0 ≤ s * ((2 ^ A : Nat) : Int) := Int.mul_nonneg (Int.le_of_lt hs) (Int.le_of_lt hAp)
  have p1 : sg = false → 0 ≤ a * One * ((2 ^ B : Nat) : Int) ∧ 0 ≤ S * s := fun c => ⟨Int.mul_nonneg (Int.mul_nonneg (c1 c).1 (Int.le_of_lt hOp)) (Int.le_of_lt hBp), Int.mul_nonneg (c1 c).2 (Int.le_of_lt hs)⟩
  have p2 : sg = true → a * One * ((2 ^ B : Nat) : Int) ≤ 0 ∧ S * s ≤ 0 := fun c => ⟨Int.mul_nonpos_of_nonpos_of_nonneg (Int.mul_nonpos_of_nonpos_of_nonneg (c2 c).1 (Int.le_of_lt hOp)) (Int.le_of_lt hBp), Int.mul_nonpos_of_nonpos_of_nonneg (c2 c).2 (Int.le_of_lt hs)⟩
  generalize a * One * ((2 ^ B : Nat) : Int) = X at *
  generalize S * s = Y at *
  generalize s * ((2 ^ A : Nat) : Int) = Z at *
  cases sg with
  | false => have := p1 rfl; omega
  | true => have := p2 rfl; omega
theorem rquo_core (k : Nat) (hk : k ≤ 60) {a s S r : Int} {A B : Nat} (hs : 0 < s) (ha : a.natAbs * 2 ^ 149 ≤ 2 ^ (157 + k) * s.natAbs) (hk1 : A ≤ 133 + k + B) (h12 : a * One * ((2 ^ B : Nat) : Int) - s * ((2 ^ A : Nat) : Int) ≤ S * s ∧ S * s ≤ a * One * ((2 ^ B : Nat) : Int) + s * ((2 ^ A : Nat) : Int)) (w2 : ∀ R, RepZ (FloatKind.f32.format) R → (S ≤ R * ((2 ^ B : Nat) : Int) → r ≤ R) ∧ (R * ((2 ^ B : Nat) : Int) ≤ S → R ≤ r)) : (r - 2 * T k) * s ≤ a * One ∧ a * One ≤ (r + 2 * T k) * s := by
  have hTp := T_pos k
  have hT4 : (4 : Int) ≤ T k := by
    have : 2 ^ 2 ≤ 2 ^ (135 + k) := Nat.pow_le_pow_right (by decide) (by omega)
    unfold T; omega
  have hBp := unit_pos B
  have hAp := unit_pos A
  have hOp : (0 : Int) < One := by decide +kernel
  have hA4 : 4 * ((2 ^ A : Nat) : Int) ≤ T k * ((2 ^ B : Nat) : Int) := by
    have : 4 * 2 ^ A ≤ 2 ^ (135 + k) * 2 ^ B := by
      rw [← Nat.pow_add, show 4 * 2 ^ A = 2 ^ (2 + A) by rw [Nat.pow_add]]
      exact Nat.pow_le_pow_right (by decide) (by omega)
    unfold T
    have h := Int.ofNat_le.2 this
    rw [Int.natCast_mul, Int.natCast_mul] at h
    exact h
  -- how great it is
  have hbig : -(4194304 * T k * ((2 ^ B : Nat) : Int)) - ((2 ^ A : Nat) : Int) ≤ S ∧ S ≤ 4194304 * T k * ((2 ^ B : Nat) : Int) + ((2 ^ A : Nat) : Int) := by
    have e157 : ((2 ^ (157 + k) : Nat) : Int) = 4194304 * T k := by
      unfold T
      rw [show 157 + k = 22 + (135 + k) by omega, Nat.pow_add, Int.natCast_mul, two22]
    have hsn : ((s.natAbs : Nat) : Int) = s := by omega
    have hao : (a.natAbs : Int) * One ≤ 4194304 * T k * s := by
      have h := Int.ofNat_le.2 ha
      rw [Int.natCast_mul, Int.natCast_mul, e157, hsn] at h
      exact h
    have hq1 := Int.mul_le_mul_of_nonneg_right hao (Int.le_of_lt hBp)
    have hq2 : a * One * ((2 ^ B : Nat) : Int) ≤ (a.natAbs : Int) * One * ((2 ^ B : Nat) : Int) := Int.mul_le_mul_of_nonneg_right (Int.mul_le_mul_of_nonneg_right (by omega) (Int.le_of_lt hOp)) (Int.le_of_lt hBp)
    have hq3 : -((a.natAbs : Int) * One * ((2 ^ B : Nat) : Int)) ≤ a * One * ((2 ^ B : Nat) : Int) := by
      rw [← Int.neg_mul, ← Int.neg_mul]
      exact Int.mul_le_mul_of_nonneg_right (Int.mul_le_mul_of_nonneg_right (by omega) (Int.le_of_lt hOp)) (Int.le_of_lt hBp)
    have e1 : 4194304 * T k * s * ((2 ^ B : Nat) : Int) = 4194304 * T k * ((2 ^ B : Nat) : Int) * s := by rw [Int.mul_assoc, Int.mul_comm s, ← Int.mul_assoc]
    constructor
    · refine Int.le_of_mul_le_mul_right (a := s) ?_ hs
      rw [Int.sub_mul, Int.neg_mul, Int.mul_comm ((2 ^ A : Nat) : Int) s]; omega
    · refine Int.le_of_mul_le_mul_right (a := s) ?_ hs
      rw [Int.add_mul, Int.mul_comm ((2 ^ A : Nat) : Int) s]; omega
  -- the grid
  have e1 := Int.mul_ediv_add_emod S ((2 ^ B : Nat) : Int)
  have e2 := Int.emod_nonneg S (show ((2 ^ B : Nat) : Int) ≠ 0 by omega)
  have e3 := Int.emod_lt_of_pos S hBp
  have b1 : -(4194305 * T k) ≤ S / ((2 ^ B : Nat) : Int) := by
    refine Int.le_ediv_of_mul_le hBp ?_
    rw [Int.neg_mul, show (4194305 : Int) = 4194304 + 1 by rfl, Int.add_mul, Int.add_mul, Int.one_mul]; omega
  have b2 : S / ((2 ^ B : Nat) : Int) ≤ 4194305 * T k := by
    refine Int.le_of_lt_add_one (Int.ediv_lt_of_lt_mul hBp ?_)
    rw [Int.add_mul, show (4194305 : Int) = 4194304 + 1 by rfl, Int.add_mul, Int.add_mul, Int.one_mul]; omega
  generalize hpp : S / ((2 ^ B : Nat) : Int) = p at *
  obtain ⟨lo, hi, g1, g2, g3, g4, g5⟩ := grid (S := p) hk (by omega) (by omega)
  obtain ⟨lo', hi', g1', g2', g3', g4', g5'⟩ := grid (S := p + 1) hk (by omega) (by omega)
  have q1 := (w2 lo g1.1).2 (by
    have := Int.mul_le_mul_of_nonneg_right g3 (Int.le_of_lt hBp)
    rw [Int.mul_comm p] at this; omega)
  have q2 := (w2 hi' g2'.1).1 (by
    have := Int.mul_le_mul_of_nonneg_right g4' (Int.le_of_lt hBp)
    rw [Int.add_mul, Int.one_mul, Int.mul_comm p] at this; omega)
  have q3 : p - T k ≤ r := by omega
  have q4 : r ≤ p + 1 + T k := by omega
  have u1 := Int.mul_le_mul_of_nonneg_right q3 (Int.le_of_lt hBp)
  have u2 := Int.mul_le_mul_of_nonneg_right q4 (Int.le_of_lt hBp)
  rw [Int.sub_mul, Int.mul_comm p] at u1
  rw [Int.add_mul, Int.add_mul, Int.one_mul, Int.mul_comm p] at u2
  refine quo_fin hs hBp hT4 hA4 h12.1 h12.2 ?_ ?_
  · rw [Int.add_mul, Int.one_mul]; omega
  · rw [Int.add_mul, Int.one_mul]; omega
open Ieee in
theorem rquo (k : Nat) (hk : k ≤ 60) {x y : Nat} {a s : Int} (hx : Vl .f32 x a) (hy : Vl .f32 y s) (hs : 0 < s) (ha : a.natAbs * 2 ^ 149 ≤ 2 ^ (157 + k) * s.natAbs) : ∃ r, Vl .f32 (fop .quo .f32 x y) r ∧ (r - 2 * T k) * s ≤ a * One ∧ a * One ≤ (r + 2 * T k) * s ∧ (0 ≤ a → 0 ≤ r) := by
  obtain ⟨sg, m, i, r1, l1, v1⟩ := hx
  obtain ⟨t, n, j, r2, l2, v2⟩ := hy
  have hL : (FloatKind.f32.format).leastPlace = -149 := by decide
  have hp : (FloatKind.f32.format).fractionBits = 23 := by decide
  have hxb : (FloatKind.f32.format).exponentBits = 8 := by decide
  have a1 := vD_abs (FloatKind.f32.format).leastPlace sg m i
  have a2 := vD_abs (FloatKind.f32.format).leastPlace t n j
  have s1 := vD_sign (FloatKind.f32.format).leastPlace sg m i
  have s2 := vD_sign (FloatKind.f32.format).leastPlace t n j
  rw [v1] at a1 s1
  rw [v2] at a2 s2
  rw [hL] at l1 l2 a1 a2
  obtain rfl : t = false := by
    cases t with
    | false => rfl
    | true => have := s2.1 rfl; omega
  have hn : n ≠ 0 := fun c => by rw [c, Nat.zero_mul] at a2; omega
  have hm24 : m < 2 ^ 24 := by have := rung_of (x := x) r1; omega
  generalize hmo : 23 + 2 + n.log2 - m.log2 = more
  have hq : floatBits .quo .f32 x y = some ((FloatKind.f32.format).nearest (sg ^^ false) (2 * ((m <<< more) / n) + ((m <<< more) % n != 0).toNat) (i - j - more - 1)) := by
    show (FloatKind.f32.format).div x y = _
    unfold Format.div Datum.quotient
    rw [r1, r2, hp]
    simp only [hn, if_false, hmo]; rfl
  rw [Bool.xor_false] at hq
  have hTp := T_pos k
  by_cases hm0 : m = 0
  · have ha0 : a = 0 := by rw [hm0, Nat.zero_mul] at a1; omega
    have hM : 2 * ((m <<< more) / n) + ((m <<< more) % n != 0).toNat = 0 := by rw [hm0]; simp
    rw [hM] at hq
    obtain ⟨r, w1, w2⟩ := rndZ (k := .f32) (M := 0) (a := (i - j - more - 1 - -149).toNat) (b := (-149 - (i - j - more - 1)).toNat) (e := i - j - more - 1) (S := 0) fmt1 sg (by rw [hL]; omega) (fun c => absurd rfl c) (by simp) (fun _ => Int.le_refl _) (fun _ => Int.le_refl _)
    have h0 : RepZ (FloatKind.f32.format) 0 := ⟨0, 0, by decide, by decide, rfl⟩
    have g1 := (w2 0 h0).1 (by simp)
    have g2 := (w2 0 h0).2 (by simp)
    obtain rfl : r = 0 := by omega
    refine ⟨0, fop_vl hq w1, ?_, ?_, fun _ => Int.le_refl _⟩
    · rw [ha0, Int.zero_mul]
      have := Int.mul_pos hTp hs
      rw [Int.zero_sub, Int.neg_mul, Int.mul_assoc]; omega
    · rw [ha0, Int.zero_mul]
      have := Int.mul_pos hTp hs
      rw [Int.zero_add, Int.mul_assoc]; omega
  have hml : m.log2 ≤ 23 := by have := (Nat.log2_lt hm0).2 hm24; omega
  have hmore : (more : Int) = 25 + n.log2 - m.log2 := by omega
  -- how small the place is
  have hlog : m.log2 + (i - -149).toNat + 149 ≤ 157 + k + (n.log2 + 1) + (j - -149).toNat := by
    rw [a1, a2] at ha
    have g1 : 2 ^ m.log2 * 2 ^ (i - -149).toNat * 2 ^ 149 ≤ m * 2 ^ (i - -149).toNat * 2 ^ 149 := Nat.mul_le_mul_right _ (Nat.mul_le_mul_right _ (Nat.log2_self_le hm0))
    have g2 : 2 ^ (157 + k) * (n * 2 ^ (j - -149).toNat) ≤ 2 ^ (157 + k) * (2 ^ (n.log2 + 1) * 2 ^ (j - -149).toNat) := Nat.mul_le_mul_left _ (Nat.mul_le_mul_right _ (Nat.le_of_lt Nat.lt_log2_self))
    rw [← Nat.pow_add, ← Nat.pow_add] at g1
    rw [← Nat.pow_add, ← Nat.pow_add, ← Nat.add_assoc] at g2
    exact (Nat.pow_le_pow_iff_right (a := 2) (by decide)).1 (Nat.le_trans g1 (Nat.le_trans ha g2))
  generalize hD : m <<< more = D at hq
  rw [Nat.shiftLeft_eq] at hD
  have hb : (D % n != 0).toNat ≤ 1 ∧ (D % n = 0 → (D % n != 0).toNat = 0) ∧ (D % n ≠ 0 → (D % n != 0).toNat = 1) := by
    by_cases c : D % n = 0
    · rw [c]; decide
    · have : (D % n != 0) = true := by simpa using c
      rw [this]; exact ⟨by decide, fun h => absurd h c, fun _ => rfl⟩
  have hdm := Nat.div_add_mod D n
  have hlt := Nat.mod_lt D (Nat.pos_of_ne_zero hn)
  generalize (D % n != 0).toNat = b at hq hb
  -- M n is near 2 D
  have hMn : (2 * (D / n) + b) * n ≤ 2 * D + n ∧ 2 * D ≤ (2 * (D / n) + b) * n + n := by
    have e : (2 * (D / n) + b) * n = 2 * (n * (D / n)) + b * n := by rw [Nat.add_mul, Nat.mul_assoc, Nat.mul_comm (D / n)]
    rcases Nat.le_one_iff_eq_zero_or_eq_one.1 hb.1 with c | c
    · rw [e, c, Nat.zero_mul]
      generalize n * (D / n) = q at *
      by_cases c2 : D % n = 0
      · omega
      · have := hb.2.2 c2
        omega
    · rw [e, c, Nat.one_mul]
      generalize n * (D / n) = q at *
      omega
  generalize hMM : 2 * (D / n) + b = M at hq hMn
  generalize hA : (i - j - more - 1 - -149).toNat = A at *
  generalize hBB : (-149 - (i - j - more - 1)).toNat = B at *
  -- the signed number
  have hsg : ∃ S : Int, S.natAbs = M * 2 ^ A ∧ (sg = true → S ≤ 0) ∧ (sg = false → 0 ≤ S) := by
    cases sg with
    | true => exact ⟨-((M * 2 ^ A : Nat) : Int), by omega, fun _ => by omega, fun c => (by cases c)⟩
    | false => exact ⟨((M * 2 ^ A : Nat) : Int), by omega, fun c => (by cases c), fun _ => by omega⟩
  obtain ⟨S, hS, hS1, hS2⟩ := hsg
  have hk1 : A ≤ 133 + k + B := by omega
  have hw : (2 * D) * 2 ^ (A + (j - -149).toNat) = m * 2 ^ (i - -149).toNat * 2 ^ 149 * 2 ^ B := by
    rw [← hD, show 2 * (m * 2 ^ more) = m * 2 ^ (more + 1) by rw [Nat.pow_succ]; ac_rfl, Nat.mul_assoc, ← Nat.pow_add, Nat.mul_assoc, Nat.mul_assoc, ← Nat.pow_add, ← Nat.pow_add]
    congr 2; omega
  have hX : (a * One * ((2 ^ B : Nat) : Int)).natAbs = 2 * D * 2 ^ (A + (j - -149).toNat) := by
    rw [hw, Int.natAbs_mul, Int.natAbs_mul, a1, Int.natAbs_natCast, One_abs]
  have hY : (S * s).natAbs = M * n * 2 ^ (A + (j - -149).toNat) := by
    rw [Int.natAbs_mul, hS, a2, Nat.pow_add]; ac_rfl
  have hZ : (s * ((2 ^ A : Nat) : Int)).natAbs = n * 2 ^ (A + (j - -149).toNat) := by
    rw [Int.natAbs_mul, a2, Int.natAbs_natCast, Nat.pow_add]; ac_rfl
  have m1 := Nat.mul_le_mul_right (2 ^ (A + (j - -149).toNat)) hMn.1
  have m2 := Nat.mul_le_mul_right (2 ^ (A + (j - -149).toNat)) hMn.2
  rw [Nat.add_mul] at m1 m2
  have hBp := unit_pos B
  have hAp := unit_pos A
  have hOp : (0 : Int) < One := by decide +kernel
  have hz0 : 0 ≤ s * ((2 ^ A : Nat) : Int) := Int.mul_nonneg (Int.le_of_lt hs) (Int.le_of_lt hAp)
  have h12 := quo_near hX hY hZ m1 m2 (fun c => ⟨s1.2 c, hS2 c⟩) (fun c => ⟨s1.1 c, hS1 c⟩) hs
  obtain ⟨r, w1, w2⟩ := rndZ (k := .f32) (M := M) (a := A) (b := B) (e := i - j - more - 1) (S := S) fmt1 sg (by rw [hL]; omega) (fun hM => by
    rw [hL, hp, hxb]
    have hMl : M.log2 ≤ 28 := by
      have hDl : D < 2 ^ (26 + n.log2) := by
        rw [← hD]
        have : m * 2 ^ more < 2 ^ (m.log2 + 1) * 2 ^ more := Nat.mul_lt_mul_of_pos_right Nat.lt_log2_self (Nat.two_pow_pos _)
        rw [← Nat.pow_add] at this
        rw [show 26 + n.log2 = m.log2 + 1 + more by omega]; exact this
      have hDn : D / n < 2 ^ 26 := by
        refine (Nat.div_lt_iff_lt_mul (Nat.pos_of_ne_zero hn)).2 (Nat.lt_of_lt_of_le hDl ?_)
        rw [Nat.pow_add]
        exact Nat.mul_le_mul_left _ (Nat.log2_self_le hn)
      have : M < 2 ^ 29 := by omega
      have := (Nat.log2_lt hM).2 this
      omega
    omega) hS hS1 hS2
  have hc := rquo_core k hk hs ha hk1 h12 w2
  refine ⟨r, fop_vl hq w1, hc.1, hc.2, fun h0 => ?_⟩
  have hS0 : 0 ≤ S := by
    cases sg with
    | false => exact hS2 rfl
    | true =>
      exfalso
      have h1 := s1.1 rfl
      have h2 : m * 2 ^ (i - -149).toNat = 0 := by omega
      rcases Nat.mul_eq_zero.1 h2 with h3 | h3
      · exact hm0 h3
      · have := Nat.two_pow_pos (i - -149).toNat; omega
  exact (w2 0 ⟨0, 0, by decide, by decide, rfl⟩).2 (by rw [Int.zero_mul]; exact hS0)
def stW (k : Nat) : Nat := fop .quo .f32 (itof .f32 (k : Int)) (cz .f32 1090519040)
def stV (k : Nat) : Int := (k : Int) * (2048 * T 0)
theorem st_ok : ∀ k : Nat, k < 17 → (decide (k = 0) || (vlb .f32 (stW k) (stV k) && (isOver (stW k)))) = true := by decide +kernel
theorem st_v {k : Nat} (h1 : 1 ≤ k) (h2 : k ≤ 16) : Vl .f32 (stW k) (stV k) ∧ isOver (stW k) = true := by
  have := st_ok k (by omega)
  rw [decide_eq_false (by omega), Bool.false_or, Bool.and_eq_true] at this
  exact ⟨vl_of this.1, this.2⟩
theorem int_ok : ∀ n : Nat, n < 1300 → (vlb .f32 (itof .f32 (n : Int)) ((n : Int) * One) && vlb .f32 (itof .f32 (-(n : Int))) (-((n : Int) * One))) = true := by decide +kernel
theorem int_v {n : Int} (h1 : -1299 ≤ n) (h2 : n ≤ 1299) : Vl .f32 (itof .f32 n) (n * One) := by
  have h := int_ok n.natAbs (by omega)
  rw [Bool.and_eq_true] at h
  by_cases c : 0 ≤ n
  · have e : ((n.natAbs : Nat) : Int) = n := by omega
    rw [e] at h; exact vl_of h.1
  · have e : -((n.natAbs : Nat) : Int) = n := by omega
    have e2 : -(((n.natAbs : Nat) : Int) * One) = n * One := by rw [← Int.neg_mul, e]
    rw [e2, e] at h; exact vl_of h.2
theorem half_v : Vl .f32 (cz .f32 1056964608) (8192 * T 0) := vl_of (by decide +kernel)
open Ieee in
theorem trunc_v {x : Nat} {r : Int} (h : Vl .f32 x r) (hr : r.natAbs ≤ 1000000 * 2 ^ 149) : ∃ n : Int, floatToIntVal .f32 x .i64 = some n ∧ n.natAbs * 2 ^ 149 ≤ r.natAbs ∧ r.natAbs < (n.natAbs + 1) * 2 ^ 149 ∧ (0 < n → 0 ≤ r) ∧ (n < 0 → r ≤ 0) := by
  obtain ⟨s, m, e, h1, l, rfl⟩ := h
  have hL : (FloatKind.f32.format).leastPlace = -149 := by decide
  rw [hL] at l hr ⊢
  have ha := vD_abs (-149) s m e
  have hsg := vD_sign (-149) s m e
  have hw : (m <<< e.toNat) / 2 ^ (-e).toNat = m * 2 ^ (e - -149).toNat / 2 ^ 149 := by
    rw [Nat.shiftLeft_eq]
    by_cases c : 0 ≤ e
    · rw [show (-e).toNat = 0 by omega, Nat.pow_zero, Nat.div_one, show (e - -149).toNat = e.toNat + 149 by omega, Nat.pow_add, ← Nat.mul_assoc, Nat.mul_div_cancel _ (Nat.two_pow_pos _)]
    · rw [show e.toNat = 0 by omega, Nat.pow_zero, Nat.mul_one, show (149 : Nat) = (-e).toNat + (e - -149).toNat by omega, Nat.pow_add, Nat.mul_div_mul_right _ _ (Nat.two_pow_pos _)]
  rw [← ha] at hw
  generalize vD (-149) s m e = r at *
  have hp : 0 < 2 ^ 149 := Nat.two_pow_pos _
  have hdm := Nat.div_add_mod r.natAbs (2 ^ 149)
  have hlt := Nat.mod_lt r.natAbs hp
  have hq : r.natAbs / 2 ^ 149 ≤ 1000000 := by
    refine Nat.le_of_lt_succ ((Nat.div_lt_iff_lt_mul hp).2 ?_)
    rw [Nat.succ_mul]; omega
  refine ⟨signed s (r.natAbs / 2 ^ 149) 0, ?_, ?_, ?_, ?_, ?_⟩
  · have h5 : (FloatKind.f32.decode x).toInt .zero = some (signed s (r.natAbs / 2 ^ 149) 0) := by
      show (single.read x).toInt .zero = _
      rw [show single.read x = (FloatKind.f32.format).read x from rfl, h1]
      simp only [Datum.toInt, Datum.integral, cutz]
      rw [hw]
    unfold floatToIntVal
    rw [h5]
    have hmin : IntKind.min .i64 = -9223372036854775808 := by decide +kernel
    have hmax : IntKind.max .i64 = 9223372036854775807 := by decide +kernel
    show (if IntKind.min .i64 ≤ _ ∧ _ ≤ IntKind.max .i64 then some _ else none) = some _
    rw [hmin, hmax, if_pos ?_]
    generalize r.natAbs / 2 ^ 149 = w at *
    cases s <;> simp only [signed, Nat.shiftLeft_zero, if_true, Bool.false_eq_true, if_false] <;> omega
  all_goals
    have e0 : ∀ w : Nat, (signed s w 0).natAbs = w := fun w => by cases s <;> simp [signed]
    have e1 := e0 (r.natAbs / 2 ^ 149)
  · rw [e1, Nat.mul_comm]; omega
  · rw [e1, Nat.add_mul, Nat.one_mul, Nat.mul_comm]; omega
  · intro hn
    cases s with
    | false => exact hsg.2 rfl
    | true =>
      simp only [signed, Nat.shiftLeft_zero, if_true] at hn
      omega
  · intro hn
    cases s with
    | true => exact hsg.1 rfl
    | false =>
      simp only [signed, Nat.shiftLeft_zero, Bool.false_eq_true, if_false] at hn
      omega
def qW (x k : Nat) : Nat := fop .quo .f32 x (stW k)
def cW (x k : Nat) : Int := ftoi .f32 (qW x k) .i64
def tvW (p k x : Nat) : Nat := unsc (abvF p (cW x k)) (stW k) (cz .f32 1056964608)
theorem mil_v : Vl .f32 1232348176 (1000001 * One) ∧ Vl .f32 3379831824 (-(1000001 * One)) := ⟨vl_of (by decide +kernel), vl_of (by decide +kernel)⟩
theorem abv_le (p : Nat) (n : Int) : (abvF p n).natAbs ≤ n.natAbs ∧ (0 < abvF p n → 0 < n) ∧ (abvF p n < 0 → n < 0) ∧ abvF 0 n = n := by
  have h1 := Nat.div_mul_le_self n.natAbs (2 ^ p)
  refine ⟨?_, ?_, ?_, ?_⟩
  · unfold abvF; split <;> omega
  · unfold abvF; split <;> omega
  · unfold abvF; split <;> omega
  · unfold abvF
    rw [Nat.pow_zero, Nat.div_one, Nat.mul_one]
    split <;> omega
theorem unsc_v {m : Int} {k : Nat} (h1 : 1 ≤ k) (h2 : k ≤ 16) (hm : -1200 ≤ m ∧ m ≤ 1200) : ∃ v, Vl .f32 (unsc m (stW k) (cz .f32 1056964608)) v ∧ (m = 0 → v = 0) ∧ (0 < m → (k : Int) * (m * One + 8192 * T 0) - 200 * T 0 ≤ 8 * v ∧ 8 * v ≤ (k : Int) * (m * One + 8192 * T 0) + 200 * T 0) ∧ (m < 0 → (k : Int) * (m * One - 8192 * T 0) - 200 * T 0 ≤ 8 * v ∧ 8 * v ≤ (k : Int) * (m * One - 8192 * T 0) + 200 * T 0) := by
  have hT := T_pos 0
  have hO := One_T
  have h3 := T3_T
  obtain ⟨hst, _⟩ := st_v h1 h2
  have hk : (0 : Int) ≤ (k : Int) := by omega
  have hkT : (k : Int) * T 0 ≤ 16 * T 0 := Int.mul_le_mul_of_nonneg_right (by omega) (Int.le_of_lt hT)
  have hkT0 : 0 ≤ (k : Int) * T 0 := Int.mul_nonneg hk (Int.le_of_lt hT)
  have hmO : -(1200 * One) ≤ m * One ∧ m * One ≤ 1200 * One := by
    have hO0 : (0 : Int) ≤ One := by omega
    have a1 := Int.mul_le_mul_of_nonneg_right hm.1 hO0
    have a2 := Int.mul_le_mul_of_nonneg_right hm.2 hO0
    rw [Int.neg_mul] at a1
    exact ⟨a1, a2⟩
  have main : ∀ (y : Nat) (c : Int), Vl .f32 y c → (-(1201 * One) ≤ c ∧ c ≤ 1201 * One) → ∃ v, Vl .f32 (fop .mul .f32 (stW k) y) v ∧ (k : Int) * c - 72 * T 0 ≤ 8 * v ∧ 8 * v ≤ (k : Int) * c + 72 * T 0 := by
    intro y c hy hc
    have b1 : (k : Int) * c ≤ 16 * (1201 * One) := by
      have g1 := Int.mul_le_mul_of_nonneg_left hc.2 hk
      have g2 : (k : Int) * (1201 * One) ≤ 16 * (1201 * One) := Int.mul_le_mul_of_nonneg_right (by omega) (by omega)
      omega
    have b2 : -(16 * (1201 * One)) ≤ (k : Int) * c := by
      have g1 := Int.mul_le_mul_of_nonneg_left hc.1 hk
      have g2 : (k : Int) * (1201 * One) ≤ 16 * (1201 * One) := Int.mul_le_mul_of_nonneg_right (by omega) (by omega)
      rw [Int.mul_neg] at g1
      omega
    have hc0 : (0 : Int) ≤ 2048 * T 0 := by omega
    have eO : One = 8 * (2048 * T 0) := by omega
    have e1 : stV k * c = (k : Int) * c * (2048 * T 0) := by unfold stV; ac_rfl
    obtain ⟨v, hv, l1, l2⟩ := rmul 3 (by decide) (p := (k : Int) * c / 8) hst hy (by
      have := Int.mul_le_mul_of_nonneg_right (show (k : Int) * c / 8 * 8 ≤ (k : Int) * c by omega) hc0
      rw [Int.mul_assoc ((k : Int) * c / 8) 8] at this
      rw [eO, e1]; exact this) (by
      have := Int.mul_le_mul_of_nonneg_right (show (k : Int) * c ≤ ((k : Int) * c / 8 + 1) * 8 by omega) hc0
      rw [Int.mul_assoc ((k : Int) * c / 8 + 1) 8] at this
      rw [eO, e1]; exact this) (by omega) (by omega)
    exact ⟨v, hv, by omega, by omega⟩
  have hin := int_v (n := m) (by omega) (by omega)
  rcases Int.lt_trichotomy m 0 with hz | hz | hz
  · obtain ⟨c, hc, c1, c2⟩ := rsub 3 (by decide) hin half_v (by omega) (by omega)
    obtain ⟨v, hv, v1, v2⟩ := main _ c hc (by omega)
    refine ⟨v, ?_, fun e => by omega, fun e => by omega, fun _ => ?_⟩
    · unfold unsc; rw [if_neg (by omega), if_pos hz]; exact hv
    · have g1 := Int.mul_le_mul_of_nonneg_left c1 hk
      have g2 := Int.mul_le_mul_of_nonneg_left c2 hk
      rw [Int.mul_sub, h3, Int.mul_left_comm] at g1
      rw [Int.mul_add, h3, Int.mul_left_comm (k : Int) 8] at g2
      omega
  · subst hz
    refine ⟨0, ?_, fun _ => rfl, fun e => by omega, fun e => by omega⟩
    unfold unsc; rw [if_neg (by decide), if_neg (by decide)]
    exact vl_of (by decide +kernel)
  · obtain ⟨c, hc, c1, c2⟩ := radd 3 (by decide) hin half_v (by omega) (by omega)
    obtain ⟨v, hv, v1, v2⟩ := main _ c hc (by omega)
    refine ⟨v, ?_, fun e => by omega, fun _ => ?_, fun e => by omega⟩
    · unfold unsc; rw [if_pos hz]; exact hv
    · have g1 := Int.mul_le_mul_of_nonneg_left c1 hk
      have g2 := Int.mul_le_mul_of_nonneg_left c2 hk
      rw [Int.mul_sub, h3, Int.mul_left_comm (k : Int) 8] at g1
      rw [Int.mul_add, h3, Int.mul_left_comm (k : Int) 8] at g2
      omega
theorem st_div {r a k t : Int} (hk : 0 < t) (h : (r - 16 * t) * (k * (2048 * t)) ≤ a * (8 * (2048 * t))) : r * k - 16 * (k * t) ≤ 8 * a := by
  have e1 : (r - 16 * t) * (k * (2048 * t)) = (r * k - 16 * (k * t)) * (2048 * t) := by
    rw [← Int.mul_assoc, Int.sub_mul, Int.mul_assoc 16 t k, Int.mul_comm t k]
  have e2 : a * (8 * (2048 * t)) = 8 * a * (2048 * t) := by rw [← Int.mul_assoc, Int.mul_comm a 8]
  rw [e1, e2] at h
  exact Int.le_of_mul_le_mul_right h (by omega)
theorem st_div' {r a k t : Int} (hk : 0 < t) (h : a * (8 * (2048 * t)) ≤ (r + 16 * t) * (k * (2048 * t))) : 8 * a ≤ r * k + 16 * (k * t) := by
  have e1 : (r + 16 * t) * (k * (2048 * t)) = (r * k + 16 * (k * t)) * (2048 * t) := by
    rw [← Int.mul_assoc, Int.add_mul, Int.mul_assoc 16 t k, Int.mul_comm t k]
  have e2 : a * (8 * (2048 * t)) = 8 * a * (2048 * t) := by rw [← Int.mul_assoc, Int.mul_comm a 8]
  rw [e1, e2] at h
  exact Int.le_of_mul_le_mul_right h (by omega)
theorem coef {x k : Nat} {a : Int} (hx : Vl .f32 x a) (ha : -(144 * One) ≤ a ∧ a ≤ 144 * One) (h1 : 1 ≤ k) (h2 : k ≤ 16) : okM (qW x k) = true ∧ (-1200 ≤ cW x k ∧ cW x k ≤ 1200) ∧ ∀ p, ∃ v, Vl .f32 (tvW p k x) v ∧ (-(146 * One) ≤ v ∧ v ≤ 146 * One) ∧ (p = 0 → -(stV k + 64 * T 0) ≤ v - a ∧ v - a ≤ stV k + 64 * T 0) := by
  have hT := T_pos 0
  have hO := One_T
  have h3 := T3_T
  obtain ⟨hst, _⟩ := st_v h1 h2
  have hk : (0 : Int) ≤ (k : Int) := by omega
  have hkT : (k : Int) * T 0 ≤ 16 * T 0 := Int.mul_le_mul_of_nonneg_right (by omega) (Int.le_of_lt hT)
  have hkT1 : T 0 ≤ (k : Int) * T 0 := by
    have := Int.mul_le_mul_of_nonneg_right (show (1 : Int) ≤ (k : Int) by omega) (Int.le_of_lt hT)
    omega
  have eV : stV k = 2048 * ((k : Int) * T 0) := by unfold stV; exact Int.mul_left_comm _ _ _
  have eO : One = 8 * (2048 * T 0) := by omega
  obtain ⟨r, hr, q1, q2, _⟩ := rquo 3 (by decide) hx hst (by omega) (by
    have e : (stV k).natAbs = k * 2 ^ 146 := by
      unfold stV
      rw [Int.natAbs_mul, Int.natAbs_natCast, show (2048 * T 0).natAbs = 2 ^ 146 by decide +kernel]
    rw [e]
    have h4 : a.natAbs ≤ 144 * 2 ^ 149 := by
      have : (One.natAbs : Int) = One := by omega
      rw [One_abs] at this
      omega
    have h5 : 1 * 2 ^ 146 ≤ k * 2 ^ 146 := Nat.mul_le_mul_right _ h1
    have h6 := Nat.mul_le_mul_right (2 ^ 149) h4
    have h7 := Nat.mul_le_mul_left (2 ^ (157 + 3)) h5
    exact Nat.le_trans h6 (Nat.le_trans (by decide +kernel) h7))
  rw [eO, h3, show (2 : Int) * (8 * T 0) = 16 * T 0 by omega] at q1 q2
  unfold stV at q1 q2
  have q1 := st_div hT q1
  have q2 := st_div' hT q2
  have hr1 : -(1153 * One) ≤ r ∧ r ≤ 1153 * One := by
    constructor
    · refine Int.not_lt.1 fun c => ?_
      have := Int.mul_le_mul_of_nonpos_left (show r ≤ 0 by omega) (show (1 : Int) ≤ (k : Int) by omega)
      omega
    · refine Int.not_lt.1 fun c => ?_
      have := Int.mul_le_mul_of_nonneg_left (show (1 : Int) ≤ (k : Int) by omega) (show 0 ≤ r by omega)
      omega
  have hq : Vl .f32 (qW x k) r := hr
  have hOa : (One.natAbs : Int) = One := by omega
  rw [One_abs] at hOa
  obtain ⟨n, n1, n2, n3, n4, n5⟩ := trunc_v hq (by omega)
  have hc : cW x k = n := by unfold cW ftoi; rw [n1]; rfl
  have hnO : ((n.natAbs : Nat) : Int) * One ≤ (r.natAbs : Int) ∧ (r.natAbs : Int) < (((n.natAbs : Nat) : Int) + 1) * One := by
    rw [← hOa]
    constructor
    · have := Int.ofNat_le.2 n2
      rw [Int.natCast_mul] at this; exact this
    · have := Int.ofNat_lt.2 n3
      rw [Int.natCast_mul] at this; exact this
  have hn : n.natAbs ≤ 1153 := by
    refine Nat.le_of_not_lt fun c => ?_
    have := Int.mul_le_mul_of_nonneg_right (show (1154 : Int) ≤ ((n.natAbs : Nat) : Int) by omega) (show (0 : Int) ≤ One by omega)
    omega
  refine ⟨?_, by rw [hc]; omega, fun p => ?_⟩
  · unfold okM
    rw [vl_gtr hq mil_v.2, vl_lss hq mil_v.1, decide_eq_true (by omega), decide_eq_true (by omega)]; rfl
  obtain ⟨b1, b2, b3, b4⟩ := abv_le p n
  obtain ⟨v, hv, v0, v1, v2⟩ := unsc_v (m := abvF p n) h1 h2 (by omega)
  have hmn : ((abvF p n).natAbs : Int) * One ≤ ((n.natAbs : Nat) : Int) * One := Int.mul_le_mul_of_nonneg_right (by omega) (by omega)
  refine ⟨v, by unfold tvW; rw [hc]; exact hv, ?_⟩
  rw [eV]
  have hnO1 := hnO.1
  have hnO2 := hnO.2
  rw [Int.add_mul, Int.one_mul] at hnO2
  rcases Int.lt_trichotomy (abvF p n) 0 with hz | hz | hz
  · have v2 := v2 hz
    have hn0 := b3 hz
    have hr0 := n5 hn0
    have e1 : ((abvF p n).natAbs : Int) * One = -(abvF p n * One) := by rw [← Int.neg_mul]; congr 1; omega
    have e2 : ((n.natAbs : Nat) : Int) * One = -(n * One) := by rw [← Int.neg_mul]; congr 1; omega
    rw [e1, e2] at hmn
    rw [e2] at hnO1 hnO2
    have hm0 : abvF p n * One ≤ 0 := Int.mul_nonpos_of_nonpos_of_nonneg (by omega) (by omega)
    have g1 := Int.mul_le_mul_of_nonneg_left (show r ≤ abvF p n * One by omega) hk
    have g2 := Int.mul_nonpos_of_nonneg_of_nonpos hk hm0
    rw [Int.mul_sub, Int.mul_left_comm (k : Int) 8192] at v2
    rw [Int.mul_comm r] at q1 q2
    refine ⟨by omega, fun hp => ?_⟩
    subst hp
    rw [b4] at v2 g1
    have g3 := Int.mul_le_mul_of_nonneg_left (show n * One - One ≤ r by omega) hk
    rw [Int.mul_sub, hO, Int.mul_left_comm (k : Int) 16384] at g3
    rw [← hO] at g3
    omega
  · have hv0 := v0 hz
    refine ⟨by omega, fun hp => ?_⟩
    subst hp
    rw [b4] at hz
    subst hz
    have hrO : -One ≤ r ∧ r ≤ One := by
      simp only [Int.natAbs_zero] at hnO2
      omega
    have g1 := Int.mul_le_mul_of_nonneg_left hrO.1 hk
    have g2 := Int.mul_le_mul_of_nonneg_left hrO.2 hk
    rw [Int.mul_neg, hO, Int.mul_left_comm (k : Int) 16384] at g1
    rw [hO, Int.mul_left_comm (k : Int) 16384] at g2
    rw [Int.mul_comm r] at q1 q2
    omega
  · have v1 := v1 hz
    have hn0 := b2 hz
    have hr0 := n4 hn0
    have e1 : ((abvF p n).natAbs : Int) * One = abvF p n * One := by congr 1; omega
    have e2 : ((n.natAbs : Nat) : Int) * One = n * One := by congr 1; omega
    rw [e1, e2] at hmn
    rw [e2] at hnO1 hnO2
    have hm0 : 0 ≤ abvF p n * One := Int.mul_nonneg (by omega) (by omega)
    have g1 := Int.mul_le_mul_of_nonneg_left (show abvF p n * One ≤ r by omega) hk
    have g2 := Int.mul_nonneg hk hm0
    rw [Int.mul_add, Int.mul_left_comm (k : Int) 8192] at v1
    rw [Int.mul_comm r] at q1 q2
    refine ⟨by omega, fun hp => ?_⟩
    subst hp
    rw [b4] at v1 g1
    have g3 := Int.mul_le_mul_of_nonneg_left (show r ≤ n * One + One by omega) hk
    rw [Int.mul_add, hO, Int.mul_left_comm (k : Int) 16384] at g3
    rw [← hO] at g3
    omega
def xL : List Nat := [3238002688, 3237478400, 3236954112, 3236429824, 3235905536, 3235381248, 3234856960, 3234332672, 3233808384, 3233284096, 3232759808, 3232235520, 3231711232, 3231186944, 3230662656, 3230138368, 3229614080, 3228565504, 3227516928, 3226468352, 3225419776, 3224371200, 3223322624, 3222274048, 3221225472, 3219128320, 3217031168, 3214934016, 3212836864, 3208642560, 3204448256, 3196059648, 0, 1048576000, 1056964608, 1061158912, 1065353216, 1067450368, 1069547520, 1071644672, 1073741824, 1074790400, 1075838976, 1076887552, 1077936128, 1078984704, 1080033280, 1081081856, 1082130432, 1082654720, 1083179008, 1083703296, 1084227584, 1084751872, 1085276160, 1085800448, 1086324736, 1086849024, 1087373312, 1087897600, 1088421888, 1088946176, 1089470464, 1089994752, 1090519040]
def stL : List Nat := [0, 1040187392, 1048576000, 1052770304, 1056964608, 1059061760, 1061158912, 1063256064, 1065353216, 1066401792, 1067450368, 1068498944, 1069547520, 1070596096, 1071644672, 1072693248, 1073741824]
theorem x_lit : ∀ w : Nat, w < 65 → (decide (fop .quo .f32 (itof .f32 ((w : Int) - 32)) (cz .f32 1082130432) = xL.getD w 0) && vlb .f32 (xL.getD w 0) (((w : Int) - 32) * (4096 * T 0))) = true := by decide +kernel
theorem st_lit : ∀ k : Nat, k < 17 → (decide (k = 0) || decide (stW k = stL.getD k 0)) = true := by decide +kernel
def gapB (x st : Nat) : Bool := !fcmp .gtr .f64 (mxF .f64 (fop .sub .f64 (widen (unsc (ftoi .f32 (fop .quo .f32 x st) .i64) st (cz .f32 1056964608))) (widen x)) (fop .sub .f64 (widen x) (widen (unsc (ftoi .f32 (fop .quo .f32 x st) .i64) st (cz .f32 1056964608))))) (fop .mul .f64 (widen st) (cz .f64 4607186922399644778))
theorem gap_t0 : ∀ w : Nat, w < 5 → ∀ k : Nat, k < 17 → (decide (k = 0) || gapB (xL.getD (w + 0) 0) (stL.getD k 0)) = true := by decide +kernel
theorem gap_t1 : ∀ w : Nat, w < 5 → ∀ k : Nat, k < 17 → (decide (k = 0) || gapB (xL.getD (w + 5) 0) (stL.getD k 0)) = true := by decide +kernel
theorem gap_t2 : ∀ w : Nat, w < 5 → ∀ k : Nat, k < 17 → (decide (k = 0) || gapB (xL.getD (w + 10) 0) (stL.getD k 0)) = true := by decide +kernel
theorem gap_t3 : ∀ w : Nat, w < 5 → ∀ k : Nat, k < 17 → (decide (k = 0) || gapB (xL.getD (w + 15) 0) (stL.getD k 0)) = true := by decide +kernel
theorem gap_t4 : ∀ w : Nat, w < 5 → ∀ k : Nat, k < 17 → (decide (k = 0) || gapB (xL.getD (w + 20) 0) (stL.getD k 0)) = true := by decide +kernel
theorem gap_t5 : ∀ w : Nat, w < 5 → ∀ k : Nat, k < 17 → (decide (k = 0) || gapB (xL.getD (w + 25) 0) (stL.getD k 0)) = true := by decide +kernel
theorem gap_t6 : ∀ w : Nat, w < 5 → ∀ k : Nat, k < 17 → (decide (k = 0) || gapB (xL.getD (w + 30) 0) (stL.getD k 0)) = true := by decide +kernel
theorem gap_t7 : ∀ w : Nat, w < 5 → ∀ k : Nat, k < 17 → (decide (k = 0) || gapB (xL.getD (w + 35) 0) (stL.getD k 0)) = true := by decide +kernel
theorem gap_t8 : ∀ w : Nat, w < 5 → ∀ k : Nat, k < 17 → (decide (k = 0) || gapB (xL.getD (w + 40) 0) (stL.getD k 0)) = true := by decide +kernel
theorem gap_t9 : ∀ w : Nat, w < 5 → ∀ k : Nat, k < 17 → (decide (k = 0) || gapB (xL.getD (w + 45) 0) (stL.getD k 0)) = true := by decide +kernel
theorem gap_t10 : ∀ w : Nat, w < 5 → ∀ k : Nat, k < 17 → (decide (k = 0) || gapB (xL.getD (w + 50) 0) (stL.getD k 0)) = true := by decide +kernel
theorem gap_t11 : ∀ w : Nat, w < 5 → ∀ k : Nat, k < 17 → (decide (k = 0) || gapB (xL.getD (w + 55) 0) (stL.getD k 0)) = true := by decide +kernel
theorem gap_t12 : ∀ w : Nat, w < 5 → ∀ k : Nat, k < 17 → (decide (k = 0) || gapB (xL.getD (w + 60) 0) (stL.getD k 0)) = true := by decide +kernel
theorem gap_tab {w k : Nat} (hw : w < 65) (hk : 1 ≤ k ∧ k ≤ 16) : gapB (xL.getD w 0) (stL.getD k 0) = true := by
  by_cases c0 : w < 5
  · have h := gap_t0 (w - 0) (by omega) k (by omega)
    rw [decide_eq_false (by omega), Bool.false_or, show w - 0 + 0 = w by omega] at h
    exact h
  by_cases c1 : w < 10
  · have h := gap_t1 (w - 5) (by omega) k (by omega)
    rw [decide_eq_false (by omega), Bool.false_or, show w - 5 + 5 = w by omega] at h
    exact h
  by_cases c2 : w < 15
  · have h := gap_t2 (w - 10) (by omega) k (by omega)
    rw [decide_eq_false (by omega), Bool.false_or, show w - 10 + 10 = w by omega] at h
    exact h
  by_cases c3 : w < 20
  · have h := gap_t3 (w - 15) (by omega) k (by omega)
    rw [decide_eq_false (by omega), Bool.false_or, show w - 15 + 15 = w by omega] at h
    exact h
  by_cases c4 : w < 25
  · have h := gap_t4 (w - 20) (by omega) k (by omega)
    rw [decide_eq_false (by omega), Bool.false_or, show w - 20 + 20 = w by omega] at h
    exact h
  by_cases c5 : w < 30
  · have h := gap_t5 (w - 25) (by omega) k (by omega)
    rw [decide_eq_false (by omega), Bool.false_or, show w - 25 + 25 = w by omega] at h
    exact h
  by_cases c6 : w < 35
  · have h := gap_t6 (w - 30) (by omega) k (by omega)
    rw [decide_eq_false (by omega), Bool.false_or, show w - 30 + 30 = w by omega] at h
    exact h
  by_cases c7 : w < 40
  · have h := gap_t7 (w - 35) (by omega) k (by omega)
    rw [decide_eq_false (by omega), Bool.false_or, show w - 35 + 35 = w by omega] at h
    exact h
  by_cases c8 : w < 45
  · have h := gap_t8 (w - 40) (by omega) k (by omega)
    rw [decide_eq_false (by omega), Bool.false_or, show w - 40 + 40 = w by omega] at h
    exact h
  by_cases c9 : w < 50
  · have h := gap_t9 (w - 45) (by omega) k (by omega)
    rw [decide_eq_false (by omega), Bool.false_or, show w - 45 + 45 = w by omega] at h
    exact h
  by_cases c10 : w < 55
  · have h := gap_t10 (w - 50) (by omega) k (by omega)
    rw [decide_eq_false (by omega), Bool.false_or, show w - 50 + 50 = w by omega] at h
    exact h
  by_cases c11 : w < 60
  · have h := gap_t11 (w - 55) (by omega) k (by omega)
    rw [decide_eq_false (by omega), Bool.false_or, show w - 55 + 55 = w by omega] at h
    exact h
  by_cases c12 : w < 65
  · have h := gap_t12 (w - 60) (by omega) k (by omega)
    rw [decide_eq_false (by omega), Bool.false_or, show w - 60 + 60 = w by omega] at h
    exact h
  omega
def yW (q : Nat) : Nat := fop .quo .f32 (itof .f32 (q : Int)) (cz .f32 1082130432)
def yL : List Nat := [0, 1048576000, 1056964608, 1061158912, 1065353216, 1067450368, 1069547520, 1071644672, 1073741824, 1074790400, 1075838976, 1076887552, 1077936128, 1078984704, 1080033280, 1081081856, 1082130432, 1082654720, 1083179008, 1083703296, 1084227584, 1084751872, 1085276160, 1085800448, 1086324736, 1086849024, 1087373312, 1087897600, 1088421888, 1088946176, 1089470464, 1089994752, 1090519040]
def yL64 : List Nat := [0, 4598175219545276416, 4602678819172646912, 4604930618986332160, 4607182418800017408, 4608308318706860032, 4609434218613702656, 4610560118520545280, 4611686018427387904, 4612248968380809216, 4612811918334230528, 4613374868287651840, 4613937818241073152, 4614500768194494464, 4615063718147915776, 4615626668101337088, 4616189618054758400, 4616471093031469056, 4616752568008179712, 4617034042984890368, 4617315517961601024, 4617596992938311680, 4617878467915022336, 4618159942891732992, 4618441417868443648, 4618722892845154304, 4619004367821864960, 4619285842798575616, 4619567317775286272, 4619848792751996928, 4620130267728707584, 4620411742705418240, 4620693217682128896]
def sL : List Nat := [3238002688, 3237478400, 3236954112, 3236429824, 3235905536, 3235381248, 3234856960, 3234332672, 3233808384, 3233284096, 3232759808, 3232235520, 3231711232, 3231186944, 3230662656, 3230138368, 3229614080, 3228565504, 3227516928, 3226468352, 3225419776, 3224371200, 3223322624, 3222274048, 3221225472, 3219128320, 3217031168, 3214934016, 3212836864, 3208642560, 3204448256, 3196059648, 0, 1048576000, 1056964608, 1061158912, 1065353216, 1067450368, 1069547520, 1071644672, 1073741824, 1074790400, 1075838976, 1076887552, 1077936128, 1078984704, 1080033280, 1081081856, 1082130432, 1082654720, 1083179008, 1083703296, 1084227584, 1084751872, 1085276160, 1085800448, 1086324736, 1086849024, 1087373312, 1087897600, 1088421888, 1088946176, 1089470464, 1089994752, 1090519040]
def sL64 : List Nat := [13844065254536904704, 13843783779560194048, 13843502304583483392, 13843220829606772736, 13842939354630062080, 13842657879653351424, 13842376404676640768, 13842094929699930112, 13841813454723219456, 13841531979746508800, 13841250504769798144, 13840969029793087488, 13840687554816376832, 13840406079839666176, 13840124604862955520, 13839843129886244864, 13839561654909534208, 13838998704956112896, 13838435755002691584, 13837872805049270272, 13837309855095848960, 13836746905142427648, 13836183955189006336, 13835621005235585024, 13835058055282163712, 13833932155375321088, 13832806255468478464, 13831680355561635840, 13830554455654793216, 13828302655841107968, 13826050856027422720, 13821547256400052224, 0, 4598175219545276416, 4602678819172646912, 4604930618986332160, 4607182418800017408, 4608308318706860032, 4609434218613702656, 4610560118520545280, 4611686018427387904, 4612248968380809216, 4612811918334230528, 4613374868287651840, 4613937818241073152, 4614500768194494464, 4615063718147915776, 4615626668101337088, 4616189618054758400, 4616471093031469056, 4616752568008179712, 4617034042984890368, 4617315517961601024, 4617596992938311680, 4617878467915022336, 4618159942891732992, 4618441417868443648, 4618722892845154304, 4619004367821864960, 4619285842798575616, 4619567317775286272, 4619848792751996928, 4620130267728707584, 4620411742705418240, 4620693217682128896]
def dL : List Nat := [0, 1065353216, 1073741824, 1077936128, 1082130432, 1084227584, 1086324736, 1088421888, 1090519040, 1091567616, 1092616192, 1093664768, 1094713344, 1095761920, 1096810496, 1097859072, 1098907648, 1099431936, 1099956224, 1100480512, 1101004800, 1101529088, 1102053376, 1102577664, 1103101952, 1103626240, 1104150528, 1104674816, 1105199104, 1105723392, 1106247680, 1106771968, 1107296256, 1107558400, 1107820544, 1108082688, 1108344832, 1108606976, 1108869120, 1109131264, 1109393408, 1109655552, 1109917696, 1110179840, 1110441984, 1110704128]
def dL64 : List Nat := [0, 4607182418800017408, 4611686018427387904, 4613937818241073152, 4616189618054758400, 4617315517961601024, 4618441417868443648, 4619567317775286272, 4620693217682128896, 4621256167635550208, 4621819117588971520, 4622382067542392832, 4622945017495814144, 4623507967449235456, 4624070917402656768, 4624633867356078080, 4625196817309499392, 4625478292286210048, 4625759767262920704, 4626041242239631360, 4626322717216342016, 4626604192193052672, 4626885667169763328, 4627167142146473984, 4627448617123184640, 4627730092099895296, 4628011567076605952, 4628293042053316608, 4628574517030027264, 4628855992006737920, 4629137466983448576, 4629418941960159232, 4629700416936869888, 4629841154425225216, 4629981891913580544, 4630122629401935872, 4630263366890291200, 4630404104378646528, 4630544841867001856, 4630685579355357184, 4630826316843712512, 4630967054332067840, 4631107791820423168, 4631248529308778496, 4631389266797133824, 4631530004285489152]
def sW (N : Int) : Nat := sL.getD (N + 32).toNat 0
def s64 (N : Int) : Nat := sL64.getD (N + 32).toNat 0
def q32 (N d : Int) : Nat := fop .quo .f32 (sW N) (dL.getD d.toNat 0)
def q64 (N d : Int) : Nat := fop .quo .f64 (s64 N) (dL64.getD d.toNat 0)
theorem y_lit : ∀ a : Nat, a < 33 → (decide (yW a = yL.getD a 0) && decide (widen (yL.getD a 0) = yL64.getD a 0)) = true := by decide +kernel
theorem d_lit : ∀ d : Nat, d < 46 → (decide (itof .f32 (d : Int) = dL.getD d 0) && decide (itof .f64 (d : Int) = dL64.getD d 0)) = true := by decide +kernel
theorem sub_lit : ∀ a : Nat, a < 33 → ∀ b : Nat, b < 33 → (decide (fop .sub .f32 (yL.getD a 0) (yL.getD b 0) = sL.getD (a + 32 - b) 0) && decide (fop .sub .f64 (yL64.getD a 0) (yL64.getD b 0) = sL64.getD (a + 32 - b) 0)) = true := by decide +kernel
theorem y_tab : ∀ a : Nat, a < 33 → (vlb .f32 (yL.getD a 0) ((a : Int) * (4096 * T 0)) && isLeast (yL.getD a 0)) = true := by decide +kernel
open Ieee in
def val32 (x : Nat) : Option Int := match (FloatKind.f32.format).read x with
  | .number s m e => if (FloatKind.f32.format).leastPlace ≤ e then some (vD (FloatKind.f32.format).leastPlace s m e) else none
  | _ => none
open Ieee in
def val64 (x : Nat) : Option Int := match (FloatKind.f64.format).read x with
  | .number s m e => if (FloatKind.f64.format).leastPlace ≤ e then some (vD (FloatKind.f64.format).leastPlace s m e) else none
  | _ => none
theorem val32_vl {x : Nat} {v : Int} (h : val32 x = some v) : Vl .f32 x v := by
  unfold val32 at h
  split at h
  · rename_i s m e hr
    split at h
    · rename_i hl
      exact ⟨s, m, e, hr, hl, Option.some.inj h⟩
    · cases h
  · cases h
theorem val64_vl {x : Nat} {v : Int} (h : val64 x = some v) : Vl .f64 x v := by
  unfold val64 at h
  split at h
  · rename_i s m e hr
    split at h
    · rename_i hl
      exact ⟨s, m, e, hr, hl, Option.some.inj h⟩
    · cases h
  · cases h
def P74 : Int := ((2 ^ 1074 : Nat) : Int)
def rep64 (z : Int) : Bool := decide (z.natAbs % 2 ^ (z.natAbs.log2 - 52) = 0) && decide (z.natAbs < 2 ^ 1500)
theorem rep64_ok {z : Int} (h : rep64 z = true) : RepZ (FloatKind.f64.format) z ∧ z.natAbs ≤ 2 ^ 1500 := by
  unfold rep64 at h
  rw [Bool.and_eq_true, decide_eq_true_eq, decide_eq_true_eq] at h
  obtain ⟨h1, h2⟩ := h
  have hp : (FloatKind.f64.format).fractionBits = 52 := by decide
  have hx : (FloatKind.f64.format).exponentBits = 11 := by decide
  have hlog : z.natAbs.log2 < 1500 := by
    by_cases c : z.natAbs = 0
    · rw [c]; decide
    · exact (Nat.log2_lt c).2 h2
  refine ⟨⟨z.natAbs / 2 ^ (z.natAbs.log2 - 52), z.natAbs.log2 - 52, ?_, ?_, ?_⟩, Nat.le_of_lt h2⟩
  · rw [hp]
    refine (Nat.div_lt_iff_lt_mul (Nat.two_pow_pos _)).2 (Nat.lt_of_lt_of_le Nat.lt_log2_self ?_)
    rw [← Nat.pow_add]
    exact Nat.pow_le_pow_right (by decide) (by omega)
  · rw [hp, hx]; omega
  · exact (Nat.div_mul_cancel (Nat.dvd_of_mod_eq_zero h1)).symm
def rowB (N d : Int) : Bool := match val32 (q32 N d), val64 (q64 N d) with
  | some v, some w => decide (-One ≤ 8192 * (v * (4 * d) - N * One)) && (decide (8192 * (v * (4 * d) - N * One) ≤ One) && (decide (N = 0 → v = 0) && (decide (-P74 ≤ 1000000 * (w * (4 * d) - N * P74)) && (decide (1000000 * (w * (4 * d) - N * P74) ≤ P74) && rep64 w))))
  | _, _ => false
theorem row_t0 : ∀ n : Nat, n < 5 → ∀ d : Nat, d < 46 → (decide (d = 0) || rowB ((n : Int) - 32) (d : Int)) = true := by decide +kernel
theorem row_t1 : ∀ n : Nat, n < 5 → ∀ d : Nat, d < 46 → (decide (d = 0) || rowB ((n : Int) - 27) (d : Int)) = true := by decide +kernel
theorem row_t2 : ∀ n : Nat, n < 5 → ∀ d : Nat, d < 46 → (decide (d = 0) || rowB ((n : Int) - 22) (d : Int)) = true := by decide +kernel
theorem row_t3 : ∀ n : Nat, n < 5 → ∀ d : Nat, d < 46 → (decide (d = 0) || rowB ((n : Int) - 17) (d : Int)) = true := by decide +kernel
theorem row_t4 : ∀ n : Nat, n < 5 → ∀ d : Nat, d < 46 → (decide (d = 0) || rowB ((n : Int) - 12) (d : Int)) = true := by decide +kernel
theorem row_t5 : ∀ n : Nat, n < 5 → ∀ d : Nat, d < 46 → (decide (d = 0) || rowB ((n : Int) - 7) (d : Int)) = true := by decide +kernel
theorem row_t6 : ∀ n : Nat, n < 5 → ∀ d : Nat, d < 46 → (decide (d = 0) || rowB ((n : Int) - 2) (d : Int)) = true := by decide +kernel
theorem row_t7 : ∀ n : Nat, n < 5 → ∀ d : Nat, d < 46 → (decide (d = 0) || rowB ((n : Int) + 3) (d : Int)) = true := by decide +kernel
theorem row_t8 : ∀ n : Nat, n < 5 → ∀ d : Nat, d < 46 → (decide (d = 0) || rowB ((n : Int) + 8) (d : Int)) = true := by decide +kernel
theorem row_t9 : ∀ n : Nat, n < 5 → ∀ d : Nat, d < 46 → (decide (d = 0) || rowB ((n : Int) + 13) (d : Int)) = true := by decide +kernel
theorem row_t10 : ∀ n : Nat, n < 5 → ∀ d : Nat, d < 46 → (decide (d = 0) || rowB ((n : Int) + 18) (d : Int)) = true := by decide +kernel
theorem row_t11 : ∀ n : Nat, n < 5 → ∀ d : Nat, d < 46 → (decide (d = 0) || rowB ((n : Int) + 23) (d : Int)) = true := by decide +kernel
theorem row_t12 : ∀ n : Nat, n < 5 → ∀ d : Nat, d < 46 → (decide (d = 0) || rowB ((n : Int) + 28) (d : Int)) = true := by decide +kernel
theorem row_tab {N : Int} {d : Nat} (h1 : -32 ≤ N ∧ N ≤ 32) (h2 : 1 ≤ d ∧ d ≤ 45) : rowB N (d : Int) = true := by
  by_cases c0 : N < -27
  · have h := row_t0 (N - (-32)).toNat (by omega) d (by omega)
    rw [decide_eq_false (by omega), Bool.false_or, show (((N - (-32)).toNat : Nat) : Int) - 32 = N by omega] at h
    exact h
  by_cases c1 : N < -22
  · have h := row_t1 (N - (-27)).toNat (by omega) d (by omega)
    rw [decide_eq_false (by omega), Bool.false_or, show (((N - (-27)).toNat : Nat) : Int) - 27 = N by omega] at h
    exact h
  by_cases c2 : N < -17
  · have h := row_t2 (N - (-22)).toNat (by omega) d (by omega)
    rw [decide_eq_false (by omega), Bool.false_or, show (((N - (-22)).toNat : Nat) : Int) - 22 = N by omega] at h
    exact h
  by_cases c3 : N < -12
  · have h := row_t3 (N - (-17)).toNat (by omega) d (by omega)
    rw [decide_eq_false (by omega), Bool.false_or, show (((N - (-17)).toNat : Nat) : Int) - 17 = N by omega] at h
    exact h
  by_cases c4 : N < -7
  · have h := row_t4 (N - (-12)).toNat (by omega) d (by omega)
    rw [decide_eq_false (by omega), Bool.false_or, show (((N - (-12)).toNat : Nat) : Int) - 12 = N by omega] at h
    exact h
  by_cases c5 : N < -2
  · have h := row_t5 (N - (-7)).toNat (by omega) d (by omega)
    rw [decide_eq_false (by omega), Bool.false_or, show (((N - (-7)).toNat : Nat) : Int) - 7 = N by omega] at h
    exact h
  by_cases c6 : N < 3
  · have h := row_t6 (N - (-2)).toNat (by omega) d (by omega)
    rw [decide_eq_false (by omega), Bool.false_or, show (((N - (-2)).toNat : Nat) : Int) - 2 = N by omega] at h
    exact h
  by_cases c7 : N < 8
  · have h := row_t7 (N - (3)).toNat (by omega) d (by omega)
    rw [decide_eq_false (by omega), Bool.false_or, show (((N - (3)).toNat : Nat) : Int) + 3 = N by omega] at h
    exact h
  by_cases c8 : N < 13
  · have h := row_t8 (N - (8)).toNat (by omega) d (by omega)
    rw [decide_eq_false (by omega), Bool.false_or, show (((N - (8)).toNat : Nat) : Int) + 8 = N by omega] at h
    exact h
  by_cases c9 : N < 18
  · have h := row_t9 (N - (13)).toNat (by omega) d (by omega)
    rw [decide_eq_false (by omega), Bool.false_or, show (((N - (13)).toNat : Nat) : Int) + 13 = N by omega] at h
    exact h
  by_cases c10 : N < 23
  · have h := row_t10 (N - (18)).toNat (by omega) d (by omega)
    rw [decide_eq_false (by omega), Bool.false_or, show (((N - (18)).toNat : Nat) : Int) + 18 = N by omega] at h
    exact h
  by_cases c11 : N < 28
  · have h := row_t11 (N - (23)).toNat (by omega) d (by omega)
    rw [decide_eq_false (by omega), Bool.false_or, show (((N - (23)).toNat : Nat) : Int) + 23 = N by omega] at h
    exact h
  by_cases c12 : N < 33
  · have h := row_t12 (N - (28)).toNat (by omega) d (by omega)
    rw [decide_eq_false (by omega), Bool.false_or, show (((N - (28)).toNat : Nat) : Int) + 28 = N by omega] at h
    exact h
  omega
structure Row_ (N d : Int) : Prop where
  r : ∃ v w, Vl .f32 (q32 N d) v ∧ Vl .f64 (q64 N d) w ∧ -One ≤ 8192 * (v * (4 * d) - N * One) ∧ 8192 * (v * (4 * d) - N * One) ≤ One ∧ (N = 0 → v = 0) ∧ -P74 ≤ 1000000 * (w * (4 * d) - N * P74) ∧ 1000000 * (w * (4 * d) - N * P74) ≤ P74 ∧ RepZ (FloatKind.f64.format) w ∧ w.natAbs ≤ 2 ^ 1500
theorem row_of {N d : Int} (h1 : -32 ≤ N ∧ N ≤ 32) (h2 : 1 ≤ d ∧ d ≤ 45) : Row_ N d := by
  have h := row_tab (N := N) (d := d.toNat) h1 (by omega)
  rw [show (d.toNat : Int) = d by omega] at h
  unfold rowB at h
  split at h
  · rename_i v w hv hw
    simp only [Bool.and_eq_true, decide_eq_true_eq] at h
    obtain ⟨a1, a2, a3, a4, a5, a6⟩ := h
    have a7 := rep64_ok a6
    exact ⟨v, w, val32_vl hv, val64_vl hw, a1, a2, a3, a4, a5, a7.1, a7.2⟩
  · cases h
theorem vl_uniq {k : FloatKind} {x : Nat} {a b : Int} (h : Vl k x a) (h' : Vl k x b) : a = b := by
  obtain ⟨s, m, e, r, _, v⟩ := h
  obtain ⟨s', m', e', r', _, v'⟩ := h'
  rw [r] at r'
  cases r'
  rw [← v, ← v']
/-- The sign of a quotient. -/
theorem row_sign {N d : Int} (h1 : -32 ≤ N ∧ N ≤ 32) (h2 : 1 ≤ d ∧ d ≤ 45) {v : Int} (hv : Vl .f32 (q32 N d) v) : (0 < v ↔ 0 < N) := by
  have hO : (0 : Int) < One := by decide +kernel
  obtain ⟨v', w, a1, _, a3, a4, a5, _⟩ := (row_of h1 h2).r
  have e : v' = v := by rw [← vl_uniq a1 hv]
  subst e
  constructor
  · intro h
    refine Int.not_le.1 fun c => ?_
    rcases Int.lt_or_eq_of_le c with c | c
    · have g1 := Int.mul_le_mul_of_nonneg_right (show N ≤ -1 by omega) (Int.le_of_lt hO)
      have g2 := Int.mul_nonneg (Int.le_of_lt h) (show (0 : Int) ≤ 4 * d by omega)
      omega
    · have := a5 c; omega
  · intro h
    refine Int.not_le.1 fun c => ?_
    have g1 := Int.mul_le_mul_of_nonneg_right (show 1 ≤ N by omega) (Int.le_of_lt hO)
    have g2 := Int.mul_nonpos_of_nonpos_of_nonneg c (show (0 : Int) ≤ 4 * d by omega)
    omega
/-- The order of quotients in single precision is their order in double precision, nearly. -/
theorem row_order {N d M e : Int} (h1 : -32 ≤ N ∧ N ≤ 32) (h2 : 1 ≤ d ∧ d ≤ 45) (h3 : -32 ≤ M ∧ M ≤ 32) (h4 : 1 ≤ e ∧ e ≤ 45) {v u : Int} (hv : Vl .f32 (q32 N d) v) (hu : Vl .f32 (q32 M e) u) (hvu : v ≤ u) : fcmp .gtr .f64 (q64 N d) (fop .add .f64 (q64 M e) (cz .f64 4547007122018943789)) = false := by
  have hO : (0 : Int) < One := by decide +kernel
  have hP : (0 : Int) < P74 := by decide +kernel
  obtain ⟨v', w, a1, a2, a3, a4, _, a6, a7, a8, a9⟩ := (row_of h1 h2).r
  obtain ⟨u', x, b1, b2, b3, b4, _, b6, b7, b8, b9⟩ := (row_of h3 h4).r
  obtain rfl : v' = v := vl_uniq a1 hv
  obtain rfl : u' = u := vl_uniq b1 hu
  -- exactly, by the integers
  have hNM : N * e ≤ M * d := by
    have g1 := Int.mul_le_mul_of_nonneg_right a3 (show (0 : Int) ≤ e by omega)
    have g2 := Int.mul_le_mul_of_nonneg_right b4 (show (0 : Int) ≤ d by omega)
    have g3 := Int.mul_le_mul_of_nonneg_right hvu (show (0 : Int) ≤ 4 * d * e from Int.mul_nonneg (by omega) (by omega))
    have e1 : 8192 * (v' * (4 * d) - N * One) * e = 8192 * (v' * (4 * d * e)) - 8192 * (N * e * One) := by
      rw [Int.mul_assoc, Int.sub_mul, Int.mul_sub, Int.mul_assoc v', Int.mul_assoc N One e, Int.mul_comm One e, ← Int.mul_assoc N e]
    have e2 : 8192 * (u' * (4 * e) - M * One) * d = 8192 * (u' * (4 * d * e)) - 8192 * (M * d * One) := by
      rw [Int.mul_assoc, Int.sub_mul, Int.mul_sub, Int.mul_assoc u', Int.mul_assoc M One d, Int.mul_comm One d, ← Int.mul_assoc M d, Int.mul_assoc 4 e d, Int.mul_comm e d, ← Int.mul_assoc 4 d e]
    rw [e1, Int.neg_mul] at g1
    rw [e2] at g2
    have k1 : One * e ≤ One * 45 := Int.mul_le_mul_of_nonneg_left h4.2 (Int.le_of_lt hO)
    have k2 : One * d ≤ One * 45 := Int.mul_le_mul_of_nonneg_left h2.2 (Int.le_of_lt hO)
    refine Int.not_lt.1 fun c => ?_
    have k3 := Int.mul_le_mul_of_nonneg_right (show M * d + 1 ≤ N * e by omega) (Int.le_of_lt hO)
    rw [Int.add_mul, Int.one_mul] at k3
    omega
  have hc : Vl .f64 (cz .f64 4547007122018943789) (7378697629483821 * ((2 ^ 1008 : Nat) : Int)) := vl_of (by decide +kernel)
  have hc1 : 99 * P74 ≤ 1000000 * (7378697629483821 * ((2 ^ 1008 : Nat) : Int)) ∧ 7378697629483821 * ((2 ^ 1008 : Nat) : Int) ≤ P74 := by decide +kernel
  generalize 7378697629483821 * ((2 ^ 1008 : Nat) : Int) = c at hc hc1
  have hwx : w ≤ x + c := by
    refine Int.not_lt.1 fun hlt => ?_
    have g1 := Int.mul_le_mul_of_nonneg_right a7 (show (0 : Int) ≤ e by omega)
    have g2 := Int.mul_le_mul_of_nonneg_right b6 (show (0 : Int) ≤ d by omega)
    have e1 : 1000000 * (w * (4 * d) - N * P74) * e = 1000000 * (w * (4 * d * e)) - 1000000 * (N * e * P74) := by
      rw [Int.mul_assoc, Int.sub_mul, Int.mul_sub, Int.mul_assoc w, Int.mul_assoc N P74 e, Int.mul_comm P74 e, ← Int.mul_assoc N e]
    have e2 : 1000000 * (x * (4 * e) - M * P74) * d = 1000000 * (x * (4 * d * e)) - 1000000 * (M * d * P74) := by
      rw [Int.mul_assoc, Int.sub_mul, Int.mul_sub, Int.mul_assoc x, Int.mul_assoc M P74 d, Int.mul_comm P74 d, ← Int.mul_assoc M d, Int.mul_assoc 4 e d, Int.mul_comm e d, ← Int.mul_assoc 4 d e]
    rw [e1] at g1
    rw [e2, Int.neg_mul] at g2
    have k1 : P74 * e ≤ P74 * 45 := Int.mul_le_mul_of_nonneg_left h4.2 (Int.le_of_lt hP)
    have k2 : P74 * d ≤ P74 * 45 := Int.mul_le_mul_of_nonneg_left h2.2 (Int.le_of_lt hP)
    have k3 := Int.mul_le_mul_of_nonneg_right hNM (Int.le_of_lt hP)
    have hde : (1 : Int) ≤ d * e := by
      have := Int.mul_le_mul_of_nonneg_right h2.1 (show (0 : Int) ≤ e by omega)
      omega
    have k4 := Int.mul_le_mul_of_nonneg_right (show c ≤ w - x by omega) (show (0 : Int) ≤ 4 * d * e by rw [Int.mul_assoc]; omega)
    have k5 : c * 4 ≤ c * (4 * d * e) := Int.mul_le_mul_of_nonneg_left (by rw [Int.mul_assoc]; omega) (by omega)
    rw [Int.sub_mul] at k4
    omega
  have hx9 : x ≤ 9 * P74 := by
    refine Int.not_lt.1 fun hlt => ?_
    have k1 := Int.mul_le_mul_of_nonneg_right (show 9 * P74 ≤ x by omega) (show (0 : Int) ≤ 4 * e by omega)
    have k2 : 9 * P74 * 4 ≤ 9 * P74 * (4 * e) := Int.mul_le_mul_of_nonneg_left (by omega) (by omega)
    have k3 := Int.mul_le_mul_of_nonneg_right h3.2 (Int.le_of_lt hP)
    omega
  have hr16 : RepZ (FloatKind.f64.format) (16 * P74) ∧ (16 * P74).natAbs ≤ 2 ^ 1500 := ⟨⟨16, 1074, by decide, by decide, by decide +kernel⟩, by decide +kernel⟩
  obtain ⟨r, r1, r2, _⟩ := iv_add (k := .f64) (A := 1500) fmt2 b2.iv hc.iv a8 hr16.1 hwx (by omega) a9 hr16.2 (by decide)
  rw [vl_gtr a2 r1]
  exact decide_eq_false (by omega)
/-! ### the hull -/
def hIn (f : Nat → Nat) : Nat → Nat → Int → Nat → Int
  | 0, _, nx, _ => nx
  | m + 1, k, nx, bt => if fcmp .gtr .f32 (f k) (cz .f32 0) = true ∧ fcmp .geq .f32 (f k) bt = true then hIn f m (k + 1) (k : Int) (f k) else hIn f m (k + 1) nx bt
def hOut (g : Nat → Int) : Nat → Nat → List Int → List Int
  | 0, _, o => o
  | m + 1, i, o => if g i < 0 then o else hOut g m (g i).toNat (o ++ [g i])
/-- What the inner loop has found. -/
def Found (i k : Nat) (f : Nat → Nat) (V : Nat → Int) (nx : Int) (bt : Nat) : Prop := (nx = -1 ∧ bt = cz .f32 0 ∧ ∀ j, i < j → j < k → V j ≤ 0) ∨ (∃ b : Nat, nx = (b : Int) ∧ i < b ∧ b < k ∧ bt = f b ∧ 0 < V b ∧ ∀ j, i < j → j < k → V j ≤ V b)
theorem hIn_ok {i n : Nat} {f : Nat → Nat} {V : Nat → Int} (hV : ∀ k, i < k → k < n → Vl .f32 (f k) (V k)) : ∀ m k nx bt, k + m = n → i < k → Found i k f V nx bt → ∃ bt', Found i n f V (hIn f m k nx bt) bt'
  | 0, k, nx, bt, hk, _, h => by
    obtain rfl : k = n := by omega
    exact ⟨bt, h⟩
  | m + 1, k, nx, bt, hk, hi, h => by
    have hz : Vl .f32 (cz .f32 0) 0 := vl_of (by decide +kernel)
    have hvk := hV k hi (by omega)
    rw [hIn]
    rw [vl_gtr hvk hz]
    split
    · rename_i c
      refine hIn_ok hV m (k + 1) _ _ (by omega) (by omega) (.inr ⟨k, rfl, hi, by omega, rfl, of_decide_eq_true c.1, fun j h1 h2 => ?_⟩)
      have hpos := of_decide_eq_true c.1
      by_cases e : j = k
      · subst e; exact Int.le_refl _
      · rcases h with ⟨_, _, h3⟩ | ⟨b, _, hb1, hb2, hb3, hb4, h3⟩
        · have := h3 j h1 (by omega); omega
        · have hc := c.2
          rw [hb3, vl_geq hvk (hV b hb1 (by omega))] at hc
          have := of_decide_eq_true hc
          have := h3 j h1 (by omega)
          omega
    · rename_i c
      refine hIn_ok hV m (k + 1) nx bt (by omega) (by omega) ?_
      rcases h with ⟨h1, h2, h3⟩ | ⟨b, hb0, hb1, hb2, hb3, hb4, h3⟩
      · refine .inl ⟨h1, h2, fun j j1 j2 => ?_⟩
        by_cases e : j = k
        · subst e
          rw [h2, vl_geq hvk hz] at c
          refine Int.not_lt.1 fun c2 => c ⟨decide_eq_true c2, decide_eq_true (by omega)⟩
        · exact h3 j j1 (by omega)
      · refine .inr ⟨b, hb0, hb1, by omega, hb3, hb4, fun j j1 j2 => ?_⟩
        by_cases e : j = k
        · subst e
          rw [hb3, vl_geq hvk (hV b hb1 (by omega))] at c
          refine Int.not_lt.1 fun c2 => c ⟨decide_eq_true (by omega), decide_eq_true (by omega)⟩
        · exact h3 j j1 (by omega)
structure HullP (n : Nat) (V : Nat → Nat → Int) (h : List Int) : Prop where
  a : 1 ≤ h.length ∧ h.getD 0 0 = 0
  b : ∀ k, k < h.length → 0 ≤ h.getD k 0 ∧ h.getD k 0 < (n : Int)
  c : ∀ k, k + 1 < h.length → (h.getD k 0).toNat < (h.getD (k + 1) 0).toNat ∧ 0 < V (h.getD k 0).toNat (h.getD (k + 1) 0).toNat ∧ ∀ j, (h.getD k 0).toNat < j → j < n → V (h.getD k 0).toNat j ≤ V (h.getD k 0).toNat (h.getD (k + 1) 0).toNat
theorem gi1 {a b : List Int} {j : Nat} (h : j < a.length) : (a ++ b).getD j 0 = a.getD j 0 := by
  rw [gD (by rw [List.length_append]; omega), List.getElem_append_left h, gD h]
theorem gi2 {a : List Int} {x : Int} : (a ++ [x]).getD a.length 0 = x := by
  rw [gD (by rw [List.length_append, len1]; omega), List.getElem_append_right (Nat.le_refl _)]; simp
theorem hOut_ok {n : Nat} {V : Nat → Nat → Int} {g : Nat → Int} (hg : ∀ i, i < n → (g i = -1 ∧ ∀ j, i < j → j < n → V i j ≤ 0) ∨ (∃ b : Nat, g i = (b : Int) ∧ i < b ∧ b < n ∧ 0 < V i b ∧ ∀ j, i < j → j < n → V i j ≤ V i b)) : ∀ m i o, i < n → n ≤ i + m → HullP n V o → o.getD (o.length - 1) 0 = (i : Int) → HullP n V (hOut g m i o) ∧ (∀ j, ((hOut g m i o).getD ((hOut g m i o).length - 1) 0).toNat < j → j < n → V ((hOut g m i o).getD ((hOut g m i o).length - 1) 0).toNat j ≤ 0) ∧ (hOut g m i o).length ≤ o.length + m
  | 0, i, o, hi, hm, _, _ => by omega
  | m + 1, i, o, hi, hm, h, hl => by
    rw [hOut]
    rcases hg i hi with ⟨h1, h2⟩ | ⟨b, h1, h2, h3, h4, h5⟩
    · rw [if_pos (by omega)]
      refine ⟨h, fun j j1 j2 => ?_, by omega⟩
      rw [hl] at j1 ⊢
      exact h2 j j1 j2
    · rw [if_neg (by omega), h1, nn]
      have hol := h.a.1
      have hlen : (o ++ [(b : Int)]).length = o.length + 1 := by rw [List.length_append, len1]
      have := hOut_ok hg m b (o ++ [(b : Int)]) h3 (by omega) ⟨⟨by omega, by rw [gi1 (by omega)]; exact h.a.2⟩, fun k hk => ?_, fun k hk => ?_⟩ (by rw [hlen, Nat.add_sub_cancel, gi2])
      · rw [hlen] at this
        exact ⟨this.1, this.2.1, by omega⟩
      · by_cases e : k < o.length
        · rw [gi1 e]; exact h.b k e
        · rw [show k = o.length by omega, gi2]; omega
      · by_cases e : k + 1 < o.length
        · rw [gi1 (by omega), gi1 e]; exact h.c k e
        · have ek : k = o.length - 1 := by omega
          have hk0 : (o ++ [(b : Int)]).getD k 0 = (i : Int) := by rw [gi1 (by omega), ek, hl]
          have hk1 : (o ++ [(b : Int)]).getD (k + 1) 0 = (b : Int) := by rw [show k + 1 = o.length by omega, gi2]
          rw [hk0, hk1, nn, nn]
          exact ⟨h2, h4, h5⟩
/-! ### tables -/
structure Tab (bx : List Int) (my : List Nat) (qs : List Nat) : Prop where
  n : 1 ≤ bx.length ∧ bx.length ≤ 8
  m : my.length = bx.length
  q : ∀ i, i < bx.length → qs.getD i 0 < 33 ∧ my.getD i 0 = yL.getD (qs.getD i 0) 0
  x : ∀ i, i < bx.length → 0 ≤ bx.getD i 0 ∧ bx.getD i 0 ≤ 45
  d : ∀ i j, i < j → j < bx.length → bx.getD i 0 < bx.getD j 0
def qN (qs : List Nat) (i k : Nat) : Int := (qs.getD i 0 : Int) - (qs.getD k 0 : Int)
def qD (bx : List Int) (i k : Nat) : Int := bx.getD k 0 - bx.getD i 0
def qk (bx : List Int) (qs : List Nat) (i k : Nat) : Nat := q32 (qN qs i k) (qD bx i k)
theorem sub_is {a b : Nat} (ha : a < 33) (hb : b < 33) : fop .sub .f32 (yL.getD a 0) (yL.getD b 0) = sW ((a : Int) - (b : Int)) ∧ fop .sub .f64 (widen (yL.getD a 0)) (widen (yL.getD b 0)) = s64 ((a : Int) - (b : Int)) := by
  have h := sub_lit a ha b hb
  have h1 := y_lit a ha
  have h2 := y_lit b hb
  rw [Bool.and_eq_true, decide_eq_true_eq, decide_eq_true_eq] at h h1 h2
  have e : ((a : Int) - (b : Int) + 32).toNat = a + 32 - b := by omega
  unfold sW s64
  rw [e, h1.2, h2.2]
  exact h
theorem d_is {d : Int} (h : 1 ≤ d ∧ d ≤ 45) : itof .f32 d = dL.getD d.toNat 0 ∧ itof .f64 d = dL64.getD d.toNat 0 := by
  have h1 := d_lit d.toNat (by omega)
  rw [show (d.toNat : Int) = d by omega, Bool.and_eq_true, decide_eq_true_eq, decide_eq_true_eq] at h1
  exact h1
theorem Tab.rng {bx : List Int} {my qs : List Nat} (h : Tab bx my qs) {i k : Nat} (hi : i < k) (hk : k < bx.length) : (-32 ≤ qN qs i k ∧ qN qs i k ≤ 32) ∧ (1 ≤ qD bx i k ∧ qD bx i k ≤ 45) := by
  have a1 := (h.q i (by omega)).1
  have a2 := (h.q k hk).1
  have a3 := h.x i (by omega)
  have a4 := h.x k hk
  have a5 := h.d i k hi hk
  unfold qN qD
  omega
theorem Tab.wq {bx : List Int} {my qs : List Nat} (h : Tab bx my qs) {i k : Nat} (hi : i < k) (hk : k < bx.length) : fop .quo .f32 (fop .sub .f32 (my.getD i 0) (my.getD k 0)) (itof .f32 (IntKind.i64.wrap (bx.getD k 0 - bx.getD i 0))) = qk bx qs i k := by
  obtain ⟨a1, b1⟩ := h.q i (by omega)
  obtain ⟨a2, b2⟩ := h.q k hk
  have r := h.rng hi hk
  have hd : 1 ≤ bx.getD k 0 - bx.getD i 0 ∧ bx.getD k 0 - bx.getD i 0 ≤ 45 := r.2
  rw [wI (by omega), b1, b2, (sub_is a1 a2).1, (d_is hd).1]
  rfl
theorem Tab.wq64 {bx : List Int} {my qs : List Nat} (h : Tab bx my qs) {i k : Nat} (hi : i < k) (hk : k < bx.length) : fop .quo .f64 (fop .sub .f64 (widen (my.getD i 0)) (widen (my.getD k 0))) (itof .f64 (IntKind.i64.wrap (bx.getD k 0 - bx.getD i 0))) = q64 (qN qs i k) (qD bx i k) := by
  obtain ⟨a1, b1⟩ := h.q i (by omega)
  obtain ⟨a2, b2⟩ := h.q k hk
  have r := h.rng hi hk
  have hd : 1 ≤ bx.getD k 0 - bx.getD i 0 ∧ bx.getD k 0 - bx.getD i 0 ≤ 45 := r.2
  rw [wI (by omega), b1, b2, (sub_is a1 a2).2, (d_is hd).2]
  rfl
def vq (bx : List Int) (qs : List Nat) (i k : Nat) : Int := (val32 (qk bx qs i k)).getD 0
theorem val32_of {x : Nat} {v : Int} (h : Vl .f32 x v) : val32 x = some v := by
  obtain ⟨s, m, e, r, l, rfl⟩ := h
  unfold val32
  rw [r]
  exact if_pos l
theorem Tab.num {bx : List Int} {my qs : List Nat} (h : Tab bx my qs) {i k : Nat} (hi : i < k) (hk : k < bx.length) : Vl .f32 (qk bx qs i k) (vq bx qs i k) := by
  have r := h.rng hi hk
  obtain ⟨v, w, a1, _⟩ := (row_of r.1 r.2).r
  have : vq bx qs i k = v := by
    unfold vq
    rw [val32_of (show Vl .f32 (qk bx qs i k) v from a1)]; rfl
  rw [this]; exact a1
def hullG (bx : List Int) (qs : List Nat) (i : Nat) : Int := hIn (qk bx qs i) (bx.length - (i + 1)) (i + 1) (-1) (cz .f32 0)
def hullL (bx : List Int) (qs : List Nat) : List Int := hOut (hullG bx qs) bx.length 0 [0]
theorem Tab.hull {bx : List Int} {my qs : List Nat} (h : Tab bx my qs) : HullP bx.length (vq bx qs) (hullL bx qs) ∧ (∀ j, ((hullL bx qs).getD ((hullL bx qs).length - 1) 0).toNat < j → j < bx.length → vq bx qs ((hullL bx qs).getD ((hullL bx qs).length - 1) 0).toNat j ≤ 0) ∧ (hullL bx qs).length ≤ 9 := by
  have hn := h.n
  have := hOut_ok (n := bx.length) (V := vq bx qs) (g := hullG bx qs) (fun i hi => by
    obtain ⟨bt, hf⟩ := hIn_ok (i := i) (n := bx.length) (f := qk bx qs i) (V := vq bx qs i) (fun k h1 h2 => h.num h1 h2) (bx.length - (i + 1)) (i + 1) (-1) (cz .f32 0) (by omega) (by omega) (.inl ⟨rfl, rfl, fun j j1 j2 => by omega⟩)
    rcases hf with ⟨h1, _, h3⟩ | ⟨b, h1, h2, h3, _, h5, h6⟩
    · exact .inl ⟨h1, h3⟩
    · exact .inr ⟨b, h1, h2, h3, h5, h6⟩) bx.length 0 [0] (by omega) (by omega) ⟨⟨by simp, rfl⟩, fun k hk => (by
      have : k = 0 := by rw [len1] at hk; omega
      subst this
      show 0 ≤ (0 : Int) ∧ (0 : Int) < _
      omega), fun k hk => by rw [len1] at hk; omega⟩ rfl
  exact ⟨this.1, this.2.1, by have := this.2.2; rw [len1] at this; unfold hullL; omega⟩
theorem impl_HullOf_wp {bx : List Int} {my qs : List Nat} (h : Tab bx my qs) {K : List Int → Bool → Prop} (hK : K (hullL bx qs) true) : impl_HullOf.wp bx my K := by
  have hn := h.n
  have hm := h.m
  refine impl_within_wp (tE (decide_eq_true (by omega)) (tP (by omega) fun X hX => ?_))
  refine up (Y := fun i => X (i : Int)) bx.length (hX _ ⟨fun c => absurd c (by omega), fun _ => ?_⟩) fun i hi hx => hX _ ⟨fun _ => ⟨⟨by omega, by omega⟩, ?_⟩, fun c => absurd (show (i : Int) < bx.length by omega) c⟩
  rotate_left
  · obtain ⟨a1, b1⟩ := h.q i hi
    have a3 := h.x i hi
    have hy := y_tab _ a1
    rw [Bool.and_eq_true] at hy
    rw [nn, w1 (by omega)]
    refine tN (by omega) ⟨fun c => ?_, fun c => ?_⟩
    · have a5 := h.d (i - 1) i (by omega) hi
      rw [show IntKind.i64.wrap ((i : Int) - 1) = ((i - 1 : Nat) : Int) by rw [wI (by omega)]; omega, nn]
      refine ⟨⟨by omega, by omega⟩, tN (by omega) ⟨⟨by omega, by omega⟩, impl_isLeast_wp ?_⟩⟩
      rw [b1, hy.2]; exact tT hx
    · refine ⟨⟨by omega, by omega⟩, impl_isLeast_wp ?_⟩
      rw [b1, hy.2]; exact tT hx
  intro Y hY
  have key : ∀ m i o, i < bx.length → bx.length ≤ i + m → o.length ≤ i + 1 → K (hOut (hullG bx qs) m i o) true → Y o (i : Int) := by
    intro m
    induction m with
    | zero => intro i o h1 h2; omega
    | succ m ih =>
      intro i o h1 h2 h3 hk
      refine hY _ _ fun Z hZ => ?_
      rw [hOut] at hk
      have inner : ∀ q k nx bt, k + q = bx.length → i < k → hIn (qk bx qs i) q k nx bt = hullG bx qs i → (nx = -1 ∨ (∃ b : Nat, nx = (b : Int) ∧ i < b ∧ b < k)) → Z nx bt (k : Int) := by
        intro q
        induction q with
        | zero =>
          intro k nx bt k1 k2 k3 k4
          rw [hIn] at k3
          refine hZ _ _ _ ⟨fun c => absurd c (by omega), fun _ => ?_⟩
          rw [← k3] at hk
          rcases k4 with rfl | ⟨b, rfl, b1, b2⟩
          · rw [if_pos (by decide)] at hk
            exact tP (by decide) hk
          · rw [if_neg (by omega), nn] at hk
            refine tN (by omega) ⟨by rw [len1]; omega, ?_⟩
            exact ih b _ (by omega) (by omega) (by rw [List.length_append, len1]; omega) hk
        | succ q ihq =>
          intro k nx bt k1 k2 k3 k4
          rw [hIn] at k3
          have hw := h.wq (i := i) (k := k) k2 (by omega)
          refine hZ _ _ _ ⟨fun _ => ⟨⟨by omega, by omega⟩, ⟨by omega, by omega⟩, ⟨by omega, by omega⟩, ⟨by omega, by omega⟩, ?_⟩, fun c => absurd (show (k : Int) < bx.length by omega) c⟩
          rw [nn, nn, hw, w1 (by omega)]
          refine ⟨fun c => ⟨fun c2 => ?_, fun c2 => ?_⟩, fun c => ?_⟩
          · rw [if_pos ⟨c, c2⟩] at k3
            exact ihq (k + 1) _ _ (by omega) (by omega) k3 (.inr ⟨k, rfl, k2, by omega⟩)
          · rw [if_neg (fun x => by rw [c2] at x; exact Bool.false_ne_true x.2)] at k3
            exact ihq (k + 1) _ _ (by omega) (by omega) k3 (k4.elim .inl fun ⟨b, e, b1, b2⟩ => .inr ⟨b, e, b1, by omega⟩)
          · rw [if_neg (fun x => by rw [c] at x; exact Bool.false_ne_true x.1)] at k3
            exact ihq (k + 1) _ _ (by omega) (by omega) k3 (k4.elim .inl fun ⟨b, e, b1, b2⟩ => .inr ⟨b, e, b1, by omega⟩)
      have := inner (bx.length - (i + 1)) (i + 1) (-1) (cz .f32 0) (by omega) (by omega) rfl (.inl rfl)
      rw [w1 (by omega)]; exact this
  exact key bx.length 0 [0] (by omega) (by omega) (by simp) hK
theorem impl_LastOfHull_wp {bx : List Int} {my qs : List Nat} (h : Tab bx my qs) {K : Int → Bool → Prop} (hK : K ((hullL bx qs).getD ((hullL bx qs).length - 1) 0) true) : impl_LastOfHull.wp bx my K := by
  have hh := h.hull
  have h1 := hh.1.a.1
  have h2 := hh.2.2
  have hw : IntKind.i64.wrap (((hullL bx qs).length : Int) - 1) = (((hullL bx qs).length - 1 : Nat) : Int) := by rw [wI (by omega)]; omega
  refine impl_HullOf_wp h (tT ?_)
  rw [hw, nn]
  exact ⟨⟨by omega, by omega⟩, hK⟩
end Go.Proofs.Ytfhlhgnipmgfdaa.G
