/-
  What the formulas say, over numbers and lists alone. Nothing here is trusted.
-/
import Derived.Test.YtplfnchoooehgaaMTreesWa
namespace Go.Proofs.Ytplfnchoooehgaa.G
open Go Go.Ab
set_option maxRecDepth 100000
set_option linter.unusedVariables false
set_option linter.unusedSimpArgs false
set_option maxHeartbeats 1000000
/-! ### truth -/
theorem tT {A B : Prop} (h : A) : (true = true → A) ∧ (true = false → B) := ⟨fun _ => h, fun c => (by cases c)⟩
theorem tF {A B : Prop} (h : B) : (false = true → A) ∧ (false = false → B) := ⟨fun c => (by cases c), fun _ => h⟩
theorem tB {A B : Prop} {b : Bool} (h : A) : ((b == b) = true → A) ∧ ((b == b) = false → B) := ⟨fun _ => h, fun c => (by simp at c)⟩
theorem tE {A B : Prop} {b : Bool} (e : b = true) (h : A) : (b = true → A) ∧ (b = false → B) := ⟨fun _ => h, fun c => (by rw [e] at c; cases c)⟩
theorem tG {A B : Prop} {b : Bool} (e : b = false) (h : B) : (b = true → A) ∧ (b = false → B) := ⟨fun c => (by rw [e] at c; cases c), fun _ => h⟩
theorem tP {p A B : Prop} (e : p) (h : A) : (p → A) ∧ (¬p → B) := ⟨fun _ => h, fun c => absurd e c⟩
theorem tN {p A B : Prop} (e : ¬p) (h : B) : (p → A) ∧ (¬p → B) := ⟨fun c => absurd c e, fun _ => h⟩
theorem tI {b : Bool} {K : Bool → Prop} {A B : Prop} (h1 : b = true → A) (h2 : b = false → B) : (b = true → A) ∧ (b = false → B) := ⟨h1, h2⟩
/-! ### loops -/
theorem up {Y : Nat → Prop} (n : Nat) (last : Y n) (step : ∀ i, i < n → Y (i + 1) → Y i) : Y 0 := by
  have key : ∀ d i, i + d = n → Y i := by
    intro d
    induction d with
    | zero => intro i h; obtain rfl : i = n := by omega
              exact last
    | succ d ih => intro i h; exact step i (by omega) (ih (i + 1) (by omega))
  exact key n 0 (by omega)
theorem upFrom {Y : Nat → Prop} (k n : Nat) (hk : k ≤ n) (last : Y n) (step : ∀ i, k ≤ i → i < n → Y (i + 1) → Y i) : Y k := by
  have key : ∀ d i, k ≤ i → i + d = n → Y i := by
    intro d
    induction d with
    | zero => intro i _ h; obtain rfl : i = n := by omega
              exact last
    | succ d ih => intro i h0 h; exact step i h0 (by omega) (ih (i + 1) (by omega) (by omega))
  exact key (n - k) k (Nat.le_refl _) (by omega)
theorem w1 {i : Nat} (h : i < 4611686018427387904) : IntKind.i64.wrap ((i : Int) + (1 : Int)) = ((i + 1 : Nat) : Int) := wrap_succ (by omega)
theorem wI {n : Int} (h : -9223372036854775808 ≤ n ∧ n < 9223372036854775808) : IntKind.i64.wrap n = n := wrap_i64 h.1 h.2
theorem nn (i : Nat) : ((i : Int)).toNat = i := rfl
theorem gD {α : Type} {l : List α} {i : Nat} (h : i < l.length) (d : α) : l.getD i d = l[i] := by rw [List.getD_eq_getElem?_getD, List.getElem?_eq_getElem h]; rfl
theorem dropC {α : Type} {l : List α} {i : Nat} (h : i < l.length) : l.drop i = l[i] :: l.drop (i + 1) := List.drop_eq_getElem_cons h
theorem len1 {α : Type} (a : α) : ([a] : List α).length = 1 := rfl
theorem cz32 (n : Nat) (h : (FloatKind.f32.decode n).isNaN = false) : cz .f32 n = n := by simp [cz, h]
theorem c0_32 : cz .f32 0 = 0 := cz_zero32
theorem c0_64 : cz .f64 0 = 0 := cz_zero64
/-! ### copies, comparisons, marks -/
theorem toInt64S_wp {l : List Int} {K : List Int → Prop} (hl : l.length ≤ 2 ^ 20) (h : K l) : laws_toInt64S.wp l K := by
  refine ⟨⟨by omega, by omega, by omega, by omega⟩, fun X hX => ?_⟩
  have key : X (l.take 0 ++ List.replicate (l.length - 0) (0 : Int)) ((0 : Nat) : Int) := by
    refine up (Y := fun i => X (l.take i ++ List.replicate (l.length - i) (0 : Int)) (i : Int)) l.length ?_ fun i hi hn => ?_
    · refine hX _ _ ⟨fun c => absurd c (by omega), fun _ => ?_⟩
      rw [List.take_length, Nat.sub_self, List.replicate_zero, List.append_nil]; exact h
    · refine hX _ _ ⟨fun _ => ⟨⟨by omega, by omega⟩, ⟨by omega, ?_⟩, ?_⟩, fun c => absurd (show (i : Int) < l.length by omega) c⟩
      · rw [List.length_append, List.length_take, List.length_replicate]; omega
      · rw [nn, w1 (by omega), gD hi, set_fill (0 : Int) (by omega) hi]
        exact hn
  rw [List.take_zero, List.nil_append, Nat.sub_zero] at key; exact key
theorem toBoolS_wp {l : List Bool} {K : List Bool → Prop} (hl : l.length ≤ 2 ^ 20) (h : K l) : laws_toBoolS.wp l K := by
  refine ⟨⟨by omega, by omega, by omega, by omega⟩, fun X hX => ?_⟩
  have key : X (l.take 0 ++ List.replicate (l.length - 0) false) ((0 : Nat) : Int) := by
    refine up (Y := fun i => X (l.take i ++ List.replicate (l.length - i) false) (i : Int)) l.length ?_ fun i hi hn => ?_
    · refine hX _ _ ⟨fun c => absurd c (by omega), fun _ => ?_⟩
      rw [List.take_length, Nat.sub_self, List.replicate_zero, List.append_nil]; exact h
    · refine hX _ _ ⟨fun _ => ⟨⟨by omega, by omega⟩, ⟨by omega, ?_⟩, ?_⟩, fun c => absurd (show (i : Int) < l.length by omega) c⟩
      · rw [List.length_append, List.length_take, List.length_replicate]; omega
      · rw [nn, w1 (by omega), gD hi, set_fill false (by omega) hi]
        exact hn
  rw [List.take_zero, List.nil_append, Nat.sub_zero] at key; exact key
theorem eqInt64S_wp {l : List Int} {K : Bool → Prop} (hl : l.length ≤ 2 ^ 20) (h : K true) : laws_eqInt64S.wp l l K := by
  refine tP rfl fun X hX => ?_
  refine up (Y := fun i => X (i : Int)) l.length ?_ fun i hi hn => ?_
  · exact hX _ ⟨fun c => absurd c (by omega), fun _ => h⟩
  · refine hX _ ⟨fun _ => ⟨⟨by omega, by omega⟩, ⟨by omega, by omega⟩, tP rfl ?_⟩, fun c => absurd (show (i : Int) < l.length by omega) c⟩
    rw [w1 (by omega)]; exact hn
theorem eqBoolS_wp {l : List Bool} {K : Bool → Prop} (hl : l.length ≤ 2 ^ 20) (h : K true) : laws_eqBoolS.wp l l K := by
  refine tP rfl fun X hX => ?_
  refine up (Y := fun i => X (i : Int)) l.length ?_ fun i hi hn => ?_
  · exact hX _ ⟨fun c => absurd c (by omega), fun _ => h⟩
  · refine hX _ ⟨fun _ => ⟨⟨by omega, by omega⟩, ⟨by omega, by omega⟩, tB ?_⟩, fun c => absurd (show (i : Int) < l.length by omega) c⟩
    rw [w1 (by omega)]; exact hn
theorem markInt64S_wp {l : List Int} {k : Nat} {K : Int → List Int → Prop} (hl : l.length ≤ 2 ^ 20) (hk : k ≤ 2 ^ 40) (h : K ((k + l.length : Nat) : Int) (marksI k l.length)) : laws_markInt64S.wp l (k : Int) K := by
  intro X hX
  have key : X (marksI k 0 ++ l.drop 0) ((k + 0 : Nat) : Int) ((0 : Nat) : Int) := by
    refine up (Y := fun i => X (marksI k i ++ l.drop i) ((k + i : Nat) : Int) (i : Int)) l.length ?_ fun i hi hn => ?_
    · refine hX _ _ _ ⟨fun c => absurd c (by rw [List.length_append, marksI_length, List.length_drop]; omega), fun _ => ?_⟩
      rw [List.drop_length, List.append_nil]; exact h
    · have hlen : (marksI k i ++ l.drop i).length = l.length := by rw [List.length_append, marksI_length, List.length_drop]; omega
      refine hX _ _ _ ⟨fun _ => ⟨⟨by omega, by rw [hlen]; omega⟩, ?_⟩, fun c => absurd (show (i : Int) < _ by rw [hlen]; omega) c⟩
      rw [nn, w1 (by omega), w1 (by omega)]
      have e := marksI_step (l := l) (i := i) (m := l.length - i) k (by omega) hi
      rw [show (k : Int) + (i : Int) = ((k + i : Nat) : Int) by omega] at e
      
      rw [e]; exact hn
  exact key
theorem heldInt64S_wp {k n : Nat} {K : Int → Prop} (hl : n ≤ 2 ^ 20) (hk : k ≤ 2 ^ 40) (h : K ((k + n : Nat) : Int)) : laws_heldInt64S.wp (marksI k n) (k : Int) K := by
  intro X hX
  have hlen : (marksI k n).length = n := marksI_length _ _
  have key : X ((k + 0 : Nat) : Int) ((0 : Nat) : Int) := by
    refine up (Y := fun i => X ((k + i : Nat) : Int) (i : Int)) n ?_ fun i hi hn => ?_
    · exact hX _ _ ⟨fun c => absurd c (by omega), fun _ => h⟩
    · refine hX _ _ ⟨fun _ => ⟨⟨by omega, by omega⟩, ?_⟩, fun c => absurd (show (i : Int) < _ by omega) c⟩
      rw [nn, gD (by omega), marksI_at k n i (by omega), show (k : Int) + (i : Int) = ((k + i : Nat) : Int) by omega]
      refine tP rfl ?_
      rw [w1 (by omega), w1 (by omega)]; exact hn
  exact key

end Go.Proofs.Ytplfnchoooehgaa.G

namespace Go.Proofs.Ytplfnchoooehgaa.G
open Go Go.Ab
set_option maxRecDepth 100000
set_option linter.unusedVariables false
set_option linter.unusedSimpArgs false
set_option maxHeartbeats 1000000
def pFin (x : Nat) : Bool := fcmp .eql .f32 (fop .sub .f32 x x) (cz .f32 0)
def pAll (l : List Nat) : Bool := l.all pFin
theorem pAll_cons (x : Nat) (l : List Nat) : pAll (x :: l) = (pFin x && pAll l) := rfl
/-- A loop that ends early where something does not hold. -/
theorem all_loop {α : Type} (l : List α) (p : α → Bool) {X : Int → Prop} {T F : Prop} (hX : ∀ (i : Nat) (h : i < l.length), ((p l[i] = true → X ((i + 1 : Nat) : Int)) ∧ (p l[i] = false → F)) → X (i : Int))
    (hend : T → X (l.length : Int)) (ht : l.all p = true → T) (hf : l.all p = false → F) : X (0 : Int) := by
  have key := up (Y := fun i => ((l.drop i).all p = true → T) → ((l.drop i).all p = false → F) → X (i : Int)) l.length (fun h _ => hend (h (by rw [List.drop_length]; rfl))) fun i hi hn h1 h2 => ?_
  · exact key (by rw [List.drop_zero]; exact ht) (by rw [List.drop_zero]; exact hf)
  · rw [dropC hi, List.all_cons] at h1 h2
    refine hX i hi ⟨fun e => hn (fun a => h1 (by rw [e, a]; rfl)) (fun a => h2 (by rw [e, a]; rfl)), fun e => h2 (by rw [e]; rfl)⟩
/-- A loop that makes a list, and ends early where something does not hold. -/
theorem map_loop {α β : Type} (l : List α) (p : α → Bool) (f : α → β) {X : List β → Int → Prop} {T F : Prop} (hX : ∀ (i : Nat) (h : i < l.length) (o : List β), o.length = i → ((p l[i] = true → X (o ++ [f l[i]]) ((i + 1 : Nat) : Int)) ∧ (p l[i] = false → F)) → X o (i : Int))
    (hend : T → X (l.map f) (l.length : Int)) (ht : l.all p = true → T) (hf : l.all p = false → F) : X [] (0 : Int) := by
  have key := up (Y := fun i => ((l.drop i).all p = true → T) → ((l.drop i).all p = false → F) → X ((l.take i).map f) (i : Int)) l.length (fun h _ => by rw [List.take_length]; exact hend (h (by rw [List.drop_length]; rfl))) fun i hi hn h1 h2 => ?_
  · have := key (by rw [List.drop_zero]; exact ht) (by rw [List.drop_zero]; exact hf)
    rw [List.take_zero] at this; exact this
  · rw [dropC hi, List.all_cons] at h1 h2
    refine hX i hi _ (by rw [List.length_map, List.length_take]; omega) ⟨fun e => ?_, fun e => h2 (by rw [e]; rfl)⟩
    have := hn (fun a => h1 (by rw [e, a]; rfl)) (fun a => h2 (by rw [e, a]; rfl))
    rw [List.take_succ_eq_append_getElem hi, List.map_append] at this
    exact this
theorem impl_within_wp {a b c : Int} {K : Bool → Prop} (h : K (decide (b ≤ a ∧ a ≤ c))) : impl_within.wp a b c K := by
  refine ⟨fun h1 => ?_, fun h1 => ?_⟩
  · have : decide (b ≤ a ∧ a ≤ c) = decide (a ≤ c) := by simp [h1]
    rw [this] at h; exact h
  · have : decide (b ≤ a ∧ a ≤ c) = false := by simp [h1]
    rw [this] at h; exact h
theorem spec_l00In_wp {a b c : Int} {K : Bool → Prop} (h : K (decide (b ≤ a ∧ a ≤ c))) : spec_l00In.wp a b c K := by
  refine ⟨fun h1 => ?_, fun h1 => ?_⟩
  · have : decide (b ≤ a ∧ a ≤ c) = decide (a ≤ c) := by simp [h1]
    rw [this] at h; exact h
  · have : decide (b ≤ a ∧ a ≤ c) = false := by simp [h1]
    rw [this] at h; exact h
theorem bT {b : Bool} {A B : Prop} (h1 : b = true → A) (h2 : b = false → B) : (b = true → A) ∧ (b = false → B) := ⟨h1, h2⟩
def isL (l : List Nat) : Bool := decide (1 ≤ l.length ∧ l.length ≤ 128) && pAll l
def isOver (x : Nat) : Bool := pFin x && fcmp .gtr .f32 x (cz .f32 0)
def isLeast (x : Nat) : Bool := pFin x && fcmp .geq .f32 x (cz .f32 0)
def isShare (x : Nat) : Bool := fcmp .geq .f32 x (cz .f32 0) && fcmp .leq .f32 x (cz .f32 1065353216)
/-! ### integers -/
def bnd (m : Int) (l : List Int) : Bool := l.all fun n => decide (-m ≤ n ∧ n ≤ m)
def isI (l : List Int) : Bool := decide (1 ≤ l.length ∧ l.length ≤ 128) && bnd 1000000 l
theorem spec_l02Bound_wp {l : List Int} {m : Int} {K : Bool → Prop} (hl : l.length ≤ 2 ^ 20) (hm : 0 ≤ m ∧ m ≤ 2 ^ 40) (h : K (bnd m l)) : spec_l02Bound.wp l m K := by
  intro X hX
  refine all_loop l (fun n => decide (-m ≤ n ∧ n ≤ m)) (X := X) (T := K true) (F := K false) (fun i hi hh => ?_) (fun ht => hX _ ⟨fun c => absurd c (by omega), fun _ => ht⟩) (fun e => by rw [bnd, e] at h; exact h) (fun e => by rw [bnd, e] at h; exact h)
  refine hX _ ⟨fun _ => ⟨⟨by omega, by omega⟩, spec_l00In_wp ?_⟩, fun c => absurd (show (i : Int) < l.length by omega) c⟩
  rw [nn, gD hi, w1 (by omega), wI (show -9223372036854775808 ≤ (0 : Int) - m ∧ (0 : Int) - m < 9223372036854775808 by omega), Int.zero_sub]; exact hh
theorem impl_areWithin_wp {l : List Int} {m : Int} {K : Bool → Prop} (hl : l.length ≤ 2 ^ 20) (hm : 0 ≤ m ∧ m ≤ 2 ^ 40) (h : K (bnd m l)) : impl_areWithin.wp l m K := by
  intro X hX
  refine all_loop l (fun n => decide (-m ≤ n ∧ n ≤ m)) (X := X) (T := K true) (F := K false) (fun i hi hh => ?_) (fun ht => hX _ ⟨fun c => absurd c (by omega), fun _ => ht⟩) (fun e => by rw [bnd, e] at h; exact h) (fun e => by rw [bnd, e] at h; exact h)
  refine hX _ ⟨fun _ => ⟨⟨by omega, by omega⟩, impl_within_wp ?_⟩, fun c => absurd (show (i : Int) < l.length by omega) c⟩
  rw [nn, gD hi, w1 (by omega), wI (show -9223372036854775808 ≤ (0 : Int) - m ∧ (0 : Int) - m < 9223372036854775808 by omega), Int.zero_sub]; exact hh
theorem spec_l02Integers_wp {l : List Int} {K : Bool → Prop} (hl : l.length ≤ 2 ^ 20) (h : K (isI l)) : spec_l02Integers.wp l K := by
  refine ⟨fun h1 => ⟨fun h2 => spec_l02Bound_wp hl (by omega) ?_, fun h2 => ?_⟩, fun h1 => ?_⟩
  · rw [isI, decide_eq_true (show 1 ≤ l.length ∧ l.length ≤ 128 by omega), Bool.true_and] at h; exact h
  · rw [isI, decide_eq_false (show ¬(1 ≤ l.length ∧ l.length ≤ 128) by omega), Bool.false_and] at h; exact h
  · rw [isI, decide_eq_false (show ¬(1 ≤ l.length ∧ l.length ≤ 128) by omega), Bool.false_and] at h; exact h
theorem impl_AreIntegers_wp {l : List Int} {K : Bool → Prop} (hl : l.length ≤ 2 ^ 20) (h : K (isI l)) : impl_AreIntegers.wp l K := by
  refine impl_within_wp ⟨fun h1 => ?_, fun h1 => ?_⟩
  · have h1 := of_decide_eq_true h1
    refine impl_areWithin_wp hl (by omega) ?_
    rw [isI, decide_eq_true (show 1 ≤ l.length ∧ l.length ≤ 128 by omega), Bool.true_and] at h; exact h
  · have h1 := of_decide_eq_false h1
    rw [isI, decide_eq_false (show ¬(1 ≤ l.length ∧ l.length ≤ 128) by omega), Bool.false_and] at h; exact h

end Go.Proofs.Ytplfnchoooehgaa.G

namespace Go.Proofs.Ytplfnchoooehgaa.G
open Go Go.Ab
set_option maxRecDepth 100000
set_option linter.unusedVariables false
set_option linter.unusedSimpArgs false
set_option maxHeartbeats 1000000
def Byt (l : List Int) : Prop := l.length ≤ 2 ^ 30 ∧ ∀ x ∈ l, 0 ≤ x ∧ x < 256
theorem iand255 (x : Int) : 0 ≤ IntKind.i64.wrap (ibits .and .u64 x 255) ∧ IntKind.i64.wrap (ibits .and .u64 x 255) < 256 := by
  have h : (BitVec.ofInt 64 x &&& BitVec.ofInt 64 255).toNat < 256 := by
    rw [BitVec.toNat_and]
    exact Nat.lt_of_le_of_lt Nat.and_le_right (by decide)
  have e : ibits .and .u64 x 255 = ((BitVec.ofInt 64 x &&& BitVec.ofInt 64 255).toNat : Int) := by
    show IntKind.u64.wrap ((BitVec.ofInt 64 x &&& BitVec.ofInt 64 255).toNat : Int) = _
    show _ % 18446744073709551616 = _
    omega
  rw [e, wI (by omega)]; omega
theorem spec_next_wp {l : List Int} {a s : Int} {K : Int → Int → Int → Prop} (hl : Byt l) (ha : 0 ≤ a ∧ a ≤ 2 ^ 40) (h : ∀ v t, 0 ≤ v ∧ v < 256 → K v (a + 1) t) : spec_l00Src_next.wp l a s K := by
  have ea : IntKind.i64.wrap (a + 1) = a + 1 := wI (by omega)
  refine ⟨fun c => ⟨⟨ha.1, c⟩, fun c2 => ?_, fun c2 => ?_⟩, fun c => ⟨fun c2 => ?_, fun c2 => ?_⟩⟩
  · rw [ea]
    have hi : a.toNat < l.length := by omega
    rw [gD hi]
    have hb := hl.2 _ (List.getElem_mem hi)
    rw [wI (by omega)]
    exact h _ _ hb
  · rw [ea]; exact h _ _ (iand255 _)
  · rw [ea]; exact h _ _ ⟨by decide, by decide⟩
  · rw [ea]; exact h _ _ (iand255 _)
theorem spec_pick_wp {l : List Int} {a s n : Int} {K : Int → Int → Int → Prop} (hl : Byt l) (ha : 0 ≤ a ∧ a ≤ 2 ^ 39) (hn : 1 ≤ n ∧ n ≤ 2 ^ 40) (h : ∀ v b t, 0 ≤ v ∧ v < n → a ≤ b ∧ b ≤ a + 2 → K v b t) : spec_l00Src_pick.wp l a s n K := by
  refine ⟨fun c => h _ _ _ (by omega) (by omega), fun c => ?_⟩
  refine spec_next_wp hl (by omega) fun v t hv => ⟨fun c2 => ?_, fun c2 => ⟨by omega, ?_⟩⟩
  · refine spec_next_wp hl (by omega) fun w u hw => ⟨by omega, ?_⟩
    rw [wI (n := v * 256) (by omega), wI (n := v * 256 + w) (by omega)]
    have e := Int.tmod_eq_emod_of_nonneg (a := v * 256 + w) (b := n) (by omega)
    have h1 := Int.emod_nonneg (v * 256 + w) (show n ≠ 0 by omega)
    have h2 := Int.emod_lt_of_pos (v * 256 + w) (show 0 < n by omega)
    exact h _ _ _ (by omega) (by omega)
  · have e := Int.tmod_eq_emod_of_nonneg (a := v) (b := n) (by omega)
    have h1 := Int.emod_nonneg v (show n ≠ 0 by omega)
    have h2 := Int.emod_lt_of_pos v (show 0 < n by omega)
    exact h _ _ _ (by omega) (by omega)
theorem spec_R8Integers_wp {l : List Int} {K : List Int → Prop} (hl : Byt l) (h : ∀ o : List Int, 1 ≤ o.length ∧ o.length ≤ 16 → (∀ x ∈ o, -100 ≤ x ∧ x ≤ 100) → K o) : spec_R8Integers.wp l K := by
  refine ⟨fun _ => ?_, fun c => (by cases c)⟩
  refine spec_pick_wp hl (by omega) (by omega) fun v b t hv hb => ?_
  intro X hX
  have key : ∀ (m : Nat) (o : List Int) (b t : Int), (o.length : Int) + m = 1 + v → 0 ≤ b ∧ b ≤ 2 + 2 * o.length → (∀ x ∈ o, -100 ≤ x ∧ x ≤ 100) → X o b t (m : Int) := by
    intro m
    induction m with
    | zero =>
      intro o b t h1 h2 h3
      exact hX _ _ _ _ ⟨fun c => absurd c (by decide), fun _ => h o (by omega) h3⟩
    | succ m ih =>
      intro o b t h1 h2 h3
      refine hX _ _ _ _ ⟨fun _ => spec_pick_wp hl (by omega) (by omega) fun w b' t' hw hb' => ⟨?_, ?_⟩, fun c => absurd (show (0 : Int) < ((m + 1 : Nat) : Int) by omega) c⟩
      · rw [len1]; omega
      · rw [wI (n := w - 100) (by omega), show IntKind.i64.wrap (((m + 1 : Nat) : Int) - 1) = (m : Int) by rw [wI (by omega)]; omega]
        refine ih _ _ _ (by rw [List.length_append, len1]; omega) (by rw [List.length_append, len1]; omega) fun x hx => ?_
        rcases List.mem_append.1 hx with hx | hx
        · exact h3 x hx
        · rw [List.mem_singleton.1 hx]; omega
  rw [show IntKind.i64.wrap (1 + v) = ((1 + v.toNat : Nat) : Int) by rw [wI (by omega)]; omega]
  exact key _ [] _ _ (by simp; omega) (by simp; omega) (fun x hx => by cases hx)
theorem r8At_wp {l : List Int} {k n : Int} {K : Int → Prop} (hl : Byt l) (hk : 0 ≤ k) (hn : 1 ≤ n ∧ n ≤ 2 ^ 40) (h : ∀ v : Nat, (v : Int) < n → K (v : Int)) : laws_r8At.wp l k n K := by
  refine ⟨fun c => h 0 (by omega), fun c => ⟨fun c2 => h 0 (by omega), fun c2 => ⟨⟨hk, by omega⟩, by omega, ?_⟩⟩⟩
  have hi : k.toNat < l.length := by omega
  rw [gD hi]
  have hb := hl.2 _ (List.getElem_mem hi)
  rw [wI (by omega)]
  have e := Int.tmod_eq_emod_of_nonneg (a := l[k.toNat]) (b := n) (by omega)
  have h1 := Int.emod_nonneg l[k.toNat] (show n ≠ 0 by omega)
  have h2 := Int.emod_lt_of_pos l[k.toNat] (show 0 < n by omega)
  rw [show Int.tmod l[k.toNat] n = ((Int.tmod l[k.toNat] n).toNat : Int) by omega]
  exact h _ (by omega)

end Go.Proofs.Ytplfnchoooehgaa.G

namespace Go.Proofs.Ytplfnchoooehgaa.G
open Go Go.Ab
set_option maxRecDepth 100000
set_option linter.unusedVariables false
set_option linter.unusedSimpArgs false
set_option maxHeartbeats 1000000
def Sm (n : Int) : Prop := -1000000 ≤ n ∧ n ≤ 1000000
theorem u64w {k : Nat} (h : k < 2 ^ 40) : IntKind.u64.wrap (k : Int) = (k : Int) := by
  show (k : Int) % 18446744073709551616 = _; omega
theorem shr (y k : Nat) (hk : k ≤ 60) : Int.fdiv (y : Int) (2 ^ (min (k : Int).toNat IntKind.i64.bits)) = ((y / 2 ^ k : Nat) : Int) := by
  have e : min (k : Int).toNat IntKind.i64.bits = k := by
    rw [Int.toNat_natCast, show IntKind.i64.bits = 64 from rfl]; omega
  rw [e, Int.fdiv_eq_ediv_of_nonneg _ (by exact Int.le_of_lt (Int.pow_pos (by decide)))]
  rw [show (2 : Int) ^ k = ((2 ^ k : Nat) : Int) by rw [Int.natCast_pow]; rfl]
  rfl
theorem isI_sm {l : List Int} (h : isI l = true) : l.length ≤ 128 ∧ ∀ n ∈ l, Sm n := by
  simp only [isI, Bool.and_eq_true, decide_eq_true_eq, bnd, List.all_eq_true] at h
  exact ⟨h.1.2, h.2⟩

end Go.Proofs.Ytplfnchoooehgaa.G

namespace Go.Proofs.Ytplfnchoooehgaa.G
open Go Go.Ab
set_option maxRecDepth 100000
set_option linter.unusedVariables false
set_option linter.unusedSimpArgs false
set_option maxHeartbeats 1000000
def bandsI : Nat → Int → List Int
  | 0, n => [n]
  | r + 1, n => if 2 ≤ n then n / 2 :: bandsI r ((n + 1) / 2) else [n]
/-- The sum of the first. -/
def sumTo (sz : List Int) : Nat → Int
  | 0 => 0
  | k + 1 => sumTo sz k + sz.getD k 0
def parS (sz : List Int) (i : Int) : Nat → Int → Int
  | 0, _ => -1
  | k + 1, fr => if i < fr + sz.getD k 0 then (if (sz.length : Int) ≤ (k : Int) + 2 then -1 else fr - sz.getD (k + 1) 0 + mnI ((i - fr) / 2) (sz.getD (k + 1) 0 - 1)) else parS sz i k (fr + sz.getD k 0)
def parB (sz : List Int) (b : Nat) (st : Int) (x : Nat) : Int := if (sz.length : Int) ≤ (b : Int) + 2 then -1 else st - sz.getD (b + 1) 0 + mnI ((x : Int) / 2) (sz.getD (b + 1) 0 - 1)
def parI (sz : List Int) : Nat → Int → List Int
  | 0, _ => []
  | b + 1, st => (List.range (sz.getD b 0).toNat).map (parB sz b st) ++ parI sz b (st + sz.getD b 0)
theorem sumTo_pos {sz : List Int} (h : ∀ s ∈ sz, 0 ≤ s) (k : Nat) : 0 ≤ sumTo sz k := by
  induction k with
  | zero => exact Int.le_refl _
  | succ k ih =>
    have : 0 ≤ sz.getD k 0 := by
      rw [List.getD_eq_getElem?_getD]
      cases he : sz[k]? with
      | none => exact Int.le_refl _
      | some x => exact h x (List.mem_of_getElem? he)
    rw [sumTo]; omega
theorem getD_pos {sz : List Int} (h : ∀ s ∈ sz, 0 ≤ s) (k : Nat) : 0 ≤ sz.getD k 0 := by
  rw [List.getD_eq_getElem?_getD]
  cases he : sz[k]? with
  | none => exact Int.le_refl _
  | some x => exact h x (List.mem_of_getElem? he)
theorem range_app (a b : Nat) : List.range (a + b) = List.range a ++ (List.range b).map (a + ·) := by
  rw [List.range_add]
theorem par_same {sz : List Int} (h : ∀ s ∈ sz, 0 ≤ s) : ∀ (k : Nat) (st : Int), parI sz k st = (List.range (sumTo sz k).toNat).map fun (j : Nat) => parS sz (st + (j : Int)) k st
  | 0, st => rfl
  | k + 1, st => by
    have h1 := getD_pos h k
    have h2 := sumTo_pos h k
    have e : (sumTo sz (k + 1)).toNat = (sz.getD k 0).toNat + (sumTo sz k).toNat := by rw [sumTo]; omega
    rw [parI, e, range_app, List.map_append, par_same h k]
    congr 1
    · refine List.map_congr_left fun j hj => ?_
      rw [List.mem_range] at hj
      rw [parS, if_pos (by omega), parB, show st + (j : Int) - st = (j : Int) by omega]
    · rw [List.map_map]
      refine List.map_congr_left fun j hj => ?_
      show _ = parS sz (st + (((sz.getD k 0).toNat + j : Nat) : Int)) (k + 1) st
      rw [parS, if_neg (by omega)]
      congr 1; omega
/-- A parent is before its child. -/
theorem par_lt {sz : List Int} (h : ∀ s ∈ sz, 1 ≤ s) (i : Int) : ∀ (k : Nat) (fr : Int), k ≤ sz.length → fr ≤ i → 0 ≤ fr → (k < sz.length → sz.getD k 0 ≤ fr) → -1 ≤ parS sz i k fr ∧ parS sz i k fr < i ∨ parS sz i k fr = -1
  | 0, fr, _, _, _, _ => .inr rfl
  | k + 1, fr, hk, h1, h0, hz => by
    have hk1 : 0 ≤ sz.getD k 0 := getD_pos (fun s hs => by have := h s hs; omega) k
    rw [parS]
    split
    · split
      · exact .inr rfl
      · rename_i hc hl
        have hz := hz (by omega)
        have h3 : 1 ≤ sz.getD (k + 1) 0 := by rw [gD (by omega)]; exact h _ (List.getElem_mem _)
        left
        unfold mnI; split <;> omega
    · exact par_lt h i k _ (by omega) (by omega) (by omega) (fun _ => by omega)
theorem bands_pos : ∀ (r : Nat) (n : Int), 1 ≤ n → ∀ s ∈ bandsI r n, 1 ≤ s ∧ s ≤ n
  | 0, n, h, s, hs => by rw [bandsI, List.mem_singleton] at hs; omega
  | r + 1, n, h, s, hs => by
    rw [bandsI] at hs
    split at hs
    · rw [List.mem_cons] at hs
      rcases hs with rfl | hs
      · omega
      · have := bands_pos r ((n + 1) / 2) (by omega) s hs; omega
    · rw [List.mem_singleton] at hs; omega
theorem bands_len : ∀ (r : Nat) (n : Int), (bandsI r n).length ≤ r + 1 ∧ 1 ≤ (bandsI r n).length
  | 0, n => by simp [bandsI]
  | r + 1, n => by
    rw [bandsI]; split
    · have := bands_len r ((n + 1) / 2); rw [List.length_cons]; omega
    · simp
theorem sumTo_cons (a : Int) (l : List Int) : ∀ k, sumTo (a :: l) (k + 1) = a + sumTo l k
  | 0 => by simp [sumTo]
  | k + 1 => by rw [sumTo, sumTo_cons a l k, sumTo, List.getD_cons_succ]; omega
theorem bands_sum : ∀ (r : Nat) (n : Int), 1 ≤ n → sumTo (bandsI r n) (bandsI r n).length = n
  | 0, n, h => by simp [bandsI, sumTo]
  | r + 1, n, h => by
    rw [bandsI]; split
    · rw [List.length_cons, sumTo_cons, bands_sum r _ (by omega)]; omega
    · simp [sumTo]

end Go.Proofs.Ytplfnchoooehgaa.G

namespace Go.Proofs.Ytplfnchoooehgaa.G
open Go Go.Ab
set_option maxRecDepth 100000
set_option linter.unusedVariables false
set_option linter.unusedSimpArgs false
set_option maxHeartbeats 1000000
theorem td2 {n : Int} (h : 0 ≤ n ∧ n < 2 ^ 40) : IntKind.i64.wrap (Int.tdiv n 2) = n / 2 := by
  rw [Int.tdiv_eq_ediv_of_nonneg h.1, wI (by omega)]
theorem spec_l02BandSizes_wp {n : Int} {lv : Nat} {K : List Int → Prop} (hn : 1 ≤ n ∧ n ≤ 2 ^ 20) (hlv : lv ≤ 6) (h : K (bandsI lv n)) : spec_l02BandSizes.wp n (lv : Int) K := by
  intro X hX
  have key : ∀ (r : Nat) (m : Int) (k : Nat) (o : List Int), k + r = lv → 1 ≤ m ∧ m ≤ 2 ^ 20 → o.length ≤ 6 → o.length = k → o ++ bandsI r m = bandsI lv n → X o m (k : Int) := by
    intro r
    induction r with
    | zero =>
      intro m k o h1 h2 h3 h4 h5
      rw [bandsI] at h5
      refine hX _ _ _ ⟨fun c => absurd c (by omega), fun _ => ⟨by rw [len1]; omega, by rw [h5]; exact h⟩⟩
    | succ r ih =>
      intro m k o h1 h2 h3 h4 h5
      rw [bandsI] at h5
      refine hX _ _ _ ⟨fun _ => ⟨fun c => ⟨by rw [len1]; omega, ?_⟩, fun c => ⟨by rw [len1]; omega, ?_⟩⟩, fun c => absurd (show (k : Int) < lv by omega) c⟩
      · rw [if_pos c] at h5
        rw [wI (n := m + 1) (by omega), td2 (by omega), td2 (by omega), w1 (by omega)]
        exact ih _ (k + 1) _ (by omega) (by omega) (by rw [List.length_append, len1]; omega) (by rw [List.length_append, len1]; omega) (by rw [List.append_assoc]; exact h5)
      · rw [if_neg c] at h5
        rw [h5]; exact h
  exact key lv n 0 [] (by omega) hn (by simp) rfl rfl
theorem impl_BandSizes_wp {n lv : Int} {K : List Int → Bool → Prop} (h : if (1 ≤ n ∧ n ≤ 128) ∧ 1 ≤ lv ∧ lv ≤ 6 then K (bandsI lv.toNat n) true else K [] false) : impl_BandSizes.wp n lv K := by
  refine impl_within_wp ⟨fun h1 => impl_within_wp ⟨fun h2 => ?_, fun h2 => ?_⟩, fun h1 => ?_⟩
  rotate_left
  · have h2 := of_decide_eq_false h2
    rw [if_neg (by omega)] at h; exact h
  · have h1 := of_decide_eq_false h1
    rw [if_neg (by omega)] at h; exact h
  have h1 := of_decide_eq_true h1
  have h2 := of_decide_eq_true h2
  rw [if_pos ⟨h1, h2⟩] at h
  obtain ⟨lv, rfl⟩ : ∃ k : Nat, lv = k := ⟨lv.toNat, by omega⟩
  rw [nn] at h
  intro X hX
  have key : ∀ (r : Nat) (m : Int) (k : Nat) (o : List Int), k + r = lv → 1 ≤ m ∧ m ≤ 2 ^ 20 → o.length ≤ 6 → o.length = k → o ++ bandsI r m = bandsI lv n → X o m (k : Int) := by
    intro r
    induction r with
    | zero =>
      intro m k o h1 h2 h3 h4 h5
      rw [bandsI] at h5
      refine hX _ _ _ ⟨fun c => absurd c (by omega), fun _ => ⟨by rw [len1]; omega, by rw [h5]; exact h⟩⟩
    | succ r ih =>
      intro m k o h1 h2 h3 h4 h5
      rw [bandsI] at h5
      refine hX _ _ _ ⟨fun _ => ⟨fun c => ⟨by rw [len1]; omega, ?_⟩, fun c => ⟨by rw [len1]; omega, ?_⟩⟩, fun c => absurd (show (k : Int) < lv by omega) c⟩
      · rw [if_pos (by omega)] at h5
        rw [td2 (by omega), w1 (by omega), wI (n := m - m / 2) (by omega), show m - m / 2 = (m + 1) / 2 by omega]
        exact ih _ (k + 1) _ (by omega) (by omega) (by rw [List.length_append, len1]; omega) (by rw [List.length_append, len1]; omega) (by rw [List.append_assoc]; exact h5)
      · rw [if_neg (by omega)] at h5
        rw [h5]; exact h
  exact key lv n 0 [] (by omega) (by omega) (by simp) rfl rfl
theorem spec_l00Min_wp {a b : Int} {K : Int → Prop} (h : K (mnI a b)) : spec_l00Min.wp a b K := by
  unfold mnI at h
  refine ⟨fun c => ?_, fun c => ?_⟩
  · rw [if_neg (by omega)] at h; exact h
  · by_cases e : b < a
    · rw [if_pos e] at h; exact h
    · rw [if_neg e, show a = b by omega] at h; exact h
theorem spec_l06Parent_wp {n i lv : Nat} {K : Int → Prop} (hn : 1 ≤ n ∧ n ≤ 128) (hlv : lv ≤ 6) (hi : i < n) (h : K (parS (bandsI lv n) i (bandsI lv n).length 0)) : spec_l06Parent.wp (n : Int) (lv : Int) (i : Int) K := by
  refine spec_l02BandSizes_wp (by omega) hlv ?_
  have hbd := bands_pos lv n (by omega)
  have hln := bands_len lv n
  generalize bandsI lv n = sz at h hbd hln ⊢
  intro X hX
  have hg : ∀ k, 0 ≤ sz.getD k 0 ∧ sz.getD k 0 ≤ 128 := fun k => by
    rw [List.getD_eq_getElem?_getD]
    cases he : sz[k]? with
    | none => exact ⟨Int.le_refl _, by decide⟩
    | some x => have := hbd x (List.mem_of_getElem? he); exact ⟨by show (0 : Int) ≤ x; omega, by show x ≤ 128; omega⟩
  have key : ∀ (k : Nat) (fr : Int), k ≤ sz.length → 0 ≤ fr ∧ fr ≤ i ∧ fr ≤ 128 * (7 - (k : Int)) → K (parS sz i k fr) → X fr ((k : Int) - 1) := by
    intro k
    induction k with
    | zero =>
      intro fr h1 h2 h3
      exact hX _ _ ⟨fun c => absurd c (by omega), fun _ => h3⟩
    | succ k ih =>
      intro fr h1 h2 h3
      have g0 := hg k
      have g1 := hg (k + 1)
      have e : ((k + 1 : Nat) : Int) - 1 = (k : Int) := by omega
      rw [e]
      refine hX _ _ ⟨fun _ => ⟨⟨by omega, by omega⟩, ?_⟩, fun c => absurd (show (0 : Int) ≤ (k : Int) by omega) c⟩
      rw [parS] at h3
      rw [nn, wI (n := fr + sz.getD k 0) (by omega), wI (n := (k : Int) + 2) (by omega), w1 (by omega), wI (n := (k : Int) - 1) (by omega), nn]
      refine ⟨fun c => ⟨fun c2 => ?_, fun c2 => ⟨⟨by omega, by omega⟩, ?_⟩⟩, fun c => ?_⟩
      · rw [if_pos c, if_pos c2] at h3; exact h3
      · rw [if_pos c, if_neg c2] at h3
        rw [wI (n := (i : Int) - fr) (by omega), td2 (by omega), wI (n := sz.getD (k + 1) 0 - 1) (by omega)]
        refine spec_l00Min_wp ?_
        have hm : -1 ≤ mnI (((i : Int) - fr) / 2) (sz.getD (k + 1) 0 - 1) ∧ mnI (((i : Int) - fr) / 2) (sz.getD (k + 1) 0 - 1) ≤ 128 := by unfold mnI; split <;> omega
        rw [wI (n := fr - sz.getD (k + 1) 0) (by omega), wI (by omega)]
        exact h3
      · rw [if_neg c] at h3
        exact ih _ (by omega) (by omega) h3
  rw [wI (n := (sz.length : Int) - 1) (by omega)]
  exact key sz.length 0 (Nat.le_refl _) (by omega) h
theorem impl_parents_wp {sz : List Int} {K : List Int → Prop} (hlen : 1 ≤ sz.length ∧ sz.length ≤ 7) (hbd : ∀ s ∈ sz, 1 ≤ s ∧ s ≤ 128) (h : K (parI sz sz.length 0)) : impl_parents.wp sz K := by
  intro X hX
  have hg : ∀ k, 0 ≤ sz.getD k 0 ∧ sz.getD k 0 ≤ 128 := fun k => by
    rw [List.getD_eq_getElem?_getD]
    cases he : sz[k]? with
    | none => exact ⟨Int.le_refl _, by decide⟩
    | some x => have := hbd x (List.mem_of_getElem? he); exact ⟨by show (0 : Int) ≤ x; omega, by show x ≤ 128; omega⟩
  have key : ∀ (k : Nat) (st : Int) (o : List Int), k ≤ sz.length → 0 ≤ st ∧ st ≤ 128 * (7 - (k : Int)) → o.length ≤ 128 * (7 - k) → o ++ parI sz k st = parI sz sz.length 0 → X o st ((k : Int) - 1) := by
    intro k
    induction k with
    | zero =>
      intro st o h1 h2 h3 h4
      rw [parI, List.append_nil] at h4
      exact hX _ _ _ ⟨fun c => absurd c (by omega), fun _ => by rw [h4]; exact h⟩
    | succ k ih =>
      intro st o h1 h2 h3 h4
      have g0 := hg k
      have g1 := hg (k + 1)
      have e : ((k + 1 : Nat) : Int) - 1 = (k : Int) := by omega
      rw [e]
      refine hX _ _ _ ⟨fun _ => ⟨⟨by omega, by omega⟩, ?_⟩, fun c => absurd (show (0 : Int) ≤ (k : Int) by omega) c⟩
      intro Y hY
      rw [nn, wI (n := (sz.length : Int) - 1) (by omega), wI (n := (sz.length : Int) - 1 - 1) (by omega), w1 (by omega), wI (n := (k : Int) - 1) (by omega), wI (n := st + sz.getD k 0) (by omega), nn] at hY
      rw [parI] at h4
      have key2 : ∀ (m x : Nat) (q : List Int), x + m = (sz.getD k 0).toNat → q.length ≤ o.length + x → q ++ ((List.range' x m).map (parB sz k st) ++ parI sz k (st + sz.getD k 0)) = parI sz sz.length 0 → Y q (x : Int) := by
        intro m
        induction m with
        | zero =>
          intro x q h5 h6 h7
          refine hY _ _ ⟨fun c => absurd c (by omega), fun _ => ih _ _ (by omega) (by omega) (by omega) ?_⟩
          exact h7
        | succ m ihm =>
          intro x q h5 h6 h7
          have h8 : q ++ [parB sz k st x] ++ ((List.range' (x + 1) m).map (parB sz k st) ++ parI sz k (st + sz.getD k 0)) = parI sz sz.length 0 := by
            rw [List.append_assoc]; exact h7
          have h9 := ihm (x + 1) (q ++ [parB sz k st x]) (by omega) (by rw [List.length_append, len1]; omega) h8
          refine hY _ _ ⟨fun _ => ?_, fun c => absurd (show (x : Int) < sz.getD k 0 by omega) c⟩
          rw [w1 (by omega), td2 (by omega), wI (n := sz.getD (k + 1) 0 - 1) (by omega), wI (n := st - sz.getD (k + 1) 0) (by omega)]
          have hm : -1 ≤ mnI ((x : Int) / 2) (sz.getD (k + 1) 0 - 1) ∧ mnI ((x : Int) / 2) (sz.getD (k + 1) 0 - 1) ≤ 128 := by unfold mnI; split <;> omega
          rw [wI (n := st - sz.getD (k + 1) 0 + _) (by omega)]
          rw [parB] at h9
          refine ⟨fun c => ⟨by rw [len1]; omega, ?_⟩, fun c => ⟨⟨by omega, by omega⟩, by rw [len1]; omega, ?_⟩⟩
          · rw [if_pos (by omega)] at h9; exact h9
          · rw [if_neg (by omega)] at h9; exact h9
      refine key2 (sz.getD k 0).toNat 0 o (by omega) (by omega) ?_
      rw [← List.range_eq_range']; exact h4
  rw [wI (n := (sz.length : Int) - 1) (by omega)]
  exact key sz.length 0 [] (Nat.le_refl _) (by omega) (by simp) rfl

end Go.Proofs.Ytplfnchoooehgaa.G

namespace Go.Proofs.Ytplfnchoooehgaa.G
open Go Go.Ab
set_option maxRecDepth 100000
set_option linter.unusedVariables false
set_option linter.unusedSimpArgs false
set_option maxHeartbeats 1000000
/-- The parents of a line's places. -/
def parL (n lv : Nat) : List Int := (List.range n).map fun (j : Nat) => parS (bandsI lv n) j (bandsI lv n).length 0
theorem parL_len (n lv : Nat) : (parL n lv).length = n := by simp [parL]
theorem parL_at {n lv i : Nat} (hi : i < n) : (parL n lv).getD i 0 = parS (bandsI lv n) i (bandsI lv n).length 0 := by
  rw [gD (by rw [parL_len]; exact hi)]; simp [parL]
theorem parL_I {n lv : Nat} (hn : 1 ≤ n) : parI (bandsI lv n) (bandsI lv n).length 0 = parL n lv := by
  rw [par_same (fun s hs => by have := bands_pos lv n (by omega) s hs; omega), bands_sum lv n (by omega)]
  show (List.range n).map _ = _
  unfold parL
  refine List.map_congr_left fun j _ => ?_
  rw [Int.zero_add]
theorem parL_lt {n lv i : Nat} (hn : 1 ≤ n) (hi : i < n) : -1 ≤ (parL n lv).getD i 0 ∧ (parL n lv).getD i 0 < i := by
  rw [parL_at hi]
  have := par_lt (fun s hs => (bands_pos lv n (by omega) s hs).1) (i : Int) (bandsI lv n).length 0 (Nat.le_refl _) (by omega) (Int.le_refl _) (fun c => absurd c (Nat.lt_irrefl _))
  omega
theorem impl_parentsOf_wp {n lv : Int} {K : List Int → Bool → Prop} (h : if (1 ≤ n ∧ n ≤ 128) ∧ 1 ≤ lv ∧ lv ≤ 6 then K (parL n.toNat lv.toNat) true else K [] false) : impl_parentsOf.wp n lv K := by
  refine impl_BandSizes_wp ?_
  by_cases hc : (1 ≤ n ∧ n ≤ 128) ∧ 1 ≤ lv ∧ lv ≤ 6
  · rw [if_pos hc] at h ⊢
    obtain ⟨m, rfl⟩ : ∃ k : Nat, n = k := ⟨n.toNat, by omega⟩
    obtain ⟨v, rfl⟩ : ∃ k : Nat, lv = k := ⟨lv.toNat, by omega⟩
    rw [nn, nn] at h
    rw [nn]
    have hln := bands_len v m
    refine tT (impl_parents_wp (by omega) (fun s hs => by have := bands_pos v m (by omega) s hs; omega) ?_)
    rw [parL_I (by omega)]; exact h
  · rw [if_neg hc] at h ⊢
    exact tF h
/-! ### the last pass -/
def pickZ (z : List Bool) (P : List Int) (i : Nat) : Bool := z.getD i false && (decide (P.getD i 0 < 0) || !(z.getD (P.getD i 0).toNat false))
def outZ (z : List Bool) (P : List Int) (n : Nat) : List Int := ((List.range n).filter (pickZ z P)).map fun (j : Nat) => (j : Int)
theorem outZ_len (z : List Bool) (P : List Int) (n : Nat) : (outZ z P n).length ≤ n := by
  have := List.length_filter_le (pickZ z P) (List.range n)
  rw [List.length_range] at this
  rw [outZ, List.length_map]; exact this
theorem outZ_yes {z : List Bool} {P : List Int} {i : Nat} (h : pickZ z P i = true) : outZ z P (i + 1) = outZ z P i ++ [(i : Int)] := by
  rw [outZ, List.range_succ, List.filter_append, List.map_append, List.filter_cons_of_pos h]; rfl
theorem outZ_no {z : List Bool} {P : List Int} {i : Nat} (h : pickZ z P i = false) : outZ z P (i + 1) = outZ z P i := by
  rw [outZ, List.range_succ, List.filter_append, List.map_append, List.filter_cons_of_neg (by rw [h]; decide)]
  show _ ++ [] = _
  rw [List.append_nil]; rfl
theorem last_pass {z : List Bool} {P : List Int} {n : Nat} {E : List Int → Prop} (hn : n ≤ 128) (hz : z.length = n) (hP : P.length = n) (hlt : ∀ i, i < n → -1 ≤ P.getD i 0 ∧ P.getD i 0 < i) (h : E (outZ z P n)) {X : List Int → Int → Prop} (hX : ∀ (out434 : List (Int)) (i436 : Int), ((i436 < (n : Int) → (0 ≤ i436 ∧ i436 < (z.length : Int)) ∧ (((z.getD (i436).toNat false) = true → (0 ≤ i436 ∧ i436 < (P.length : Int)) ∧ (((P.getD (i436).toNat (0 : Int)) < (0 : Int) → ((out434.length + ([i436] : List (Int)).length) * 8 ≤ 2 ^ 40) ∧ X (out434 ++ ([i436] : List (Int))) (IntKind.i64.wrap (i436 + (1 : Int)))) ∧ (¬((P.getD (i436).toNat (0 : Int)) < (0 : Int)) → (0 ≤ (P.getD (i436).toNat (0 : Int)) ∧ (P.getD (i436).toNat (0 : Int)) < (z.length : Int)) ∧ (((z.getD ((P.getD (i436).toNat (0 : Int))).toNat false) = true → X (out434) (IntKind.i64.wrap (i436 + (1 : Int)))) ∧ ((z.getD ((P.getD (i436).toNat (0 : Int))).toNat false) = false → ((out434.length + ([i436] : List (Int)).length) * 8 ≤ 2 ^ 40) ∧ X (out434 ++ ([i436] : List (Int))) (IntKind.i64.wrap (i436 + (1 : Int)))))))) ∧ ((z.getD (i436).toNat false) = false → X (out434) (IntKind.i64.wrap (i436 + (1 : Int)))))) ∧ (¬(i436 < (n : Int)) → E out434)) → X out434 i436) : X [] ((0 : Nat) : Int) := by
  have key := up (Y := fun i => i ≤ n → X (outZ z P i) (i : Int)) n (fun _ => ?_) (fun i hi hn2 _ => ?_)
  · exact key (Nat.zero_le _)
  · exact hX _ _ ⟨fun c => absurd c (by omega), fun _ => h⟩
  · have hn2 := hn2 (by omega)
    have hl := outZ_len z P i
    have hp := hlt i hi
    refine hX _ _ ⟨fun _ => ⟨⟨by omega, by omega⟩, ?_⟩, fun c => absurd (show (i : Int) < n by omega) c⟩
    rw [nn, w1 (by omega)]
    refine ⟨fun c1 => ⟨⟨by omega, by omega⟩, ⟨fun c2 => ⟨by rw [len1]; omega, ?_⟩, fun c2 => ⟨⟨by omega, by omega⟩, ⟨fun c3 => ?_, fun c3 => ⟨by rw [len1]; omega, ?_⟩⟩⟩⟩⟩, fun c1 => ?_⟩
    · rw [outZ_yes (by rw [pickZ, c1, decide_eq_true c2]; rfl)] at hn2; exact hn2
    · rw [outZ_no (by rw [pickZ, c1, decide_eq_false c2, c3]; rfl)] at hn2; exact hn2
    · rw [outZ_yes (by rw [pickZ, c1, decide_eq_false c2, c3]; rfl)] at hn2; exact hn2
    · rw [outZ_no (by rw [pickZ, c1]; rfl)] at hn2; exact hn2

end Go.Proofs.Ytplfnchoooehgaa.G

namespace Go.Proofs.Ytplfnchoooehgaa.G
open Go Go.Ab
set_option maxRecDepth 100000
set_option linter.unusedVariables false
set_option linter.unusedSimpArgs false
set_option maxHeartbeats 1000000
/-- j is reached from i by parents, where only places from t on are left. -/
def rch (P : List Int) (t : Nat) : Nat → Nat → Nat → Prop
  | 0, _, _ => False
  | f + 1, i, j => j = i ∨ (t ≤ i ∧ 0 ≤ P.getD i 0 ∧ rch P t f (P.getD i 0).toNat j)
def Down (P : List Int) (n : Nat) : Prop := ∀ i, i < n → -1 ≤ P.getD i 0 ∧ P.getD i 0 < i
theorem rch_step {P : List Int} {n : Nat} (hd : Down P n) (t : Nat) : ∀ f i j, i < f → i < n → (rch P t f i j ↔ (rch P (t + 1) f i j ∨ (P.getD t 0 = (j : Int) ∧ rch P (t + 1) f i t)))
  | 0, i, j, h, _ => by omega
  | f + 1, i, j, h, hn => by
    have hp := hd i hn
    rw [rch, rch, rch]
    rcases Nat.lt_trichotomy i t with h1 | h1 | h1
    · constructor
      · rintro (h2 | ⟨h2, _⟩)
        · exact .inl (.inl h2)
        · omega
      · rintro ((h2 | ⟨h2, _⟩) | ⟨_, h2 | ⟨h2, _⟩⟩)
        · exact .inl h2
        · omega
        · omega
        · omega
    · subst h1
      constructor
      · rintro (h2 | ⟨_, h3, h4⟩)
        · exact .inl (.inl h2)
        · right
          refine ⟨?_, .inl rfl⟩
          cases f with
          | zero => exact h4.elim
          | succ f =>
            rw [rch] at h4
            rcases h4 with h4 | ⟨h4, _⟩ <;> omega
      · rintro ((h2 | ⟨h2, _⟩) | ⟨h2, _⟩)
        · exact .inl h2
        · omega
        · right
          refine ⟨Nat.le_refl _, by omega, ?_⟩
          cases f with
          | zero => omega
          | succ f => rw [rch]; left; omega
    · constructor
      · rintro (h2 | ⟨_, h3, h4⟩)
        · exact .inl (.inl h2)
        · rcases (rch_step hd t f _ j (by omega) (by omega)).1 h4 with h5 | ⟨h5, h6⟩
          · exact .inl (.inr ⟨by omega, h3, h5⟩)
          · exact .inr ⟨h5, .inr ⟨by omega, h3, h6⟩⟩
      · rintro ((h2 | ⟨_, h3, h4⟩) | ⟨h5, h2 | ⟨_, h3, h6⟩⟩)
        · exact .inl h2
        · exact .inr ⟨by omega, h3, (rch_step hd t f _ j (by omega) (by omega)).2 (.inl h4)⟩
        · omega
        · exact .inr ⟨by omega, h3, (rch_step hd t f _ j (by omega) (by omega)).2 (.inr ⟨h5, h6⟩)⟩
/-- Who is marked: who is reached from a place of sig. -/
def zOk (P : List Int) (n : Nat) (sig : Nat → Bool) (t : Nat) (z : List Bool) : Prop := z.length = n ∧ ∀ j, j < n → (z.getD j false = true ↔ ¬ ∃ i, i < n ∧ sig i = true ∧ rch P t n i j)
theorem getD_set {z : List Bool} {a j : Nat} (ha : a < z.length) : (z.set a false).getD j false = if j = a then false else z.getD j false := by
  rw [List.getD_eq_getElem?_getD, List.getD_eq_getElem?_getD, List.getElem?_set]
  by_cases h : a = j
  · subst h; rw [if_pos rfl, if_pos ha, if_pos rfl]; rfl
  · rw [if_neg h, if_neg (fun e => h e.symm)]
theorem zOk_same {P : List Int} {n t : Nat} {sig : Nat → Bool} {z : List Bool} (hd : Down P n) (ht : t < n) (h : zOk P n sig (t + 1) z) (hno : P.getD t 0 < 0 ∨ z.getD t false = true) : zOk P n sig t z := by
  refine ⟨h.1, fun j hj => ?_⟩
  rw [h.2 j hj]
  refine not_congr ⟨fun ⟨i, hi, hs, hr⟩ => ⟨i, hi, hs, (rch_step hd t n i j hi hi).2 (.inl hr)⟩, fun ⟨i, hi, hs, hr⟩ => ⟨i, hi, hs, ?_⟩⟩
  rcases (rch_step hd t n i j hi hi).1 hr with h1 | ⟨h1, h2⟩
  · exact h1
  · exfalso
    rcases hno with h3 | h3
    · omega
    · exact (h.2 t ht).1 h3 ⟨i, hi, hs, h2⟩
theorem zOk_set {P : List Int} {n t : Nat} {sig : Nat → Bool} {z : List Bool} (hd : Down P n) (ht : t < n) (h : zOk P n sig (t + 1) z) (h0 : 0 ≤ P.getD t 0) (hz : z.getD t false = false) : zOk P n sig t (z.set (P.getD t 0).toNat false) := by
  have hp := hd t ht
  refine ⟨by rw [List.length_set]; exact h.1, fun j hj => ?_⟩
  rw [getD_set (by rw [h.1]; omega)]
  have hex : ∃ i, i < n ∧ sig i = true ∧ rch P (t + 1) n i t := Classical.byContradiction fun c => by
    have := (h.2 t ht).2 c; rw [hz] at this; cases this
  by_cases hj2 : j = (P.getD t 0).toNat
  · rw [if_pos hj2]
    refine ⟨fun c => (by cases c), fun c => absurd ?_ c⟩
    obtain ⟨i, hi, hs, hr⟩ := hex
    exact ⟨i, hi, hs, (rch_step hd t n i j hi hi).2 (.inr ⟨by omega, hr⟩)⟩
  · rw [if_neg hj2, h.2 j hj]
    refine not_congr ⟨fun ⟨i, hi, hs, hr⟩ => ⟨i, hi, hs, (rch_step hd t n i j hi hi).2 (.inl hr)⟩, fun ⟨i, hi, hs, hr⟩ => ⟨i, hi, hs, ?_⟩⟩
    rcases (rch_step hd t n i j hi hi).1 hr with h1 | ⟨h1, _⟩
    · exact h1
    · omega
theorem zOk_uniq {P : List Int} {n t : Nat} {sig : Nat → Bool} {z y : List Bool} (h1 : zOk P n sig t z) (h2 : zOk P n sig t y) : z = y := by
  apply List.ext_getElem (by rw [h1.1, h2.1])
  intro j hj hj2
  have a := h1.2 j (by rw [← h1.1]; exact hj)
  have b := h2.2 j (by rw [← h1.1]; exact hj)
  rw [gD hj] at a; rw [gD hj2] at b
  rw [Bool.eq_iff_iff, a, b]
/-- At first: each place by itself. -/
theorem zOk_n {P : List Int} {n : Nat} {sig : Nat → Bool} {z : List Bool} (hd : Down P n) (hz : z.length = n) (h : ∀ j, j < n → z.getD j false = !sig j) : zOk P n sig n z := by
  refine ⟨hz, fun j hj => ?_⟩
  rw [h j hj]
  constructor
  · rintro h1 ⟨i, hi, hs, hr⟩
    cases n with
    | zero => omega
    | succ n =>
      rw [rch] at hr
      rcases hr with rfl | ⟨hr, _⟩
      · rw [hs] at h1; cases h1
      · omega
  · intro h1
    cases hs : sig j with
    | false => rfl
    | true =>
      refine absurd ⟨j, hj, hs, ?_⟩ h1
      cases n with
      | zero => omega
      | succ n => rw [rch]; exact .inl rfl
theorem down_pass {P : List Int} {n : Nat} {sig : Nat → Bool} (hn : n ≤ 128) (hP : P.length = n) (hd : Down P n) {E : List Bool → Prop} (hend : ∀ y, zOk P n sig 0 y → E y) {X : List Bool → Int → Prop} (hX : ∀ (zero320 : List (Bool)) (i321 : Int), (((0 : Int) ≤ i321 → ((0 : Int) ≤ i321 ∧ i321 < (P.length : Int)) ∧ (((0 : Int) ≤ (P.getD (i321).toNat (0 : Int)) → ((0 : Int) ≤ i321 ∧ i321 < (zero320.length : Int)) ∧ (((zero320.getD (i321).toNat false) = true → X (zero320) (IntKind.i64.wrap (i321 - (1 : Int)))) ∧ ((zero320.getD (i321).toNat false) = false → ((0 : Int) ≤ (P.getD (i321).toNat (0 : Int)) ∧ (P.getD (i321).toNat (0 : Int)) < (zero320.length : Int)) ∧ X (zero320.set ((P.getD (i321).toNat (0 : Int))).toNat false) (IntKind.i64.wrap (i321 - (1 : Int)))))) ∧ (¬((0 : Int) ≤ (P.getD (i321).toNat (0 : Int))) → X (zero320) (IntKind.i64.wrap (i321 - (1 : Int)))))) ∧ (¬((0 : Int) ≤ i321) → E zero320)) → X zero320 i321) {z : List Bool} (h : zOk P n sig n z) : X z ((n : Int) - 1) := by
  have key : ∀ (k : Nat) (z : List Bool), k ≤ n → zOk P n sig k z → X z ((k : Int) - 1) := by
    intro k
    induction k with
    | zero => intro z _ h; exact hX _ _ ⟨fun c => absurd c (by omega), fun _ => hend z h⟩
    | succ k ih =>
      intro z hk h
      have e : ((k + 1 : Nat) : Int) - 1 = (k : Int) := by omega
      have hp := hd k (by omega)
      have hl := h.1
      rw [e]
      refine hX _ _ ⟨fun _ => ⟨⟨by omega, by omega⟩, ?_⟩, fun c => absurd (show (0 : Int) ≤ (k : Int) by omega) c⟩
      rw [nn, wI (n := (k : Int) - 1) (by omega)]
      refine ⟨fun c1 => ⟨⟨by omega, by omega⟩, ⟨fun c2 => ih _ (by omega) (zOk_same hd (by omega) h (.inr c2)), fun c2 => ⟨⟨by omega, by omega⟩, ih _ (by omega) (zOk_set hd (by omega) h c1 c2)⟩⟩⟩, fun c1 => ih _ (by omega) (zOk_same hd (by omega) h (.inl (by omega)))⟩
  exact key n z (Nat.le_refl _) h
theorem climb {P : List Int} {n : Nat} (hn : n ≤ 128) (hP : P.length = n) (hd : Down P n) {E : List Bool → Prop} {X : List Bool → Int → Prop} (hX : ∀ (z : List Bool) (i : Int), (((0 : Int) ≤ i → ((0 : Int) ≤ i ∧ i < (z.length : Int)) ∧ ((0 : Int) ≤ i ∧ i < (P.length : Int)) ∧ X (z.set (i).toNat false) (P.getD (i).toNat (0 : Int))) ∧ (¬((0 : Int) ≤ i) → E z)) → X z i) : ∀ (f i : Nat) (z : List Bool), i < f → i < n → z.length = n → (∀ y : List Bool, y.length = n → (∀ j, j < n → (y.getD j false = true ↔ (z.getD j false = true ∧ ¬ rch P 0 f i j))) → E y) → X z (i : Int)
  | 0, i, z, h, _, _, _ => by omega
  | f + 1, i, z, h, hi, hz, hE => by
    have hp := hd i hi
    refine hX _ _ ⟨fun _ => ⟨⟨by omega, by omega⟩, ⟨by omega, by omega⟩, ?_⟩, fun c => absurd (show (0 : Int) ≤ (i : Int) by omega) c⟩
    rw [nn]
    by_cases h0 : 0 ≤ P.getD i 0
    · have e : P.getD i 0 = (((P.getD i 0).toNat : Nat) : Int) := by omega
      rw [e]
      refine climb hn hP hd hX f (P.getD i 0).toNat _ (by omega) (by omega) (by rw [List.length_set]; exact hz) fun y hy hyj => hE y hy fun j hj => ?_
      rw [hyj j hj, getD_set (by omega), rch]
      by_cases hji : j = i
      · rw [if_pos hji]; exact ⟨fun c => (by cases c.1), fun c => absurd (.inl hji) c.2⟩
      · rw [if_neg hji]
        exact ⟨fun c => ⟨c.1, fun c2 => c2.elim hji fun c3 => c.2 c3.2.2⟩, fun c => ⟨c.1, fun c2 => c.2 (.inr ⟨Nat.zero_le _, h0, c2⟩)⟩⟩
    · refine hX _ _ ⟨fun c => absurd c h0, fun _ => hE _ (by rw [List.length_set]; exact hz) fun j hj => ?_⟩
      rw [getD_set (by omega), rch]
      by_cases hji : j = i
      · rw [if_pos hji]; exact ⟨fun c => (by cases c), fun c => absurd (.inl hji) c.2⟩
      · rw [if_neg hji]
        exact ⟨fun c => ⟨c, fun c2 => c2.elim hji fun c3 => h0 c3.2.1⟩, fun c => c.1⟩

end Go.Proofs.Ytplfnchoooehgaa.G

namespace Go.Proofs.Ytplfnchoooehgaa.G
open Go Go.Ab
set_option maxRecDepth 100000
set_option linter.unusedVariables false
set_option linter.unusedSimpArgs false
set_option maxHeartbeats 1000000
theorem spec_l06Abs_wp {n : Int} {K : Int → Prop} (h : Sm n) (hk : K (n.natAbs : Int)) : spec_l06Abs.wp n K := by
  obtain ⟨h1, h2⟩ := h
  refine ⟨fun c => ?_, fun c => ?_⟩
  · rw [wI (n := 0 - n) (by omega), show 0 - n = (n.natAbs : Int) by omega]; exact hk
  · rw [show (n.natAbs : Int) = n by omega] at hk; exact hk
theorem impl_far_wp {n : Int} {K : Int → Prop} (h : Sm n) (hk : K (n.natAbs : Int)) : impl_far.wp n K := by
  obtain ⟨h1, h2⟩ := h
  show K (mxI n (IntKind.i64.wrap (0 - n)))
  rw [wI (n := 0 - n) (by omega)]
  have : mxI n (0 - n) = (n.natAbs : Int) := by unfold mxI; split <;> omega
  rw [this]; exact hk
def sigZ (l : List Int) (p i : Nat) : Bool := !decide ((l.getD i 0).natAbs / 2 ^ p = 0)
theorem fill_loop (l : List Int) (hl : l.length ≤ 128) (p : Nat) {X : List Bool → Int → Prop} {E : List Bool → Prop} (hX : ∀ (z : List Bool) (i : Nat), i ≤ l.length → z.length = l.length → (i < l.length → X (z.set i (!sigZ l p i)) ((i + 1 : Nat) : Int)) → (¬ i < l.length → E z) → X z (i : Int)) (hE : ∀ z : List Bool, z.length = l.length → (∀ j, j < l.length → z.getD j false = !sigZ l p j) → E z) {z : List Bool} (hz : z.length = l.length) : X z ((0 : Nat) : Int) := by
  have key : ∀ m i z, m + i = l.length → z.length = l.length → (∀ j, j < i → z.getD j false = !sigZ l p j) → X z (i : Int) := by
    intro m
    induction m with
    | zero => intro i z h1 h2 h3
              obtain rfl : i = l.length := by omega
              exact hX z _ (Nat.le_refl _) h2 (fun c => by omega) (fun _ => hE z h2 h3)
    | succ m ih =>
      intro i z h1 h2 h3
      refine hX z i (by omega) h2 (fun _ => ih (i + 1) _ (by omega) (by rw [List.length_set]; exact h2) fun j hj => ?_) (fun c => by omega)
      rw [List.getD_eq_getElem?_getD, List.getElem?_set]
      by_cases hji : i = j
      · subst hji; rw [if_pos rfl, if_pos (by omega)]; rfl
      · rw [if_neg hji, ← List.getD_eq_getElem?_getD]; exact h3 j (by omega)
  exact key l.length 0 z (by omega) hz (fun j hj => by omega)
def ztOk (l : List Int) (lv p : Int) : Prop := isI l = true ∧ (1 ≤ lv ∧ lv ≤ 6) ∧ 0 ≤ p ∧ p ≤ 24
theorem impl_ZeroTrees_wp {l : List Int} {lv p : Int} {K : List Int → Bool → Prop} (hl : l.length ≤ 2 ^ 20) (h0 : ¬ ztOk l lv p → K [] false) (h : ztOk l lv p → ∀ y, zOk (parL l.length lv.toNat) l.length (sigZ l p.toNat) 0 y → K (outZ y (parL l.length lv.toNat) l.length) true) : impl_ZeroTrees.wp l lv p K := by
  refine impl_parentsOf_wp ?_
  by_cases hc : (1 ≤ (l.length : Int) ∧ (l.length : Int) ≤ 128) ∧ 1 ≤ lv ∧ lv ≤ 6
  case neg =>
    rw [if_neg hc]
    refine tF (h0 fun c => hc ⟨?_, c.2.1⟩)
    have := c.1
    simp only [isI, Bool.and_eq_true, decide_eq_true_eq] at this; omega
  rw [if_pos hc]
  refine tT (impl_AreIntegers_wp hl ⟨fun h1 => impl_within_wp ⟨fun h2 => ?_, fun h2 => h0 fun c => absurd c.2.2 (of_decide_eq_false h2)⟩, fun h1 => h0 fun c => by have := c.1; rw [h1] at this; cases this⟩)
  have h2 := of_decide_eq_true h2
  have h := h ⟨h1, hc.2, h2⟩
  have hg := isI_sm h1
  obtain ⟨pn, rfl⟩ : ∃ n : Nat, p = n := ⟨p.toNat, by omega⟩
  rw [nn] at h
  rw [nn l.length]
  have hPl : (parL l.length lv.toNat).length = l.length := parL_len _ _
  have hd : Down (parL l.length lv.toNat) l.length := fun i hi => parL_lt (by omega) hi
  generalize parL l.length lv.toNat = P at h hPl hd ⊢
  refine ⟨⟨by omega, by omega, by omega, by omega⟩, fun X hX => ?_⟩
  refine fill_loop l hg.1 pn (X := X) (E := fun z => zOk P l.length (sigZ l pn) l.length z) (fun z i hi hz h3 h4 => hX _ _ ⟨fun _ => ⟨⟨by omega, by omega⟩, ?_⟩, fun c => ?_⟩) (fun z hz hzj => zOk_n hd hz hzj) (by rw [List.length_replicate])
  · have hi' : i < l.length := by omega
    rw [nn, w1 (by omega)]
    have hs := hg.2 _ (List.getElem_mem hi')
    rw [gD hi']
    refine impl_far_wp hs ⟨by omega, ⟨by omega, by omega⟩, ?_⟩
    have h3 := h3 hi'
    rw [shr _ _ (by omega)]
    unfold sigZ at h3
    rw [gD hi', Bool.not_not] at h3
    rw [show decide (((l[i].natAbs / 2 ^ pn : Nat) : Int) = 0) = decide (l[i].natAbs / 2 ^ pn = 0) by rw [Bool.eq_iff_iff, decide_eq_true_eq, decide_eq_true_eq]; omega]
    exact h3
  · have h4 := h4 (by omega)
    intro Y hY
    rw [wI (n := (l.length : Int) - 1) (by omega)]
    refine down_pass hg.1 hPl hd (E := fun y => zOk P l.length (sigZ l pn) 0 y) (fun y hy => hy) (X := Y) (fun zero i hh => hY _ _ ⟨hh.1, fun c => ?_⟩) h4
    have hy := hh.2 c
    intro Z hZ
    refine last_pass hg.1 hy.1 hPl hd (E := fun o => K o true) (h zero hy) (X := Z) (fun o i hh2 => hZ _ _ ?_)
    rw [hy.1]
    rw [hy.1] at hh2
    exact hh2
theorem rch_0n {P : List Int} {n : Nat} {sig : Nat → Bool} {z : List Bool} {s : Nat} (hs : s ≤ n) (hz : z.length = n) (h : ∀ j, j < n → (z.getD j false = true ↔ ¬ ∃ i, i < s ∧ sig i = true ∧ rch P 0 n i j)) (he : s = n) : zOk P n sig 0 z := by
  subst he; exact ⟨hz, h⟩
theorem spec_ZeroTrees_wp {l : List Int} {lv p : Int} {K : List Int → Bool → Prop} (hl : l.length ≤ 2 ^ 20) (h0 : ¬ ztOk l lv p → K [] false) (h : ztOk l lv p → ∀ y, zOk (parL l.length lv.toNat) l.length (sigZ l p.toNat) 0 y → K (outZ y (parL l.length lv.toNat) l.length) true) : spec_ZeroTrees.wp l lv p K := by
  refine spec_l02Integers_wp hl ⟨fun h1 => spec_l00In_wp ⟨fun h2 => spec_l00In_wp ⟨fun h3 => ?_, fun h3 => h0 fun c => absurd c.2.2 (of_decide_eq_false h3)⟩, fun h2 => h0 fun c => absurd c.2.1 (of_decide_eq_false h2)⟩, fun h1 => h0 fun c => by have := c.1; rw [h1] at this; cases this⟩
  have h2 := of_decide_eq_true h2
  have h3 := of_decide_eq_true h3
  have h := h ⟨h1, h2, h3⟩
  have hg := isI_sm h1
  have hn1 : 1 ≤ l.length := by simp only [isI, Bool.and_eq_true, decide_eq_true_eq] at h1; omega
  obtain ⟨pn, rfl⟩ : ∃ n : Nat, p = n := ⟨p.toNat, by omega⟩
  obtain ⟨lv, rfl⟩ : ∃ n : Nat, lv = n := ⟨lv.toNat, by omega⟩
  rw [nn, nn] at h
  have hPl : (parL l.length lv).length = l.length := parL_len _ _
  have hd : Down (parL l.length lv) l.length := fun i hi => parL_lt (by omega) hi
  intro X hX
  have key := up (Y := fun i => i ≤ l.length → X (List.replicate i true) ((parL l.length lv).take i) (i : Int)) l.length (fun _ => ?_) (fun i hi hn _ => ?_)
  · exact key (Nat.zero_le _)
  · refine hX _ _ _ ⟨fun c => absurd c (by omega), fun _ => ?_⟩
    rw [List.take_of_length_le (by omega)]
    generalize parL l.length lv = P at h hPl hd ⊢
    intro Y hY
    have key2 : ∀ (m i : Nat) (z : List Bool), m + i = l.length → z.length = l.length → (∀ j, j < l.length → (z.getD j false = true ↔ ¬ ∃ q, q < i ∧ sigZ l pn q = true ∧ rch P 0 l.length q j)) → Y z (i : Int) := by
      intro m
      induction m with
      | zero =>
        intro i z e1 e2 e3
        obtain rfl : i = l.length := by omega
        refine hY _ _ ⟨fun c => absurd c (by omega), fun _ => ?_⟩
        intro Z hZ
        refine last_pass hg.1 e2 hPl hd (E := fun o => K o true) (h z ⟨e2, e3⟩) (X := Z) (fun o i hh2 => hZ _ _ ?_)
        rw [e2]; rw [e2] at hh2; exact hh2
      | succ m ih =>
        intro i z e1 e2 e3
        have hi : i < l.length := by omega
        have hs := hg.2 _ (List.getElem_mem hi)
        refine hY _ _ ⟨fun _ => ⟨⟨by omega, by omega⟩, ?_⟩, fun c => absurd (show (i : Int) < l.length by omega) c⟩
        rw [nn, gD hi, w1 (by omega), u64w (by omega)]
        refine spec_l06Abs_wp hs ⟨by omega, ?_⟩
        rw [shr _ _ (by omega)]
        have es : sigZ l pn i = !decide (l[i].natAbs / 2 ^ pn = 0) := by unfold sigZ; rw [gD hi]
        refine ⟨fun c => ih (i + 1) z (by omega) e2 fun j hj => ?_, fun c => ?_⟩
        · rw [e3 j hj]
          refine not_congr ⟨fun ⟨q, a1, a2, a3⟩ => ⟨q, by omega, a2, a3⟩, fun ⟨q, a1, a2, a3⟩ => ⟨q, ?_, a2, a3⟩⟩
          by_cases hq : q = i
          · subst hq; rw [es, decide_eq_true (by omega)] at a2; cases a2
          · omega
        · intro W hW
          refine climb hg.1 hPl hd (X := W) (E := fun y => Y y ((i + 1 : Nat) : Int)) (fun z a hh => hW _ _ hh) l.length i z hi hi e2 fun y f1 f2 => ih (i + 1) y (by omega) f1 fun j hj => ?_
          rw [f2 j hj, e3 j hj]
          constructor
          · rintro ⟨g1, g2⟩ ⟨q, a1, a2, a3⟩
            by_cases hq : q = i
            · subst hq; exact g2 a3
            · exact g1 ⟨q, by omega, a2, a3⟩
          · intro g
            refine ⟨fun ⟨q, a1, a2, a3⟩ => g ⟨q, by omega, a2, a3⟩, fun a3 => g ⟨i, by omega, ?_, a3⟩⟩
            rw [es, decide_eq_false (by omega)]; rfl
    refine key2 l.length 0 _ (by omega) (by rw [List.length_replicate]) fun j hj => ?_
    rw [gD (by rw [List.length_replicate]; exact hj), List.getElem_replicate]
    exact ⟨fun _ ⟨q, a1, _⟩ => by omega, fun _ => rfl⟩
  · have hn := hn (by omega)
    refine hX _ _ _ ⟨fun _ => spec_l06Parent_wp (by omega) (by omega) hi ⟨?_, ?_, ?_⟩, fun c => absurd (show (i : Int) < l.length by omega) c⟩
    · rw [len1, List.length_take]; omega
    · rw [len1, List.length_replicate]; omega
    · rw [w1 (by omega), ← List.replicate_succ']
      rw [List.take_succ_eq_append_getElem (by omega)] at hn
      have e := parL_at (lv := lv) hi
      rw [gD (by omega)] at e
      rw [e] at hn; exact hn
theorem zt_both (l : List Int) (lv p : Int) (hl : l.length ≤ 2 ^ 20) (z : List Bool) (hz : ztOk l lv p → zOk (parL l.length lv.toNat) l.length (sigZ l p.toNat) 0 z) : ∃ out ok, (∀ K, K out ok → spec_ZeroTrees.wp l lv p K) ∧ (∀ K, K out ok → impl_ZeroTrees.wp l lv p K) ∧ out.length ≤ 2 ^ 20 := by
  by_cases hc : ztOk l lv p
  · refine ⟨outZ z (parL l.length lv.toNat) l.length, true, fun K hk => spec_ZeroTrees_wp hl (fun c => absurd hc c) (fun _ y hy => by rw [zOk_uniq hy (hz hc)]; exact hk), fun K hk => impl_ZeroTrees_wp hl (fun c => absurd hc c) (fun _ y hy => by rw [zOk_uniq hy (hz hc)]; exact hk), by have := outZ_len z (parL l.length lv.toNat) l.length; omega⟩
  · exact ⟨[], false, fun K hk => spec_ZeroTrees_wp hl (fun _ => hk) (fun c => absurd c hc), fun K hk => impl_ZeroTrees_wp hl (fun _ => hk) (fun c => absurd c hc), by simp⟩
open Classical in
theorem zOk_ex (P : List Int) (n : Nat) (sig : Nat → Bool) : ∃ z, zOk P n sig 0 z := by
  refine ⟨(List.range n).map fun j => decide (¬ ∃ i, i < n ∧ sig i = true ∧ rch P 0 n i j), by simp, fun j hj => ?_⟩
  rw [gD (by simpa using hj), List.getElem_map, List.getElem_range, decide_eq_true_eq]

end Go.Proofs.Ytplfnchoooehgaa.G

namespace Go.Proofs.Ytplfnchoooehgaa.G
open Go Go.Ab
set_option maxRecDepth 100000
set_option linter.unusedVariables false
set_option linter.unusedSimpArgs false
set_option maxHeartbeats 1000000
/-- a is reached from i by parents. -/
def an (P : List Int) (a : Nat) : Nat → Nat → Bool
  | 0, _ => false
  | f + 1, i => decide (i = a) || (decide (0 ≤ P.getD i 0) && an P a f (P.getD i 0).toNat)
theorem an_rch (P : List Int) (a : Nat) : ∀ f i, an P a f i = true ↔ rch P 0 f i a
  | 0, i => by simp [an, rch]
  | f + 1, i => by
    rw [an, rch, Bool.or_eq_true, Bool.and_eq_true, decide_eq_true_eq, decide_eq_true_eq, an_rch P a f]
    constructor
    · rintro (h | ⟨h1, h2⟩)
      · exact .inl h.symm
      · exact .inr ⟨Nat.zero_le _, h1, h2⟩
    · rintro (h | ⟨_, h1, h2⟩)
      · exact .inl h.symm
      · exact .inr ⟨h1, h2⟩
theorem an_fuel {P : List Int} {n : Nat} (hd : Down P n) (a : Nat) : ∀ i, i < n → ∀ f g, i < f → i < g → an P a f i = an P a g i := by
  intro i
  induction i using Nat.strongRecOn with
  | _ i ih =>
    intro hi f g hf hg
    cases f with
    | zero => omega
    | succ f =>
      cases g with
      | zero => omega
      | succ g =>
        rw [an, an]
        by_cases h0 : 0 ≤ P.getD i 0
        · have hp := hd i hi
          rw [ih (P.getD i 0).toNat (by omega) (by omega) f g (by omega) (by omega)]
        · rw [decide_eq_false h0]; rfl
theorem an_rec {P : List Int} {n : Nat} (hd : Down P n) (a : Nat) {i : Nat} (hi : i < n) : an P a n i = (decide (i = a) || (decide (0 ≤ P.getD i 0) && an P a n (P.getD i 0).toNat)) := by
  cases n with
  | zero => omega
  | succ n =>
    rw [an]
    by_cases h0 : 0 ≤ P.getD i 0
    · have hp := hd i hi
      rw [an_fuel hd a (P.getD i 0).toNat (by omega) n (n + 1) (by omega) (by omega)]
    · rw [decide_eq_false h0]; rfl
section
variable {P : List Int} {n : Nat}
theorem an_self (hd : Down P n) {i : Nat} (hi : i < n) : an P i n i = true := by rw [an_rec hd i hi, decide_eq_true rfl]; rfl
theorem an_up (hd : Down P n) {a i : Nat} (hi : i < n) (h0 : 0 ≤ P.getD i 0) (h : an P a n (P.getD i 0).toNat = true) : an P a n i = true := by
  rw [an_rec hd a hi, decide_eq_true h0, h]; simp
theorem an_case (hd : Down P n) {a i : Nat} (hi : i < n) (h : an P a n i = true) : i = a ∨ (0 ≤ P.getD i 0 ∧ (P.getD i 0).toNat < i ∧ an P a n (P.getD i 0).toNat = true) := by
  rw [an_rec hd a hi, Bool.or_eq_true, Bool.and_eq_true, decide_eq_true_eq, decide_eq_true_eq] at h
  rcases h with h | ⟨h1, h2⟩
  · exact .inl h
  · have := hd i hi
    exact .inr ⟨h1, by omega, h2⟩
theorem an_le (hd : Down P n) (a : Nat) : ∀ i, i < n → an P a n i = true → a ≤ i := by
  intro i
  induction i using Nat.strongRecOn with
  | _ i ih =>
    intro hi h
    rcases an_case hd hi h with h1 | ⟨_, h2, h3⟩
    · omega
    · have := ih _ h2 (by omega) h3; omega
theorem an_trans (hd : Down P n) {a b : Nat} : ∀ i, i < n → an P b n i = true → an P a n b = true → an P a n i = true := by
  intro i
  induction i using Nat.strongRecOn with
  | _ i ih =>
    intro hi h hb
    rcases an_case hd hi h with h1 | ⟨h0, h2, h3⟩
    · rw [h1]; exact hb
    · exact an_up hd hi h0 (ih _ h2 (by omega) h3 hb)
theorem an_chain (hd : Down P n) {a b : Nat} (hab : a ≤ b) : ∀ i, i < n → an P a n i = true → an P b n i = true → an P a n b = true := by
  intro i
  induction i using Nat.strongRecOn with
  | _ i ih =>
    intro hi h1 h2
    rcases an_case hd hi h2 with h3 | ⟨_, h4, h5⟩
    · rw [← h3]; exact h1
    · rcases an_case hd hi h1 with h6 | ⟨_, _, h7⟩
      · have := an_le hd b _ (by omega) h5; omega
      · exact ih _ h4 (by omega) h7 h5
end
/-! ### lists of marks -/
def mkF (n : Nat) (f : Nat → Bool) : List Bool := (List.range n).map f
theorem mkF_len (n : Nat) (f : Nat → Bool) : (mkF n f).length = n := by simp [mkF]
theorem mkF_at {n : Nat} {f : Nat → Bool} {i : Nat} (h : i < (mkF n f).length) : (mkF n f)[i] = f i := by simp [mkF]
theorem mkF_get {n : Nat} {f : Nat → Bool} {i : Nat} (hi : i < n) : (mkF n f).getD i false = f i := by
  rw [gD (by rw [mkF_len]; exact hi)]; simp [mkF]
theorem mkF_congr {n : Nat} {f g : Nat → Bool} (h : ∀ i, i < n → f i = g i) : mkF n f = mkF n g := by
  unfold mkF
  exact List.map_congr_left fun i hi => h i (List.mem_range.1 hi)
theorem mkF_set {n : Nat} {f : Nat → Bool} {i : Nat} : (mkF n f).set i true = mkF n (fun j => f j || decide (j = i)) := by
  apply List.ext_getElem
  · rw [List.length_set, mkF_len, mkF_len]
  · intro j h1 h2
    rw [List.getElem_set, mkF_at, mkF_at]
    by_cases h : i = j
    · rw [if_pos h, decide_eq_true h.symm, Bool.or_true]
    · rw [if_neg h, decide_eq_false (fun e => h e.symm), Bool.or_false]
theorem mkF_rep (n : Nat) : List.replicate n false = mkF n (fun _ => false) := by
  apply List.ext_getElem
  · simp [mkF]
  · intro j h1 h2; simp [mkF]
/-- The numbers below m that a function says. -/
def sel (f : Nat → Bool) (m : Nat) : List Nat := (List.range m).filter f
def selI (f : Nat → Bool) (m : Nat) : List Int := (sel f m).map fun (j : Nat) => (j : Int)
theorem sel_yes {f : Nat → Bool} {m : Nat} (h : f m = true) : selI f (m + 1) = selI f m ++ [(m : Int)] := by
  rw [selI, sel, List.range_succ, List.filter_append, List.map_append, List.filter_cons_of_pos h]; rfl
theorem sel_no {f : Nat → Bool} {m : Nat} (h : f m = false) : selI f (m + 1) = selI f m := by
  rw [selI, sel, List.range_succ, List.filter_append, List.map_append, List.filter_cons_of_neg (by rw [h]; decide)]
  show _ ++ [] = _
  rw [List.append_nil]; rfl
theorem sel_len (f : Nat → Bool) (m : Nat) : (sel f m).length ≤ m := by
  have := List.length_filter_le f (List.range m)
  rw [List.length_range] at this; exact this
theorem selI_len (f : Nat → Bool) (m : Nat) : (selI f m).length = (sel f m).length := by simp [selI]
theorem mem_sel {f : Nat → Bool} {m j : Nat} : j ∈ sel f m ↔ j < m ∧ f j = true := by simp [sel, List.mem_filter]
theorem selI_at {f : Nat → Bool} {m k : Nat} (hk : k < (sel f m).length) : (selI f m).getD k 0 = ((sel f m)[k] : Int) := by
  rw [gD (by rw [selI_len]; exact hk)]; simp [selI]
theorem sel_lt {f : Nat → Bool} {m k : Nat} (hk : k + 1 < (sel f m).length) : (sel f m)[k] < (sel f m)[k + 1] := by
  have h : (sel f m).Pairwise (· < ·) := List.Pairwise.filter _ (List.pairwise_lt_range)
  exact List.pairwise_iff_getElem.1 h k (k + 1) (by omega) hk (by omega)
/-- TreeOf. -/
def trF (P : List Int) (n a : Nat) : Nat → Bool := fun i => an P a n i
theorem impl_TreeOf_wp {n lv a : Nat} {K : List Int → Bool → Prop} (hn : 1 ≤ n ∧ n ≤ 128) (hlv : 1 ≤ lv ∧ lv ≤ 6) (ha : a < n) (h : K (selI (trF (parL n lv) n a) n) true) : impl_TreeOf.wp (n : Int) (lv : Int) (a : Int) K := by
  refine impl_parentsOf_wp ?_
  rw [if_pos (by omega), nn, nn]
  have hPl : (parL n lv).length = n := parL_len _ _
  have hd : Down (parL n lv) n := fun i hi => parL_lt (by omega) hi
  refine tT (impl_within_wp (tE (decide_eq_true ?_) ?_))
  · rw [wI (by omega)]; omega
  generalize parL n lv = P at h hPl hd ⊢
  refine ⟨by omega, fun X hX => ?_⟩
  have key : ∀ m i, m + i = n → X (selI (trF P n a) i) (mkF n (fun j => decide (j < i) && an P a n j)) (i : Int) := by
    intro m
    induction m with
    | zero =>
      intro i h1
      obtain rfl : i = n := by omega
      exact hX _ _ _ ⟨fun c => absurd c (by omega), fun _ => h⟩
    | succ m ih =>
      intro i h1
      have hi : i < n := by omega
      have ih := ih (i + 1) (by omega)
      have hr := an_rec hd a hi
      have hp := hd i hi
      have hsl := sel_len (trF P n a) i
      refine hX _ _ _ ⟨fun _ => ⟨⟨by omega, by omega⟩, ?_⟩, fun c => absurd (show (i : Int) < P.length by omega) c⟩
      rw [nn, w1 (by omega), mkF_len]
      have yes : an P a n i = true → X (selI (trF P n a) i ++ ([(i : Int)] : List Int)) ((mkF n (fun j => decide (j < i) && an P a n j)).set i true) ((i + 1 : Nat) : Int) := by
        intro hA
        rw [sel_yes (f := trF P n a) hA] at ih
        rw [mkF_set, mkF_congr (g := fun j => decide (j < i + 1) && an P a n j) fun j hj => ?_]
        · exact ih
        · by_cases e : j = i
          · subst e; rw [decide_eq_true rfl, hA, decide_eq_true (show j < j + 1 by omega)]; simp
          · by_cases e2 : j < i
            · rw [decide_eq_true e2, decide_eq_true (show j < i + 1 by omega), decide_eq_false e, Bool.or_false]
            · rw [decide_eq_false e2, decide_eq_false (show ¬ j < i + 1 by omega), decide_eq_false e]; rfl
      have no : an P a n i = false → X (selI (trF P n a) i) (mkF n (fun j => decide (j < i) && an P a n j)) ((i + 1 : Nat) : Int) := by
        intro hA
        rw [sel_no (f := trF P n a) hA] at ih
        rw [mkF_congr (g := fun j => decide (j < i + 1) && an P a n j) fun j hj => ?_]
        · exact ih
        · by_cases e : j = i
          · subst e; rw [hA]; simp
          · by_cases e2 : j < i
            · rw [decide_eq_true e2, decide_eq_true (show j < i + 1 by omega)]
            · rw [decide_eq_false e2, decide_eq_false (show ¬ j < i + 1 by omega)]
      refine ⟨fun c => ⟨⟨by omega, by omega⟩, by rw [len1, selI_len]; omega, yes (by rw [hr, decide_eq_true (show i = a by omega)]; rfl)⟩, fun c => ⟨fun c1 => ⟨⟨c1, by omega⟩, ?_⟩, fun c1 => no (by rw [hr, decide_eq_false (show ¬ i = a by omega), decide_eq_false c1]; rfl)⟩⟩
      rw [mkF_get (show (P.getD i 0).toNat < n by omega), decide_eq_true (show (P.getD i 0).toNat < i by omega), Bool.true_and]
      refine ⟨fun c2 => ⟨⟨by omega, by omega⟩, by rw [len1, selI_len]; omega, yes (by rw [hr, decide_eq_true c1, c2]; simp)⟩, fun c2 => no (by rw [hr, decide_eq_false (show ¬ i = a by omega), c2, Bool.and_false]; rfl)⟩
  have := key n 0 (by omega)
  rw [mkF_congr (g := fun _ => false) (fun j _ => by rw [decide_eq_false (Nat.not_lt_zero j)]; rfl), ← mkF_rep] at this
  exact this
theorem impl_ParentOf_wp {n lv i : Nat} {K : Int → Bool → Prop} (hn : 1 ≤ n ∧ n ≤ 128) (hlv : 1 ≤ lv ∧ lv ≤ 6) (hi : i < n) (h : K ((parL n lv).getD i 0) true) : impl_ParentOf.wp (n : Int) (lv : Int) (i : Int) K := by
  refine impl_parentsOf_wp ?_
  rw [if_pos (by omega), nn, nn]
  have hPl : (parL n lv).length = n := parL_len _ _
  refine tT (impl_within_wp (tE (decide_eq_true ?_) ⟨⟨by omega, by omega⟩, h⟩))
  rw [wI (by omega)]; omega
def dgT (a k : Nat) : Bool := decide (ibits .and .i64 ((a / 2 ^ k : Nat) : Int) 1 = 1)
def planeT (l : List Int) (k : Nat) : List Bool := l.map fun x => dgT x.natAbs k
theorem planeT_at {l : List Int} {k i : Nat} (hi : i < l.length) : (planeT l k).getD i false = dgT (l[i]).natAbs k := by
  rw [gD (by simpa [planeT] using hi)]; simp [planeT]
theorem impl_PlaneOf_wp {l : List Int} {k : Nat} {K : List Bool → Bool → Prop} (hI : isI l = true) (hk : k ≤ 23) (h : K (planeT l k) true) : impl_PlaneOf.wp l (k : Int) K := by
  have hg := isI_sm hI
  refine impl_AreIntegers_wp (by omega) (tE hI (impl_within_wp (tE (decide_eq_true (by omega)) fun X hX => ?_)))
  have key := up (Y := fun i => i ≤ l.length → X ((planeT l k).take i) (i : Int)) l.length (fun _ => ?_) (fun i hi hn _ => ?_)
  · exact key (Nat.zero_le _)
  · refine hX _ _ ⟨fun c => absurd c (by omega), fun _ => ?_⟩
    rw [List.take_of_length_le (by simp [planeT])]; exact h
  · have hn := hn (by omega)
    have hz := hg.2 _ (List.getElem_mem hi)
    refine hX _ _ ⟨fun _ => ⟨⟨by omega, by omega⟩, ?_⟩, fun c => absurd (show (i : Int) < l.length by omega) c⟩
    rw [nn, gD hi, w1 (by omega)]
    refine impl_far_wp hz ?_
    rw [shr _ _ (by omega)]
    refine ⟨by omega, by rw [len1, List.length_take]; omega, ?_⟩
    rw [List.take_succ_eq_append_getElem (show i < (planeT l k).length by simpa [planeT] using hi)] at hn
    have e : (planeT l k)[i]'(by simpa [planeT] using hi) = dgT (l[i]).natAbs k := by simp [planeT]
    rw [e] at hn; exact hn
theorem r8Abs_wp {n : Int} {K : Int → Prop} (h : Sm n) (hk : K (n.natAbs : Int)) : laws_r8Abs.wp n K := by
  obtain ⟨h1, h2⟩ := h
  show K (mxI n (IntKind.i64.wrap (0 - n)))
  rw [wI (n := 0 - n) (by omega)]
  have : mxI n (0 - n) = (n.natAbs : Int) := by unfold mxI; split <;> omega
  rw [this]; exact hk

end Go.Proofs.Ytplfnchoooehgaa.G

namespace Go.Proofs.Ytplfnchoooehgaa.G
open Go Go.Ab
set_option maxRecDepth 100000
set_option linter.unusedVariables false
set_option linter.unusedSimpArgs false
set_option maxHeartbeats 1000000
-- HYPE: 0 1
section
variable {P : List Int} {n : Nat} {sig : Nat → Bool} {z : List Bool}
theorem z_iff (hz : zOk P n sig 0 z) {j : Nat} (hj : j < n) : z.getD j false = true ↔ ∀ i, i < n → an P j n i = true → sig i = false := by
  rw [hz.2 j hj]
  constructor
  · intro h i hi ha
    cases hs : sig i with
    | false => rfl
    | true => exact absurd ⟨i, hi, hs, (an_rch P j n i).1 ha⟩ h
  · rintro h ⟨i, hi, hs, hr⟩
    have := h i hi ((an_rch P j n i).2 hr)
    rw [this] at hs; cases hs
theorem z_sub (hd : Down P n) (hz : zOk P n sig 0 z) {a b : Nat} (ha : a < n) (hb : b < n) (h : z.getD a false = true) (hab : an P a n b = true) : z.getD b false = true :=
  (z_iff hz hb).2 fun i hi hi2 => (z_iff hz ha).1 h i hi (an_trans hd i hi hi2 hab)
theorem pick_z {r : Nat} (h : pickZ z P r = true) : z.getD r false = true := by
  unfold pickZ at h; rw [Bool.and_eq_true] at h; exact h.1
theorem pick_lt (hd : Down P n) (hz : zOk P n sig 0 z) {r q i : Nat} (hr : r < n) (hq : q < n) (hi : i < n) (h1 : pickZ z P r = true) (h2 : pickZ z P q = true) (a1 : an P r n i = true) (a2 : an P q n i = true) (hlt : q < r) : False := by
  have hc := an_chain hd (Nat.le_of_lt hlt) i hi a2 a1
  rcases an_case hd hr hc with h3 | ⟨h3, h4, h5⟩
  · omega
  · have hzp := z_sub hd hz hq (show (P.getD r 0).toNat < n by omega) (pick_z h2) h5
    unfold pickZ at h1
    rw [Bool.and_eq_true, Bool.or_eq_true, decide_eq_true_eq, hzp] at h1
    rcases h1.2 with h6 | h6
    · omega
    · cases h6
theorem pick_one (hd : Down P n) (hz : zOk P n sig 0 z) {r q i : Nat} (hr : r < n) (hq : q < n) (hi : i < n) (h1 : pickZ z P r = true) (h2 : pickZ z P q = true) (a1 : an P r n i = true) (a2 : an P q n i = true) : r = q := by
  rcases Nat.lt_trichotomy r q with h | h | h
  · exact (pick_lt hd hz hq hr hi h2 h1 a2 a1 h).elim
  · exact h
  · exact (pick_lt hd hz hr hq hi h1 h2 a1 a2 h).elim
theorem cover (hd : Down P n) (hz : zOk P n sig 0 z) : ∀ i, i < n → (z.getD i false = true ↔ ∃ r, r < n ∧ pickZ z P r = true ∧ an P r n i = true) := by
  intro i
  induction i using Nat.strongRecOn with
  | _ i ih =>
    intro hi
    constructor
    · intro h
      cases hp : pickZ z P i with
      | true => exact ⟨i, hi, hp, an_self hd hi⟩
      | false =>
        unfold pickZ at hp
        rw [h, Bool.true_and, Bool.or_eq_false_iff] at hp
        have h0 := of_decide_eq_false hp.1
        have h1 : z.getD (P.getD i 0).toNat false = true := by
          cases hx : z.getD (P.getD i 0).toNat false with
          | true => rfl
          | false => rw [hx] at hp; cases hp.2
        have hdi := hd i hi
        obtain ⟨r, hr, hp2, ha⟩ := (ih (P.getD i 0).toNat (by omega) (by omega)).1 h1
        exact ⟨r, hr, hp2, an_up hd hi (by omega) ha⟩
    · rintro ⟨r, hr, hp, ha⟩
      exact z_sub hd hz hr hi (pick_z hp) ha
end
theorem sel_notin {f : Nat → Bool} {m k : Nat} (hk : k < (sel f m).length) : (sel f m)[k] ∉ (sel f m).take k := by
  intro h
  obtain ⟨j, hj, he⟩ := List.getElem_of_mem h
  rw [List.length_take] at hj
  rw [List.getElem_take] at he
  have hp : (sel f m).Pairwise (· < ·) := List.Pairwise.filter _ (List.pairwise_lt_range)
  have := List.pairwise_iff_getElem.1 hp j k (by omega) hk (by omega)
  omega
theorem sel_mem {f : Nat → Bool} {m k : Nat} (hk : k < (sel f m).length) : (sel f m)[k] < m ∧ f (sel f m)[k] = true := mem_sel.1 (List.getElem_mem hk)
theorem sig_no {l : List Int} {p i : Nat} (hi : i < l.length) (h : sigZ l p i = false) : l[i].natAbs / 2 ^ p = 0 := by
  unfold sigZ at h
  rw [gD hi] at h
  simpa using h
theorem sig_yes {l : List Int} {p i : Nat} (hi : i < l.length) : sigZ l p i = !decide (l[i].natAbs / 2 ^ p = 0) := by unfold sigZ; rw [gD hi]
theorem mem_take {α : Type} [DecidableEq α] {l : List α} {k : Nat} (hk : k < l.length) (x : α) : x ∈ l.take (k + 1) ↔ x ∈ l.take k ∨ x = l[k] := by
  rw [List.take_succ_eq_append_getElem hk, List.mem_append, List.mem_singleton]
/-- What is said of each index. -/
theorem tree_tail {l : List Int} {lv p i : Nat} {Zf : Nat → Bool} {X : Int → Prop} {F : Prop} (hI : isI l = true) (hn : 1 ≤ l.length ∧ l.length ≤ 128) (hlv : 1 ≤ lv ∧ lv ≤ 6) (hp : p ≤ 23) (hi : i < l.length) (hd : Down (parL l.length lv) l.length)
    (hZ : Zf i = true ↔ ∀ j, j < l.length → an (parL l.length lv) i l.length j = true → sigZ l p j = false) (hx : X ((i + 1 : Nat) : Int)) : (0 ≤ (i : Int) ∧ (i : Int) < ((planeT l p).length : Int)) ∧ (0 ≤ (i : Int) ∧ (i : Int) < (l.length : Int)) ∧ laws_r8Abs.wp (l.getD ((i : Int)).toNat (0 : Int)) fun y613 => (0 ≤ (IntKind.u64.wrap (p : Int))) ∧ (((((planeT l p).getD ((i : Int)).toNat false) == (decide ((ibits .and .i64 (Int.fdiv y613 (2 ^ (min ((IntKind.u64.wrap (p : Int))).toNat IntKind.i64.bits))) (1 : Int)) = (1 : Int)))) = true → impl_TreeOf.wp (l.length : Int) (lv : Int) (i : Int) fun y617 y620 => ((y620 = true → ∀ X623 : Bool → Int → Prop, (∀ (empty624 : Bool) (j625 : Int), ((j625 < (y617.length : Int) → ((empty624 = true → (0 ≤ j625 ∧ j625 < (y617.length : Int)) ∧ (0 ≤ (y617.getD (j625).toNat (0 : Int)) ∧ (y617.getD (j625).toNat (0 : Int)) < (l.length : Int)) ∧ laws_r8Abs.wp (l.getD ((y617.getD (j625).toNat (0 : Int))).toNat (0 : Int)) fun y630 => X623 (decide ((Int.fdiv y630 (2 ^ (min ((IntKind.u64.wrap (p : Int))).toNat IntKind.i64.bits))) = (0 : Int))) (IntKind.i64.wrap (j625 + (1 : Int)))) ∧ (empty624 = false → X623 (false) (IntKind.i64.wrap (j625 + (1 : Int)))))) ∧ (¬(j625 < (y617.length : Int)) → (0 ≤ (i : Int) ∧ (i : Int) < ((mkF l.length Zf).length : Int)) ∧ (((empty624 == ((mkF l.length Zf).getD ((i : Int)).toNat false)) = true → X (IntKind.i64.wrap ((i : Int) + (1 : Int)))) ∧ ((empty624 == ((mkF l.length Zf).getD ((i : Int)).toNat false)) = false → F)))) → X623 empty624 j625) → X623 (true) (0 : Int)) ∧ (y620 = false → F))) ∧ ((((planeT l p).getD ((i : Int)).toNat false) == (decide ((ibits .and .i64 (Int.fdiv y613 (2 ^ (min ((IntKind.u64.wrap (p : Int))).toNat IntKind.i64.bits))) (1 : Int)) = (1 : Int)))) = false → F)) := by
  have hg := isI_sm hI
  have hz := hg.2 _ (List.getElem_mem hi)
  refine ⟨⟨by omega, by simp [planeT]; omega⟩, ⟨by omega, by omega⟩, ?_⟩
  rw [nn, gD hi, u64w (by omega)]
  refine r8Abs_wp hz ⟨by omega, ?_⟩
  rw [shr _ _ (by omega), planeT_at hi]
  refine tB (impl_TreeOf_wp hn hlv hi (tT fun Y hY => ?_))
  have key : ∀ d k, d + k = (sel (trF (parL l.length lv) l.length i) l.length).length → Y (((sel (trF (parL l.length lv) l.length i) l.length).take k).all fun j => !sigZ l p j) (k : Int) := by
    intro d
    induction d with
    | zero =>
      intro k h1
      refine hY _ _ ⟨fun c => absurd c (by rw [selI_len]; omega), fun _ => ⟨⟨by omega, by rw [mkF_len]; omega⟩, ?_⟩⟩
      rw [w1 (by omega), mkF_get hi]
      refine tE ?_ hx
      rw [List.take_of_length_le (by omega), beq_iff_eq, Bool.eq_iff_iff, hZ, List.all_eq_true]
      constructor
      · intro h j hj ha
        have := h j (mem_sel.2 ⟨hj, ha⟩)
        simpa using this
      · intro h j hj
        obtain ⟨h2, h3⟩ := mem_sel.1 hj
        rw [h j h2 h3]; rfl
    | succ d ih =>
      intro k h1
      have hk : k < (sel (trF (parL l.length lv) l.length i) l.length).length := by omega
      obtain ⟨h2, h3⟩ := sel_mem hk
      have hsl := sel_len (trF (parL l.length lv) l.length i) l.length
      have ih := ih (k + 1) (by omega)
      rw [List.take_succ_eq_append_getElem hk, List.all_append] at ih
      refine hY _ _ ⟨fun _ => ⟨fun c => ?_, fun c => ?_⟩, fun c => absurd (show (k : Int) < (selI (trF (parL l.length lv) l.length i) l.length).length by rw [selI_len]; omega) c⟩
      · rw [nn, selI_at hk, nn, gD h2]
        refine ⟨⟨by omega, by rw [selI_len]; omega⟩, ⟨by omega, by omega⟩, r8Abs_wp (hg.2 _ (List.getElem_mem h2)) ?_⟩
        rw [shr _ _ (by omega), w1 (by omega)]
        rw [c, Bool.true_and] at ih
        have e : [(sel (trF (parL l.length lv) l.length i) l.length)[k]].all (fun j => !sigZ l p j) = decide (((l[(sel (trF (parL l.length lv) l.length i) l.length)[k]].natAbs / 2 ^ p : Nat) : Int) = 0) := by
          rw [List.all_cons, List.all_nil, Bool.and_true, sig_yes h2, Bool.not_not, Bool.eq_iff_iff, decide_eq_true_eq, decide_eq_true_eq]; omega
        rw [← e]; exact ih
      · rw [w1 (by omega)]
        rw [c, Bool.false_and] at ih; exact ih
  exact key _ 0 (Nat.add_zero _)
theorem isI_ok {l : List Int} (h : 1 ≤ l.length ∧ l.length ≤ 16) (hs : ∀ x ∈ l, -100 ≤ x ∧ x ≤ 100) : isI l = true := by
  simp only [isI, Bool.and_eq_true, decide_eq_true_eq, bnd, List.all_eq_true]
  exact ⟨by omega, fun x hx => by have := hs x hx; omega⟩
theorem pureTrees (l0 l1 : List Int) (hb0 : ∀ x ∈ l0, 0 ≤ x ∧ x < 256) (hb1 : ∀ x ∈ l1, 0 ≤ x ∧ x < 256) : laws_FnTrees.wp l0 l1 (fun b => b = true) := by
  refine ⟨fun c => ⟨fun _ => rfl, fun c2 => absurd c2 (by decide)⟩, fun c => ⟨fun _ => rfl, fun c2 => ?_⟩⟩
  have c2 := of_decide_eq_false c2
  refine spec_R8Integers_wp ⟨by omega, hb0⟩ fun l hn hs => ?_
  refine r8At_wp ⟨by omega, hb1⟩ (by decide) (by decide) fun lv0 hlv0 => ?_
  refine r8At_wp ⟨by omega, hb1⟩ (by decide) (by decide) fun p hp => ?_
  refine r8At_wp ⟨by omega, hb1⟩ (by decide) (by omega) fun a ha => ?_
  have hI := isI_ok hn hs
  have hg := isI_sm hI
  have ha' : a < l.length := by omega
  have hlv : 1 ≤ 1 + lv0 ∧ 1 + lv0 ≤ 6 := by omega
  rw [show IntKind.i64.wrap (1 + (lv0 : Int)) = ((1 + lv0 : Nat) : Int) by rw [wI (by omega)]; omega]
  generalize 1 + lv0 = lv at hlv
  have hn128 : 1 ≤ l.length ∧ l.length ≤ 128 := by omega
  have hd : Down (parL l.length lv) l.length := fun i hi => parL_lt (by omega) hi
  refine impl_TreeOf_wp hn128 hlv ha' (impl_ZeroTrees_wp (by omega) (fun c => absurd ⟨hI, by omega, by omega⟩ c) fun _ z hz => impl_PlaneOf_wp hI (by omega) (tT (tT (tT ?_))))
  rw [nn, nn] at hz
  rw [nn]
  show ((((planeT l p).length : Int) = (l.length : Int) → _) ∧ _)
  have hTl := sel_len (trF (parL l.length lv) l.length a) l.length
  have hTa : a ∈ sel (trF (parL l.length lv) l.length a) l.length := mem_sel.2 ⟨ha', an_self hd ha'⟩
  refine tP (by simp [planeT]) (tN ?_ ⟨by omega, fun X hX => ?_⟩)
  · rw [selI_len]
    have := List.length_pos_of_mem hTa
    omega
  -- the first marks
  have keyA : ∀ d k, d + k = (sel (trF (parL l.length lv) l.length a) l.length).length → X (mkF l.length fun j => decide (j ∈ (sel (trF (parL l.length lv) l.length a) l.length).take k)) (k : Int) := by
    intro d
    induction d with
    | succ d ih =>
      intro k h1
      have hk : k < (sel (trF (parL l.length lv) l.length a) l.length).length := by omega
      obtain ⟨h2, h3⟩ := sel_mem hk
      have ih := ih (k + 1) (by omega)
      have e : (mkF l.length fun j => decide (j ∈ (sel (trF (parL l.length lv) l.length a) l.length).take k)).set (sel (trF (parL l.length lv) l.length a) l.length)[k] true = mkF l.length fun j => decide (j ∈ (sel (trF (parL l.length lv) l.length a) l.length).take (k + 1)) := by
        rw [mkF_set]
        refine mkF_congr fun j hj => ?_
        rw [Bool.eq_iff_iff, Bool.or_eq_true, decide_eq_true_eq, decide_eq_true_eq, decide_eq_true_eq, mem_take hk]
      refine hX _ _ ⟨fun _ => ⟨⟨by omega, by rw [selI_len]; omega⟩, ?_⟩, fun c => absurd (show (k : Int) < (selI (trF (parL l.length lv) l.length a) l.length).length by rw [selI_len]; omega) c⟩
      rw [nn, selI_at hk, nn, w1 (by omega), e, mkF_len]
      refine tN (by omega) (tN (by omega) ⟨fun c => ?_, fun c => ⟨⟨by omega, by omega⟩, ih⟩⟩)
      obtain ⟨k', rfl⟩ : ∃ k', k = k' + 1 := ⟨k - 1, by omega⟩
      rw [show IntKind.i64.wrap (((k' + 1 : Nat) : Int) - 1) = (k' : Int) by rw [wI (by omega)]; omega, nn, selI_at (by omega)]
      have hlt := sel_lt hk
      exact ⟨⟨by omega, by rw [selI_len]; omega⟩, tN (by omega) ⟨⟨by omega, by omega⟩, ih⟩⟩
    | zero =>
      intro k h1
      refine hX _ _ ⟨fun c => absurd c (by rw [selI_len]; omega), fun _ => ?_⟩
      rw [List.take_of_length_le (by omega), mkF_congr (g := trF (parL l.length lv) l.length a) (fun j hj => by rw [Bool.eq_iff_iff, decide_eq_true_eq, mem_sel]; exact ⟨fun h => h.2, fun h => ⟨hj, h⟩⟩)]
      refine ⟨⟨by omega, by rw [mkF_len]; omega⟩, tE (by rw [mkF_get ha']; exact an_self hd ha') fun Y hY => ?_⟩
      -- what the roots cover
      have hZl := sel_len (pickZ z (parL l.length lv)) l.length
      have keyB : ∀ d k, d + k = (sel (pickZ z (parL l.length lv)) l.length).length → Y (mkF l.length fun j => ((sel (pickZ z (parL l.length lv)) l.length).take k).any fun r => an (parL l.length lv) r l.length j) (k : Int) := by
        intro d
        induction d with
        | succ d ih =>
          intro k h1
          have hk : k < (sel (pickZ z (parL l.length lv)) l.length).length := by omega
          obtain ⟨h2, h3⟩ := sel_mem hk
          have hni := sel_notin hk
          have ih := ih (k + 1) (by omega)
          rw [List.take_succ_eq_append_getElem hk] at ih
          refine hY _ _ ⟨fun _ => ⟨⟨by omega, by show _ < ((selI (pickZ z (parL l.length lv)) l.length).length : Int); rw [selI_len]; omega⟩, ?_⟩, fun c => absurd (show (k : Int) < ((selI (pickZ z (parL l.length lv)) l.length).length : Int) by rw [selI_len]; omega) c⟩
          show impl_TreeOf.wp _ _ ((selI (pickZ z (parL l.length lv)) l.length).getD k 0) _
          rw [selI_at hk]
          generalize (sel (pickZ z (parL l.length lv)) l.length)[k] = r at h2 h3 hni ih
          refine impl_TreeOf_wp hn128 hlv h2 (tT fun W hW => ?_)
          have hRl := sel_len (trF (parL l.length lv) l.length r) l.length
          have keyC : ∀ d m, d + m = (sel (trF (parL l.length lv) l.length r) l.length).length → W (mkF l.length fun j => (((sel (pickZ z (parL l.length lv)) l.length).take k).any fun r => an (parL l.length lv) r l.length j) || decide (j ∈ (sel (trF (parL l.length lv) l.length r) l.length).take m)) (m : Int) := by
            intro d
            induction d with
            | zero =>
              intro m g1
              refine hW _ _ ⟨fun c => absurd c (by rw [selI_len]; omega), fun _ => ?_⟩
              rw [w1 (by omega), show (sel (trF (parL l.length lv) l.length r) l.length).take m = sel (trF (parL l.length lv) l.length r) l.length from List.take_of_length_le (by omega)]
              rw [mkF_congr (g := fun j => ((sel (pickZ z (parL l.length lv)) l.length).take k ++ [r]).any fun r => an (parL l.length lv) r l.length j) fun j hj => ?_]
              · exact ih
              · rw [List.any_append, List.any_cons, List.any_nil, Bool.or_false]
                congr 1
                rw [Bool.eq_iff_iff, decide_eq_true_eq, mem_sel]
                exact ⟨fun h => h.2, fun h => ⟨hj, h⟩⟩
            | succ d ihc =>
              intro m g1
              have hm : m < (sel (trF (parL l.length lv) l.length r) l.length).length := by omega
              obtain ⟨g2, g3⟩ := sel_mem hm
              have gni := sel_notin hm
              have ihc := ihc (m + 1) (by omega)
              refine hW _ _ ⟨fun _ => ⟨⟨by omega, by rw [selI_len]; omega⟩, ?_⟩, fun c => absurd (show (m : Int) < (selI (trF (parL l.length lv) l.length r) l.length).length by rw [selI_len]; omega) c⟩
              rw [nn, selI_at hm, nn, w1 (by omega), mkF_len, mkF_set, mkF_get g2]
              have e : (mkF l.length fun j => ((((sel (pickZ z (parL l.length lv)) l.length).take k).any fun r => an (parL l.length lv) r l.length j) || decide (j ∈ (sel (trF (parL l.length lv) l.length r) l.length).take m)) || decide (j = (sel (trF (parL l.length lv) l.length r) l.length)[m])) = mkF l.length fun j => (((sel (pickZ z (parL l.length lv)) l.length).take k).any fun r => an (parL l.length lv) r l.length j) || decide (j ∈ (sel (trF (parL l.length lv) l.length r) l.length).take (m + 1)) := by
                refine mkF_congr fun j hj => ?_
                rw [Bool.or_assoc]
                congr 1
                rw [Bool.eq_iff_iff, Bool.or_eq_true, decide_eq_true_eq, decide_eq_true_eq, decide_eq_true_eq, mem_take hm]
              rw [e]
              generalize (sel (trF (parL l.length lv) l.length r) l.length)[m] = t at g2 g3 gni ihc
              refine ⟨⟨by omega, by omega⟩, tG ?_ ⟨⟨by omega, by omega⟩, ?_⟩⟩
              · rw [decide_eq_false gni, Bool.or_false]
                cases hany : ((sel (pickZ z (parL l.length lv)) l.length).take k).any fun r => an (parL l.length lv) r l.length t with
                | false => rfl
                | true =>
                  exfalso
                  obtain ⟨q, hq, hq2⟩ := List.any_eq_true.1 hany
                  obtain ⟨q1, q2⟩ := mem_sel.1 (List.mem_of_mem_take hq)
                  have := pick_one hd hz q1 h2 g2 q2 h3 hq2 g3
                  subst this
                  exact hni hq
              · rw [gD g2, u64w (by omega)]
                refine r8Abs_wp (hg.2 _ (List.getElem_mem g2)) ⟨by omega, ?_⟩
                rw [shr _ _ (by omega)]
                have hs0 := sig_no g2 ((z_iff hz h2).1 (pick_z h3) t g2 g3)
                exact tP (by omega) ihc
          have := keyC _ 0 (Nat.add_zero _)
          rw [mkF_congr (g := fun j => ((sel (pickZ z (parL l.length lv)) l.length).take k).any fun r => an (parL l.length lv) r l.length j) fun j hj => by rw [List.take_zero]; simp] at this
          exact this
        | zero =>
          intro k h1
          refine hY _ _ ⟨fun c => absurd c (by show ¬ _ < ((selI (pickZ z (parL l.length lv)) l.length).length : Int); rw [selI_len]; omega), fun _ => ?_⟩
          rw [List.take_of_length_le (by omega)]
          -- all is as it should be
          intro V hV
          refine upFrom (Y := fun i => V (i : Int)) 0 l.length (Nat.zero_le _) (hV _ ⟨fun c => absurd c (by omega), fun _ => rfl⟩) fun i _ hi hx => ?_
          have hdi := hd i hi
          have tl := tree_tail (Zf := fun j => (sel (pickZ z (parL l.length lv)) l.length).any fun r => an (parL l.length lv) r l.length j) (X := V) (F := false = true) hI hn128 hlv (p := p) (by omega) hi hd ?_ hx
          · refine hV _ ⟨fun _ => impl_ParentOf_wp hn128 hlv hi (tT (tN (by omega) (tN (by omega) ⟨fun c => tl, fun c => ?_⟩))), fun c => absurd (show (i : Int) < l.length by omega) c⟩
            rw [nn, mkF_get hi, mkF_len]
            have hr := an_rec hd a hi
            refine ⟨⟨by omega, by omega⟩, fun c1 => ⟨⟨c1, by omega⟩, tE ?_ tl⟩, fun c1 => tE ?_ tl⟩
            · rw [mkF_get (show ((parL l.length lv).getD i 0).toNat < l.length by omega)]
              show (an (parL l.length lv) a l.length i == _) = true
              rw [hr, decide_eq_false (show ¬ i = a by omega), decide_eq_true c1]
              simp [trF]
            · show (an (parL l.length lv) a l.length i == _) = true
              rw [hr, decide_eq_false (show ¬ i = a by omega), decide_eq_false c1]; rfl
          · show (List.any _ _) = true ↔ _
            rw [← z_iff hz hi, cover hd hz i hi, List.any_eq_true]
            exact ⟨fun ⟨r, h1, h2⟩ => ⟨r, (mem_sel.1 h1).1, (mem_sel.1 h1).2, h2⟩, fun ⟨r, h1, h2, h3⟩ => ⟨r, mem_sel.2 ⟨h1, h2⟩, h3⟩⟩
      have := keyB _ 0 (Nat.add_zero _)
      rw [mkF_congr (g := fun _ => false) fun j hj => by rw [List.take_zero]; rfl, ← mkF_rep] at this
      exact this
  have := keyA _ 0 (Nat.add_zero _)
  rw [mkF_congr (g := fun _ => false) fun j hj => by rw [List.take_zero]; simp, ← mkF_rep] at this
  exact this

end Go.Proofs.Ytplfnchoooehgaa.G

