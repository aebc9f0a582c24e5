/-
  What the formulas say, over numbers and lists alone. Nothing here is trusted.
-/
import Derived.Test.YtncblpfphehlpaaDoorMExactCountOutputsWa
namespace Go.Proofs.YtncblpfphehlpaaDoor.G
open Go Go.Ab
set_option maxRecDepth 100000
set_option linter.unusedVariables false
set_option linter.unusedSimpArgs false
set_option maxHeartbeats 1000000
/-! ### truth -/
theorem tT {A B : Prop} (h : A) : (true = true → A) ∧ (true = false → B) := ⟨fun _ => h, fun c => (by cases c)⟩
theorem tF {A B : Prop} (h : B) : (false = true → A) ∧ (false = false → B) := ⟨fun c => (by cases c), fun _ => h⟩
theorem tB {A B : Prop} {b : Bool} (h : A) : ((b == b) = true → A) ∧ ((b == b) = false → B) := ⟨fun _ => h, fun c => (by simp at c)⟩
theorem tE {A B : Prop} {b : Bool} (e : b = true) (h : A) : (b = true → A) ∧ (b = false → B) := ⟨fun _ => h, fun c => (by rw [e] at c; cases c)⟩
theorem tG {A B : Prop} {b : Bool} (e : b = false) (h : B) : (b = true → A) ∧ (b = false → B) := ⟨fun c => (by rw [e] at c; cases c), fun _ => h⟩
theorem tP {p A B : Prop} (e : p) (h : A) : (p → A) ∧ (¬p → B) := ⟨fun _ => h, fun c => absurd e c⟩
theorem tN {p A B : Prop} (e : ¬p) (h : B) : (p → A) ∧ (¬p → B) := ⟨fun c => absurd c e, fun _ => h⟩
theorem tI {b : Bool} {K : Bool → Prop} {A B : Prop} (h1 : b = true → A) (h2 : b = false → B) : (b = true → A) ∧ (b = false → B) := ⟨h1, h2⟩
/-! ### loops -/
theorem up {Y : Nat → Prop} (n : Nat) (last : Y n) (step : ∀ i, i < n → Y (i + 1) → Y i) : Y 0 := by
  have key : ∀ d i, i + d = n → Y i := by
    intro d
    induction d with
    | zero => intro i h; obtain rfl : i = n := by omega
              exact last
    | succ d ih => intro i h; exact step i (by omega) (ih (i + 1) (by omega))
  exact key n 0 (by omega)
theorem upFrom {Y : Nat → Prop} (k n : Nat) (hk : k ≤ n) (last : Y n) (step : ∀ i, k ≤ i → i < n → Y (i + 1) → Y i) : Y k := by
  have key : ∀ d i, k ≤ i → i + d = n → Y i := by
    intro d
    induction d with
    | zero => intro i _ h; obtain rfl : i = n := by omega
              exact last
    | succ d ih => intro i h0 h; exact step i h0 (by omega) (ih (i + 1) (by omega) (by omega))
  exact key (n - k) k (Nat.le_refl _) (by omega)
theorem w1 {i : Nat} (h : i < 4611686018427387904) : IntKind.i64.wrap ((i : Int) + (1 : Int)) = ((i + 1 : Nat) : Int) := wrap_succ (by omega)
theorem wI {n : Int} (h : -9223372036854775808 ≤ n ∧ n < 9223372036854775808) : IntKind.i64.wrap n = n := wrap_i64 h.1 h.2
theorem nn (i : Nat) : ((i : Int)).toNat = i := rfl
theorem gD {α : Type} {l : List α} {i : Nat} (h : i < l.length) (d : α) : l.getD i d = l[i] := by rw [List.getD_eq_getElem?_getD, List.getElem?_eq_getElem h]; rfl
theorem dropC {α : Type} {l : List α} {i : Nat} (h : i < l.length) : l.drop i = l[i] :: l.drop (i + 1) := List.drop_eq_getElem_cons h
theorem len1 {α : Type} (a : α) : ([a] : List α).length = 1 := rfl
theorem cz32 (n : Nat) (h : (FloatKind.f32.decode n).isNaN = false) : cz .f32 n = n := by simp [cz, h]
theorem c0_32 : cz .f32 0 = 0 := cz_zero32
theorem c0_64 : cz .f64 0 = 0 := cz_zero64
/-! ### copies, comparisons, marks -/
theorem toBoolS_wp {l : List Bool} {K : List Bool → Prop} (hl : l.length ≤ 2 ^ 20) (h : K l) : laws_toBoolS.wp l K := by
  refine ⟨⟨by omega, by omega, by omega, by omega⟩, fun X hX => ?_⟩
  have key : X (l.take 0 ++ List.replicate (l.length - 0) false) ((0 : Nat) : Int) := by
    refine up (Y := fun i => X (l.take i ++ List.replicate (l.length - i) false) (i : Int)) l.length ?_ fun i hi hn => ?_
    · refine hX _ _ ⟨fun c => absurd c (by omega), fun _ => ?_⟩
      rw [List.take_length, Nat.sub_self, List.replicate_zero, List.append_nil]; exact h
    · refine hX _ _ ⟨fun _ => ⟨⟨by omega, by omega⟩, ⟨by omega, ?_⟩, ?_⟩, fun c => absurd (show (i : Int) < l.length by omega) c⟩
      · rw [List.length_append, List.length_take, List.length_replicate]; omega
      · rw [nn, w1 (by omega), gD hi, set_fill false (by omega) hi]
        exact hn
  rw [List.take_zero, List.nil_append, Nat.sub_zero] at key; exact key
theorem eqBoolS_wp {l : List Bool} {K : Bool → Prop} (hl : l.length ≤ 2 ^ 20) (h : K true) : laws_eqBoolS.wp l l K := by
  refine tP rfl fun X hX => ?_
  refine up (Y := fun i => X (i : Int)) l.length ?_ fun i hi hn => ?_
  · exact hX _ ⟨fun c => absurd c (by omega), fun _ => h⟩
  · refine hX _ ⟨fun _ => ⟨⟨by omega, by omega⟩, ⟨by omega, by omega⟩, tB ?_⟩, fun c => absurd (show (i : Int) < l.length by omega) c⟩
    rw [w1 (by omega)]; exact hn

end Go.Proofs.YtncblpfphehlpaaDoor.G

namespace Go.Proofs.YtncblpfphehlpaaDoor.G
open Go Go.Ab
set_option maxRecDepth 100000
set_option linter.unusedVariables false
set_option linter.unusedSimpArgs false
set_option maxHeartbeats 1000000
/-- The pieces of a text between the bytes c; cur: what has been read of the first. -/
def cutF (c : UInt8) : List UInt8 → List UInt8 → List (List UInt8)
  | cur, [] => [cur]
  | cur, b :: l => if b = c then cur :: cutF c [] l else cutF c (cur ++ [b]) l
def cutL (c : UInt8) (l : List UInt8) : List (List UInt8) := cutF c [] l
theorem cutF_len (c : UInt8) : ∀ (cur l : List UInt8), (cutF c cur l).length = l.count c + 1
  | cur, [] => rfl
  | cur, b :: l => by
    rw [cutF, List.count_cons]
    by_cases h : b = c
    · rw [if_pos h, List.length_cons, cutF_len c [] l, if_pos (by simp [h])]
    · rw [if_neg h, cutF_len c _ l, if_neg (by simp [h]), Nat.add_zero]
theorem cutF_none (c : UInt8) : ∀ (cur l : List UInt8), l.count c = 0 → cutF c cur l = [cur ++ l]
  | cur, [], _ => by rw [cutF, List.append_nil]
  | cur, b :: l, h => by
    rw [List.count_cons] at h
    by_cases hb : b = c
    · rw [if_pos (by simp [hb])] at h; omega
    · rw [if_neg (by simp [hb])] at h
      rw [cutF, if_neg hb, cutF_none c _ l (by omega), List.append_assoc]; rfl
/-- The first c. -/
theorem idx_spec (c : UInt8) : ∀ (l : List UInt8), (Lib.indexByte l c = -1 ∧ l.count c = 0) ∨ ∃ m : Nat, Lib.indexByte l c = m ∧ m < l.length ∧ (l.take m).count c = 0 ∧ l[m]? = some c
  | [] => .inl ⟨rfl, rfl⟩
  | b :: l => by
    rw [Lib.indexByte]
    by_cases hb : b = c
    · right
      refine ⟨0, by rw [if_pos (by simp [hb])]; rfl, by simp, rfl, by simp [hb]⟩
    · rw [if_neg (by simp [hb])]
      rcases idx_spec c l with ⟨h1, h2⟩ | ⟨m, h1, h2, h3, h4⟩
      · left
        rw [h1]
        exact ⟨rfl, by rw [List.count_cons, if_neg (by simp [hb])]; omega⟩
      · right
        refine ⟨m + 1, ?_, by simp; omega, ?_, by simpa using h4⟩
        · rw [h1, if_neg (by simp)] <;> rfl
        · rw [List.take_succ_cons, List.count_cons, if_neg (by simp [hb])]; omega
theorem cutF_idx (c : UInt8) : ∀ (cur l : List UInt8) (m : Nat), m < l.length → (l.take m).count c = 0 → l[m]? = some c → cutF c cur l = (cur ++ l.take m) :: cutF c [] (l.drop (m + 1))
  | cur, b :: l, 0, _, _, h => by
    have : b = c := by simpa using h
    rw [cutF, if_pos this, List.take_zero, List.append_nil]; rfl
  | cur, b :: l, m + 1, h1, h2, h3 => by
    rw [List.take_succ_cons, List.count_cons] at h2
    have hb : ¬ b = c := fun e => by rw [if_pos (by simp [e])] at h2; omega
    rw [if_neg (by simp [hb])] at h2
    rw [cutF, if_neg hb, cutF_idx c _ l m (by simpa using h1) (by omega) (by simpa using h3), List.append_assoc]
    rfl
theorem count_idx (c : UInt8) (l : List UInt8) (m : Nat) (h1 : m < l.length) (h2 : (l.take m).count c = 0) (h3 : l[m]? = some c) : l.count c = (l.drop (m + 1)).count c + 1 := by
  have e : l = l.take m ++ l[m] :: l.drop (m + 1) := by rw [← List.drop_eq_getElem_cons h1, List.take_append_drop]
  have e2 : l[m] = c := by rw [List.getElem?_eq_getElem h1] at h3; exact Option.some.inj h3
  rw [e2] at e
  conv => lhs; rw [e]
  rw [List.count_append, List.count_cons, if_pos (by simp), h2]; omega
theorem spec_l01Cut_wp {l : List UInt8} {c : UInt8} {K : List (List UInt8) → Prop} (hl : l.length ≤ 2 ^ 20) (h : K (cutL c l)) : spec_l01Cut.wp l (c.toNat : Int) K := by
  intro X hX
  have hlen : (cutL c l).length ≤ 2 ^ 20 + 1 := by unfold cutL; rw [cutF_len]; have := List.count_le_length (a := c) (l := l); omega
  have key : ∀ (m i fr : Nat) (out : List (List UInt8)), i + m = l.length → fr ≤ i → out ++ cutF c ((l.drop fr).take (i - fr)) (l.drop i) = cutL c l → X out (fr : Int) (i : Int) := by
    intro m
    induction m with
    | zero =>
      intro i fr out h1 h2 h3
      obtain rfl : i = l.length := by omega
      rw [List.drop_of_length_le (Nat.le_refl _), cutF] at h3
      have ho : out.length + 1 = (cutL c l).length := by rw [← h3, List.length_append]; rfl
      refine hX _ _ _ ⟨fun _ => ⟨fun _ => ⟨by omega, by rw [len1]; omega, ?_⟩, fun c => absurd rfl c⟩, fun c => absurd (Int.le_refl _) c⟩
      rw [w1 (by omega), nn, nn, h3]
      exact hX _ _ _ ⟨fun c => absurd c (by omega), fun _ => h⟩
    | succ m ih =>
      intro i fr out h1 h2 h3
      have hi : i < l.length := by omega
      have ho : out.length + 1 ≤ (cutL c l).length := by rw [← h3, List.length_append, cutF_len]; omega
      rw [List.drop_eq_getElem_cons hi, cutF] at h3
      refine hX _ _ _ ⟨fun _ => ⟨fun c => absurd c (by omega), fun _ => ⟨by omega, fun c2 => ⟨by omega, by rw [len1]; omega, ?_⟩, fun c2 => ?_⟩⟩, fun c => absurd (show (i : Int) ≤ l.length by omega) c⟩
      · have hb : l[i] = c := by
          have : ((bt l i : Int)) = ((l[i].toNat : Nat) : Int) := by unfold bt; rw [nn, gD hi]
          rw [this] at c2
          exact UInt8.toNat_inj.1 (by omega)
        rw [if_pos hb] at h3
        rw [w1 (by omega), nn, nn]
        refine ih (i + 1) (i + 1) _ (by omega) (Nat.le_refl _) ?_
        rw [← h3, List.append_assoc, Nat.sub_self]; rfl
      · have hb : ¬ l[i] = c := by
          intro e
          apply c2
          unfold bt; rw [nn, gD hi, e]
        rw [if_neg hb] at h3
        rw [w1 (by omega)]
        refine ih (i + 1) fr _ (by omega) (by omega) ?_
        rw [← h3, show i + 1 - fr = (i - fr) + 1 by omega, List.take_succ_eq_append_getElem (by rw [List.length_drop]; omega)]
        congr 2
        rw [List.getElem_drop]
        congr 2
        congr 1
        omega
  exact key l.length 0 0 [] (by omega) (Nat.le_refl _) (by simp [cutL])
theorem strings_Index_wp {l : List UInt8} {c : UInt8} {K : Int → Prop} (h : K (Lib.indexByte l c)) : strings_Index.wp l [c] K := ⟨c, rfl, h⟩
theorem strings_Split_wp {l : List UInt8} {c : UInt8} {K : List (List UInt8) → Prop} (hl : l.length ≤ 2 ^ 20) (h : K (cutL c l)) : strings_Split.wp l [c] K := by
  have hcl := List.count_le_length (a := c) (l := l)
  have hlen : (cutL c l).length = l.count c + 1 := cutF_len ..
  refine ⟨fun c => absurd c (by decide), fun _ => ⟨fun c => (by cases c), fun _ => ⟨fun _ => ⟨c, rfl, ?_⟩, fun c => absurd (show (-1 : Int) < 0 by decide) c⟩⟩⟩
  have e0 : Lib.countByte l c = l.count c := rfl
  have e1 : mnI (IntKind.i64.wrap (((Lib.countByte l c : Nat) : Int) + 1)) (IntKind.i64.wrap ((l.length : Int) + 1)) = ((l.count c + 1 : Nat) : Int) := by
    rw [e0, wI (by omega), wI (by omega)]; unfold mnI; split <;> omega
  dsimp only
  rw [e1]
  refine ⟨by omega, fun X hX => ?_⟩
  have e2 : IntKind.i64.wrap (((l.count c + 1 : Nat) : Int) - 1) = ((l.count c : Nat) : Int) := by rw [wI (by omega)]; omega
  rw [e2] at hX
  rw [nn]
  have key : ∀ (m i : Nat) (a : List (List UInt8)) (s : List UInt8), i + m = l.count c → a.length = l.count c + 1 → s.length ≤ l.length → s.count c = m → a.take i ++ cutF c [] s = cutL c l → X a s (i : Int) := by
    intro m
    induction m with
    | zero =>
      intro i a s h1 h2 h3 h4 h5
      rw [cutF_none c [] s h4] at h5
      refine hX _ _ _ ⟨fun c => absurd c (by omega), fun _ => ⟨by omega, ⟨by omega, by rw [w1 (by omega)]; omega, by rw [w1 (by omega), List.length_set]; omega⟩, ?_⟩⟩
      rw [w1 (by omega), nn, nn]
      have : ((a.set i s).drop (0 : Int).toNat).take ((i + 1) - (0 : Int).toNat) = cutL c l := by
        show ((a.set i s).drop 0).take (i + 1) = _
        rw [List.drop_zero, List.take_succ_eq_append_getElem (by rw [List.length_set]; omega), List.take_set_of_le (by omega), List.getElem_set_self, ← h5]; rfl
      rw [this]; exact h
    | succ m ih =>
      intro i a s h1 h2 h3 h4 h5
      refine hX _ _ _ ⟨fun _ => strings_Index_wp ?_, fun c => absurd (show (i : Int) < (l.count _ : Nat) by omega) c⟩
      rcases idx_spec c s with ⟨g1, g2⟩ | ⟨k, g1, g2, g3, g4⟩
      · omega
      · have g5 := count_idx c s k g2 g3 g4
        rw [cutF_idx c [] s k g2 g3 g4] at h5
        rw [g1]
        refine ⟨fun c => absurd c (by omega), fun _ => ?_⟩
        have k1 : IntKind.i64.wrap ((k : Int) + 0) = (k : Int) := by rw [wI (by omega)]; omega
        have k2 : IntKind.i64.wrap ((k : Int) + (([c] : List UInt8).length : Int)) = ((k + 1 : Nat) : Int) := by rw [len1, wI (by omega)]; omega
        rw [k1, k2, w1 (by omega)]
        simp only [nn]
        refine ⟨by omega, by omega, by omega, ?_⟩
        have s1 : (s.drop (0 : Int).toNat).take (k - (0 : Int).toNat) = s.take k := by show (s.drop 0).take k = _; rw [List.drop_zero]
        have s2 : (s.drop (k + 1)).take (s.length - (k + 1)) = s.drop (k + 1) := by
          exact List.take_of_length_le (by rw [List.length_drop]; omega)
        rw [s1, s2]
        refine ih (i + 1) _ _ (by omega) (by rw [List.length_set]; exact h2) (by rw [List.length_drop]; omega) (by omega) ?_
        rw [← h5, List.take_succ_eq_append_getElem (by rw [List.length_set]; omega), List.take_set_of_le (by omega), List.getElem_set_self, List.append_assoc]; rfl
  exact key (l.count c) 0 _ l (by omega) (by simp) (Nat.le_refl _) rfl (by simp [cutL])

end Go.Proofs.YtncblpfphehlpaaDoor.G

namespace Go.Proofs.YtncblpfphehlpaaDoor.G
open Go Go.Ab
set_option maxRecDepth 100000
set_option linter.unusedVariables false
set_option linter.unusedSimpArgs false
set_option maxHeartbeats 1000000
def isBad (x : List UInt8) : Bool := decide (x = [110, 111] ∨ x = [119, 104, 97, 116])
def badN (ls : List (List UInt8)) (i : Nat) : Nat := (ls.take i).countP isBad
theorem badN_step (ls : List (List UInt8)) (i : Nat) (hi : i < ls.length) : badN ls (i + 1) = badN ls i + if isBad ls[i] = true then 1 else 0 := by
  unfold badN
  rw [List.take_succ_eq_append_getElem hi, List.countP_append, List.countP_cons, List.countP_nil, Nat.zero_add]
theorem badN_le (ls : List (List UInt8)) (i : Nat) : badN ls i ≤ i := by
  unfold badN
  exact Nat.le_trans (List.countP_le_length) (by rw [List.length_take]; omega)
theorem bad_loop {ls : List (List UInt8)} {X : Int → Int → Prop} {E : Prop} (hl : ls.length ≤ 2 ^ 21) (hX : ∀ (b : Nat) (i : Nat), i ≤ ls.length → b ≤ i → (i < ls.length → (isBad (ls.getD i []) = true → X ((b + 1 : Nat) : Int) ((i + 1 : Nat) : Int)) ∧ (isBad (ls.getD i []) = false → X (b : Int) ((i + 1 : Nat) : Int)) → X (b : Int) (i : Int)) ∧ (i = ls.length → b = badN ls ls.length → E → X (b : Int) (i : Int))) (hE : E) : X 0 0 := by
  refine up (Y := fun i => X (badN ls i : Int) (i : Int)) ls.length ((hX _ _ (Nat.le_refl _) (badN_le ..)).2 rfl rfl hE) fun i hi hx => (hX _ _ (by omega) (badN_le ..)).1 hi ?_
  rw [gD hi]
  rw [badN_step ls i hi] at hx
  refine ⟨fun c => ?_, fun c => ?_⟩
  · rw [if_pos c] at hx; exact hx
  · rw [if_neg (by rw [c]; decide)] at hx; exact hx
theorem isBad_1 {x : List UInt8} (h : x = [110, 111]) : isBad x = true := decide_eq_true (.inl h)
theorem isBad_2 {x : List UInt8} (h : x = [119, 104, 97, 116]) : isBad x = true := decide_eq_true (.inr h)
theorem isBad_3 {x : List UInt8} (h : ¬ x = [110, 111]) (h2 : ¬ x = [119, 104, 97, 116]) : isBad x = false := decide_eq_false (fun c => by rcases c with c | c; exact h c; exact h2 c)
def cutI (l : List UInt8) : List (List UInt8) := (cutL 10 l).take ((cutL 10 l).length - 1)
def cutE (l : List UInt8) : List UInt8 := (cutL 10 l).getD ((cutL 10 l).length - 1) []
theorem cutL_len (l : List UInt8) (hl : l.length ≤ 2 ^ 20) : 1 ≤ (cutL 10 l).length ∧ (cutL 10 l).length ≤ 2 ^ 20 + 1 := by
  have h : (cutL 10 l).length = l.count 10 + 1 := cutF_len ..
  have := List.count_le_length (a := (10 : UInt8)) (l := l)
  omega
theorem pureExactCountOutputs (l0 : List UInt8) : laws_FnExactCountOutputs.wp l0 (fun b => b = true) := by
  refine ⟨fun _ => rfl, fun hb => ?_⟩
  have hl : l0.length ≤ 2 ^ 20 := by omega
  have hc := cutL_len l0 hl
  have hIl : (cutI l0).length ≤ 2 ^ 20 := by unfold cutI; rw [List.length_take]; omega
  have e1 : IntKind.i64.wrap (((cutL 10 l0).length : Int) - 1) = (((cutL 10 l0).length - 1 : Nat) : Int) := by rw [wI (by omega)]; omega
  have spec : ∀ K : Int → Int → Bool → Prop, (¬ (l0.length ≤ 16000 ∧ cutE l0 = []) → K 0 0 false) → (l0.length ≤ 16000 ∧ cutE l0 = [] → K (badN (cutI l0) (cutI l0).length : Int) (IntKind.i64.wrap (((cutI l0).length : Int) - (badN (cutI l0) (cutI l0).length : Int))) true) → spec_CountOutputs.wp l0 K := by
    intro K h1 h2
    refine ⟨fun c => h1 (by omega), fun c => spec_l01Cut_wp (c := 10) hl ?_⟩
    rw [e1]
    refine ⟨by omega, by omega, ?_⟩
    rw [nn]
    have e2 : ((cutL 10 l0).drop (0 : Int).toNat).take ((cutL 10 l0).length - 1 - (0 : Int).toNat) = cutI l0 := by show ((cutL 10 l0).drop 0).take ((cutL 10 l0).length - 1) = _; rw [List.drop_zero]; rfl
    rw [e2, show (cutL 10 l0).getD ((cutL 10 l0).length - 1) [] = cutE l0 from rfl]
    refine ⟨fun c2 X hX => ?_, fun c2 => h1 (fun c => c2 c.2)⟩
    refine bad_loop (ls := cutI l0) (X := X) (E := K (badN (cutI l0) (cutI l0).length : Int) (IntKind.i64.wrap (((cutI l0).length : Int) - (badN (cutI l0) (cutI l0).length : Int))) true) (by omega) (fun b i hi hbi => ⟨fun h3 h4 => hX _ _ ⟨fun _ => ⟨by omega, ?_⟩, fun c => absurd (show (i : Int) < (cutI l0).length by omega) c⟩, fun h3 h4 h5 => hX _ _ ⟨fun c => absurd c (by omega), fun _ => ?_⟩⟩) (h2 ⟨by omega, c2⟩)
    · rw [nn, w1 (by omega), w1 (by omega)]
      exact ⟨fun g => h4.1 (isBad_1 g), fun g => ⟨fun g2 => h4.1 (isBad_2 g2), fun g2 => h4.2 (isBad_3 g g2)⟩⟩
    · rw [h4]; exact h5
  have impl : ∀ K : Int → Int → Bool → Prop, (¬ (l0.length ≤ 16000 ∧ cutE l0 = []) → K 0 0 false) → (l0.length ≤ 16000 ∧ cutE l0 = [] → K (badN (cutI l0) (cutI l0).length : Int) (IntKind.i64.wrap (((cutI l0).length : Int) - (badN (cutI l0) (cutI l0).length : Int))) true) → impl_CountOutputs.wp l0 K := by
    intro K h1 h2
    unfold impl_CountOutputs.wp impl_linesOf.wp
    refine strings_Split_wp (c := 10) hl ?_
    rw [e1]
    refine ⟨by omega, ?_⟩
    rw [nn]
    have e2 : ((cutL 10 l0).drop (0 : Int).toNat).take ((cutL 10 l0).length - 1 - (0 : Int).toNat) = cutI l0 := by show ((cutL 10 l0).drop 0).take ((cutL 10 l0).length - 1) = _; rw [List.drop_zero]; rfl
    rw [e2, show (cutL 10 l0).getD ((cutL 10 l0).length - 1) [] = cutE l0 from rfl]
    refine ⟨fun c => ⟨by omega, fun c2 X hX => ?_, fun c2 => h1 (fun c => absurd c.2 (of_decide_eq_false c2))⟩, fun c => ⟨fun c2 => (by cases c2), fun _ => h1 (fun d => by omega)⟩⟩
    refine bad_loop (ls := cutI l0) (X := X) (E := K (badN (cutI l0) (cutI l0).length : Int) (IntKind.i64.wrap (((cutI l0).length : Int) - (badN (cutI l0) (cutI l0).length : Int))) true) (by omega) (fun b i hi hbi => ⟨fun h3 h4 => hX _ _ ⟨fun _ => ⟨by omega, ?_⟩, fun c => absurd (show (i : Int) < (cutI l0).length by omega) c⟩, fun h3 h4 h5 => hX _ _ ⟨fun c => absurd c (by omega), fun _ => ?_⟩⟩) (h2 ⟨by omega, of_decide_eq_true c2⟩)
    · rw [nn, w1 (by omega), w1 (by omega)]
      exact ⟨fun g => h4.1 (isBad_1 g), fun g => ⟨fun g2 => h4.1 (isBad_2 g2), fun g2 => h4.2 (isBad_3 g g2)⟩⟩
    · rw [h4]; exact h5
  by_cases c : l0.length ≤ 16000 ∧ cutE l0 = []
  · refine spec _ (fun d => absurd c d) fun _ => impl _ (fun d => absurd c d) fun _ => ?_
    exact tP rfl (tP rfl (tB rfl))
  · refine spec _ (fun _ => impl _ (fun _ => ?_) fun d => absurd d c) fun d => absurd d c
    exact tP rfl (tP rfl (tB rfl))

end Go.Proofs.YtncblpfphehlpaaDoor.G

