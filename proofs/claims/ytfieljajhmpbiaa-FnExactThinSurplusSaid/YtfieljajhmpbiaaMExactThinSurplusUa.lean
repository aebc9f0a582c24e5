/-
  What the formulas say, over numbers and lists alone. Nothing here is trusted.
-/
import Derived.Test.YtfieljajhmpbiaaMExactThinSurplusWa
namespace Go.Proofs.Ytfieljajhmpbiaa.G
open Go Go.Ab
set_option maxRecDepth 100000
set_option linter.unusedVariables false
set_option linter.unusedSimpArgs false
set_option maxHeartbeats 1000000
/-! ### truth -/
theorem tT {A B : Prop} (h : A) : (true = true → A) ∧ (true = false → B) := ⟨fun _ => h, fun c => (by cases c)⟩
theorem tF {A B : Prop} (h : B) : (false = true → A) ∧ (false = false → B) := ⟨fun c => (by cases c), fun _ => h⟩
theorem tB {A B : Prop} {b : Bool} (h : A) : ((b == b) = true → A) ∧ ((b == b) = false → B) := ⟨fun _ => h, fun c => (by simp at c)⟩
theorem tE {A B : Prop} {b : Bool} (e : b = true) (h : A) : (b = true → A) ∧ (b = false → B) := ⟨fun _ => h, fun c => (by rw [e] at c; cases c)⟩
theorem tG {A B : Prop} {b : Bool} (e : b = false) (h : B) : (b = true → A) ∧ (b = false → B) := ⟨fun c => (by rw [e] at c; cases c), fun _ => h⟩
theorem tP {p A B : Prop} (e : p) (h : A) : (p → A) ∧ (¬p → B) := ⟨fun _ => h, fun c => absurd e c⟩
theorem tN {p A B : Prop} (e : ¬p) (h : B) : (p → A) ∧ (¬p → B) := ⟨fun c => absurd c e, fun _ => h⟩
theorem tI {b : Bool} {K : Bool → Prop} {A B : Prop} (h1 : b = true → A) (h2 : b = false → B) : (b = true → A) ∧ (b = false → B) := ⟨h1, h2⟩
/-! ### loops -/
theorem up {Y : Nat → Prop} (n : Nat) (last : Y n) (step : ∀ i, i < n → Y (i + 1) → Y i) : Y 0 := by
  have key : ∀ d i, i + d = n → Y i := by
    intro d
    induction d with
    | zero => intro i h; obtain rfl : i = n := by omega
              exact last
    | succ d ih => intro i h; exact step i (by omega) (ih (i + 1) (by omega))
  exact key n 0 (by omega)
theorem upFrom {Y : Nat → Prop} (k n : Nat) (hk : k ≤ n) (last : Y n) (step : ∀ i, k ≤ i → i < n → Y (i + 1) → Y i) : Y k := by
  have key : ∀ d i, k ≤ i → i + d = n → Y i := by
    intro d
    induction d with
    | zero => intro i _ h; obtain rfl : i = n := by omega
              exact last
    | succ d ih => intro i h0 h; exact step i h0 (by omega) (ih (i + 1) (by omega) (by omega))
  exact key (n - k) k (Nat.le_refl _) (by omega)
theorem w1 {i : Nat} (h : i < 4611686018427387904) : IntKind.i64.wrap ((i : Int) + (1 : Int)) = ((i + 1 : Nat) : Int) := wrap_succ (by omega)
theorem wI {n : Int} (h : -9223372036854775808 ≤ n ∧ n < 9223372036854775808) : IntKind.i64.wrap n = n := wrap_i64 h.1 h.2
theorem nn (i : Nat) : ((i : Int)).toNat = i := rfl
theorem gD {α : Type} {l : List α} {i : Nat} (h : i < l.length) (d : α) : l.getD i d = l[i] := by rw [List.getD_eq_getElem?_getD, List.getElem?_eq_getElem h]; rfl
theorem dropC {α : Type} {l : List α} {i : Nat} (h : i < l.length) : l.drop i = l[i] :: l.drop (i + 1) := List.drop_eq_getElem_cons h
theorem len1 {α : Type} (a : α) : ([a] : List α).length = 1 := rfl
theorem cz32 (n : Nat) (h : (FloatKind.f32.decode n).isNaN = false) : cz .f32 n = n := by simp [cz, h]
theorem c0_32 : cz .f32 0 = 0 := cz_zero32
theorem c0_64 : cz .f64 0 = 0 := cz_zero64
/-! ### copies, comparisons, marks -/
theorem toFloat32S_wp {l : List Nat} {K : List Nat → Prop} (hl : l.length ≤ 2 ^ 20) (h : K l) : laws_toFloat32S.wp l K := by
  refine ⟨⟨by omega, by omega, by omega, by omega⟩, fun X hX => ?_⟩
  have key : X (l.take 0 ++ List.replicate (l.length - 0) (0 : Nat)) ((0 : Nat) : Int) := by
    refine up (Y := fun i => X (l.take i ++ List.replicate (l.length - i) (0 : Nat)) (i : Int)) l.length ?_ fun i hi hn => ?_
    · refine hX _ _ ⟨fun c => absurd c (by omega), fun _ => ?_⟩
      rw [List.take_length, Nat.sub_self, List.replicate_zero, List.append_nil]; exact h
    · refine hX _ _ ⟨fun _ => ⟨⟨by omega, by omega⟩, ⟨by omega, ?_⟩, ?_⟩, fun c => absurd (show (i : Int) < l.length by omega) c⟩
      · rw [List.length_append, List.length_take, List.length_replicate]; omega
      · rw [nn, w1 (by omega), gD hi, set_fill (0 : Nat) (by omega) hi]
        exact hn
  rw [List.take_zero, List.nil_append, Nat.sub_zero] at key; exact key
theorem toInt64S_wp {l : List Int} {K : List Int → Prop} (hl : l.length ≤ 2 ^ 20) (h : K l) : laws_toInt64S.wp l K := by
  refine ⟨⟨by omega, by omega, by omega, by omega⟩, fun X hX => ?_⟩
  have key : X (l.take 0 ++ List.replicate (l.length - 0) (0 : Int)) ((0 : Nat) : Int) := by
    refine up (Y := fun i => X (l.take i ++ List.replicate (l.length - i) (0 : Int)) (i : Int)) l.length ?_ fun i hi hn => ?_
    · refine hX _ _ ⟨fun c => absurd c (by omega), fun _ => ?_⟩
      rw [List.take_length, Nat.sub_self, List.replicate_zero, List.append_nil]; exact h
    · refine hX _ _ ⟨fun _ => ⟨⟨by omega, by omega⟩, ⟨by omega, ?_⟩, ?_⟩, fun c => absurd (show (i : Int) < l.length by omega) c⟩
      · rw [List.length_append, List.length_take, List.length_replicate]; omega
      · rw [nn, w1 (by omega), gD hi, set_fill (0 : Int) (by omega) hi]
        exact hn
  rw [List.take_zero, List.nil_append, Nat.sub_zero] at key; exact key
theorem toBoolS_wp {l : List Bool} {K : List Bool → Prop} (hl : l.length ≤ 2 ^ 20) (h : K l) : laws_toBoolS.wp l K := by
  refine ⟨⟨by omega, by omega, by omega, by omega⟩, fun X hX => ?_⟩
  have key : X (l.take 0 ++ List.replicate (l.length - 0) false) ((0 : Nat) : Int) := by
    refine up (Y := fun i => X (l.take i ++ List.replicate (l.length - i) false) (i : Int)) l.length ?_ fun i hi hn => ?_
    · refine hX _ _ ⟨fun c => absurd c (by omega), fun _ => ?_⟩
      rw [List.take_length, Nat.sub_self, List.replicate_zero, List.append_nil]; exact h
    · refine hX _ _ ⟨fun _ => ⟨⟨by omega, by omega⟩, ⟨by omega, ?_⟩, ?_⟩, fun c => absurd (show (i : Int) < l.length by omega) c⟩
      · rw [List.length_append, List.length_take, List.length_replicate]; omega
      · rw [nn, w1 (by omega), gD hi, set_fill false (by omega) hi]
        exact hn
  rw [List.take_zero, List.nil_append, Nat.sub_zero] at key; exact key
theorem sameFloat_wp {a : Nat} {K : Bool → Prop} (h : K true) : laws_sameFloat.wp a a K := by
  rcases order_self Ieee.double a with ho | ho
  · have e : fcmp .neq .f64 a a = true := by simp [fcmp, FloatKind.format, ho]
    exact tE e (by rw [e]; exact h)
  · have e : fcmp .neq .f64 a a = false := by simp [fcmp, FloatKind.format, ho]
    have e2 : fcmp .eql .f64 a a = true := by simp [fcmp, FloatKind.format, ho]
    refine tG e (tG e ⟨fun c => ⟨fun _ => by rw [BEq.rfl]; exact h, fun c2 => (by rw [c] at c2; cases c2)⟩, fun _ => by rw [e2]; exact h⟩)
theorem eqFloat32S_wp {l : List Nat} {K : Bool → Prop} (hl : l.length ≤ 2 ^ 20) (h : K true) : laws_eqFloat32S.wp l l K := by
  refine tP rfl fun X hX => ?_
  refine up (Y := fun i => X (i : Int)) l.length ?_ fun i hi hn => ?_
  · exact hX _ ⟨fun c => absurd c (by omega), fun _ => h⟩
  · refine hX _ ⟨fun _ => ⟨⟨by omega, by omega⟩, ⟨by omega, by omega⟩, sameFloat_wp (tT ?_)⟩, fun c => absurd (show (i : Int) < l.length by omega) c⟩
    rw [w1 (by omega)]; exact hn
theorem eqInt64S_wp {l : List Int} {K : Bool → Prop} (hl : l.length ≤ 2 ^ 20) (h : K true) : laws_eqInt64S.wp l l K := by
  refine tP rfl fun X hX => ?_
  refine up (Y := fun i => X (i : Int)) l.length ?_ fun i hi hn => ?_
  · exact hX _ ⟨fun c => absurd c (by omega), fun _ => h⟩
  · refine hX _ ⟨fun _ => ⟨⟨by omega, by omega⟩, ⟨by omega, by omega⟩, tP rfl ?_⟩, fun c => absurd (show (i : Int) < l.length by omega) c⟩
    rw [w1 (by omega)]; exact hn
theorem eqBoolS_wp {l : List Bool} {K : Bool → Prop} (hl : l.length ≤ 2 ^ 20) (h : K true) : laws_eqBoolS.wp l l K := by
  refine tP rfl fun X hX => ?_
  refine up (Y := fun i => X (i : Int)) l.length ?_ fun i hi hn => ?_
  · exact hX _ ⟨fun c => absurd c (by omega), fun _ => h⟩
  · refine hX _ ⟨fun _ => ⟨⟨by omega, by omega⟩, ⟨by omega, by omega⟩, tB ?_⟩, fun c => absurd (show (i : Int) < l.length by omega) c⟩
    rw [w1 (by omega)]; exact hn
theorem markFloat32S_wp {l : List Nat} {k : Nat} {K : Int → List Nat → Prop} (hl : l.length ≤ 2 ^ 20) (hk : k ≤ 2 ^ 40) (h : K ((k + l.length : Nat) : Int) (marks k l.length)) : laws_markFloat32S.wp l (k : Int) K := by
  intro X hX
  have key : X (marks k 0 ++ l.drop 0) ((k + 0 : Nat) : Int) ((0 : Nat) : Int) := by
    refine up (Y := fun i => X (marks k i ++ l.drop i) ((k + i : Nat) : Int) (i : Int)) l.length ?_ fun i hi hn => ?_
    · refine hX _ _ _ ⟨fun c => absurd c (by rw [List.length_append, marks_length, List.length_drop]; omega), fun _ => ?_⟩
      rw [List.drop_length, List.append_nil]; exact h
    · have hlen : (marks k i ++ l.drop i).length = l.length := by rw [List.length_append, marks_length, List.length_drop]; omega
      refine hX _ _ _ ⟨fun _ => ⟨⟨by omega, by rw [hlen]; omega⟩, ?_⟩, fun c => absurd (show (i : Int) < _ by rw [hlen]; omega) c⟩
      rw [nn, w1 (by omega), w1 (by omega)]
      have e := marks_step (l := l) (i := i) (m := l.length - i) k (by omega) hi
      rw [show (k : Int) + (i : Int) = ((k + i : Nat) : Int) by omega] at e
      rw [show itof .f32 ((k + i : Nat) : Int) = fl ((k + i : Nat) : Int) from rfl]
      rw [e]; exact hn
  exact key
theorem heldFloat32S_wp {k n : Nat} {K : Int → Prop} (hl : n ≤ 2 ^ 20) (hk : k ≤ 2 ^ 40) (h : K ((k + n : Nat) : Int)) : laws_heldFloat32S.wp (marks k n) (k : Int) K := by
  intro X hX
  have hlen : (marks k n).length = n := marks_length _ _
  have key : X ((k + 0 : Nat) : Int) ((0 : Nat) : Int) := by
    refine up (Y := fun i => X ((k + i : Nat) : Int) (i : Int)) n ?_ fun i hi hn => ?_
    · exact hX _ _ ⟨fun c => absurd c (by omega), fun _ => h⟩
    · refine hX _ _ ⟨fun _ => ⟨⟨by omega, by omega⟩, ?_⟩, fun c => absurd (show (i : Int) < _ by omega) c⟩
      rw [nn, gD (by omega), marks_at k n i (by omega), show (k : Int) + (i : Int) = ((k + i : Nat) : Int) by omega]
      refine tG (show fcmp .neq .f32 (fl ((k + i : Nat) : Int)) (itof .f32 ((k + i : Nat) : Int)) = false from fl_neq _) ?_
      rw [w1 (by omega), w1 (by omega)]; exact hn
  exact key
theorem markInt64S_wp {l : List Int} {k : Nat} {K : Int → List Int → Prop} (hl : l.length ≤ 2 ^ 20) (hk : k ≤ 2 ^ 40) (h : K ((k + l.length : Nat) : Int) (marksI k l.length)) : laws_markInt64S.wp l (k : Int) K := by
  intro X hX
  have key : X (marksI k 0 ++ l.drop 0) ((k + 0 : Nat) : Int) ((0 : Nat) : Int) := by
    refine up (Y := fun i => X (marksI k i ++ l.drop i) ((k + i : Nat) : Int) (i : Int)) l.length ?_ fun i hi hn => ?_
    · refine hX _ _ _ ⟨fun c => absurd c (by rw [List.length_append, marksI_length, List.length_drop]; omega), fun _ => ?_⟩
      rw [List.drop_length, List.append_nil]; exact h
    · have hlen : (marksI k i ++ l.drop i).length = l.length := by rw [List.length_append, marksI_length, List.length_drop]; omega
      refine hX _ _ _ ⟨fun _ => ⟨⟨by omega, by rw [hlen]; omega⟩, ?_⟩, fun c => absurd (show (i : Int) < _ by rw [hlen]; omega) c⟩
      rw [nn, w1 (by omega), w1 (by omega)]
      have e := marksI_step (l := l) (i := i) (m := l.length - i) k (by omega) hi
      rw [show (k : Int) + (i : Int) = ((k + i : Nat) : Int) by omega] at e
      
      rw [e]; exact hn
  exact key
theorem heldInt64S_wp {k n : Nat} {K : Int → Prop} (hl : n ≤ 2 ^ 20) (hk : k ≤ 2 ^ 40) (h : K ((k + n : Nat) : Int)) : laws_heldInt64S.wp (marksI k n) (k : Int) K := by
  intro X hX
  have hlen : (marksI k n).length = n := marksI_length _ _
  have key : X ((k + 0 : Nat) : Int) ((0 : Nat) : Int) := by
    refine up (Y := fun i => X ((k + i : Nat) : Int) (i : Int)) n ?_ fun i hi hn => ?_
    · exact hX _ _ ⟨fun c => absurd c (by omega), fun _ => h⟩
    · refine hX _ _ ⟨fun _ => ⟨⟨by omega, by omega⟩, ?_⟩, fun c => absurd (show (i : Int) < _ by omega) c⟩
      rw [nn, gD (by omega), marksI_at k n i (by omega), show (k : Int) + (i : Int) = ((k + i : Nat) : Int) by omega]
      refine tP rfl ?_
      rw [w1 (by omega), w1 (by omega)]; exact hn
  exact key

end Go.Proofs.Ytfieljajhmpbiaa.G

namespace Go.Proofs.Ytfieljajhmpbiaa.G
open Go Go.Ab
set_option maxRecDepth 100000
set_option linter.unusedVariables false
set_option linter.unusedSimpArgs false
set_option maxHeartbeats 1000000
def pFin (x : Nat) : Bool := fcmp .eql .f32 (fop .sub .f32 x x) (cz .f32 0)
def pAll (l : List Nat) : Bool := l.all pFin
theorem pAll_cons (x : Nat) (l : List Nat) : pAll (x :: l) = (pFin x && pAll l) := rfl
/-- A loop that ends early where something does not hold. -/
theorem all_loop {α : Type} (l : List α) (p : α → Bool) {X : Int → Prop} {T F : Prop} (hX : ∀ (i : Nat) (h : i < l.length), ((p l[i] = true → X ((i + 1 : Nat) : Int)) ∧ (p l[i] = false → F)) → X (i : Int))
    (hend : T → X (l.length : Int)) (ht : l.all p = true → T) (hf : l.all p = false → F) : X (0 : Int) := by
  have key := up (Y := fun i => ((l.drop i).all p = true → T) → ((l.drop i).all p = false → F) → X (i : Int)) l.length (fun h _ => hend (h (by rw [List.drop_length]; rfl))) fun i hi hn h1 h2 => ?_
  · exact key (by rw [List.drop_zero]; exact ht) (by rw [List.drop_zero]; exact hf)
  · rw [dropC hi, List.all_cons] at h1 h2
    refine hX i hi ⟨fun e => hn (fun a => h1 (by rw [e, a]; rfl)) (fun a => h2 (by rw [e, a]; rfl)), fun e => h2 (by rw [e]; rfl)⟩
/-- A loop that makes a list, and ends early where something does not hold. -/
theorem map_loop {α β : Type} (l : List α) (p : α → Bool) (f : α → β) {X : List β → Int → Prop} {T F : Prop} (hX : ∀ (i : Nat) (h : i < l.length) (o : List β), o.length = i → ((p l[i] = true → X (o ++ [f l[i]]) ((i + 1 : Nat) : Int)) ∧ (p l[i] = false → F)) → X o (i : Int))
    (hend : T → X (l.map f) (l.length : Int)) (ht : l.all p = true → T) (hf : l.all p = false → F) : X [] (0 : Int) := by
  have key := up (Y := fun i => ((l.drop i).all p = true → T) → ((l.drop i).all p = false → F) → X ((l.take i).map f) (i : Int)) l.length (fun h _ => by rw [List.take_length]; exact hend (h (by rw [List.drop_length]; rfl))) fun i hi hn h1 h2 => ?_
  · have := key (by rw [List.drop_zero]; exact ht) (by rw [List.drop_zero]; exact hf)
    rw [List.take_zero] at this; exact this
  · rw [dropC hi, List.all_cons] at h1 h2
    refine hX i hi _ (by rw [List.length_map, List.length_take]; omega) ⟨fun e => ?_, fun e => h2 (by rw [e]; rfl)⟩
    have := hn (fun a => h1 (by rw [e, a]; rfl)) (fun a => h2 (by rw [e, a]; rfl))
    rw [List.take_succ_eq_append_getElem hi, List.map_append] at this
    exact this
theorem spec_l01Finite_wp {a : Nat} {K : Bool → Prop} (h : K (pFin a)) : spec_l01Finite.wp a K := h
theorem impl_IsFinite_wp {a : Nat} {K : Bool → Prop} (h : K (pFin a)) : impl_IsFinite.wp a K := h
theorem spec_l02Finite_wp {l : List Nat} {K : Bool → Prop} (hl : l.length ≤ 2 ^ 20) (h : K (pAll l)) : spec_l02Finite.wp l K := by
  intro X hX
  refine all_loop l pFin (X := X) (T := K true) (F := K false) (fun i hi hh => ?_) (fun ht => hX _ ⟨fun c => absurd c (by omega), fun _ => ht⟩) (fun e => by rw [pAll, e] at h; exact h) (fun e => by rw [pAll, e] at h; exact h)
  refine hX _ ⟨fun _ => ⟨⟨by omega, by omega⟩, spec_l01Finite_wp ?_⟩, fun c => absurd (show (i : Int) < l.length by omega) c⟩
  rw [nn, gD hi, w1 (by omega)]; exact hh
theorem impl_areFinite_wp {ll : List (List Nat)} {K : Bool → Prop} (hll : ll.length ≤ 2 ^ 20) (hl : ∀ l ∈ ll, l.length ≤ 2 ^ 20) (h : K (ll.all pAll)) : impl_areFinite.wp ll K := by
  intro X hX
  refine all_loop ll pAll (X := X) (T := K true) (F := K false) (fun i hi hh => ?_) (fun ht => hX _ ⟨fun c => absurd c (by omega), fun _ => ht⟩) (fun e => by rw [e] at h; exact h) (fun e => by rw [e] at h; exact h)
  refine hX _ ⟨fun _ => ⟨⟨by omega, by omega⟩, fun Y hY => ?_⟩, fun c => absurd (show (i : Int) < ll.length by omega) c⟩
  have hlen := hl ll[i] (List.getElem_mem hi)
  rw [nn, gD hi, w1 (by omega)] at hY
  refine all_loop ll[i] pFin (X := Y) (T := X ((i + 1 : Nat) : Int)) (F := K false) (fun j hj h2 => ?_) (fun ht => hY _ ⟨fun c => absurd c (by omega), fun _ => ht⟩) (fun e => hh.1 e) (fun e => hh.2 e)
  refine hY _ ⟨fun _ => ⟨⟨by omega, by omega⟩, impl_IsFinite_wp ?_⟩, fun c => absurd (show (j : Int) < ll[i].length by omega) c⟩
  rw [nn, gD hj, w1 (by omega)]; exact h2
theorem impl_areFinite1_wp {l : List Nat} {K : Bool → Prop} (hl : l.length ≤ 2 ^ 20) (h : K (pAll l)) : impl_areFinite.wp [l] K := by
  refine impl_areFinite_wp (by simp) (fun x hx => by rw [List.mem_singleton] at hx; subst hx; exact hl) ?_
  rw [List.all_cons, List.all_nil, Bool.and_true]; exact h
theorem impl_within_wp {a b c : Int} {K : Bool → Prop} (h : K (decide (b ≤ a ∧ a ≤ c))) : impl_within.wp a b c K := by
  refine ⟨fun h1 => ?_, fun h1 => ?_⟩
  · have : decide (b ≤ a ∧ a ≤ c) = decide (a ≤ c) := by simp [h1]
    rw [this] at h; exact h
  · have : decide (b ≤ a ∧ a ≤ c) = false := by simp [h1]
    rw [this] at h; exact h
theorem spec_l00In_wp {a b c : Int} {K : Bool → Prop} (h : K (decide (b ≤ a ∧ a ≤ c))) : spec_l00In.wp a b c K := by
  refine ⟨fun h1 => ?_, fun h1 => ?_⟩
  · have : decide (b ≤ a ∧ a ≤ c) = decide (a ≤ c) := by simp [h1]
    rw [this] at h; exact h
  · have : decide (b ≤ a ∧ a ≤ c) = false := by simp [h1]
    rw [this] at h; exact h
theorem bT {b : Bool} {A B : Prop} (h1 : b = true → A) (h2 : b = false → B) : (b = true → A) ∧ (b = false → B) := ⟨h1, h2⟩
def isL (l : List Nat) : Bool := decide (1 ≤ l.length ∧ l.length ≤ 128) && pAll l
theorem spec_l02Is_wp {l : List Nat} {K : Bool → Prop} (hl : l.length ≤ 2 ^ 20) (h : K (isL l)) : spec_l02Is.wp l K := by
  refine ⟨fun h1 => ⟨fun h2 => spec_l02Finite_wp hl ?_, fun h2 => ?_⟩, fun h1 => ?_⟩
  · rw [isL, decide_eq_true (show 1 ≤ l.length ∧ l.length ≤ 128 by omega), Bool.true_and] at h; exact h
  · rw [isL, decide_eq_false (show ¬(1 ≤ l.length ∧ l.length ≤ 128) by omega), Bool.false_and] at h; exact h
  · rw [isL, decide_eq_false (show ¬(1 ≤ l.length ∧ l.length ≤ 128) by omega), Bool.false_and] at h; exact h
theorem impl_IsList_wp {l : List Nat} {K : Bool → Prop} (hl : l.length ≤ 2 ^ 20) (h : K (isL l)) : impl_IsList.wp l K := by
  refine impl_within_wp ⟨fun h1 => ?_, fun h1 => ?_⟩
  · have h1 := of_decide_eq_true h1
    refine impl_areFinite1_wp hl ?_
    rw [isL, decide_eq_true (show 1 ≤ l.length ∧ l.length ≤ 128 by omega), Bool.true_and] at h; exact h
  · have h1 := of_decide_eq_false h1
    rw [isL, decide_eq_false (show ¬(1 ≤ l.length ∧ l.length ≤ 128) by omega), Bool.false_and] at h; exact h
def isOver (x : Nat) : Bool := pFin x && fcmp .gtr .f32 x (cz .f32 0)
def isLeast (x : Nat) : Bool := pFin x && fcmp .geq .f32 x (cz .f32 0)
theorem spec_l02Above_wp {a : Nat} {K : Bool → Prop} (h : K (isOver a)) : spec_l02Above.wp a K := by
  refine spec_l01Finite_wp ⟨fun h1 => ?_, fun h1 => ?_⟩ <;> (rw [isOver, h1] at h; exact h)
theorem impl_isOver_wp {a : Nat} {K : Bool → Prop} (h : K (isOver a)) : impl_isOver.wp a K := by
  refine impl_IsFinite_wp ⟨fun h1 => ?_, fun h1 => ?_⟩ <;> (rw [isOver, h1] at h; exact h)
theorem spec_l02Least_wp {a : Nat} {K : Bool → Prop} (h : K (isLeast a)) : spec_l02Least.wp a K := by
  refine spec_l01Finite_wp ⟨fun h1 => ?_, fun h1 => ?_⟩ <;> (rw [isLeast, h1] at h; exact h)
theorem impl_isLeast_wp {a : Nat} {K : Bool → Prop} (h : K (isLeast a)) : impl_isLeast.wp a K := by
  refine impl_IsFinite_wp ⟨fun h1 => ?_, fun h1 => ?_⟩ <;> (rw [isLeast, h1] at h; exact h)
def isShare (x : Nat) : Bool := fcmp .geq .f32 x (cz .f32 0) && fcmp .leq .f32 x (cz .f32 1065353216)
theorem spec_l02Share_wp {a : Nat} {K : Bool → Prop} (h : K (isShare a)) : spec_l02Share.wp a K := by
  refine ⟨fun h1 => ?_, fun h1 => ?_⟩ <;> (rw [isShare, h1] at h; exact h)
theorem impl_isShare_wp {a : Nat} {K : Bool → Prop} (h : K (isShare a)) : impl_isShare.wp a K := by
  refine ⟨fun h1 => ?_, fun h1 => ?_⟩ <;> (rw [isShare, h1] at h; exact h)
/-! ### integers -/
def bnd (m : Int) (l : List Int) : Bool := l.all fun n => decide (-m ≤ n ∧ n ≤ m)
def isI (l : List Int) : Bool := decide (1 ≤ l.length ∧ l.length ≤ 128) && bnd 1000000 l
theorem spec_l02Bound_wp {l : List Int} {m : Int} {K : Bool → Prop} (hl : l.length ≤ 2 ^ 20) (hm : 0 ≤ m ∧ m ≤ 2 ^ 40) (h : K (bnd m l)) : spec_l02Bound.wp l m K := by
  intro X hX
  refine all_loop l (fun n => decide (-m ≤ n ∧ n ≤ m)) (X := X) (T := K true) (F := K false) (fun i hi hh => ?_) (fun ht => hX _ ⟨fun c => absurd c (by omega), fun _ => ht⟩) (fun e => by rw [bnd, e] at h; exact h) (fun e => by rw [bnd, e] at h; exact h)
  refine hX _ ⟨fun _ => ⟨⟨by omega, by omega⟩, spec_l00In_wp ?_⟩, fun c => absurd (show (i : Int) < l.length by omega) c⟩
  rw [nn, gD hi, w1 (by omega), wI (show -9223372036854775808 ≤ (0 : Int) - m ∧ (0 : Int) - m < 9223372036854775808 by omega), Int.zero_sub]; exact hh
theorem impl_areWithin_wp {l : List Int} {m : Int} {K : Bool → Prop} (hl : l.length ≤ 2 ^ 20) (hm : 0 ≤ m ∧ m ≤ 2 ^ 40) (h : K (bnd m l)) : impl_areWithin.wp l m K := by
  intro X hX
  refine all_loop l (fun n => decide (-m ≤ n ∧ n ≤ m)) (X := X) (T := K true) (F := K false) (fun i hi hh => ?_) (fun ht => hX _ ⟨fun c => absurd c (by omega), fun _ => ht⟩) (fun e => by rw [bnd, e] at h; exact h) (fun e => by rw [bnd, e] at h; exact h)
  refine hX _ ⟨fun _ => ⟨⟨by omega, by omega⟩, impl_within_wp ?_⟩, fun c => absurd (show (i : Int) < l.length by omega) c⟩
  rw [nn, gD hi, w1 (by omega), wI (show -9223372036854775808 ≤ (0 : Int) - m ∧ (0 : Int) - m < 9223372036854775808 by omega), Int.zero_sub]; exact hh
theorem spec_l02Integers_wp {l : List Int} {K : Bool → Prop} (hl : l.length ≤ 2 ^ 20) (h : K (isI l)) : spec_l02Integers.wp l K := by
  refine ⟨fun h1 => ⟨fun h2 => spec_l02Bound_wp hl (by omega) ?_, fun h2 => ?_⟩, fun h1 => ?_⟩
  · rw [isI, decide_eq_true (show 1 ≤ l.length ∧ l.length ≤ 128 by omega), Bool.true_and] at h; exact h
  · rw [isI, decide_eq_false (show ¬(1 ≤ l.length ∧ l.length ≤ 128) by omega), Bool.false_and] at h; exact h
  · rw [isI, decide_eq_false (show ¬(1 ≤ l.length ∧ l.length ≤ 128) by omega), Bool.false_and] at h; exact h
theorem impl_AreIntegers_wp {l : List Int} {K : Bool → Prop} (hl : l.length ≤ 2 ^ 20) (h : K (isI l)) : impl_AreIntegers.wp l K := by
  refine impl_within_wp ⟨fun h1 => ?_, fun h1 => ?_⟩
  · have h1 := of_decide_eq_true h1
    refine impl_areWithin_wp hl (by omega) ?_
    rw [isI, decide_eq_true (show 1 ≤ l.length ∧ l.length ≤ 128 by omega), Bool.true_and] at h; exact h
  · have h1 := of_decide_eq_false h1
    rw [isI, decide_eq_false (show ¬(1 ≤ l.length ∧ l.length ≤ 128) by omega), Bool.false_and] at h; exact h
theorem impl_finiteList_wp {l : List Nat} {K : Bool → Bool → Prop} (hl : l.length ≤ 2 ^ 20) (h : K (pAll l) (pAll l)) : impl_finiteList.wp l K := by
  refine impl_areFinite1_wp hl ⟨fun h1 => ?_, fun h1 => ?_⟩ <;> (rw [h1] at h; exact h)
theorem spec_l02List_wp {l : List Nat} {K : Bool → Bool → Prop} (hl : l.length ≤ 2 ^ 20) (h : K (pAll l) (pAll l)) : spec_l02List.wp l K := by
  refine spec_l02Finite_wp hl ⟨fun h1 => ?_, fun h1 => ?_⟩ <;> (rw [h1] at h; exact h)

end Go.Proofs.Ytfieljajhmpbiaa.G

namespace Go.Proofs.Ytfieljajhmpbiaa.G
open Go Go.Ab
set_option maxRecDepth 100000
set_option linter.unusedVariables false
set_option linter.unusedSimpArgs false
set_option maxHeartbeats 1000000
def gridLen (n : Nat) : Bool := decide (n = 2) || decide (n = 3) || decide (n = 5) || decide (n = 9) || decide (n = 17) || decide (n = 33) || decide (n = 65)
def isGr (l : List Nat) : Bool := gridLen l.length && pAll l
theorem grid_bits : ∀ n : Nat, n < 65 → 1 ≤ n → decide (ibits .and .i64 (n : Int) (IntKind.i64.wrap ((n : Int) - 1)) = 0) = gridLen (n + 1) := by decide +kernel
theorem grid_small {n : Nat} (h : gridLen n = true) : n = 2 ∨ n = 3 ∨ n = 5 ∨ n = 9 ∨ n = 17 ∨ n = 33 ∨ n = 65 := by
  simp [gridLen] at h; omega
theorem gr_yes {l : List Nat} (h : l.length = 2 ∨ l.length = 3 ∨ l.length = 5 ∨ l.length = 9 ∨ l.length = 17 ∨ l.length = 33 ∨ l.length = 65) : isGr l = pAll l := by
  have : gridLen l.length = true := by simp [gridLen]; omega
  rw [isGr, this, Bool.true_and]
theorem gr_no {l : List Nat} (h : ¬ (l.length = 2 ∨ l.length = 3 ∨ l.length = 5 ∨ l.length = 9 ∨ l.length = 17 ∨ l.length = 33 ∨ l.length = 65)) : isGr l = false := by
  have : gridLen l.length = false := by simp [gridLen]; omega
  rw [isGr, this, Bool.false_and]
theorem gr_grid {l : List Nat} (h : isGr l = true) : gridLen l.length = true := by
  simp only [isGr, Bool.and_eq_true] at h; exact h.1
theorem spec_l07Grid_wp {l : List Nat} {K : Bool → Prop} (hl : l.length ≤ 2 ^ 20) (h : K (isGr l)) : spec_l07Grid.wp l K := by
  have y : (l.length = 2 ∨ l.length = 3 ∨ l.length = 5 ∨ l.length = 9 ∨ l.length = 17 ∨ l.length = 33 ∨ l.length = 65) → spec_l02Finite.wp l (fun b => K b) := fun e => spec_l02Finite_wp hl (by rw [gr_yes e] at h; exact h)
  refine ⟨fun c => y (by omega), fun c1 => ⟨fun c => y (by omega), fun c2 => ⟨fun c => y (by omega), fun c3 => ⟨fun c => y (by omega), fun c4 => ⟨fun c => y (by omega), fun c5 => ⟨fun c => y (by omega), fun c6 => ⟨fun c => y (by omega), fun c7 => ?_⟩⟩⟩⟩⟩⟩⟩
  rw [gr_no (by omega)] at h; exact h
theorem impl_isGrid_wp {l : List Nat} {K : Bool → Prop} (hl : l.length ≤ 2 ^ 20) (h : K (isGr l)) : impl_isGrid.wp l K := by
  have e : IntKind.i64.wrap ((l.length : Int) - 1) = (l.length : Int) - 1 := wI (by omega)
  unfold impl_isGrid.wp
  rw [e]
  refine ⟨fun c1 => ⟨fun c2 => ?_, fun c2 => ?_⟩, fun c1 => ?_⟩
  · have hb := grid_bits (l.length - 1) (by omega) (by omega)
    rw [show ((l.length - 1 : Nat) : Int) = (l.length : Int) - 1 by omega, show l.length - 1 + 1 = l.length by omega] at hb
    refine ⟨fun c3 => impl_areFinite1_wp hl ?_, fun c3 => ?_⟩
    · rw [decide_eq_true c3] at hb
      rw [isGr, ← hb, Bool.true_and] at h; exact h
    · rw [decide_eq_false c3] at hb
      rw [isGr, ← hb, Bool.false_and] at h; exact h
  · rw [gr_no (by omega)] at h; exact h
  · rw [gr_no (by omega)] at h; exact h
theorem impl_copyOf_wp {l : List Nat} {K : List Nat → Prop} (hl : l.length ≤ 2 ^ 20) (h : K l) : impl_copyOf.wp l K :=
  ⟨by simp only [List.length_nil]; omega, h⟩
def half (x : Nat) : Nat := fop .mul .f32 1056964608 x
theorem cz_half : cz .f32 1056964608 = 1056964608 := by decide +kernel
theorem cz_two : cz .f32 1073741824 = 1073741824 := by decide +kernel
theorem getD_in0 (l : List Nat) {i : Nat} (hi : i < l.length) : l.getD i 0 = l[i] := by simp [List.getD, List.getElem?_eq_getElem hi]
/-! ### from a surplus -/
def frStep (l : List Nat) (h i : Nat) : List Nat := l.set i (fop .add .f32 (l.getD i 0) (half (fop .add .f32 (l.getD (i - h) 0) (l.getD (i + h) 0))))
def frIn (n h : Nat) : Nat → Nat → List Nat → List Nat
  | 0, _, l => l
  | f + 1, i, l => if i + 1 < n then frIn n h f (i + 2 * h) (frStep l h i) else l
def frOut (n : Nat) : Nat → Nat → List Nat → List Nat
  | 0, _, l => l
  | f + 1, h, l => if 1 ≤ h then frOut n f (h / 2) (frIn n h n h l) else l
theorem frStep_len (l : List Nat) (h i : Nat) : (frStep l h i).length = l.length := by simp [frStep]
theorem frIn_len (n h : Nat) : ∀ (f i : Nat) (l : List Nat), (frIn n h f i l).length = l.length
  | 0, _, _ => rfl
  | f + 1, i, l => by
    rw [frIn]; split
    · rw [frIn_len n h f, frStep_len]
    · rfl
theorem frOut_len (n : Nat) : ∀ (f h : Nat) (l : List Nat), (frOut n f h l).length = l.length
  | 0, _, _ => rfl
  | f + 1, h, l => by
    rw [frOut]; split
    · rw [frOut_len n f, frIn_len]
    · rfl
def fromL (l : List Nat) : List Nat := frOut l.length 64 ((l.length - 1) / 2) l
theorem fromL_len (l : List Nat) : (fromL l).length = l.length := frOut_len ..
def isStep (n h : Nat) : Prop := (h = 1 ∨ h = 2 ∨ h = 4 ∨ h = 8 ∨ h = 16 ∨ h = 32) ∧ (n - 1) % (2 * h) = 0
theorem step_half {n h : Nat} (hs : isStep n h) : h / 2 = 0 ∨ isStep n (h / 2) := by
  obtain ⟨h1, h2⟩ := hs
  rcases h1 with rfl | rfl | rfl | rfl | rfl | rfl
  · left; rfl
  all_goals right; refine ⟨by omega, by omega⟩
theorem from_loop {n : Nat} (hg : gridLen n = true) {X : List Nat → Int → Prop} {E : List Nat → Prop} (hX : ∀ (o : List Nat) (h : Nat), o.length = n → h ≤ 32 → (1 ≤ h → isStep n h) → (1 ≤ h → X (frIn n h n h o) ((h / 2 : Nat) : Int)) → (¬ 1 ≤ h → E o) → X o (h : Int)) {l : List Nat} (hl : l.length = n) (hend : E (fromL l)) : X l (((n - 1) / 2 : Nat) : Int) := by
  have key : ∀ (f h : Nat) (o : List Nat), h < f → (h = 0 ∨ isStep n h) → o.length = n → E (frOut n f h o) → X o (h : Int) := by
    intro f
    induction f with
    | zero => intro h o h1; omega
    | succ f ih =>
      intro h o h1 h2 h3 h4
      have h32 : h ≤ 32 := by rcases h2 with h2 | h2; omega; have := h2.1; omega
      refine hX o h h3 h32 (fun c => by rcases h2 with h2 | h2; omega; exact h2) (fun c => ?_) (fun c => ?_)
      · rw [frOut, if_pos c] at h4
        have hs : isStep n h := by rcases h2 with h2 | h2; omega; exact h2
        exact ih (h / 2) _ (by omega) (step_half hs) (by rw [frIn_len]; exact h3) h4
      · rw [frOut, if_neg c] at h4; exact h4
  have hn := grid_small hg
  refine key 64 ((n - 1) / 2) l (by omega) ?_ hl (by rw [fromL, hl] at hend; exact hend)
  rcases hn with h | h | h | h | h | h | h <;> rw [h] <;> simp [isStep]
theorem from_in {n h : Nat} (hs : isStep n h) {X : List Nat → Int → Prop} {E : List Nat → Prop} (hX : ∀ (o : List Nat) (i : Nat), o.length = n → h ≤ i → i ≤ n + 64 → (i + 1 < n → i + h < n) → (i + 1 < n → X (frStep o h i) ((i + 2 * h : Nat) : Int)) → (¬ i + 1 < n → E o) → X o (i : Int)) {l : List Nat} (hl : l.length = n) (hend : E (frIn n h n h l)) : X l (h : Int) := by
  have hh : 1 ≤ h ∧ h ≤ 32 := by have := hs.1; omega
  have key : ∀ (f i : Nat) (o : List Nat), n ≤ f + i → h ≤ i → i ≤ n + 64 → i % (2 * h) = h → o.length = n → E (frIn n h f i o) → X o (i : Int) := by
    intro f
    induction f with
    | zero => intro i o h1 h2 h2' h3 h4 h5; exact hX o i h4 h2 h2' (fun c => by omega) (fun c => by omega) (fun c => h5)
    | succ f ih =>
      intro i o h1 h2 h2' h3 h4 h5
      refine hX o i h4 h2 h2' (fun c => ?_) (fun c => ?_) (fun c => ?_)
      · obtain ⟨hs1, hs2⟩ := hs
        rcases hs1 with rfl | rfl | rfl | rfl | rfl | rfl <;> omega
      · rw [frIn, if_pos c] at h5
        refine ih (i + 2 * h) _ (by omega) (by omega) (by omega) ?_ (by rw [frStep_len]; exact h4) h5
        rw [Nat.add_mod_right]; exact h3
      · rw [frIn, if_neg c] at h5; exact h5
  exact key n h l (by omega) (by omega) (by omega) (Nat.mod_eq_of_lt (by omega)) hl hend
theorem tdiv2 (n : Nat) (h : n < 2 ^ 40) : IntKind.i64.wrap (Int.tdiv (n : Int) 2) = ((n / 2 : Nat) : Int) := by
  rw [show (n : Int).tdiv 2 = ((n / 2 : Nat) : Int) by rw [Int.tdiv_eq_ediv_of_nonneg (by omega)]; omega]
  exact wI (by omega)
theorem wl1 {n : Nat} (h0 : 1 ≤ n) (h : n < 2 ^ 40) : IntKind.i64.wrap ((n : Int) - 1) = ((n - 1 : Nat) : Int) := by rw [wI (by omega)]; omega
theorem wN {n : Int} {m : Nat} (h : n = m) (hm : m < 2 ^ 40) : IntKind.i64.wrap n = (m : Int) := by rw [wI (by omega)]; exact h
theorem spec_l07From_wp {l : List Nat} {K : List Nat → Prop} (hg : gridLen l.length = true) (h : K (fromL l)) : spec_l07From.wp l K := by
  have hn := grid_small hg
  refine ⟨by simp only [List.length_nil]; omega, fun X hX => ?_⟩
  rw [List.nil_append, wl1 (by omega) (by omega), tdiv2 _ (by omega)]
  refine from_loop hg (X := X) (E := K) (fun o s ho h32 hst h1 h2 => hX _ _ ⟨fun c => ?_, fun c => h2 (by omega)⟩) rfl h
  have hst := hst (by omega)
  intro Y hY
  refine from_in hst (X := Y) (E := fun o => X o ((s / 2 : Nat) : Int)) (fun q i hq hi hi2 hb h3 h4 => hY _ _ ⟨fun c2 => ?_, fun c2 => ?_⟩) ho (h1 (by omega))
  · rw [wl1 (by omega) (by omega)] at c2
    have hb := hb (by omega)
    rw [wN (n := (i : Int) - s) (m := i - s) (by omega) (by omega), wN (n := (i : Int) + s) (m := i + s) (by omega) (by omega), wN (n := 2 * (s : Int)) (m := 2 * s) (by omega) (by omega), wN (n := (i : Int) + (2 * s : Nat)) (m := i + 2 * s) (by omega) (by omega), nn, nn, nn, cz_half]
    exact ⟨⟨by omega, by omega⟩, ⟨by omega, by omega⟩, ⟨by omega, by omega⟩, h3 (by omega)⟩
  · rw [wl1 (by omega) (by omega)] at c2
    rw [tdiv2 _ (by omega)]; exact h4 (by omega)
def fromF (l : List Nat) : Bool := isGr l && pAll (fromL l)
theorem impl_FromSurplus_wp {l : List Nat} {K : List Nat → Bool → Prop} (hl : l.length ≤ 2 ^ 20) (h : K (if fromF l = true then fromL l else []) (fromF l)) : impl_FromSurplus.wp l K := by
  refine impl_isGrid_wp hl ⟨fun h1 => ?_, fun h1 => by rw [show fromF l = false by rw [fromF, h1]; rfl, if_neg (by decide)] at h; exact h⟩
  have hg := gr_grid h1
  have hn := grid_small hg
  rw [show fromF l = pAll (fromL l) by rw [fromF, h1]; rfl] at h
  refine impl_copyOf_wp hl fun X hX => ?_
  rw [wl1 (by omega) (by omega), tdiv2 _ (by omega)]
  refine from_loop hg (X := X) (E := fun o => K (if pAll o = true then o else []) (pAll o)) (fun o s ho h32 hst h1 h2 => hX _ _ ⟨fun c => ?_, fun c => ?_⟩) rfl h
  rotate_left
  · have h2 := h2 (by omega)
    refine impl_finiteList_wp (by omega) ⟨fun h3 => ?_, fun h3 => ?_⟩
    · rw [h3, if_pos rfl] at h2; rw [h3]; exact h2
    · rw [h3, if_neg (by decide)] at h2; rw [h3]; exact h2
  have hst := hst (by omega)
  intro Y hY
  refine from_in hst (X := Y) (E := fun o => X o ((s / 2 : Nat) : Int)) (fun q i hq hi hi2 hb h3 h4 => hY _ _ ⟨fun c2 => ?_, fun c2 => ?_⟩) ho (h1 (by omega))
  · rw [wl1 (by omega) (by omega)] at c2
    have hb := hb (by omega)
    rw [wN (n := (i : Int) - s) (m := i - s) (by omega) (by omega), wN (n := (i : Int) + s) (m := i + s) (by omega) (by omega), wN (n := 2 * (s : Int)) (m := 2 * s) (by omega) (by omega), wN (n := (i : Int) + (2 * s : Nat)) (m := i + 2 * s) (by omega) (by omega), nn, nn, nn, cz_two, quo_two]
    exact ⟨⟨by omega, by omega⟩, ⟨by omega, by omega⟩, ⟨by omega, by omega⟩, h3 (by omega)⟩
  · rw [wl1 (by omega) (by omega)] at c2
    rw [tdiv2 _ (by omega)]; exact h4 (by omega)
/-! ### the surplus -/
/-- The lowest bit. -/
def low (p : Nat) : Nat := if p % 2 = 1 then 1 else if p % 4 = 2 then 2 else if p % 8 = 4 then 4 else if p % 16 = 8 then 8 else if p % 32 = 16 then 16 else if p % 64 = 32 then 32 else 64
theorem low_bits : ∀ p : Nat, p < 65 → 1 ≤ p → ibits .and .i64 (p : Int) (IntKind.i64.wrap (0 - (p : Int))) = (low p : Int) := by decide +kernel
def surAt (l : List Nat) (i h : Nat) : Nat := fop .sub .f32 (l.getD i 0) (half (fop .add .f32 (l.getD (i - h) 0) (l.getD (i + h) 0)))
/-- All below i done. -/
def surI (l : List Nat) (i : Nat) : List Nat := (List.range l.length).map fun p => if 0 < p ∧ p + 1 < l.length ∧ p < i then surAt l p (low p) else l.getD p 0
/-- All levels below h done, and level h below i. -/
def surH (l : List Nat) (h i : Nat) : List Nat := (List.range l.length).map fun p => if 0 < p ∧ p + 1 < l.length ∧ (p % h ≠ 0 ∨ (p % (2 * h) = h ∧ p < i)) then surAt l p (low p) else l.getD p 0
def surL (l : List Nat) : List Nat := surI l l.length
theorem surI_len (l : List Nat) (i : Nat) : (surI l i).length = l.length := by simp [surI]
theorem surH_len (l : List Nat) (h i : Nat) : (surH l h i).length = l.length := by simp [surH]
theorem surL_len (l : List Nat) : (surL l).length = l.length := surI_len ..
theorem surI_step (l : List Nat) {i : Nat} (h0 : 0 < i) (hi : i + 1 < l.length) : (surI l i).set i (surAt l i (low i)) = surI l (i + 1) := by
  apply List.ext_getElem (by simp [surI])
  intro p h1 h2
  have hp : p < l.length := by simpa [surI] using h2
  rw [List.getElem_set]
  simp only [surI, List.getElem_map, List.getElem_range]
  by_cases he : i = p
  · subst he; rw [if_pos rfl, if_pos ⟨h0, hi, by omega⟩]
  · rw [if_neg he]
    by_cases hc : 0 < p ∧ p + 1 < l.length ∧ p < i
    · rw [if_pos hc, if_pos ⟨hc.1, hc.2.1, by omega⟩]
    · rw [if_neg hc, if_neg (fun h => hc ⟨h.1, h.2.1, by omega⟩)]
theorem surI_0 (l : List Nat) : surI l 1 = l := by
  apply List.ext_getElem (by simp [surI])
  intro p h1 h2
  simp only [surI, List.getElem_map, List.getElem_range]
  rw [if_neg (by omega), getD_in0 l h2]
theorem surI_end (l : List Nat) {i : Nat} (hi : l.length ≤ i + 1) : surI l i = surL l := by
  apply List.ext_getElem (by simp [surI, surL])
  intro p h1 h2
  have hp : p < l.length := by simpa [surI] using h1
  simp only [surI, surL, List.getElem_map, List.getElem_range]
  by_cases hc : 0 < p ∧ p + 1 < l.length ∧ p < i
  · rw [if_pos hc, if_pos ⟨hc.1, hc.2.1, hp⟩]
  · rw [if_neg hc, if_neg (fun h => hc ⟨h.1, h.2.1, by omega⟩)]
def isPw (h : Nat) : Prop := h = 1 ∨ h = 2 ∨ h = 4 ∨ h = 8 ∨ h = 16 ∨ h = 32 ∨ h = 64
theorem low_of {h i : Nat} (hh : isPw h) (hi : i % (2 * h) = h) (hs : i < 65) : low i = h := by
  rcases hh with rfl | rfl | rfl | rfl | rfl | rfl | rfl <;> simp only [low] <;> (repeat' split) <;> omega
theorem surH_step (l : List Nat) {h i : Nat} (hh : isPw h) (him : i % (2 * h) = h) (hi : i + 1 < l.length) (hl : l.length ≤ 65) : (surH l h i).set i (surAt l i h) = surH l h (i + 2 * h) := by
  have hlow := low_of hh him (by omega)
  have h0 : 0 < i := by
    rcases hh with rfl | rfl | rfl | rfl | rfl | rfl | rfl <;> omega
  apply List.ext_getElem (by simp [surH])
  intro p h1 h2
  rw [List.getElem_set]
  simp only [surH, List.getElem_map, List.getElem_range]
  by_cases he : i = p
  · subst he
    rw [if_pos rfl, if_pos ⟨h0, hi, .inr ⟨him, by rcases hh with rfl | rfl | rfl | rfl | rfl | rfl | rfl <;> omega⟩⟩, hlow]
  · rw [if_neg he]
    have key : (p % h ≠ 0 ∨ (p % (2 * h) = h ∧ p < i)) ↔ (p % h ≠ 0 ∨ (p % (2 * h) = h ∧ p < i + 2 * h)) := by
      rcases hh with rfl | rfl | rfl | rfl | rfl | rfl | rfl <;> omega
    by_cases hc : 0 < p ∧ p + 1 < l.length ∧ (p % h ≠ 0 ∨ (p % (2 * h) = h ∧ p < i))
    · rw [if_pos hc, if_pos ⟨hc.1, hc.2.1, key.1 hc.2.2⟩]
    · rw [if_neg hc, if_neg (fun h => hc ⟨h.1, h.2.1, key.2 h.2.2⟩)]
theorem surH_up (l : List Nat) {h i : Nat} (hh : isPw h) (hi : l.length ≤ i + 1) : surH l h i = surH l (2 * h) (2 * h) := by
  apply List.ext_getElem (by simp [surH])
  intro p h1 h2
  have hp : p < l.length := by simpa [surH] using h1
  simp only [surH, List.getElem_map, List.getElem_range]
  have key : p + 1 < l.length → ((p % h ≠ 0 ∨ (p % (2 * h) = h ∧ p < i)) ↔ (p % (2 * h) ≠ 0 ∨ (p % (2 * (2 * h)) = 2 * h ∧ p < 2 * h))) := by
    intro hp'
    rcases hh with rfl | rfl | rfl | rfl | rfl | rfl | rfl <;> omega
  by_cases hc : 0 < p ∧ p + 1 < l.length ∧ (p % h ≠ 0 ∨ (p % (2 * h) = h ∧ p < i))
  · rw [if_pos hc, if_pos ⟨hc.1, hc.2.1, (key hc.2.1).1 hc.2.2⟩]
  · rw [if_neg hc, if_neg (fun h => hc ⟨h.1, h.2.1, (key h.2.1).2 h.2.2⟩)]
theorem surH_0 (l : List Nat) : surH l 1 1 = l := by
  apply List.ext_getElem (by simp [surH])
  intro p h1 h2
  simp only [surH, List.getElem_map, List.getElem_range]
  rw [if_neg (by omega), getD_in0 l h2]
theorem surH_end (l : List Nat) {h : Nat} (hh : isPw h) (hg : gridLen l.length = true) (hi : l.length ≤ 2 * h) : surH l h h = surL l := by
  have hn := grid_small hg
  apply List.ext_getElem (by simp [surH, surL, surI])
  intro p h1 h2
  have hp : p < l.length := by simpa [surH] using h1
  simp only [surH, surL, surI, List.getElem_map, List.getElem_range]
  have key : 0 < p → p + 1 < l.length → p % h ≠ 0 := by
    intro hp0 hp'
    rcases hh with rfl | rfl | rfl | rfl | rfl | rfl | rfl <;> omega
  by_cases hc : 0 < p ∧ p + 1 < l.length
  · rw [if_pos ⟨hc.1, hc.2, .inl (key hc.1 hc.2)⟩, if_pos ⟨hc.1, hc.2, hp⟩]
  · rw [if_neg (fun h => hc ⟨h.1, h.2.1⟩), if_neg (fun h => hc ⟨h.1, h.2.1⟩)]

def surF (l : List Nat) : Bool := isGr l && pAll (surL l)
theorem sur_loop {l : List Nat} (hg : gridLen l.length = true) {X : List Nat → Int → Prop} {E : List Nat → Prop} (hX : ∀ (o : List Nat) (i : Nat), o.length = l.length → 1 ≤ i → i ≤ l.length → (i + 1 < l.length → low i ≤ i ∧ i + low i < l.length) → (i + 1 < l.length → X (o.set i (surAt l i (low i))) ((i + 1 : Nat) : Int)) → (¬ i + 1 < l.length → E o) → X o (i : Int)) (hend : E (surL l)) : X l ((1 : Nat) : Int) := by
  have hn := grid_small hg
  have key := upFrom (Y := fun i => i + 1 ≤ l.length → X (surI l i) (i : Int)) 1 (l.length - 1) (by omega) (fun _ => ?_) (fun i h0 hi hn2 _ => ?_)
  · have := key (by omega); rw [surI_0] at this; exact this
  · refine hX _ _ (surI_len ..) (by omega) (by omega) (fun c => by omega) (fun c => by omega) (fun _ => ?_)
    rw [surI_end l (by omega)]; exact hend
  · refine hX _ _ (surI_len ..) (by omega) (by omega) (fun c => ?_) (fun c => ?_) (fun c => by omega)
    · simp only [low]; rcases hn with h | h | h | h | h | h | h <;> (repeat' split) <;> omega
    · rw [surI_step l (by omega) c]; exact hn2 (by omega)
theorem surH_loop {l : List Nat} (hg : gridLen l.length = true) {X : List Nat → Int → Prop} {E : List Nat → Prop} (hX : ∀ (o : List Nat) (h : Nat), isPw h → (2 * h < l.length → o = surH l h h) → (2 * h < l.length → X (surH l (2 * h) (2 * h)) ((2 * h : Nat) : Int)) → (¬ 2 * h < l.length → E o) → X o (h : Int)) (hend : E (surL l)) : X l ((1 : Nat) : Int) := by
  have hn := grid_small hg
  have key : ∀ (f h : Nat), l.length ≤ f + h → isPw h → X (surH l h h) (h : Int) := by
    intro f
    induction f with
    | zero => intro h h1 h2; exact hX _ _ h2 (fun _ => rfl) (fun c => by omega) (fun c => by rw [surH_end l h2 hg (by omega)]; exact hend)
    | succ f ih =>
      intro h h1 h2
      refine hX _ _ h2 (fun _ => rfl) (fun c => ih (2 * h) (by have := h2; simp only [isPw] at this; omega) ?_) (fun c => by rw [surH_end l h2 hg (by omega)]; exact hend)
      rcases h2 with rfl | rfl | rfl | rfl | rfl | rfl | rfl <;> first | omega | simp [isPw]
  have := key l.length 1 (by omega) (.inl rfl)
  rw [surH_0] at this; exact this
theorem surH_in {l : List Nat} (hg : gridLen l.length = true) {h : Nat} (hh : isPw h) (h2 : 2 * h < l.length) {X : List Nat → Int → Prop} {E : List Nat → Prop} (hX : ∀ (o : List Nat) (i : Nat), o.length = l.length → i ≤ l.length + 128 → (i + 1 < l.length → h ≤ i ∧ i + h < l.length) → (i + 1 < l.length → X (o.set i (surAt l i h)) ((i + 2 * h : Nat) : Int)) → (¬ i + 1 < l.length → E o) → X o (i : Int)) (hend : E (surH l (2 * h) (2 * h))) : X (surH l h h) (h : Int) := by
  have hn := grid_small hg
  have key : ∀ (f i : Nat), l.length ≤ f + i → i % (2 * h) = h → i ≤ l.length + 128 → X (surH l h i) (i : Int) := by
    intro f
    induction f with
    | zero => intro i h1 h3 h4; exact hX _ _ (surH_len ..) (by omega) (fun c => by omega) (fun c => by omega) (fun c => by rw [surH_up l hh (by omega)]; exact hend)
    | succ f ih =>
      intro i h1 h3 h4
      refine hX _ _ (surH_len ..) (by omega) (fun c => ?_) (fun c => ?_) (fun c => by rw [surH_up l hh (by omega)]; exact hend)
      · rcases hh with rfl | rfl | rfl | rfl | rfl | rfl | rfl <;> omega
      · rw [surH_step l hh h3 c (by omega)]
        refine ih (i + 2 * h) ?_ ?_ ?_
        · simp only [isPw] at hh; omega
        · rw [Nat.add_mod_right]; exact h3
        · simp only [isPw] at hh; omega
  refine key l.length h (by omega) (Nat.mod_eq_of_lt ?_) (by omega)
  simp only [isPw] at hh; omega
theorem spec_l07Surplus_wp {l : List Nat} {K : List Nat → Prop} (hg : gridLen l.length = true) (h : K (surL l)) : spec_l07Surplus.wp l K := by
  have hn := grid_small hg
  refine ⟨by simp only [List.length_nil]; omega, fun X hX => ?_⟩
  rw [List.nil_append]
  refine surH_loop hg (X := X) (E := K) (fun o s hp ho h1 h2 => hX _ _ ?_) h
  have hs : 1 ≤ s ∧ s ≤ 64 := by simp only [isPw] at hp; omega
  rw [wN (n := 2 * (s : Int)) (m := 2 * s) (by omega) (by omega), wN (n := (s : Int) * 2) (m := 2 * s) (by omega) (by omega)]
  refine ⟨fun c => ?_, fun c => h2 (by omega)⟩
  have c' : 2 * s < l.length := by omega
  rw [ho c']
  intro Y hY
  refine surH_in hg hp c' (X := Y) (E := fun o => X o ((2 * s : Nat) : Int)) (fun q i hq hi hb h3 h4 => hY _ _ ?_) (h1 c')
  rw [wl1 (by omega) (by omega)]
  refine ⟨fun c2 => ?_, fun c2 => h4 (by omega)⟩
  have hb := hb (by omega)
  rw [wN (n := (i : Int) - s) (m := i - s) (by omega) (by omega), wN (n := (i : Int) + s) (m := i + s) (by omega) (by omega), wN (n := (i : Int) + (2 * s : Nat)) (m := i + 2 * s) (by omega) (by omega), nn, nn, nn, cz_half]
  exact ⟨⟨by omega, by omega⟩, ⟨by omega, by omega⟩, ⟨by omega, by omega⟩, ⟨by omega, by omega⟩, h3 (by omega)⟩
theorem spec_SurplusOf_wp {l : List Nat} {K : List Nat → Bool → Prop} (hl : l.length ≤ 2 ^ 20) (h : K (if surF l = true then surL l else []) (surF l)) : spec_SurplusOf.wp l K := by
  refine spec_l07Grid_wp hl ⟨fun h1 => ?_, fun h1 => by rw [show surF l = false by rw [surF, h1]; rfl, if_neg (by decide)] at h; exact h⟩
  rw [show surF l = pAll (surL l) by rw [surF, h1]; rfl] at h
  refine spec_l07Surplus_wp (gr_grid h1) (spec_l02Finite_wp (by rw [surL_len]; exact hl) ⟨fun h3 => ?_, fun h3 => ?_⟩)
  · rw [h3, if_pos rfl] at h; exact h
  · rw [h3, if_neg (by decide)] at h; exact h
theorem impl_SurplusOf_wp {l : List Nat} {K : List Nat → Bool → Prop} (hl : l.length ≤ 2 ^ 20) (h : K (if surF l = true then surL l else []) (surF l)) : impl_SurplusOf.wp l K := by
  refine impl_isGrid_wp hl ⟨fun h1 => ?_, fun h1 => by rw [show surF l = false by rw [surF, h1]; rfl, if_neg (by decide)] at h; exact h⟩
  have hg := gr_grid h1
  have hn := grid_small hg
  rw [show surF l = pAll (surL l) by rw [surF, h1]; rfl] at h
  refine impl_copyOf_wp hl fun X hX => ?_
  refine sur_loop hg (X := X) (E := fun o => K (if pAll o = true then o else []) (pAll o)) (fun o i ho h0 hi hb h1 h2 => hX _ _ ?_) h
  rw [wl1 (by omega) (by omega)]
  refine ⟨fun c => ?_, fun c => ?_⟩
  · have hb := hb (by omega)
    rw [low_bits i (by omega) h0, wN (n := (i : Int) - (low i : Nat)) (m := i - low i) (by omega) (by omega), wN (n := (i : Int) + (low i : Nat)) (m := i + low i) (by omega) (by omega), w1 (by omega), nn, nn, nn, cz_two, quo_two]
    exact ⟨⟨by omega, by omega⟩, ⟨by omega, by omega⟩, ⟨by omega, by omega⟩, ⟨by omega, by omega⟩, h1 (by omega)⟩
  · have h2 := h2 (by omega)
    refine impl_finiteList_wp (by omega) ⟨fun h3 => ?_, fun h3 => ?_⟩
    · rw [h3, if_pos rfl] at h2; rw [h3]; exact h2
    · rw [h3, if_neg (by decide)] at h2; rw [h3]; exact h2

end Go.Proofs.Ytfieljajhmpbiaa.G

namespace Go.Proofs.Ytfieljajhmpbiaa.G
open Go Go.Ab
set_option maxRecDepth 100000
set_option linter.unusedVariables false
set_option linter.unusedSimpArgs false
set_option maxHeartbeats 1000000
open Ieee in
theorem neg_read (b : Nat) : single.read (Op.negFloat .f32 b) = (single.read b).opposite := by
  have hs : single.signWeight = 2 ^ 31 := rfl
  have h2 : Op.negFloat .f32 b % 2 ^ 31 = b % 2 ^ 31 := by
    show (b ^^^ 2 ^ 31) % 2 ^ 31 = _
    rw [Nat.xor_mod_two_pow]; simp
  have h3 : Op.negFloat .f32 b / 2 ^ 31 % 2 = (b / 2 ^ 31 + 1) % 2 := by
    show (b ^^^ 2 ^ 31) / 2 ^ 31 % 2 = _
    rw [Nat.xor_div_two_pow, Nat.div_self (by decide)]
    have := Nat.xor_mod_two_pow (a := b / 2 ^ 31) (b := 1) (n := 1)
    rw [Nat.pow_one] at this; rw [this]
    rcases Nat.mod_two_eq_zero_or_one (b / 2 ^ 31) with h | h
    · rw [h, show (b / 2 ^ 31 + 1) % 2 = 1 by omega]; decide
    · rw [h, show (b / 2 ^ 31 + 1) % 2 = 0 by omega]; decide
  have h4 : (Op.negFloat .f32 b / 2 ^ 31 % 2 == 1) = !(b / 2 ^ 31 % 2 == 1) := by
    rw [h3]
    rcases Nat.mod_two_eq_zero_or_one (b / 2 ^ 31) with h | h
    · rw [h, show (b / 2 ^ 31 + 1) % 2 = 1 by omega]; rfl
    · rw [h, show (b / 2 ^ 31 + 1) % 2 = 0 by omega]; rfl
  unfold Format.read
  rw [hs, h2, h4]
  dsimp only
  split
  · rfl
  · split
    · rfl
    · split <;> rfl
open Ieee in
theorem fneg_read {b : Nat} (h : (single.read b).isNaN = false) : single.read (fneg .f32 b) = (single.read b).opposite := by
  have e : (FloatKind.f32.decode (Op.negFloat .f32 b)).isNaN = false := by
    show (single.read _).isNaN = false
    rw [neg_read]; cases hr : single.read b with
    | nan s t => rw [hr] at h; cases h
    | _ => rfl
  rw [fneg, cz32 _ e, neg_read]
/-! ### values, in units of the last place -/
open Ieee in
def val : Datum → Int
  | .number s m e => signed s m (e + 149).toNat
  | _ => 0
open Ieee in
theorem signed_up (s : Bool) (m a b : Nat) : signed s m (a + b) = signed s m a * (2 ^ b : Nat) := by
  unfold signed
  cases s <;> simp [Nat.shiftLeft_eq, Nat.pow_add, Int.mul_assoc, Int.neg_mul]
open Ieee in
theorem order_val {s t : Bool} {m n : Nat} {i j : Int} (hi : -149 ≤ i) (hj : -149 ≤ j) : (Datum.number s m i).order (.number t n j) = some (compare (val (.number s m i)) (val (.number t n j))) := by
  have e1 : val (.number s m i) = signed s m (i - min i j).toNat * (2 ^ (min i j + 149).toNat : Nat) := by
    show signed s m _ = _
    rw [← signed_up]; congr 1; omega
  have e2 : val (.number t n j) = signed t n (j - min i j).toNat * (2 ^ (min i j + 149).toNat : Nat) := by
    show signed t n _ = _
    rw [← signed_up]; congr 1; omega
  rw [e1, e2]
  show some (compare (signed s m (i - min i j).toNat) (signed t n (j - min i j).toNat)) = _
  congr 1
  have hp : (0 : Int) < ((2 ^ (min i j + 149).toNat : Nat) : Int) := by have := Nat.two_pow_pos (min i j + 149).toNat; omega
  generalize signed s m (i - min i j).toNat = a
  generalize signed t n (j - min i j).toNat = b
  generalize ((2 ^ (min i j + 149).toNat : Nat) : Int) = p at hp
  rw [show compare a b = compareOfLessAndEq a b from rfl, show compare (a * p) (b * p) = compareOfLessAndEq (a * p) (b * p) from rfl]
  unfold compareOfLessAndEq
  have h1 : (a * p < b * p) = (a < b) := propext ⟨fun h => Int.lt_of_mul_lt_mul_right h (Int.le_of_lt hp), fun h => Int.mul_lt_mul_of_pos_right h hp⟩
  have h2 : (a * p = b * p) = (a = b) := propext ⟨fun h => Int.eq_of_mul_eq_mul_right (Int.ne_of_gt hp) h, fun h => by rw [h]⟩
  simp only [h1, h2]
/-- A word of single precision: no number, or how it stands to others. -/
theorem cmp_lt {a b : Int} : (compare a b == Ordering.lt) = decide (a < b) := by
  rw [show compare a b = compareOfLessAndEq a b from rfl]; unfold compareOfLessAndEq
  split
  · simp [*]
  · split <;> simp [*]
theorem cmp_eq {a b : Int} : (compare a b == Ordering.eq) = decide (a = b) := by
  rw [show compare a b = compareOfLessAndEq a b from rfl]; unfold compareOfLessAndEq
  split
  · simp; omega
  · split <;> simp [*]
theorem cmp_gt {a b : Int} : (compare a b == Ordering.gt) = decide (b < a) := by
  rw [show compare a b = compareOfLessAndEq a b from rfl]; unfold compareOfLessAndEq
  split
  · simp; omega
  · split
    · simp; omega
    · simp; omega
/-! ### from nought -/
open Ieee in
theorem read_f32 (x : Nat) : single.read x = if x % 2147483648 < 8388608 then .number (x / 2147483648 % 2 == 1) (x % 2147483648) (-149) else if x % 2147483648 < 2139095040 then .number (x / 2147483648 % 2 == 1) (8388608 + x % 2147483648 % 8388608) (-149 + ((x % 2147483648 / 8388608 - 1 : Nat) : Int)) else if x % 2147483648 = 2139095040 then .infinity (x / 2147483648 % 2 == 1) else .nan (x / 2147483648 % 2 == 1) (x % 2147483648 - 2139095040) := by
  unfold Format.read
  rw [show single.binade = 8388608 from rfl, show single.infRung = 2139095040 by decide, show single.signWeight = 2147483648 from rfl, show single.leastPlace = -149 by decide]
open Ieee in
theorem read_rung {r : Nat} (h : r < 2147483648) : single.read r = if r < 8388608 then .number false r (-149) else if r < 2139095040 then .number false (8388608 + r % 8388608) (-149 + ((r / 8388608 - 1 : Nat) : Int)) else if r = 2139095040 then .infinity false else .nan false (r - 2139095040) := by
  rw [read_f32, Nat.mod_eq_of_lt h, Nat.div_eq_of_lt h]; rfl
open Ieee in
theorem word_rung (r : Nat) : single.word false r = r := rfl
open Ieee in
theorem log2_full {a : Nat} (h : a < 8388608) : (8388608 + a).log2 = 23 := by
  apply Nat.le_antisymm
  · have : (8388608 + a).log2 < 24 := (Nat.log2_lt (by omega)).2 (by omega)
    omega
  · have : ¬ (8388608 + a).log2 < 23 := fun hh => by
      have := (Nat.log2_lt (by omega)).1 hh; omega
    omega
open Ieee in
theorem near_low {r : Nat} (h0 : r ≠ 0) (h : r < 8388608) : single.nearest false r (-149) = r := by
  unfold Format.nearest
  rw [if_neg h0, show single.infRung = 2139095040 by decide, show single.binade = 8388608 from rfl, show single.leastPlace = -149 by decide, show single.fractionBits = 23 from rfl]
  have hlog : r.log2 < 23 := (Nat.log2_lt h0).2 h
  have hmax : max (-149 + (r.log2 : Int) - ((23 : Nat) : Int)) (-149) = -149 := by omega
  simp only [hmax, Int.sub_self, Int.toNat_zero, Nat.shiftLeft_zero, cut_zero, Nat.zero_mul, Nat.zero_add, word_rung]
  omega
open Ieee in
theorem near_gen (f : Format) {m : Nat} {e : Int} (h0 : m ≠ 0) (hl : m.log2 = f.fractionBits) (he : f.leastPlace ≤ e) : f.nearest false m e = min ((e - f.leastPlace).toNat * f.binade + m) f.infRung := by
  have hmax : max (e + ((f.fractionBits : Nat) : Int) - ((f.fractionBits : Nat) : Int)) f.leastPlace = e := by omega
  have hw : ∀ a : Nat, f.word false a = a := fun a => if_neg (by decide)
  unfold Format.nearest
  rw [if_neg h0, hl]
  dsimp only
  rw [hmax, Int.sub_self, Int.toNat_zero, Nat.shiftLeft_zero, cut_zero, hw]
open Ieee in
theorem near_full {r : Nat} (h0 : ¬ r < 8388608) (h : r < 2139095040) : single.nearest false (8388608 + r % 8388608) (-149 + ((r / 8388608 - 1 : Nat) : Int)) = r := by
  have hmd : r % 8388608 < 8388608 := Nat.mod_lt _ (by decide)
  have hl : single.leastPlace = -149 := by decide
  have hb : single.binade = 8388608 := rfl
  have hi : single.infRung = 2139095040 := by decide
  rw [near_gen single (by omega) (log2_full hmd) (by rw [hl]; omega), hl, hb, hi]
  have ht : (-149 + ((r / 8388608 - 1 : Nat) : Int) - -149).toNat = r / 8388608 - 1 := by omega
  rw [ht]
  have := Nat.div_add_mod r 8388608
  have h1 : 1 ≤ r / 8388608 := by omega
  have h2 : (r / 8388608 - 1) * 8388608 + (8388608 + r % 8388608) = r := by omega
  rw [h2]
  exact Nat.min_eq_left (Nat.le_of_lt h)
open Ieee in
theorem sub0_near {x m : Nat} {e : Int} (h : single.read x = .number true m e) (hm : m ≠ 0) (he : -149 ≤ e) : single.sub 0 x = some (single.nearest false m e) := by
  have h0 : single.read 0 = .number false 0 (-149) := by decide +kernel
  unfold Format.sub
  rw [h0, h]
  simp only [Datum.opposite, Datum.sum, Bool.not_true]
  have hmin : min (-149 : Int) e = -149 := by omega
  rw [hmin]
  have ht : signed false 0 (-149 - -149 : Int).toNat + signed false m (e - -149).toNat = ((m * 2 ^ (e + 149).toNat : Nat) : Int) := by
    simp [signed, Nat.shiftLeft_eq]
  rw [ht]
  have hp := Nat.two_pow_pos (e + 149).toNat
  have hne : m * 2 ^ (e + 149).toNat ≠ 0 := Nat.mul_ne_zero hm (by omega)
  rw [if_neg (by omega), Option.map_some]
  have hd : decide (((m * 2 ^ (e + 149).toNat : Nat) : Int) < 0) = false := decide_eq_false (by omega)
  rw [hd, Int.natAbs_natCast]
  show some (single.nearest false (m * 2 ^ (e + 149).toNat) (-149)) = _
  rw [nearest_shift]
  congr 2; omega
open Ieee in
theorem sub0_num {x m : Nat} {e : Int} (h : single.read x = .number true m e) (hm : m ≠ 0) : ∃ y, single.sub 0 x = some y ∧ single.read y = .number false m e := by
  refine ⟨x % 2147483648, ?_⟩
  have hr : x % 2147483648 < 2147483648 := Nat.mod_lt _ (by decide)
  have h' := h
  rw [read_f32] at h'
  rw [read_rung hr]
  by_cases h1 : x % 2147483648 < 8388608
  · rw [if_pos h1] at h' ⊢
    simp only [Datum.number.injEq] at h'
    obtain ⟨_, rfl, rfl⟩ := h'
    exact ⟨by rw [sub0_near h hm (by omega), near_low hm h1], rfl⟩
  · rw [if_neg h1] at h' ⊢
    by_cases h2 : x % 2147483648 < 2139095040
    · rw [if_pos h2] at h' ⊢
      simp only [Datum.number.injEq] at h'
      obtain ⟨_, rfl, rfl⟩ := h'
      exact ⟨by rw [sub0_near h hm (by omega), near_full h1 h2], rfl⟩
    · rw [if_neg h2] at h'
      split at h' <;> cases h'
open Ieee in
theorem sub0_inf {x : Nat} (h : single.read x = .infinity true) : ∃ y, single.sub 0 x = some y ∧ single.read y = .infinity false := by
  have h0 : single.read 0 = .number false 0 (-149) := by decide +kernel
  refine ⟨single.word false single.infRung, ?_, by decide +kernel⟩
  unfold Format.sub
  rw [h0, h]; rfl
/-! ### sizes -/
def sizI (x : Nat) : Nat := if fcmp .lss .f32 x (cz .f32 0) = true then fneg .f32 x else if fcmp .eql .f32 x (cz .f32 0) = true then cz .f32 0 else x
def sizS (x : Nat) : Nat := if fcmp .leq .f32 x (cz .f32 0) = true then fop .sub .f32 (cz .f32 0) x else x
theorem fc_lss {x y : Nat} {c : Option Ordering} (h : Ieee.single.order x y = c) : fcmp .lss .f32 x y = (c == some .lt) := by subst h; rfl
theorem fc_leq {x y : Nat} {c : Option Ordering} (h : Ieee.single.order x y = c) : fcmp .leq .f32 x y = (c == some .lt || c == some .eq) := by subst h; rfl
theorem fc_eql {x y : Nat} {c : Option Ordering} (h : Ieee.single.order x y = c) : fcmp .eql .f32 x y = (c == some .eq) := by subst h; rfl
theorem fc_gtr {x y : Nat} {c : Option Ordering} (h : Ieee.single.order x y = c) : fcmp .gtr .f32 x y = (c == some .gt) := by subst h; rfl
open Ieee in
theorem fop_sub0 {x y : Nat} (hy : single.sub 0 x = some y) (hn : (single.read y).isNaN = false) : single.read (fop .sub .f32 0 x) = single.read y := by
  have : fop .sub .f32 0 x = cz .f32 y := by
    show ((single.sub 0 x).map (cz .f32)).getD _ = _
    rw [hy]; rfl
  rw [this, cz32 _ hn]
theorem siz_not {x : Nat} {c : Option Ordering} (h : Ieee.single.order x 0 = c) (h1 : (c == some .lt) = false) (h2 : (c == some .eq) = false) : sizS x = x ∧ sizI x = x := by
  unfold sizS sizI
  rw [c0_32]
  have e1 := fc_leq h
  rw [h1, h2] at e1
  have e2 := fc_lss h
  rw [h1] at e2
  have e3 := fc_eql h
  rw [h2] at e3
  rw [if_neg (by rw [e1]; decide), if_neg (by rw [e2]; decide), if_neg (by rw [e3]; decide)]
  exact ⟨rfl, rfl⟩
theorem siz_lt {x : Nat} (h : Ieee.single.order x 0 = some .lt) : sizS x = fop .sub .f32 0 x ∧ sizI x = fneg .f32 x := by
  unfold sizS sizI
  rw [c0_32]
  have e1 := fc_leq h
  have e2 := fc_lss h
  exact ⟨if_pos (by rw [e1]; rfl), if_pos (by rw [e2]; rfl)⟩
theorem siz_0 {x : Nat} (h : Ieee.single.order x 0 = some .eq) : sizS x = fop .sub .f32 0 x ∧ sizI x = 0 := by
  unfold sizS sizI
  rw [c0_32]
  have e1 := fc_leq h
  have e2 := fc_lss h
  have e3 := fc_eql h
  refine ⟨if_pos (by rw [e1]; rfl), ?_⟩
  rw [if_neg (by rw [e2]; decide)]
  exact if_pos (by rw [e3]; rfl)
open Ieee in
theorem val_pos {m : Nat} {e : Int} (hm : m ≠ 0) : (0 : Int) < val (.number false m e) := by
  have hp := Nat.two_pow_pos (e + 149).toNat
  have hne : m * 2 ^ (e + 149).toNat ≠ 0 := Nat.mul_ne_zero hm (by omega)
  simp only [val, signed, Bool.false_eq_true, if_false, Nat.shiftLeft_eq]; omega
open Ieee in
theorem val_neg {m : Nat} {e : Int} : val (.number true m e) = - val (.number false m e) := by
  simp only [val, signed, Bool.false_eq_true, if_false, if_true]
open Ieee in
theorem read_0 : single.read 0 = .number false 0 (-149) := by decide +kernel
open Ieee in
/-- Both sizes read alike. -/
theorem siz_read (x : Nat) : single.read (sizS x) = single.read (sizI x) := by
  rcases read_single x with ⟨s, t, h⟩ | ⟨s, h⟩ | ⟨s, m, e, h, hm, he, _⟩
  · have ho : single.order x 0 = none := by unfold Format.order; rw [h]; rfl
    have := siz_not ho rfl rfl
    rw [this.1, this.2]
  · cases s
    · have ho : single.order x 0 = some .gt := by unfold Format.order; rw [h, read_0]; rfl
      have := siz_not ho rfl rfl
      rw [this.1, this.2]
    · have ho : single.order x 0 = some .lt := by unfold Format.order; rw [h, read_0]; rfl
      have := siz_lt ho
      obtain ⟨y, h1, h2⟩ := sub0_inf h
      rw [this.1, this.2, fop_sub0 h1 (by rw [h2]; rfl), h2, fneg_read (by rw [h]; rfl), h]; rfl
  · have ho : single.order x 0 = some (compare (val (.number s m e)) 0) := by
      unfold Format.order; rw [h, read_0, order_val he (by omega), show val (.number false 0 (-149)) = 0 by decide]
    by_cases hz : m = 0
    · subst hz
      have hv : val (.number s 0 e) = 0 := by cases s <;> simp [val, signed]
      rw [hv] at ho
      have := siz_0 ho
      have h1 : single.sub 0 x = some 0 := by
        unfold Format.sub
        rw [read_0, h]
        cases s <;> simp [Datum.opposite, Datum.sum, signed, Format.write, Format.nearest, Format.word]
      rw [this.1, this.2, fop_sub0 h1 (by rw [read_0]; rfl)]
    · have hv := val_pos (e := e) hz
      cases s
      · have hc : compare (val (.number false m e)) 0 = Ordering.gt := by
          have := cmp_gt (a := val (.number false m e)) (b := 0); rw [decide_eq_true hv] at this; exact eq_of_beq this
        rw [hc] at ho
        have := siz_not ho rfl rfl
        rw [this.1, this.2]
      · have hc : compare (val (.number true m e)) 0 = Ordering.lt := by
          have := cmp_lt (a := val (.number true m e)) (b := 0); rw [decide_eq_true (by rw [val_neg]; omega)] at this; exact eq_of_beq this
        rw [hc] at ho
        have := siz_lt ho
        obtain ⟨y, h1, h2⟩ := sub0_num h hz
        rw [this.1, this.2, fop_sub0 h1 (by rw [h2]; rfl), h2, fneg_read (by rw [h]; rfl), h]; rfl
theorem siz_cmp (op : BinOp) (x y : Nat) : fcmp op .f32 (sizS x) y = fcmp op .f32 (sizI x) y := by
  have h : Ieee.single.order (sizS x) y = Ieee.single.order (sizI x) y := by unfold Ieee.Format.order; rw [siz_read]
  unfold fcmp
  rw [show FloatKind.f32.format = Ieee.single from rfl, h]
theorem spec_l03Size_wp {a : Nat} {K : Nat → Prop} (h : K (sizS a)) : spec_l03Size.wp a K := by
  refine ⟨fun c => ?_, fun c => ?_⟩
  · rw [sizS, if_pos c] at h; exact h
  · rw [sizS, if_neg (by rw [c]; decide)] at h; exact h
theorem impl_size_wp {a : Nat} {K : Nat → Prop} (h : K (sizI a)) : impl_size.wp a K := by
  refine ⟨fun c => ?_, fun c => ⟨fun c2 => ?_, fun c2 => ?_⟩⟩
  · rw [sizI, if_pos c] at h; exact h
  · rw [sizI, if_neg (by rw [c]; decide), if_pos c2] at h; exact h
  · rw [sizI, if_neg (by rw [c]; decide), if_neg (by rw [c2]; decide)] at h; exact h

end Go.Proofs.Ytfieljajhmpbiaa.G

namespace Go.Proofs.Ytfieljajhmpbiaa.G
open Go Go.Ab
set_option maxRecDepth 100000
set_option linter.unusedVariables false
set_option linter.unusedSimpArgs false
set_option maxHeartbeats 1000000
/-- Small things made nought, between the ends; and how many are left. -/
def thin (a : Nat) : Nat → Nat → List Nat → Nat → List Nat × Nat
  | 0, _, o, n => (o, n)
  | m + 1, i, o, n => if fcmp .leq .f32 (sizI (o.getD i 0)) a = true then thin a m (i + 1) (o.set i (cz .f32 0)) n else thin a m (i + 1) o (n + 1)
theorem thin_len (a : Nat) : ∀ (m i : Nat) (o : List Nat) (n : Nat), (thin a m i o n).1.length = o.length
  | 0, _, _, _ => rfl
  | m + 1, i, o, n => by
    rw [thin]; split
    · rw [thin_len a m, List.length_set]
    · rw [thin_len a m]
theorem pFin_0 : pFin (cz .f32 0) = true := by decide +kernel
theorem pAll_set {l : List Nat} {i x : Nat} (h : pAll l = true) (hx : pFin x = true) : pAll (l.set i x) = true := by
  simp only [pAll, List.all_eq_true] at h ⊢
  intro y hy
  rcases List.mem_or_eq_of_mem_set hy with h1 | rfl
  · exact h y h1
  · exact hx
theorem thin_loop (a : Nat) {N : Nat} {X : List Nat → Int → Int → Prop} {E : List Nat → Nat → Prop} (hX : ∀ (o : List Nat) (n i : Nat), pAll o = true → o.length = N → n ≤ i → i ≤ N → (i + 1 < N → fcmp .leq .f32 (sizI (o.getD i 0)) a = true → X (o.set i (cz .f32 0)) n ((i + 1 : Nat) : Int)) → (i + 1 < N → fcmp .leq .f32 (sizI (o.getD i 0)) a = false → X o ((n + 1 : Nat) : Int) ((i + 1 : Nat) : Int)) → (¬ i + 1 < N → E o n) → X o n i) {l : List Nat} (hp : pAll l = true) (hl : l.length = N) (hN : 2 ≤ N) (hend : E (thin a (N - 2) 1 l 0).1 (thin a (N - 2) 1 l 0).2) : X l ((0 : Nat) : Int) ((1 : Nat) : Int) := by
  have key : ∀ (m i : Nat) (o : List Nat) (n : Nat), pAll o = true → m + i + 1 = N → n ≤ i → o.length = N → E (thin a m i o n).1 (thin a m i o n).2 → X o n i := by
    intro m
    induction m with
    | zero => intro i o n h0 h1 h2 h3 h4; exact hX o n i h0 h3 h2 (by omega) (fun c => by omega) (fun c => by omega) (fun _ => h4)
    | succ m ih =>
      intro i o n h0 h1 h2 h3 h4
      refine hX o n i h0 h3 h2 (by omega) (fun c c2 => ?_) (fun c c2 => ?_) (fun c => by omega)
      · rw [thin, if_pos c2] at h4
        exact ih (i + 1) _ n (pAll_set h0 pFin_0) (by omega) (by omega) (by rw [List.length_set]; exact h3) h4
      · rw [thin, if_neg (by rw [c2]; decide)] at h4
        exact ih (i + 1) _ _ h0 (by omega) (by omega) h3 h4
  exact key (N - 2) 1 l 0 hp (by omega) (by omega) hl hend
def thinL (l : List Nat) (a : Nat) : List Nat × Nat := thin a (l.length - 2) 1 (surL l) 0
def thinOk (l : List Nat) (a : Nat) : Bool := surF l && isLeast a && pAll (fromL (thinL l a).1)
theorem thin_both (l : List Nat) (a : Nat) (hl : l.length ≤ 2 ^ 20) : ∃ out n ok, (∀ K, K out n ok → spec_ThinSurplus.wp l a K) ∧ (∀ K, K out n ok → impl_ThinSurplus.wp l a K) ∧ out.length ≤ 2 ^ 20 := by
  have hlen : (thinL l a).1.length = l.length := by rw [thinL, thin_len, surL_len]
  refine ⟨if thinOk l a = true then fromL (thinL l a).1 else [], if thinOk l a = true then (((thinL l a).2 : Nat) : Int) else 0, thinOk l a, fun K hk => ?_, fun K hk => ?_, ?_⟩
  · refine spec_SurplusOf_wp hl ⟨fun h1 => ?_, fun h1 => by rw [show thinOk l a = false by rw [thinOk, h1]; rfl, if_neg (by decide), if_neg (by decide)] at hk; exact hk⟩
    rw [if_pos h1]
    have hgr : isGr l = true := by simp only [surF, Bool.and_eq_true] at h1; exact h1.1
    have hg := gr_grid hgr
    have hsp : pAll (surL l) = true := by simp only [surF, Bool.and_eq_true] at h1; exact h1.2
    have hn := grid_small hg
    refine spec_l02Least_wp ⟨fun h2 => ?_, fun h2 => by rw [show thinOk l a = false by rw [thinOk, h2, Bool.and_false, Bool.false_and], if_neg (by decide), if_neg (by decide)] at hk; exact hk⟩
    rw [show thinOk l a = pAll (fromL (thinL l a).1) by rw [thinOk, h1, h2]; rfl] at hk
    intro X hX
    refine thin_loop a (N := l.length) (X := X) (E := fun o n => o.length = l.length → K (if pAll (fromL o) = true then fromL o else []) (if pAll (fromL o) = true then (n : Int) else 0) (pAll (fromL o))) (fun o n i hp ho hni hi h3 h4 h5 => hX _ _ _ ?_) hsp (surL_len l) (by omega) (fun _ => hk)
    rw [w1 (by omega)]
    refine ⟨fun c => ⟨⟨by omega, by omega⟩, spec_l03Size_wp ?_⟩, fun c => ?_⟩
    · rw [siz_cmp, nn, w1 (by omega)]
      exact ⟨fun c2 => h3 (by omega) c2, fun c2 => h4 (by omega) c2⟩
    · have h5 := h5 (by omega) ho
      refine spec_l07From_wp (by rw [ho]; exact hg) (spec_l02Finite_wp (by rw [fromL_len]; omega) ⟨fun h6 => ?_, fun h6 => ?_⟩)
      · rw [h6, if_pos rfl, if_pos rfl] at h5; exact h5
      · rw [h6, if_neg (by decide), if_neg (by decide)] at h5; exact h5
  · refine impl_SurplusOf_wp hl ⟨fun h1 => ?_, fun h1 => by rw [show thinOk l a = false by rw [thinOk, h1]; rfl, if_neg (by decide), if_neg (by decide)] at hk; exact hk⟩
    rw [if_pos h1]
    have hgr : isGr l = true := by simp only [surF, Bool.and_eq_true] at h1; exact h1.1
    have hg := gr_grid hgr
    have hsp : pAll (surL l) = true := by simp only [surF, Bool.and_eq_true] at h1; exact h1.2
    have hn := grid_small hg
    refine impl_isLeast_wp ⟨fun h2 => ?_, fun h2 => by rw [show thinOk l a = false by rw [thinOk, h2, Bool.and_false, Bool.false_and], if_neg (by decide), if_neg (by decide)] at hk; exact hk⟩
    rw [show thinOk l a = pAll (fromL (thinL l a).1) by rw [thinOk, h1, h2]; rfl] at hk
    intro X hX
    refine thin_loop a (N := l.length) (X := X) (E := fun o n => o.length = l.length → K (if pAll (fromL o) = true then fromL o else []) (if pAll (fromL o) = true then (n : Int) else 0) (pAll (fromL o))) (fun o n i hp ho hni hi h3 h4 h5 => hX _ _ _ ?_) hsp (surL_len l) (by omega) (fun _ => hk)
    rw [ho, wl1 (by omega) (by omega)]
    refine ⟨fun c => ⟨⟨by omega, by omega⟩, impl_size_wp ?_⟩, fun c => ?_⟩
    · rw [nn, w1 (by omega), w1 (by omega)]
      exact ⟨fun c2 => h3 (by omega) c2, fun c2 => h4 (by omega) c2⟩
    · have h5 := h5 (by omega) ho
      have hf : fromF o = pAll (fromL o) := by rw [fromF, isGr, ho, hg, hp]; rfl
      refine impl_FromSurplus_wp (by omega) ?_
      rw [hf]
      refine ⟨fun h6 => ?_, fun h6 => ?_⟩
      · rw [h6, if_pos rfl, if_pos rfl] at h5; rw [if_pos h6]; exact h5
      · rw [h6, if_neg (by decide), if_neg (by decide)] at h5; exact h5
  · split
    · rw [fromL_len, hlen]; exact hl
    · simp

end Go.Proofs.Ytfieljajhmpbiaa.G

namespace Go.Proofs.Ytfieljajhmpbiaa.G
open Go Go.Ab
set_option maxRecDepth 100000
set_option linter.unusedVariables false
set_option linter.unusedSimpArgs false
set_option maxHeartbeats 1000000
theorem pureExactThinSurplus (l0 : List Nat) (a1 : Nat) : laws_FnExactThinSurplus.wp l0 a1 (fun b => b = true) := by
  refine ⟨fun _ => rfl, fun hb => ?_⟩
  have hl : l0.length ≤ 2 ^ 20 := by omega
  obtain ⟨out, n, ok, hs, hi, ho⟩ := thin_both l0 a1 hl
  repeat' (first
    | exact rfl
    | refine hs _ ?_
    | refine hi _ ?_
    | refine toFloat32S_wp (by omega) ?_
    | refine szFloat32S_wp (by omega) (by omega) ?_
    | refine eqFloat32S_wp (by first | omega | simp) ?_
    | refine markFloat32S_wp (k := 1) (by first | omega | simp) (by omega) ?_
    | refine markFloat32S_wp (by first | omega | simp) (by omega) ?_
    | refine heldFloat32S_wp (k := 1) (by first | omega | simp) (by omega) ?_
    | refine toInt64S_wp (by omega) ?_
    | refine eqInt64S_wp (by first | omega | simp) ?_
    | refine markInt64S_wp (k := 1) (by first | omega | simp) (by omega) ?_
    | refine markInt64S_wp (by first | omega | simp) (by omega) ?_
    | refine heldInt64S_wp (k := 1) (by first | omega | simp) (by omega) ?_
    | refine toBoolS_wp (by omega) ?_
    | refine szBoolS_wp (by omega) (by omega) ?_
    | refine eqBoolS_wp (by first | omega | simp) ?_
    | refine toCostS_wp (by omega) ?_
    | refine szCostS_wp (by omega) (by omega) ?_
    | refine eqCostS_wp (by first | omega | simp) ?_
    | refine markCostS_wp (k := 1) (by first | omega | simp) (by omega) ?_
    | refine markCostS_wp (by first | omega | simp) (by omega) ?_
    | refine tT ?_
    | refine tB ?_
    | refine tN (by omega) ?_
    | refine tP (by first | rfl | omega) ?_)

end Go.Proofs.Ytfieljajhmpbiaa.G

