/-
  What the formulas say, over numbers and lists alone. Nothing here is trusted.
-/
import Derived.Test.YtfieljajhmpbiaaMExactEdgeCostsWa
namespace Go.Proofs.Ytfieljajhmpbiaa.G
open Go Go.Ab
set_option maxRecDepth 100000
set_option linter.unusedVariables false
set_option linter.unusedSimpArgs false
set_option maxHeartbeats 1000000
/-! ### truth -/
theorem tT {A B : Prop} (h : A) : (true = true → A) ∧ (true = false → B) := ⟨fun _ => h, fun c => (by cases c)⟩
theorem tF {A B : Prop} (h : B) : (false = true → A) ∧ (false = false → B) := ⟨fun c => (by cases c), fun _ => h⟩
theorem tB {A B : Prop} {b : Bool} (h : A) : ((b == b) = true → A) ∧ ((b == b) = false → B) := ⟨fun _ => h, fun c => (by simp at c)⟩
theorem tE {A B : Prop} {b : Bool} (e : b = true) (h : A) : (b = true → A) ∧ (b = false → B) := ⟨fun _ => h, fun c => (by rw [e] at c; cases c)⟩
theorem tG {A B : Prop} {b : Bool} (e : b = false) (h : B) : (b = true → A) ∧ (b = false → B) := ⟨fun c => (by rw [e] at c; cases c), fun _ => h⟩
theorem tP {p A B : Prop} (e : p) (h : A) : (p → A) ∧ (¬p → B) := ⟨fun _ => h, fun c => absurd e c⟩
theorem tN {p A B : Prop} (e : ¬p) (h : B) : (p → A) ∧ (¬p → B) := ⟨fun c => absurd c e, fun _ => h⟩
theorem tI {b : Bool} {K : Bool → Prop} {A B : Prop} (h1 : b = true → A) (h2 : b = false → B) : (b = true → A) ∧ (b = false → B) := ⟨h1, h2⟩
/-! ### loops -/
theorem up {Y : Nat → Prop} (n : Nat) (last : Y n) (step : ∀ i, i < n → Y (i + 1) → Y i) : Y 0 := by
  have key : ∀ d i, i + d = n → Y i := by
    intro d
    induction d with
    | zero => intro i h; obtain rfl : i = n := by omega
              exact last
    | succ d ih => intro i h; exact step i (by omega) (ih (i + 1) (by omega))
  exact key n 0 (by omega)
theorem upFrom {Y : Nat → Prop} (k n : Nat) (hk : k ≤ n) (last : Y n) (step : ∀ i, k ≤ i → i < n → Y (i + 1) → Y i) : Y k := by
  have key : ∀ d i, k ≤ i → i + d = n → Y i := by
    intro d
    induction d with
    | zero => intro i _ h; obtain rfl : i = n := by omega
              exact last
    | succ d ih => intro i h0 h; exact step i h0 (by omega) (ih (i + 1) (by omega) (by omega))
  exact key (n - k) k (Nat.le_refl _) (by omega)
theorem w1 {i : Nat} (h : i < 4611686018427387904) : IntKind.i64.wrap ((i : Int) + (1 : Int)) = ((i + 1 : Nat) : Int) := wrap_succ (by omega)
theorem wI {n : Int} (h : -9223372036854775808 ≤ n ∧ n < 9223372036854775808) : IntKind.i64.wrap n = n := wrap_i64 h.1 h.2
theorem nn (i : Nat) : ((i : Int)).toNat = i := rfl
theorem gD {α : Type} {l : List α} {i : Nat} (h : i < l.length) (d : α) : l.getD i d = l[i] := by rw [List.getD_eq_getElem?_getD, List.getElem?_eq_getElem h]; rfl
theorem dropC {α : Type} {l : List α} {i : Nat} (h : i < l.length) : l.drop i = l[i] :: l.drop (i + 1) := List.drop_eq_getElem_cons h
theorem len1 {α : Type} (a : α) : ([a] : List α).length = 1 := rfl
theorem cz32 (n : Nat) (h : (FloatKind.f32.decode n).isNaN = false) : cz .f32 n = n := by simp [cz, h]
theorem c0_32 : cz .f32 0 = 0 := cz_zero32
theorem c0_64 : cz .f64 0 = 0 := cz_zero64
/-! ### copies, comparisons, marks -/
theorem toFloat32S_wp {l : List Nat} {K : List Nat → Prop} (hl : l.length ≤ 2 ^ 20) (h : K l) : laws_toFloat32S.wp l K := by
  refine ⟨⟨by omega, by omega, by omega, by omega⟩, fun X hX => ?_⟩
  have key : X (l.take 0 ++ List.replicate (l.length - 0) (0 : Nat)) ((0 : Nat) : Int) := by
    refine up (Y := fun i => X (l.take i ++ List.replicate (l.length - i) (0 : Nat)) (i : Int)) l.length ?_ fun i hi hn => ?_
    · refine hX _ _ ⟨fun c => absurd c (by omega), fun _ => ?_⟩
      rw [List.take_length, Nat.sub_self, List.replicate_zero, List.append_nil]; exact h
    · refine hX _ _ ⟨fun _ => ⟨⟨by omega, by omega⟩, ⟨by omega, ?_⟩, ?_⟩, fun c => absurd (show (i : Int) < l.length by omega) c⟩
      · rw [List.length_append, List.length_take, List.length_replicate]; omega
      · rw [nn, w1 (by omega), gD hi, set_fill (0 : Nat) (by omega) hi]
        exact hn
  rw [List.take_zero, List.nil_append, Nat.sub_zero] at key; exact key
theorem toInt64S_wp {l : List Int} {K : List Int → Prop} (hl : l.length ≤ 2 ^ 20) (h : K l) : laws_toInt64S.wp l K := by
  refine ⟨⟨by omega, by omega, by omega, by omega⟩, fun X hX => ?_⟩
  have key : X (l.take 0 ++ List.replicate (l.length - 0) (0 : Int)) ((0 : Nat) : Int) := by
    refine up (Y := fun i => X (l.take i ++ List.replicate (l.length - i) (0 : Int)) (i : Int)) l.length ?_ fun i hi hn => ?_
    · refine hX _ _ ⟨fun c => absurd c (by omega), fun _ => ?_⟩
      rw [List.take_length, Nat.sub_self, List.replicate_zero, List.append_nil]; exact h
    · refine hX _ _ ⟨fun _ => ⟨⟨by omega, by omega⟩, ⟨by omega, ?_⟩, ?_⟩, fun c => absurd (show (i : Int) < l.length by omega) c⟩
      · rw [List.length_append, List.length_take, List.length_replicate]; omega
      · rw [nn, w1 (by omega), gD hi, set_fill (0 : Int) (by omega) hi]
        exact hn
  rw [List.take_zero, List.nil_append, Nat.sub_zero] at key; exact key
theorem toBoolS_wp {l : List Bool} {K : List Bool → Prop} (hl : l.length ≤ 2 ^ 20) (h : K l) : laws_toBoolS.wp l K := by
  refine ⟨⟨by omega, by omega, by omega, by omega⟩, fun X hX => ?_⟩
  have key : X (l.take 0 ++ List.replicate (l.length - 0) false) ((0 : Nat) : Int) := by
    refine up (Y := fun i => X (l.take i ++ List.replicate (l.length - i) false) (i : Int)) l.length ?_ fun i hi hn => ?_
    · refine hX _ _ ⟨fun c => absurd c (by omega), fun _ => ?_⟩
      rw [List.take_length, Nat.sub_self, List.replicate_zero, List.append_nil]; exact h
    · refine hX _ _ ⟨fun _ => ⟨⟨by omega, by omega⟩, ⟨by omega, ?_⟩, ?_⟩, fun c => absurd (show (i : Int) < l.length by omega) c⟩
      · rw [List.length_append, List.length_take, List.length_replicate]; omega
      · rw [nn, w1 (by omega), gD hi, set_fill false (by omega) hi]
        exact hn
  rw [List.take_zero, List.nil_append, Nat.sub_zero] at key; exact key
theorem sameFloat_wp {a : Nat} {K : Bool → Prop} (h : K true) : laws_sameFloat.wp a a K := by
  rcases order_self Ieee.double a with ho | ho
  · have e : fcmp .neq .f64 a a = true := by simp [fcmp, FloatKind.format, ho]
    exact tE e (by rw [e]; exact h)
  · have e : fcmp .neq .f64 a a = false := by simp [fcmp, FloatKind.format, ho]
    have e2 : fcmp .eql .f64 a a = true := by simp [fcmp, FloatKind.format, ho]
    refine tG e (tG e ⟨fun c => ⟨fun _ => by rw [BEq.rfl]; exact h, fun c2 => (by rw [c] at c2; cases c2)⟩, fun _ => by rw [e2]; exact h⟩)
theorem eqFloat32S_wp {l : List Nat} {K : Bool → Prop} (hl : l.length ≤ 2 ^ 20) (h : K true) : laws_eqFloat32S.wp l l K := by
  refine tP rfl fun X hX => ?_
  refine up (Y := fun i => X (i : Int)) l.length ?_ fun i hi hn => ?_
  · exact hX _ ⟨fun c => absurd c (by omega), fun _ => h⟩
  · refine hX _ ⟨fun _ => ⟨⟨by omega, by omega⟩, ⟨by omega, by omega⟩, sameFloat_wp (tT ?_)⟩, fun c => absurd (show (i : Int) < l.length by omega) c⟩
    rw [w1 (by omega)]; exact hn
theorem eqInt64S_wp {l : List Int} {K : Bool → Prop} (hl : l.length ≤ 2 ^ 20) (h : K true) : laws_eqInt64S.wp l l K := by
  refine tP rfl fun X hX => ?_
  refine up (Y := fun i => X (i : Int)) l.length ?_ fun i hi hn => ?_
  · exact hX _ ⟨fun c => absurd c (by omega), fun _ => h⟩
  · refine hX _ ⟨fun _ => ⟨⟨by omega, by omega⟩, ⟨by omega, by omega⟩, tP rfl ?_⟩, fun c => absurd (show (i : Int) < l.length by omega) c⟩
    rw [w1 (by omega)]; exact hn
theorem eqBoolS_wp {l : List Bool} {K : Bool → Prop} (hl : l.length ≤ 2 ^ 20) (h : K true) : laws_eqBoolS.wp l l K := by
  refine tP rfl fun X hX => ?_
  refine up (Y := fun i => X (i : Int)) l.length ?_ fun i hi hn => ?_
  · exact hX _ ⟨fun c => absurd c (by omega), fun _ => h⟩
  · refine hX _ ⟨fun _ => ⟨⟨by omega, by omega⟩, ⟨by omega, by omega⟩, tB ?_⟩, fun c => absurd (show (i : Int) < l.length by omega) c⟩
    rw [w1 (by omega)]; exact hn
theorem markFloat32S_wp {l : List Nat} {k : Nat} {K : Int → List Nat → Prop} (hl : l.length ≤ 2 ^ 20) (hk : k ≤ 2 ^ 40) (h : K ((k + l.length : Nat) : Int) (marks k l.length)) : laws_markFloat32S.wp l (k : Int) K := by
  intro X hX
  have key : X (marks k 0 ++ l.drop 0) ((k + 0 : Nat) : Int) ((0 : Nat) : Int) := by
    refine up (Y := fun i => X (marks k i ++ l.drop i) ((k + i : Nat) : Int) (i : Int)) l.length ?_ fun i hi hn => ?_
    · refine hX _ _ _ ⟨fun c => absurd c (by rw [List.length_append, marks_length, List.length_drop]; omega), fun _ => ?_⟩
      rw [List.drop_length, List.append_nil]; exact h
    · have hlen : (marks k i ++ l.drop i).length = l.length := by rw [List.length_append, marks_length, List.length_drop]; omega
      refine hX _ _ _ ⟨fun _ => ⟨⟨by omega, by rw [hlen]; omega⟩, ?_⟩, fun c => absurd (show (i : Int) < _ by rw [hlen]; omega) c⟩
      rw [nn, w1 (by omega), w1 (by omega)]
      have e := marks_step (l := l) (i := i) (m := l.length - i) k (by omega) hi
      rw [show (k : Int) + (i : Int) = ((k + i : Nat) : Int) by omega] at e
      rw [show itof .f32 ((k + i : Nat) : Int) = fl ((k + i : Nat) : Int) from rfl]
      rw [e]; exact hn
  exact key
theorem heldFloat32S_wp {k n : Nat} {K : Int → Prop} (hl : n ≤ 2 ^ 20) (hk : k ≤ 2 ^ 40) (h : K ((k + n : Nat) : Int)) : laws_heldFloat32S.wp (marks k n) (k : Int) K := by
  intro X hX
  have hlen : (marks k n).length = n := marks_length _ _
  have key : X ((k + 0 : Nat) : Int) ((0 : Nat) : Int) := by
    refine up (Y := fun i => X ((k + i : Nat) : Int) (i : Int)) n ?_ fun i hi hn => ?_
    · exact hX _ _ ⟨fun c => absurd c (by omega), fun _ => h⟩
    · refine hX _ _ ⟨fun _ => ⟨⟨by omega, by omega⟩, ?_⟩, fun c => absurd (show (i : Int) < _ by omega) c⟩
      rw [nn, gD (by omega), marks_at k n i (by omega), show (k : Int) + (i : Int) = ((k + i : Nat) : Int) by omega]
      refine tG (show fcmp .neq .f32 (fl ((k + i : Nat) : Int)) (itof .f32 ((k + i : Nat) : Int)) = false from fl_neq _) ?_
      rw [w1 (by omega), w1 (by omega)]; exact hn
  exact key
theorem markInt64S_wp {l : List Int} {k : Nat} {K : Int → List Int → Prop} (hl : l.length ≤ 2 ^ 20) (hk : k ≤ 2 ^ 40) (h : K ((k + l.length : Nat) : Int) (marksI k l.length)) : laws_markInt64S.wp l (k : Int) K := by
  intro X hX
  have key : X (marksI k 0 ++ l.drop 0) ((k + 0 : Nat) : Int) ((0 : Nat) : Int) := by
    refine up (Y := fun i => X (marksI k i ++ l.drop i) ((k + i : Nat) : Int) (i : Int)) l.length ?_ fun i hi hn => ?_
    · refine hX _ _ _ ⟨fun c => absurd c (by rw [List.length_append, marksI_length, List.length_drop]; omega), fun _ => ?_⟩
      rw [List.drop_length, List.append_nil]; exact h
    · have hlen : (marksI k i ++ l.drop i).length = l.length := by rw [List.length_append, marksI_length, List.length_drop]; omega
      refine hX _ _ _ ⟨fun _ => ⟨⟨by omega, by rw [hlen]; omega⟩, ?_⟩, fun c => absurd (show (i : Int) < _ by rw [hlen]; omega) c⟩
      rw [nn, w1 (by omega), w1 (by omega)]
      have e := marksI_step (l := l) (i := i) (m := l.length - i) k (by omega) hi
      rw [show (k : Int) + (i : Int) = ((k + i : Nat) : Int) by omega] at e
      
      rw [e]; exact hn
  exact key
theorem heldInt64S_wp {k n : Nat} {K : Int → Prop} (hl : n ≤ 2 ^ 20) (hk : k ≤ 2 ^ 40) (h : K ((k + n : Nat) : Int)) : laws_heldInt64S.wp (marksI k n) (k : Int) K := by
  intro X hX
  have hlen : (marksI k n).length = n := marksI_length _ _
  have key : X ((k + 0 : Nat) : Int) ((0 : Nat) : Int) := by
    refine up (Y := fun i => X ((k + i : Nat) : Int) (i : Int)) n ?_ fun i hi hn => ?_
    · exact hX _ _ ⟨fun c => absurd c (by omega), fun _ => h⟩
    · refine hX _ _ ⟨fun _ => ⟨⟨by omega, by omega⟩, ?_⟩, fun c => absurd (show (i : Int) < _ by omega) c⟩
      rw [nn, gD (by omega), marksI_at k n i (by omega), show (k : Int) + (i : Int) = ((k + i : Nat) : Int) by omega]
      refine tP rfl ?_
      rw [w1 (by omega), w1 (by omega)]; exact hn
  exact key

end Go.Proofs.Ytfieljajhmpbiaa.G

namespace Go.Proofs.Ytfieljajhmpbiaa.G
open Go Go.Ab
set_option maxRecDepth 100000
set_option linter.unusedVariables false
set_option linter.unusedSimpArgs false
set_option maxHeartbeats 1000000
def pFin (x : Nat) : Bool := fcmp .eql .f32 (fop .sub .f32 x x) (cz .f32 0)
def pAll (l : List Nat) : Bool := l.all pFin
theorem pAll_cons (x : Nat) (l : List Nat) : pAll (x :: l) = (pFin x && pAll l) := rfl
/-- A loop that ends early where something does not hold. -/
theorem all_loop {α : Type} (l : List α) (p : α → Bool) {X : Int → Prop} {T F : Prop} (hX : ∀ (i : Nat) (h : i < l.length), ((p l[i] = true → X ((i + 1 : Nat) : Int)) ∧ (p l[i] = false → F)) → X (i : Int))
    (hend : T → X (l.length : Int)) (ht : l.all p = true → T) (hf : l.all p = false → F) : X (0 : Int) := by
  have key := up (Y := fun i => ((l.drop i).all p = true → T) → ((l.drop i).all p = false → F) → X (i : Int)) l.length (fun h _ => hend (h (by rw [List.drop_length]; rfl))) fun i hi hn h1 h2 => ?_
  · exact key (by rw [List.drop_zero]; exact ht) (by rw [List.drop_zero]; exact hf)
  · rw [dropC hi, List.all_cons] at h1 h2
    refine hX i hi ⟨fun e => hn (fun a => h1 (by rw [e, a]; rfl)) (fun a => h2 (by rw [e, a]; rfl)), fun e => h2 (by rw [e]; rfl)⟩
/-- A loop that makes a list, and ends early where something does not hold. -/
theorem map_loop {α β : Type} (l : List α) (p : α → Bool) (f : α → β) {X : List β → Int → Prop} {T F : Prop} (hX : ∀ (i : Nat) (h : i < l.length) (o : List β), o.length = i → ((p l[i] = true → X (o ++ [f l[i]]) ((i + 1 : Nat) : Int)) ∧ (p l[i] = false → F)) → X o (i : Int))
    (hend : T → X (l.map f) (l.length : Int)) (ht : l.all p = true → T) (hf : l.all p = false → F) : X [] (0 : Int) := by
  have key := up (Y := fun i => ((l.drop i).all p = true → T) → ((l.drop i).all p = false → F) → X ((l.take i).map f) (i : Int)) l.length (fun h _ => by rw [List.take_length]; exact hend (h (by rw [List.drop_length]; rfl))) fun i hi hn h1 h2 => ?_
  · have := key (by rw [List.drop_zero]; exact ht) (by rw [List.drop_zero]; exact hf)
    rw [List.take_zero] at this; exact this
  · rw [dropC hi, List.all_cons] at h1 h2
    refine hX i hi _ (by rw [List.length_map, List.length_take]; omega) ⟨fun e => ?_, fun e => h2 (by rw [e]; rfl)⟩
    have := hn (fun a => h1 (by rw [e, a]; rfl)) (fun a => h2 (by rw [e, a]; rfl))
    rw [List.take_succ_eq_append_getElem hi, List.map_append] at this
    exact this
theorem spec_l01Finite_wp {a : Nat} {K : Bool → Prop} (h : K (pFin a)) : spec_l01Finite.wp a K := h
theorem impl_IsFinite_wp {a : Nat} {K : Bool → Prop} (h : K (pFin a)) : impl_IsFinite.wp a K := h
theorem spec_l02Finite_wp {l : List Nat} {K : Bool → Prop} (hl : l.length ≤ 2 ^ 20) (h : K (pAll l)) : spec_l02Finite.wp l K := by
  intro X hX
  refine all_loop l pFin (X := X) (T := K true) (F := K false) (fun i hi hh => ?_) (fun ht => hX _ ⟨fun c => absurd c (by omega), fun _ => ht⟩) (fun e => by rw [pAll, e] at h; exact h) (fun e => by rw [pAll, e] at h; exact h)
  refine hX _ ⟨fun _ => ⟨⟨by omega, by omega⟩, spec_l01Finite_wp ?_⟩, fun c => absurd (show (i : Int) < l.length by omega) c⟩
  rw [nn, gD hi, w1 (by omega)]; exact hh
theorem impl_areFinite_wp {ll : List (List Nat)} {K : Bool → Prop} (hll : ll.length ≤ 2 ^ 20) (hl : ∀ l ∈ ll, l.length ≤ 2 ^ 20) (h : K (ll.all pAll)) : impl_areFinite.wp ll K := by
  intro X hX
  refine all_loop ll pAll (X := X) (T := K true) (F := K false) (fun i hi hh => ?_) (fun ht => hX _ ⟨fun c => absurd c (by omega), fun _ => ht⟩) (fun e => by rw [e] at h; exact h) (fun e => by rw [e] at h; exact h)
  refine hX _ ⟨fun _ => ⟨⟨by omega, by omega⟩, fun Y hY => ?_⟩, fun c => absurd (show (i : Int) < ll.length by omega) c⟩
  have hlen := hl ll[i] (List.getElem_mem hi)
  rw [nn, gD hi, w1 (by omega)] at hY
  refine all_loop ll[i] pFin (X := Y) (T := X ((i + 1 : Nat) : Int)) (F := K false) (fun j hj h2 => ?_) (fun ht => hY _ ⟨fun c => absurd c (by omega), fun _ => ht⟩) (fun e => hh.1 e) (fun e => hh.2 e)
  refine hY _ ⟨fun _ => ⟨⟨by omega, by omega⟩, impl_IsFinite_wp ?_⟩, fun c => absurd (show (j : Int) < ll[i].length by omega) c⟩
  rw [nn, gD hj, w1 (by omega)]; exact h2
theorem impl_areFinite1_wp {l : List Nat} {K : Bool → Prop} (hl : l.length ≤ 2 ^ 20) (h : K (pAll l)) : impl_areFinite.wp [l] K := by
  refine impl_areFinite_wp (by simp) (fun x hx => by rw [List.mem_singleton] at hx; subst hx; exact hl) ?_
  rw [List.all_cons, List.all_nil, Bool.and_true]; exact h
theorem impl_within_wp {a b c : Int} {K : Bool → Prop} (h : K (decide (b ≤ a ∧ a ≤ c))) : impl_within.wp a b c K := by
  refine ⟨fun h1 => ?_, fun h1 => ?_⟩
  · have : decide (b ≤ a ∧ a ≤ c) = decide (a ≤ c) := by simp [h1]
    rw [this] at h; exact h
  · have : decide (b ≤ a ∧ a ≤ c) = false := by simp [h1]
    rw [this] at h; exact h
theorem spec_l00In_wp {a b c : Int} {K : Bool → Prop} (h : K (decide (b ≤ a ∧ a ≤ c))) : spec_l00In.wp a b c K := by
  refine ⟨fun h1 => ?_, fun h1 => ?_⟩
  · have : decide (b ≤ a ∧ a ≤ c) = decide (a ≤ c) := by simp [h1]
    rw [this] at h; exact h
  · have : decide (b ≤ a ∧ a ≤ c) = false := by simp [h1]
    rw [this] at h; exact h
theorem bT {b : Bool} {A B : Prop} (h1 : b = true → A) (h2 : b = false → B) : (b = true → A) ∧ (b = false → B) := ⟨h1, h2⟩
def isL (l : List Nat) : Bool := decide (1 ≤ l.length ∧ l.length ≤ 128) && pAll l
theorem spec_l02Is_wp {l : List Nat} {K : Bool → Prop} (hl : l.length ≤ 2 ^ 20) (h : K (isL l)) : spec_l02Is.wp l K := by
  refine ⟨fun h1 => ⟨fun h2 => spec_l02Finite_wp hl ?_, fun h2 => ?_⟩, fun h1 => ?_⟩
  · rw [isL, decide_eq_true (show 1 ≤ l.length ∧ l.length ≤ 128 by omega), Bool.true_and] at h; exact h
  · rw [isL, decide_eq_false (show ¬(1 ≤ l.length ∧ l.length ≤ 128) by omega), Bool.false_and] at h; exact h
  · rw [isL, decide_eq_false (show ¬(1 ≤ l.length ∧ l.length ≤ 128) by omega), Bool.false_and] at h; exact h
theorem impl_IsList_wp {l : List Nat} {K : Bool → Prop} (hl : l.length ≤ 2 ^ 20) (h : K (isL l)) : impl_IsList.wp l K := by
  refine impl_within_wp ⟨fun h1 => ?_, fun h1 => ?_⟩
  · have h1 := of_decide_eq_true h1
    refine impl_areFinite1_wp hl ?_
    rw [isL, decide_eq_true (show 1 ≤ l.length ∧ l.length ≤ 128 by omega), Bool.true_and] at h; exact h
  · have h1 := of_decide_eq_false h1
    rw [isL, decide_eq_false (show ¬(1 ≤ l.length ∧ l.length ≤ 128) by omega), Bool.false_and] at h; exact h
def isOver (x : Nat) : Bool := pFin x && fcmp .gtr .f32 x (cz .f32 0)
def isLeast (x : Nat) : Bool := pFin x && fcmp .geq .f32 x (cz .f32 0)
theorem spec_l02Above_wp {a : Nat} {K : Bool → Prop} (h : K (isOver a)) : spec_l02Above.wp a K := by
  refine spec_l01Finite_wp ⟨fun h1 => ?_, fun h1 => ?_⟩ <;> (rw [isOver, h1] at h; exact h)
theorem impl_isOver_wp {a : Nat} {K : Bool → Prop} (h : K (isOver a)) : impl_isOver.wp a K := by
  refine impl_IsFinite_wp ⟨fun h1 => ?_, fun h1 => ?_⟩ <;> (rw [isOver, h1] at h; exact h)
theorem spec_l02Least_wp {a : Nat} {K : Bool → Prop} (h : K (isLeast a)) : spec_l02Least.wp a K := by
  refine spec_l01Finite_wp ⟨fun h1 => ?_, fun h1 => ?_⟩ <;> (rw [isLeast, h1] at h; exact h)
theorem impl_isLeast_wp {a : Nat} {K : Bool → Prop} (h : K (isLeast a)) : impl_isLeast.wp a K := by
  refine impl_IsFinite_wp ⟨fun h1 => ?_, fun h1 => ?_⟩ <;> (rw [isLeast, h1] at h; exact h)
def isShare (x : Nat) : Bool := fcmp .geq .f32 x (cz .f32 0) && fcmp .leq .f32 x (cz .f32 1065353216)
theorem spec_l02Share_wp {a : Nat} {K : Bool → Prop} (h : K (isShare a)) : spec_l02Share.wp a K := by
  refine ⟨fun h1 => ?_, fun h1 => ?_⟩ <;> (rw [isShare, h1] at h; exact h)
theorem impl_isShare_wp {a : Nat} {K : Bool → Prop} (h : K (isShare a)) : impl_isShare.wp a K := by
  refine ⟨fun h1 => ?_, fun h1 => ?_⟩ <;> (rw [isShare, h1] at h; exact h)
/-! ### integers -/
def bnd (m : Int) (l : List Int) : Bool := l.all fun n => decide (-m ≤ n ∧ n ≤ m)
def isI (l : List Int) : Bool := decide (1 ≤ l.length ∧ l.length ≤ 128) && bnd 1000000 l
theorem spec_l02Bound_wp {l : List Int} {m : Int} {K : Bool → Prop} (hl : l.length ≤ 2 ^ 20) (hm : 0 ≤ m ∧ m ≤ 2 ^ 40) (h : K (bnd m l)) : spec_l02Bound.wp l m K := by
  intro X hX
  refine all_loop l (fun n => decide (-m ≤ n ∧ n ≤ m)) (X := X) (T := K true) (F := K false) (fun i hi hh => ?_) (fun ht => hX _ ⟨fun c => absurd c (by omega), fun _ => ht⟩) (fun e => by rw [bnd, e] at h; exact h) (fun e => by rw [bnd, e] at h; exact h)
  refine hX _ ⟨fun _ => ⟨⟨by omega, by omega⟩, spec_l00In_wp ?_⟩, fun c => absurd (show (i : Int) < l.length by omega) c⟩
  rw [nn, gD hi, w1 (by omega), wI (show -9223372036854775808 ≤ (0 : Int) - m ∧ (0 : Int) - m < 9223372036854775808 by omega), Int.zero_sub]; exact hh
theorem impl_areWithin_wp {l : List Int} {m : Int} {K : Bool → Prop} (hl : l.length ≤ 2 ^ 20) (hm : 0 ≤ m ∧ m ≤ 2 ^ 40) (h : K (bnd m l)) : impl_areWithin.wp l m K := by
  intro X hX
  refine all_loop l (fun n => decide (-m ≤ n ∧ n ≤ m)) (X := X) (T := K true) (F := K false) (fun i hi hh => ?_) (fun ht => hX _ ⟨fun c => absurd c (by omega), fun _ => ht⟩) (fun e => by rw [bnd, e] at h; exact h) (fun e => by rw [bnd, e] at h; exact h)
  refine hX _ ⟨fun _ => ⟨⟨by omega, by omega⟩, impl_within_wp ?_⟩, fun c => absurd (show (i : Int) < l.length by omega) c⟩
  rw [nn, gD hi, w1 (by omega), wI (show -9223372036854775808 ≤ (0 : Int) - m ∧ (0 : Int) - m < 9223372036854775808 by omega), Int.zero_sub]; exact hh
theorem spec_l02Integers_wp {l : List Int} {K : Bool → Prop} (hl : l.length ≤ 2 ^ 20) (h : K (isI l)) : spec_l02Integers.wp l K := by
  refine ⟨fun h1 => ⟨fun h2 => spec_l02Bound_wp hl (by omega) ?_, fun h2 => ?_⟩, fun h1 => ?_⟩
  · rw [isI, decide_eq_true (show 1 ≤ l.length ∧ l.length ≤ 128 by omega), Bool.true_and] at h; exact h
  · rw [isI, decide_eq_false (show ¬(1 ≤ l.length ∧ l.length ≤ 128) by omega), Bool.false_and] at h; exact h
  · rw [isI, decide_eq_false (show ¬(1 ≤ l.length ∧ l.length ≤ 128) by omega), Bool.false_and] at h; exact h
theorem impl_AreIntegers_wp {l : List Int} {K : Bool → Prop} (hl : l.length ≤ 2 ^ 20) (h : K (isI l)) : impl_AreIntegers.wp l K := by
  refine impl_within_wp ⟨fun h1 => ?_, fun h1 => ?_⟩
  · have h1 := of_decide_eq_true h1
    refine impl_areWithin_wp hl (by omega) ?_
    rw [isI, decide_eq_true (show 1 ≤ l.length ∧ l.length ≤ 128 by omega), Bool.true_and] at h; exact h
  · have h1 := of_decide_eq_false h1
    rw [isI, decide_eq_false (show ¬(1 ≤ l.length ∧ l.length ≤ 128) by omega), Bool.false_and] at h; exact h
theorem impl_finiteList_wp {l : List Nat} {K : Bool → Bool → Prop} (hl : l.length ≤ 2 ^ 20) (h : K (pAll l) (pAll l)) : impl_finiteList.wp l K := by
  refine impl_areFinite1_wp hl ⟨fun h1 => ?_, fun h1 => ?_⟩ <;> (rw [h1] at h; exact h)
theorem spec_l02List_wp {l : List Nat} {K : Bool → Bool → Prop} (hl : l.length ≤ 2 ^ 20) (h : K (pAll l) (pAll l)) : spec_l02List.wp l K := by
  refine spec_l02Finite_wp hl ⟨fun h1 => ?_, fun h1 => ?_⟩ <;> (rw [h1] at h; exact h)

end Go.Proofs.Ytfieljajhmpbiaa.G

namespace Go.Proofs.Ytfieljajhmpbiaa.G
open Go Go.Ab
set_option maxRecDepth 100000
set_option linter.unusedVariables false
set_option linter.unusedSimpArgs false
set_option maxHeartbeats 1000000
theorem toCostS_wp {l : List (Int × Nat)} {K : List (Int × Nat) → Prop} (hl : l.length ≤ 2 ^ 20) (h : K l) : laws_toCostS.wp l K := by
  refine ⟨⟨by omega, by omega, by omega, by omega⟩, fun X hX => ?_⟩
  have key : X (l.take 0 ++ List.replicate (l.length - 0) ((0 : Int), (0 : Nat))) ((0 : Nat) : Int) := by
    refine up (Y := fun i => X (l.take i ++ List.replicate (l.length - i) ((0 : Int), (0 : Nat))) (i : Int)) l.length ?_ fun i hi hn => ?_
    · refine hX _ _ ⟨fun c => absurd c (by omega), fun _ => ?_⟩
      rw [List.take_length, Nat.sub_self, List.replicate_zero, List.append_nil]; exact h
    · refine hX _ _ ⟨fun _ => ⟨⟨by omega, by omega⟩, ⟨by omega, ?_⟩, ?_⟩, fun c => absurd (show (i : Int) < l.length by omega) c⟩
      · rw [List.length_append, List.length_take, List.length_replicate]; omega
      · rw [nn, w1 (by omega), gD hi, set_fill ((0 : Int), (0 : Nat)) (by omega) hi]
        exact hn
  rw [List.take_zero, List.nil_append, Nat.sub_zero] at key; exact key
theorem eqCostS_wp {l : List (Int × Nat)} {K : Bool → Prop} (hl : l.length ≤ 2 ^ 20) (h : K true) : laws_eqCostS.wp l l K := by
  refine tP rfl fun X hX => ?_
  refine up (Y := fun i => X (i : Int)) l.length ?_ fun i hi hn => ?_
  · exact hX _ ⟨fun c => absurd c (by omega), fun _ => h⟩
  · refine hX _ ⟨fun _ => ⟨⟨by omega, by omega⟩, ⟨by omega, by omega⟩, tP rfl (sameFloat_wp (tT (tT ?_)))⟩, fun c => absurd (show (i : Int) < l.length by omega) c⟩
    rw [w1 (by omega)]; exact hn
theorem szCostS_wp {l : List (Int × Nat)} {n : Int} {K : Int → Prop} (hl : l.length ≤ 2 ^ 20) (hn : 2 ^ 20 ≤ n ∧ n ≤ 2 ^ 40) (h : K (n - (l.length : Int))) : laws_szCostS.wp l n K := by
  have e : IntKind.i64.wrap (n - (l.length : Int)) = n - (l.length : Int) := wI (by omega)
  refine ⟨fun c => absurd c (by rw [e]; omega), fun _ => ?_⟩
  rw [e]; exact h
theorem szCostS_law {l : List (Int × Nat)} {K : Int → Prop} (hl : l.length ≤ maxLen) (h0 : K (-1)) (h : l.length ≤ 2 ^ 20 → K (1048576 - (l.length : Int))) : laws_szCostS.wp l 1048576 K := by
  have hm : l.length < 2 ^ 63 := Nat.lt_of_le_of_lt hl (by decide)
  have e : IntKind.i64.wrap (1048576 - (l.length : Int)) = 1048576 - (l.length : Int) := wI (by omega)
  refine ⟨fun c => h0, fun c => ?_⟩
  rw [e] at c ⊢; exact h (by omega)
def mkC (k : Nat) : Nat → List (Int × Nat)
  | 0 => []
  | n + 1 => (((k : Int), itof .f32 ((k : Int) + 1))) :: mkC (k + 2) n
theorem mkC_append (k : Nat) : ∀ i, mkC k (i + 1) = mkC k i ++ [(((k + 2 * i : Nat) : Int), itof .f32 (((k + 2 * i : Nat) : Int) + 1))] := by
  intro i
  induction i generalizing k with
  | zero => rfl
  | succ i ih => rw [mkC, ih, show mkC k (i + 1) = ((k : Int), itof .f32 ((k : Int) + 1)) :: mkC (k + 2) i from rfl, List.cons_append, show k + 2 + 2 * i = k + 2 * (i + 1) by omega]
theorem mkC_len (k : Nat) : ∀ n, (mkC k n).length = n
  | 0 => rfl
  | n + 1 => by rw [mkC, List.length_cons, mkC_len]
theorem set2 {α : Type} (p : List α) (a b c : α) (q : List α) : ((p ++ a :: q).set p.length b) = p ++ b :: q := by
  rw [List.set_append_right _ _ (Nat.le_refl _), Nat.sub_self]; rfl
theorem markCostS_wp {l : List (Int × Nat)} {k : Nat} {K : Int → List (Int × Nat) → Prop} (hl : l.length ≤ 2 ^ 20) (hk : k ≤ 2 ^ 40) (h : ∀ o : List (Int × Nat), o.length = l.length → K ((k + 2 * l.length : Nat) : Int) o) : laws_markCostS.wp l (k : Int) K := by
  intro X hX
  have key : X (mkC k 0 ++ l.drop 0) ((k + 2 * 0 : Nat) : Int) ((0 : Nat) : Int) := by
    refine up (Y := fun i => X (mkC k i ++ l.drop i) ((k + 2 * i : Nat) : Int) (i : Int)) l.length ?_ fun i hi hn => ?_
    · refine hX _ _ _ ⟨fun c => absurd c (by rw [List.length_append, mkC_len, List.length_drop]; omega), fun _ => ?_⟩
      exact h _ (by rw [List.length_append, mkC_len, List.length_drop]; omega)
    · have hlen : (mkC k i ++ l.drop i).length = l.length := by rw [List.length_append, mkC_len, List.length_drop]; omega
      refine hX _ _ _ ⟨fun _ => ⟨⟨by omega, by rw [hlen]; omega⟩, ⟨by omega, by rw [List.length_set, hlen]; omega⟩, ?_⟩, fun c => absurd (show (i : Int) < _ by rw [hlen]; omega) c⟩
      rw [nn, w1 (i := i) (by omega), w1 (i := k + 2 * i) (by omega), w1 (i := k + 2 * i + 1) (by omega)]
      have e1 : (mkC k i ++ l.drop i) = mkC k i ++ l[i] :: l.drop (i + 1) := by rw [dropC hi]
      have e2 : ∀ x : Int × Nat, (mkC k i ++ l[i] :: l.drop (i + 1)).set i x = mkC k i ++ x :: l.drop (i + 1) := fun x => by
        have := set2 (mkC k i) l[i] x x (l.drop (i + 1)); rw [mkC_len] at this; exact this
      have e3 : ∀ x y : Int × Nat, (mkC k i ++ x :: l.drop (i + 1)).set i y = mkC k i ++ y :: l.drop (i + 1) := fun x y => by
        have := set2 (mkC k i) x y y (l.drop (i + 1)); rw [mkC_len] at this; exact this
      have e4 : ∀ x d : Int × Nat, (mkC k i ++ x :: l.drop (i + 1)).getD i d = x := fun x d => by
        rw [List.getD_eq_getElem?_getD, List.getElem?_append_right (by rw [mkC_len]; omega), mkC_len, Nat.sub_self]; rfl
      rw [e1, e2, e3, e4]
      rw [mkC_append, List.append_assoc, List.singleton_append] at hn
      exact hn
  exact key
def cAt (l : List (Int × Nat)) (i : Nat) : Bool := decide (0 ≤ (l.getD i (0, 0)).1 ∧ (l.getD i (0, 0)).1 ≤ 512) && isLeast (l.getD i (0, 0)).2 && (decide (i = 0) || (decide ((l.getD (i - 1) (0, 0)).1 < (l.getD i (0, 0)).1) && !(fcmp .geq .f32 (l.getD i (0, 0)).2 (l.getD (i - 1) (0, 0)).2)))
def isC (l : List (Int × Nat)) : Bool := decide (1 ≤ l.length ∧ l.length ≤ 16) && (List.range l.length).all (cAt l)
theorem wm (i : Nat) (h : i < 4611686018427387904) : IntKind.i64.wrap ((i : Int) - 1) = (i : Int) - 1 := wI (by omega)
theorem range_get {n i : Nat} (h : i < (List.range n).length) : (List.range n)[i] = i := List.getElem_range h
theorem spec_l07Costs_wp {l : List (Int × Nat)} {K : Bool → Prop} (hl : l.length ≤ 2 ^ 20) (h : K (isC l)) : spec_l07Costs.wp l K := by
  refine ⟨fun h1 => ?_, fun h1 => ⟨fun h2 => ?_, fun h2 => ?_⟩⟩
  · rw [isC, decide_eq_false (by omega)] at h; exact h
  · rw [isC, decide_eq_false (by omega)] at h; exact h
  rw [isC, decide_eq_true (by omega), Bool.true_and] at h
  intro X hX
  refine all_loop (List.range l.length) (cAt l) (X := X) (T := K true) (F := K false) (fun i hi hh => ?_) (fun ht => hX _ ⟨fun c => absurd c (by rw [List.length_range]; omega), fun _ => ht⟩) (fun e => by rw [e] at h; exact h) (fun e => by rw [e] at h; exact h)
  rw [range_get] at hh; rw [List.length_range] at hi
  refine hX _ ⟨fun _ => ⟨⟨by omega, by omega⟩, ?_⟩, fun c => absurd (show (i : Int) < l.length by omega) c⟩
  rw [nn, w1 (by omega), wm i (by omega), show ((i : Int) - 1).toNat = i - 1 by omega]
  refine spec_l00In_wp ⟨fun h3 => spec_l02Least_wp ⟨fun h4 => ⟨fun h5 => ⟨⟨by omega, by omega⟩, ⟨fun h6 => ?_, fun h6 => ⟨fun h7 => ?_, fun h7 => ?_⟩⟩⟩, fun h5 => ?_⟩, fun h4 => ?_⟩, fun h3 => ?_⟩
  · exact hh.2 (by rw [cAt, h3, h4, decide_eq_false (show ¬ i = 0 by omega), decide_eq_false (show ¬ (l.getD (i - 1) (0, 0)).1 < (l.getD i (0, 0)).1 by omega)]; rfl)
  · exact hh.2 (by rw [cAt, h7, decide_eq_false (show ¬ i = 0 by omega)]; simp)
  · exact hh.1 (by rw [cAt, h3, h4, h7, decide_eq_false (show ¬ i = 0 by omega), decide_eq_true (show (l.getD (i - 1) (0, 0)).1 < (l.getD i (0, 0)).1 by omega)]; rfl)
  · exact hh.1 (by rw [cAt, h3, h4, decide_eq_true (show i = 0 by omega)]; rfl)
  · exact hh.2 (by rw [cAt, h4]; simp)
  · exact hh.2 (by rw [cAt, h3]; rfl)
theorem impl_AreCosts_wp {l : List (Int × Nat)} {K : Bool → Prop} (hl : l.length ≤ 2 ^ 20) (h : K (isC l)) : impl_AreCosts.wp l K := by
  refine impl_within_wp ⟨fun h1 => ?_, fun h1 => ?_⟩
  rotate_left
  · have h1 := of_decide_eq_false h1
    rw [isC, decide_eq_false (by omega)] at h; exact h
  have h1 := of_decide_eq_true h1
  rw [isC, decide_eq_true (by omega), Bool.true_and] at h
  intro X hX
  refine all_loop (List.range l.length) (cAt l) (X := X) (T := K true) (F := K false) (fun i hi hh => ?_) (fun ht => hX _ ⟨fun c => absurd c (by rw [List.length_range]; omega), fun _ => ht⟩) (fun e => by rw [e] at h; exact h) (fun e => by rw [e] at h; exact h)
  rw [range_get] at hh; rw [List.length_range] at hi
  refine hX _ ⟨fun _ => ⟨⟨by omega, by omega⟩, ?_⟩, fun c => absurd (show (i : Int) < l.length by omega) c⟩
  rw [nn, w1 (by omega), wm i (by omega), show ((i : Int) - 1).toNat = i - 1 by omega]
  refine impl_within_wp ⟨fun h3 => impl_isLeast_wp ⟨fun h4 => ⟨fun h5 => ⟨⟨by omega, by omega⟩, ⟨fun h6 => ?_, fun h6 => ⟨fun h7 => ?_, fun h7 => ?_⟩⟩⟩, fun h5 => ?_⟩, fun h4 => ?_⟩, fun h3 => ?_⟩
  · exact hh.2 (by rw [cAt, h3, h4, decide_eq_false (show ¬ i = 0 by omega), decide_eq_false (show ¬ (l.getD (i - 1) (0, 0)).1 < (l.getD i (0, 0)).1 by omega)]; rfl)
  · exact hh.2 (by rw [cAt, h7, decide_eq_false (show ¬ i = 0 by omega)]; simp)
  · exact hh.1 (by rw [cAt, h3, h4, h7, decide_eq_false (show ¬ i = 0 by omega), decide_eq_true (show (l.getD (i - 1) (0, 0)).1 < (l.getD i (0, 0)).1 by omega)]; rfl)
  · exact hh.1 (by rw [cAt, h3, h4, decide_eq_true (show i = 0 by omega)]; rfl)
  · exact hh.2 (by rw [cAt, h4]; simp)
  · exact hh.2 (by rw [cAt, h3]; rfl)
theorem isC_len {l : List (Int × Nat)} (h : isC l = true) : 1 ≤ l.length ∧ l.length ≤ 16 := by
  simp only [isC, Bool.and_eq_true, decide_eq_true_eq] at h; exact h.1
theorem isC_bits {l : List (Int × Nat)} (h : isC l = true) (i : Nat) (hi : i < l.length) : 0 ≤ (l.getD i (0, 0)).1 ∧ (l.getD i (0, 0)).1 ≤ 512 := by
  simp only [isC, Bool.and_eq_true, List.all_eq_true] at h
  have := h.2 i (List.mem_range.mpr hi)
  simp only [cAt, Bool.and_eq_true, decide_eq_true_eq] at this
  exact this.1.1

end Go.Proofs.Ytfieljajhmpbiaa.G

namespace Go.Proofs.Ytfieljajhmpbiaa.G
open Go Go.Ab
set_option maxRecDepth 100000
set_option linter.unusedVariables false
set_option linter.unusedSimpArgs false
set_option maxHeartbeats 1000000
def slope (l : List (Int × Nat)) (a k : Nat) : Nat := fop .quo .f32 (fop .sub .f32 (l.getD a ((0 : Int), (0 : Nat))).2 (l.getD k ((0 : Int), (0 : Nat))).2) (itof .f32 (IntKind.i64.wrap ((l.getD k ((0 : Int), (0 : Nat))).1 - (l.getD a ((0 : Int), (0 : Nat))).1)))
def egIn (l : List (Int × Nat)) (a : Nat) : Nat → Nat → Nat → Nat → Nat
  | 0, _, best, _ => best
  | m + 1, k, best, top => if k = a + 1 ∨ fcmp .geq .f32 (slope l a k) top = true then egIn l a m (k + 1) k (slope l a k) else egIn l a m (k + 1) best top
def nxt (l : List (Int × Nat)) (a : Nat) : Nat := egIn l a (l.length - (a + 1)) (a + 1) (a + 1) 0
def egOut (l : List (Int × Nat)) : Nat → Nat → List Int → List Int
  | 0, _, acc => acc
  | m + 1, a, acc => if a + 1 < l.length then egOut l m (nxt l a) (acc ++ [((nxt l a : Nat) : Int)]) else acc
theorem egIn_bound (l : List (Int × Nat)) (a n : Nat) : ∀ (m k best top : Nat), k + m = n → (a < best ∧ best < n) → a < k → a < egIn l a m k best top ∧ egIn l a m k best top < n
  | 0, k, best, top, _, h, _ => h
  | m + 1, k, best, top, hk, h, ha => by
    rw [egIn]
    split
    · exact egIn_bound l a n m (k + 1) k _ (by omega) ⟨ha, by omega⟩ (by omega)
    · exact egIn_bound l a n m (k + 1) best top (by omega) h (by omega)
theorem nxt_bound {l : List (Int × Nat)} {a : Nat} (h : a + 1 < l.length) : a < nxt l a ∧ nxt l a < l.length := egIn_bound l a l.length _ _ _ _ (by omega) ⟨by omega, h⟩ (by omega)
theorem egOut_len (l : List (Int × Nat)) : ∀ (m a : Nat) (acc : List Int), (egOut l m a acc).length ≤ acc.length + m
  | 0, _, acc => Nat.le_refl _
  | m + 1, a, acc => by
    rw [egOut]
    split
    · have := egOut_len l m (nxt l a) (acc ++ [((nxt l a : Nat) : Int)])
      rw [List.length_append, List.length_singleton] at this
      omega
    · omega
/-- The inner loop, with the best so far or (none yet) what stands for none. -/
theorem eg_in (l : List (Int × Nat)) (a : Nat) (z : Int) {X : Int → Nat → Int → Prop} (hX : ∀ (k : Nat) (best : Int) (top : Nat), a < k → k < l.length → (k ≠ a + 1 → (a : Int) < best) → (k = a + 1 → best = z ∧ top = cz .f32 0) → ((k = a + 1 ∨ fcmp .geq .f32 (slope l a k) top = true) → X k (slope l a k) ((k + 1 : Nat) : Int)) → (¬(k = a + 1 ∨ fcmp .geq .f32 (slope l a k) top = true) → X best top ((k + 1 : Nat) : Int)) → X best top k)
    (h : a + 1 < l.length) (hend : ∀ top, X (nxt l a : Nat) top l.length) : X z (cz .f32 0) ((a + 1 : Nat) : Int) := by
  have key : ∀ (m k best top : Nat), k + m = l.length → a + 1 < k → a < best → (∀ t, X (egIn l a m k best top : Nat) t l.length) → X (best : Int) top (k : Int) := by
    intro m
    induction m with
    | zero => intro k best top hk _ _ h0; obtain rfl : k = l.length := by omega
              exact h0 top
    | succ m ih =>
      intro k best top hk ha hb h0
      refine hX k _ _ (by omega) (by omega) (fun _ => by omega) (fun c => absurd c (by omega)) (fun c => ?_) (fun c => ?_)
      · refine ih (k + 1) k _ (by omega) (by omega) (by omega) ?_
        rw [egIn, if_pos c] at h0; exact h0
      · refine ih (k + 1) best top (by omega) (by omega) (by omega) ?_
        rw [egIn, if_neg c] at h0; exact h0
  refine hX _ _ _ (by omega) (by omega) (fun c => absurd rfl c) (fun _ => ⟨rfl, rfl⟩) (fun _ => ?_) (fun c => absurd (Or.inl rfl) c)
  refine key (l.length - (a + 2)) (a + 2) (a + 1) _ (by omega) (by omega) (by omega) ?_
  rw [nxt, show l.length - (a + 1) = l.length - (a + 2) + 1 by omega, egIn, if_pos (Or.inl rfl)] at hend
  exact hend
/-- The outer loop. -/
theorem eg_out (l : List (Int × Nat)) {X : List Int → Int → Prop} {E : List Int → Prop} (hl : 1 ≤ l.length) (hX : ∀ (o : List Int) (a : Nat), a < l.length → o.length ≤ a + 1 → (a + 1 < l.length → X (o ++ [((nxt l a : Nat) : Int)]) ((nxt l a : Nat) : Int)) → (¬ a + 1 < l.length → E o) → X o (a : Int)) (hend : E (egOut l l.length 0 [0])) : X [(0 : Int)] (0 : Int) := by
  have key : ∀ (m a : Nat) (o : List Int), l.length ≤ a + m → a < l.length → o.length ≤ a + 1 → E (egOut l m a o) → X o (a : Int) := by
    intro m
    induction m with
    | zero => intro a o h1 h2; omega
    | succ m ih =>
      intro a o h1 h2 h3 h4
      refine hX o a h2 h3 (fun c => ?_) (fun c => ?_)
      · have := nxt_bound c
        refine ih _ _ (by omega) this.2 (by rw [List.length_append, len1]; omega) ?_
        rw [egOut, if_pos c] at h4; exact h4
      · rw [egOut, if_neg c] at h4; exact h4
  exact key l.length 0 [0] (by omega) (by omega) (by simp) hend
theorem edge_both (l : List (Int × Nat)) (hl : l.length ≤ 2 ^ 20) : ∃ out ok, (∀ K, K out ok → spec_EdgeCosts.wp l K) ∧ (∀ K, K out ok → impl_EdgeCosts.wp l K) ∧ out.length ≤ 2 ^ 20 := by
  refine ⟨if isC l = true then egOut l l.length 0 [0] else [], isC l, fun K hk => ?_, fun K hk => ?_, ?_⟩
  · refine spec_l07Costs_wp hl ⟨fun h1 => ?_, fun h1 => ?_⟩
    rotate_left
    · rw [h1, if_neg (by simp)] at hk; exact hk
    rw [h1, if_pos rfl] at hk
    have := isC_len h1
    intro X hX
    refine eg_out l this.1 (E := fun o => K o true) (fun o a ha ho h2 h3 => ?_) hk
    refine hX _ _ ?_
    rw [w1 (by omega)]
    refine ⟨fun c => ?_, fun c => h3 (by omega)⟩
    intro Y hY
    refine eg_in l a _ (fun k best top h4 h5 h6 h7 h8 h9 => hY _ _ _ ⟨fun _ => ?_, fun c2 => absurd (show (k : Int) < l.length by omega) c2⟩) (by omega) (fun t => hY _ _ _ ⟨fun c2 => absurd c2 (by omega), fun _ => ⟨by rw [len1]; omega, h2 (by omega)⟩⟩)
    refine ⟨⟨by omega, by omega⟩, ⟨by omega, by omega⟩, ?_⟩
    rw [nn, nn, w1 (by omega)]
    refine ⟨fun c2 => h8 (.inl (by omega)), fun c2 => ⟨fun c3 => h8 (.inr c3), fun c3 => h9 (fun c4 => c4.elim (fun c5 => c2 (by omega)) (fun c5 => by rw [slope, c3] at c5; cases c5))⟩⟩
  · refine impl_AreCosts_wp hl ⟨fun h1 => ?_, fun h1 => ?_⟩
    rotate_left
    · rw [h1, if_neg (by simp)] at hk; exact hk
    rw [h1, if_pos rfl] at hk
    have := isC_len h1
    intro X hX
    refine eg_out l this.1 (E := fun o => K o true) (fun o a ha ho h2 h3 => ?_) hk
    refine hX _ _ ?_
    rw [w1 (by omega), wI (show -9223372036854775808 ≤ (l.length : Int) - 1 ∧ (l.length : Int) - 1 < 9223372036854775808 by omega)]
    refine ⟨fun c => ?_, fun c => h3 (by omega)⟩
    intro Y hY
    refine eg_in l a _ (fun k best top h4 h5 h6 h7 h8 h9 => hY _ _ _ ⟨fun _ => ?_, fun c2 => absurd (show (k : Int) < l.length by omega) c2⟩) (by omega) (fun t => hY _ _ _ ⟨fun c2 => absurd c2 (by omega), fun _ => ⟨by rw [len1]; omega, h2 (by omega)⟩⟩)
    refine ⟨⟨by omega, by omega⟩, ⟨by omega, by omega⟩, ?_⟩
    rw [nn, nn, w1 (by omega)]
    refine ⟨fun c2 => h8 (.inl (Classical.byContradiction fun c3 => absurd (h6 c3) (by omega))), fun c2 => ⟨fun c3 => h8 (.inr c3), fun c3 => h9 (fun c4 => c4.elim (fun c5 => c2 (h7 c5).1) (fun c5 => by rw [slope, c3] at c5; cases c5))⟩⟩
  · split
    · have := isC_len (by assumption)
      have := egOut_len l l.length 0 [0]
      rw [len1] at this; omega
    · simp

end Go.Proofs.Ytfieljajhmpbiaa.G

namespace Go.Proofs.Ytfieljajhmpbiaa.G
open Go Go.Ab
set_option maxRecDepth 100000
set_option linter.unusedVariables false
set_option linter.unusedSimpArgs false
set_option maxHeartbeats 1000000
-- HYPS: 0
theorem pureExactEdgeCosts (l0 : List (Int × Nat)) (hm : l0.length ≤ maxLen) : laws_FnExactEdgeCosts.wp l0 (fun b => b = true) := by
  refine szCostS_law hm (tP (by omega) rfl) fun hl => tN (by omega) ?_
  obtain ⟨out, ok, hs, hi, ho⟩ := edge_both l0 hl
  repeat' (first
    | exact rfl
    | refine hs _ ?_
    | refine hi _ ?_
    | refine markCostS_wp (k := 1) (by first
    | omega
    | simp) (by omega) (fun o ho2 => ?_)
    | refine toFloat32S_wp (by omega) ?_
    | refine szFloat32S_wp (by omega) (by omega) ?_
    | refine eqFloat32S_wp (by first | omega | simp) ?_
    | refine markFloat32S_wp (k := 1) (by first | omega | simp) (by omega) ?_
    | refine markFloat32S_wp (by first | omega | simp) (by omega) ?_
    | refine heldFloat32S_wp (k := 1) (by first | omega | simp) (by omega) ?_
    | refine toInt64S_wp (by omega) ?_
    | refine eqInt64S_wp (by first | omega | simp) ?_
    | refine markInt64S_wp (k := 1) (by first | omega | simp) (by omega) ?_
    | refine markInt64S_wp (by first | omega | simp) (by omega) ?_
    | refine heldInt64S_wp (k := 1) (by first | omega | simp) (by omega) ?_
    | refine toBoolS_wp (by omega) ?_
    | refine szBoolS_wp (by omega) (by omega) ?_
    | refine eqBoolS_wp (by first | omega | simp) ?_
    | refine toCostS_wp (by omega) ?_
    | refine szCostS_wp (by omega) (by omega) ?_
    | refine eqCostS_wp (by first | omega | simp) ?_
    | refine markCostS_wp (k := 1) (by first | omega | simp) (by omega) ?_
    | refine markCostS_wp (by first | omega | simp) (by omega) ?_
    | refine tT ?_
    | refine tB ?_
    | refine tN (by omega) ?_
    | refine tP (by first | rfl | omega) ?_)

end Go.Proofs.Ytfieljajhmpbiaa.G

