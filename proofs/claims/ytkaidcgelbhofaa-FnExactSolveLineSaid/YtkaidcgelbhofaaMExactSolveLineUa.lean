/-
  What the formulas say, over numbers and lists alone. Nothing here is trusted.
-/
import Derived.Test.YtkaidcgelbhofaaMExactSolveLineWa
namespace Go.Proofs.Ytkaidcgelbhofaa.G
open Go Go.Ab
set_option maxRecDepth 100000
set_option linter.unusedVariables false
set_option linter.unusedSimpArgs false
set_option maxHeartbeats 1000000
/-! ### truth -/
theorem tT {A B : Prop} (h : A) : (true = true → A) ∧ (true = false → B) := ⟨fun _ => h, fun c => (by cases c)⟩
theorem tF {A B : Prop} (h : B) : (false = true → A) ∧ (false = false → B) := ⟨fun c => (by cases c), fun _ => h⟩
theorem tB {A B : Prop} {b : Bool} (h : A) : ((b == b) = true → A) ∧ ((b == b) = false → B) := ⟨fun _ => h, fun c => (by simp at c)⟩
theorem tE {A B : Prop} {b : Bool} (e : b = true) (h : A) : (b = true → A) ∧ (b = false → B) := ⟨fun _ => h, fun c => (by rw [e] at c; cases c)⟩
theorem tG {A B : Prop} {b : Bool} (e : b = false) (h : B) : (b = true → A) ∧ (b = false → B) := ⟨fun c => (by rw [e] at c; cases c), fun _ => h⟩
theorem tP {p A B : Prop} (e : p) (h : A) : (p → A) ∧ (¬p → B) := ⟨fun _ => h, fun c => absurd e c⟩
theorem tN {p A B : Prop} (e : ¬p) (h : B) : (p → A) ∧ (¬p → B) := ⟨fun c => absurd c e, fun _ => h⟩
theorem tI {b : Bool} {K : Bool → Prop} {A B : Prop} (h1 : b = true → A) (h2 : b = false → B) : (b = true → A) ∧ (b = false → B) := ⟨h1, h2⟩
/-! ### loops -/
theorem up {Y : Nat → Prop} (n : Nat) (last : Y n) (step : ∀ i, i < n → Y (i + 1) → Y i) : Y 0 := by
  have key : ∀ d i, i + d = n → Y i := by
    intro d
    induction d with
    | zero => intro i h; obtain rfl : i = n := by omega
              exact last
    | succ d ih => intro i h; exact step i (by omega) (ih (i + 1) (by omega))
  exact key n 0 (by omega)
theorem upFrom {Y : Nat → Prop} (k n : Nat) (hk : k ≤ n) (last : Y n) (step : ∀ i, k ≤ i → i < n → Y (i + 1) → Y i) : Y k := by
  have key : ∀ d i, k ≤ i → i + d = n → Y i := by
    intro d
    induction d with
    | zero => intro i _ h; obtain rfl : i = n := by omega
              exact last
    | succ d ih => intro i h0 h; exact step i h0 (by omega) (ih (i + 1) (by omega) (by omega))
  exact key (n - k) k (Nat.le_refl _) (by omega)
theorem w1 {i : Nat} (h : i < 4611686018427387904) : IntKind.i64.wrap ((i : Int) + (1 : Int)) = ((i + 1 : Nat) : Int) := wrap_succ (by omega)
theorem wI {n : Int} (h : -9223372036854775808 ≤ n ∧ n < 9223372036854775808) : IntKind.i64.wrap n = n := wrap_i64 h.1 h.2
theorem nn (i : Nat) : ((i : Int)).toNat = i := rfl
theorem gD {α : Type} {l : List α} {i : Nat} (h : i < l.length) (d : α) : l.getD i d = l[i] := by rw [List.getD_eq_getElem?_getD, List.getElem?_eq_getElem h]; rfl
theorem dropC {α : Type} {l : List α} {i : Nat} (h : i < l.length) : l.drop i = l[i] :: l.drop (i + 1) := List.drop_eq_getElem_cons h
theorem len1 {α : Type} (a : α) : ([a] : List α).length = 1 := rfl
theorem cz32 (n : Nat) (h : (FloatKind.f32.decode n).isNaN = false) : cz .f32 n = n := by simp [cz, h]
theorem c0_32 : cz .f32 0 = 0 := cz_zero32
theorem c0_64 : cz .f64 0 = 0 := cz_zero64
/-! ### copies, comparisons, marks -/
theorem toFloat32S_wp {l : List Nat} {K : List Nat → Prop} (hl : l.length ≤ 2 ^ 20) (h : K l) : laws_toFloat32S.wp l K := by
  refine ⟨⟨by omega, by omega, by omega, by omega⟩, fun X hX => ?_⟩
  have key : X (l.take 0 ++ List.replicate (l.length - 0) (0 : Nat)) ((0 : Nat) : Int) := by
    refine up (Y := fun i => X (l.take i ++ List.replicate (l.length - i) (0 : Nat)) (i : Int)) l.length ?_ fun i hi hn => ?_
    · refine hX _ _ ⟨fun c => absurd c (by omega), fun _ => ?_⟩
      rw [List.take_length, Nat.sub_self, List.replicate_zero, List.append_nil]; exact h
    · refine hX _ _ ⟨fun _ => ⟨⟨by omega, by omega⟩, ⟨by omega, ?_⟩, ?_⟩, fun c => absurd (show (i : Int) < l.length by omega) c⟩
      · rw [List.length_append, List.length_take, List.length_replicate]; omega
      · rw [nn, w1 (by omega), gD hi, set_fill (0 : Nat) (by omega) hi]
        exact hn
  rw [List.take_zero, List.nil_append, Nat.sub_zero] at key; exact key
theorem toInt64S_wp {l : List Int} {K : List Int → Prop} (hl : l.length ≤ 2 ^ 20) (h : K l) : laws_toInt64S.wp l K := by
  refine ⟨⟨by omega, by omega, by omega, by omega⟩, fun X hX => ?_⟩
  have key : X (l.take 0 ++ List.replicate (l.length - 0) (0 : Int)) ((0 : Nat) : Int) := by
    refine up (Y := fun i => X (l.take i ++ List.replicate (l.length - i) (0 : Int)) (i : Int)) l.length ?_ fun i hi hn => ?_
    · refine hX _ _ ⟨fun c => absurd c (by omega), fun _ => ?_⟩
      rw [List.take_length, Nat.sub_self, List.replicate_zero, List.append_nil]; exact h
    · refine hX _ _ ⟨fun _ => ⟨⟨by omega, by omega⟩, ⟨by omega, ?_⟩, ?_⟩, fun c => absurd (show (i : Int) < l.length by omega) c⟩
      · rw [List.length_append, List.length_take, List.length_replicate]; omega
      · rw [nn, w1 (by omega), gD hi, set_fill (0 : Int) (by omega) hi]
        exact hn
  rw [List.take_zero, List.nil_append, Nat.sub_zero] at key; exact key
theorem toBoolS_wp {l : List Bool} {K : List Bool → Prop} (hl : l.length ≤ 2 ^ 20) (h : K l) : laws_toBoolS.wp l K := by
  refine ⟨⟨by omega, by omega, by omega, by omega⟩, fun X hX => ?_⟩
  have key : X (l.take 0 ++ List.replicate (l.length - 0) false) ((0 : Nat) : Int) := by
    refine up (Y := fun i => X (l.take i ++ List.replicate (l.length - i) false) (i : Int)) l.length ?_ fun i hi hn => ?_
    · refine hX _ _ ⟨fun c => absurd c (by omega), fun _ => ?_⟩
      rw [List.take_length, Nat.sub_self, List.replicate_zero, List.append_nil]; exact h
    · refine hX _ _ ⟨fun _ => ⟨⟨by omega, by omega⟩, ⟨by omega, ?_⟩, ?_⟩, fun c => absurd (show (i : Int) < l.length by omega) c⟩
      · rw [List.length_append, List.length_take, List.length_replicate]; omega
      · rw [nn, w1 (by omega), gD hi, set_fill false (by omega) hi]
        exact hn
  rw [List.take_zero, List.nil_append, Nat.sub_zero] at key; exact key
theorem sameFloat_wp {a : Nat} {K : Bool → Prop} (h : K true) : laws_sameFloat.wp a a K := by
  rcases order_self Ieee.double a with ho | ho
  · have e : fcmp .neq .f64 a a = true := by simp [fcmp, FloatKind.format, ho]
    exact tE e (by rw [e]; exact h)
  · have e : fcmp .neq .f64 a a = false := by simp [fcmp, FloatKind.format, ho]
    have e2 : fcmp .eql .f64 a a = true := by simp [fcmp, FloatKind.format, ho]
    refine tG e (tG e ⟨fun c => ⟨fun _ => by rw [BEq.rfl]; exact h, fun c2 => (by rw [c] at c2; cases c2)⟩, fun _ => by rw [e2]; exact h⟩)
theorem eqFloat32S_wp {l : List Nat} {K : Bool → Prop} (hl : l.length ≤ 2 ^ 20) (h : K true) : laws_eqFloat32S.wp l l K := by
  refine tP rfl fun X hX => ?_
  refine up (Y := fun i => X (i : Int)) l.length ?_ fun i hi hn => ?_
  · exact hX _ ⟨fun c => absurd c (by omega), fun _ => h⟩
  · refine hX _ ⟨fun _ => ⟨⟨by omega, by omega⟩, ⟨by omega, by omega⟩, sameFloat_wp (tT ?_)⟩, fun c => absurd (show (i : Int) < l.length by omega) c⟩
    rw [w1 (by omega)]; exact hn
theorem eqInt64S_wp {l : List Int} {K : Bool → Prop} (hl : l.length ≤ 2 ^ 20) (h : K true) : laws_eqInt64S.wp l l K := by
  refine tP rfl fun X hX => ?_
  refine up (Y := fun i => X (i : Int)) l.length ?_ fun i hi hn => ?_
  · exact hX _ ⟨fun c => absurd c (by omega), fun _ => h⟩
  · refine hX _ ⟨fun _ => ⟨⟨by omega, by omega⟩, ⟨by omega, by omega⟩, tP rfl ?_⟩, fun c => absurd (show (i : Int) < l.length by omega) c⟩
    rw [w1 (by omega)]; exact hn
theorem eqBoolS_wp {l : List Bool} {K : Bool → Prop} (hl : l.length ≤ 2 ^ 20) (h : K true) : laws_eqBoolS.wp l l K := by
  refine tP rfl fun X hX => ?_
  refine up (Y := fun i => X (i : Int)) l.length ?_ fun i hi hn => ?_
  · exact hX _ ⟨fun c => absurd c (by omega), fun _ => h⟩
  · refine hX _ ⟨fun _ => ⟨⟨by omega, by omega⟩, ⟨by omega, by omega⟩, tB ?_⟩, fun c => absurd (show (i : Int) < l.length by omega) c⟩
    rw [w1 (by omega)]; exact hn
theorem markFloat32S_wp {l : List Nat} {k : Nat} {K : Int → List Nat → Prop} (hl : l.length ≤ 2 ^ 20) (hk : k ≤ 2 ^ 40) (h : K ((k + l.length : Nat) : Int) (marks k l.length)) : laws_markFloat32S.wp l (k : Int) K := by
  intro X hX
  have key : X (marks k 0 ++ l.drop 0) ((k + 0 : Nat) : Int) ((0 : Nat) : Int) := by
    refine up (Y := fun i => X (marks k i ++ l.drop i) ((k + i : Nat) : Int) (i : Int)) l.length ?_ fun i hi hn => ?_
    · refine hX _ _ _ ⟨fun c => absurd c (by rw [List.length_append, marks_length, List.length_drop]; omega), fun _ => ?_⟩
      rw [List.drop_length, List.append_nil]; exact h
    · have hlen : (marks k i ++ l.drop i).length = l.length := by rw [List.length_append, marks_length, List.length_drop]; omega
      refine hX _ _ _ ⟨fun _ => ⟨⟨by omega, by rw [hlen]; omega⟩, ?_⟩, fun c => absurd (show (i : Int) < _ by rw [hlen]; omega) c⟩
      rw [nn, w1 (by omega), w1 (by omega)]
      have e := marks_step (l := l) (i := i) (m := l.length - i) k (by omega) hi
      rw [show (k : Int) + (i : Int) = ((k + i : Nat) : Int) by omega] at e
      rw [show itof .f32 ((k + i : Nat) : Int) = fl ((k + i : Nat) : Int) from rfl]
      rw [e]; exact hn
  exact key
theorem heldFloat32S_wp {k n : Nat} {K : Int → Prop} (hl : n ≤ 2 ^ 20) (hk : k ≤ 2 ^ 40) (h : K ((k + n : Nat) : Int)) : laws_heldFloat32S.wp (marks k n) (k : Int) K := by
  intro X hX
  have hlen : (marks k n).length = n := marks_length _ _
  have key : X ((k + 0 : Nat) : Int) ((0 : Nat) : Int) := by
    refine up (Y := fun i => X ((k + i : Nat) : Int) (i : Int)) n ?_ fun i hi hn => ?_
    · exact hX _ _ ⟨fun c => absurd c (by omega), fun _ => h⟩
    · refine hX _ _ ⟨fun _ => ⟨⟨by omega, by omega⟩, ?_⟩, fun c => absurd (show (i : Int) < _ by omega) c⟩
      rw [nn, gD (by omega), marks_at k n i (by omega), show (k : Int) + (i : Int) = ((k + i : Nat) : Int) by omega]
      refine tG (show fcmp .neq .f32 (fl ((k + i : Nat) : Int)) (itof .f32 ((k + i : Nat) : Int)) = false from fl_neq _) ?_
      rw [w1 (by omega), w1 (by omega)]; exact hn
  exact key
theorem markInt64S_wp {l : List Int} {k : Nat} {K : Int → List Int → Prop} (hl : l.length ≤ 2 ^ 20) (hk : k ≤ 2 ^ 40) (h : K ((k + l.length : Nat) : Int) (marksI k l.length)) : laws_markInt64S.wp l (k : Int) K := by
  intro X hX
  have key : X (marksI k 0 ++ l.drop 0) ((k + 0 : Nat) : Int) ((0 : Nat) : Int) := by
    refine up (Y := fun i => X (marksI k i ++ l.drop i) ((k + i : Nat) : Int) (i : Int)) l.length ?_ fun i hi hn => ?_
    · refine hX _ _ _ ⟨fun c => absurd c (by rw [List.length_append, marksI_length, List.length_drop]; omega), fun _ => ?_⟩
      rw [List.drop_length, List.append_nil]; exact h
    · have hlen : (marksI k i ++ l.drop i).length = l.length := by rw [List.length_append, marksI_length, List.length_drop]; omega
      refine hX _ _ _ ⟨fun _ => ⟨⟨by omega, by rw [hlen]; omega⟩, ?_⟩, fun c => absurd (show (i : Int) < _ by rw [hlen]; omega) c⟩
      rw [nn, w1 (by omega), w1 (by omega)]
      have e := marksI_step (l := l) (i := i) (m := l.length - i) k (by omega) hi
      rw [show (k : Int) + (i : Int) = ((k + i : Nat) : Int) by omega] at e
      
      rw [e]; exact hn
  exact key
theorem heldInt64S_wp {k n : Nat} {K : Int → Prop} (hl : n ≤ 2 ^ 20) (hk : k ≤ 2 ^ 40) (h : K ((k + n : Nat) : Int)) : laws_heldInt64S.wp (marksI k n) (k : Int) K := by
  intro X hX
  have hlen : (marksI k n).length = n := marksI_length _ _
  have key : X ((k + 0 : Nat) : Int) ((0 : Nat) : Int) := by
    refine up (Y := fun i => X ((k + i : Nat) : Int) (i : Int)) n ?_ fun i hi hn => ?_
    · exact hX _ _ ⟨fun c => absurd c (by omega), fun _ => h⟩
    · refine hX _ _ ⟨fun _ => ⟨⟨by omega, by omega⟩, ?_⟩, fun c => absurd (show (i : Int) < _ by omega) c⟩
      rw [nn, gD (by omega), marksI_at k n i (by omega), show (k : Int) + (i : Int) = ((k + i : Nat) : Int) by omega]
      refine tP rfl ?_
      rw [w1 (by omega), w1 (by omega)]; exact hn
  exact key

end Go.Proofs.Ytkaidcgelbhofaa.G

namespace Go.Proofs.Ytkaidcgelbhofaa.G
open Go Go.Ab
set_option maxRecDepth 100000
set_option linter.unusedVariables false
set_option linter.unusedSimpArgs false
set_option maxHeartbeats 1000000
def pFin (x : Nat) : Bool := fcmp .eql .f32 (fop .sub .f32 x x) (cz .f32 0)
def pAll (l : List Nat) : Bool := l.all pFin
theorem pAll_cons (x : Nat) (l : List Nat) : pAll (x :: l) = (pFin x && pAll l) := rfl
/-- A loop that ends early where something does not hold. -/
theorem all_loop {α : Type} (l : List α) (p : α → Bool) {X : Int → Prop} {T F : Prop} (hX : ∀ (i : Nat) (h : i < l.length), ((p l[i] = true → X ((i + 1 : Nat) : Int)) ∧ (p l[i] = false → F)) → X (i : Int))
    (hend : T → X (l.length : Int)) (ht : l.all p = true → T) (hf : l.all p = false → F) : X (0 : Int) := by
  have key := up (Y := fun i => ((l.drop i).all p = true → T) → ((l.drop i).all p = false → F) → X (i : Int)) l.length (fun h _ => hend (h (by rw [List.drop_length]; rfl))) fun i hi hn h1 h2 => ?_
  · exact key (by rw [List.drop_zero]; exact ht) (by rw [List.drop_zero]; exact hf)
  · rw [dropC hi, List.all_cons] at h1 h2
    refine hX i hi ⟨fun e => hn (fun a => h1 (by rw [e, a]; rfl)) (fun a => h2 (by rw [e, a]; rfl)), fun e => h2 (by rw [e]; rfl)⟩
/-- A loop that makes a list, and ends early where something does not hold. -/
theorem map_loop {α β : Type} (l : List α) (p : α → Bool) (f : α → β) {X : List β → Int → Prop} {T F : Prop} (hX : ∀ (i : Nat) (h : i < l.length) (o : List β), o.length = i → ((p l[i] = true → X (o ++ [f l[i]]) ((i + 1 : Nat) : Int)) ∧ (p l[i] = false → F)) → X o (i : Int))
    (hend : T → X (l.map f) (l.length : Int)) (ht : l.all p = true → T) (hf : l.all p = false → F) : X [] (0 : Int) := by
  have key := up (Y := fun i => ((l.drop i).all p = true → T) → ((l.drop i).all p = false → F) → X ((l.take i).map f) (i : Int)) l.length (fun h _ => by rw [List.take_length]; exact hend (h (by rw [List.drop_length]; rfl))) fun i hi hn h1 h2 => ?_
  · have := key (by rw [List.drop_zero]; exact ht) (by rw [List.drop_zero]; exact hf)
    rw [List.take_zero] at this; exact this
  · rw [dropC hi, List.all_cons] at h1 h2
    refine hX i hi _ (by rw [List.length_map, List.length_take]; omega) ⟨fun e => ?_, fun e => h2 (by rw [e]; rfl)⟩
    have := hn (fun a => h1 (by rw [e, a]; rfl)) (fun a => h2 (by rw [e, a]; rfl))
    rw [List.take_succ_eq_append_getElem hi, List.map_append] at this
    exact this
theorem spec_l01Finite_wp {a : Nat} {K : Bool → Prop} (h : K (pFin a)) : spec_l01Finite.wp a K := h
theorem impl_IsFinite_wp {a : Nat} {K : Bool → Prop} (h : K (pFin a)) : impl_IsFinite.wp a K := h
theorem spec_l02Finite_wp {l : List Nat} {K : Bool → Prop} (hl : l.length ≤ 2 ^ 20) (h : K (pAll l)) : spec_l02Finite.wp l K := by
  intro X hX
  refine all_loop l pFin (X := X) (T := K true) (F := K false) (fun i hi hh => ?_) (fun ht => hX _ ⟨fun c => absurd c (by omega), fun _ => ht⟩) (fun e => by rw [pAll, e] at h; exact h) (fun e => by rw [pAll, e] at h; exact h)
  refine hX _ ⟨fun _ => ⟨⟨by omega, by omega⟩, spec_l01Finite_wp ?_⟩, fun c => absurd (show (i : Int) < l.length by omega) c⟩
  rw [nn, gD hi, w1 (by omega)]; exact hh
theorem impl_areFinite_wp {ll : List (List Nat)} {K : Bool → Prop} (hll : ll.length ≤ 2 ^ 20) (hl : ∀ l ∈ ll, l.length ≤ 2 ^ 20) (h : K (ll.all pAll)) : impl_areFinite.wp ll K := by
  intro X hX
  refine all_loop ll pAll (X := X) (T := K true) (F := K false) (fun i hi hh => ?_) (fun ht => hX _ ⟨fun c => absurd c (by omega), fun _ => ht⟩) (fun e => by rw [e] at h; exact h) (fun e => by rw [e] at h; exact h)
  refine hX _ ⟨fun _ => ⟨⟨by omega, by omega⟩, fun Y hY => ?_⟩, fun c => absurd (show (i : Int) < ll.length by omega) c⟩
  have hlen := hl ll[i] (List.getElem_mem hi)
  rw [nn, gD hi, w1 (by omega)] at hY
  refine all_loop ll[i] pFin (X := Y) (T := X ((i + 1 : Nat) : Int)) (F := K false) (fun j hj h2 => ?_) (fun ht => hY _ ⟨fun c => absurd c (by omega), fun _ => ht⟩) (fun e => hh.1 e) (fun e => hh.2 e)
  refine hY _ ⟨fun _ => ⟨⟨by omega, by omega⟩, impl_IsFinite_wp ?_⟩, fun c => absurd (show (j : Int) < ll[i].length by omega) c⟩
  rw [nn, gD hj, w1 (by omega)]; exact h2
theorem impl_areFinite1_wp {l : List Nat} {K : Bool → Prop} (hl : l.length ≤ 2 ^ 20) (h : K (pAll l)) : impl_areFinite.wp [l] K := by
  refine impl_areFinite_wp (by simp) (fun x hx => by rw [List.mem_singleton] at hx; subst hx; exact hl) ?_
  rw [List.all_cons, List.all_nil, Bool.and_true]; exact h
theorem impl_within_wp {a b c : Int} {K : Bool → Prop} (h : K (decide (b ≤ a ∧ a ≤ c))) : impl_within.wp a b c K := by
  refine ⟨fun h1 => ?_, fun h1 => ?_⟩
  · have : decide (b ≤ a ∧ a ≤ c) = decide (a ≤ c) := by simp [h1]
    rw [this] at h; exact h
  · have : decide (b ≤ a ∧ a ≤ c) = false := by simp [h1]
    rw [this] at h; exact h
theorem spec_l00In_wp {a b c : Int} {K : Bool → Prop} (h : K (decide (b ≤ a ∧ a ≤ c))) : spec_l00In.wp a b c K := by
  refine ⟨fun h1 => ?_, fun h1 => ?_⟩
  · have : decide (b ≤ a ∧ a ≤ c) = decide (a ≤ c) := by simp [h1]
    rw [this] at h; exact h
  · have : decide (b ≤ a ∧ a ≤ c) = false := by simp [h1]
    rw [this] at h; exact h
theorem bT {b : Bool} {A B : Prop} (h1 : b = true → A) (h2 : b = false → B) : (b = true → A) ∧ (b = false → B) := ⟨h1, h2⟩
def isL (l : List Nat) : Bool := decide (1 ≤ l.length ∧ l.length ≤ 128) && pAll l
theorem spec_l02Is_wp {l : List Nat} {K : Bool → Prop} (hl : l.length ≤ 2 ^ 20) (h : K (isL l)) : spec_l02Is.wp l K := by
  refine ⟨fun h1 => ⟨fun h2 => spec_l02Finite_wp hl ?_, fun h2 => ?_⟩, fun h1 => ?_⟩
  · rw [isL, decide_eq_true (show 1 ≤ l.length ∧ l.length ≤ 128 by omega), Bool.true_and] at h; exact h
  · rw [isL, decide_eq_false (show ¬(1 ≤ l.length ∧ l.length ≤ 128) by omega), Bool.false_and] at h; exact h
  · rw [isL, decide_eq_false (show ¬(1 ≤ l.length ∧ l.length ≤ 128) by omega), Bool.false_and] at h; exact h
theorem impl_IsList_wp {l : List Nat} {K : Bool → Prop} (hl : l.length ≤ 2 ^ 20) (h : K (isL l)) : impl_IsList.wp l K := by
  refine impl_within_wp ⟨fun h1 => ?_, fun h1 => ?_⟩
  · have h1 := of_decide_eq_true h1
    refine impl_areFinite1_wp hl ?_
    rw [isL, decide_eq_true (show 1 ≤ l.length ∧ l.length ≤ 128 by omega), Bool.true_and] at h; exact h
  · have h1 := of_decide_eq_false h1
    rw [isL, decide_eq_false (show ¬(1 ≤ l.length ∧ l.length ≤ 128) by omega), Bool.false_and] at h; exact h
def isOver (x : Nat) : Bool := pFin x && fcmp .gtr .f32 x (cz .f32 0)
def isLeast (x : Nat) : Bool := pFin x && fcmp .geq .f32 x (cz .f32 0)
theorem spec_l02Above_wp {a : Nat} {K : Bool → Prop} (h : K (isOver a)) : spec_l02Above.wp a K := by
  refine spec_l01Finite_wp ⟨fun h1 => ?_, fun h1 => ?_⟩ <;> (rw [isOver, h1] at h; exact h)
theorem impl_isOver_wp {a : Nat} {K : Bool → Prop} (h : K (isOver a)) : impl_isOver.wp a K := by
  refine impl_IsFinite_wp ⟨fun h1 => ?_, fun h1 => ?_⟩ <;> (rw [isOver, h1] at h; exact h)
theorem spec_l02Least_wp {a : Nat} {K : Bool → Prop} (h : K (isLeast a)) : spec_l02Least.wp a K := by
  refine spec_l01Finite_wp ⟨fun h1 => ?_, fun h1 => ?_⟩ <;> (rw [isLeast, h1] at h; exact h)
theorem impl_isLeast_wp {a : Nat} {K : Bool → Prop} (h : K (isLeast a)) : impl_isLeast.wp a K := by
  refine impl_IsFinite_wp ⟨fun h1 => ?_, fun h1 => ?_⟩ <;> (rw [isLeast, h1] at h; exact h)
def isShare (x : Nat) : Bool := fcmp .geq .f32 x (cz .f32 0) && fcmp .leq .f32 x (cz .f32 1065353216)
theorem spec_l02Share_wp {a : Nat} {K : Bool → Prop} (h : K (isShare a)) : spec_l02Share.wp a K := by
  refine ⟨fun h1 => ?_, fun h1 => ?_⟩ <;> (rw [isShare, h1] at h; exact h)
theorem impl_isShare_wp {a : Nat} {K : Bool → Prop} (h : K (isShare a)) : impl_isShare.wp a K := by
  refine ⟨fun h1 => ?_, fun h1 => ?_⟩ <;> (rw [isShare, h1] at h; exact h)
/-! ### integers -/
def bnd (m : Int) (l : List Int) : Bool := l.all fun n => decide (-m ≤ n ∧ n ≤ m)
def isI (l : List Int) : Bool := decide (1 ≤ l.length ∧ l.length ≤ 128) && bnd 1000000 l
theorem spec_l02Bound_wp {l : List Int} {m : Int} {K : Bool → Prop} (hl : l.length ≤ 2 ^ 20) (hm : 0 ≤ m ∧ m ≤ 2 ^ 40) (h : K (bnd m l)) : spec_l02Bound.wp l m K := by
  intro X hX
  refine all_loop l (fun n => decide (-m ≤ n ∧ n ≤ m)) (X := X) (T := K true) (F := K false) (fun i hi hh => ?_) (fun ht => hX _ ⟨fun c => absurd c (by omega), fun _ => ht⟩) (fun e => by rw [bnd, e] at h; exact h) (fun e => by rw [bnd, e] at h; exact h)
  refine hX _ ⟨fun _ => ⟨⟨by omega, by omega⟩, spec_l00In_wp ?_⟩, fun c => absurd (show (i : Int) < l.length by omega) c⟩
  rw [nn, gD hi, w1 (by omega), wI (show -9223372036854775808 ≤ (0 : Int) - m ∧ (0 : Int) - m < 9223372036854775808 by omega), Int.zero_sub]; exact hh
theorem impl_areWithin_wp {l : List Int} {m : Int} {K : Bool → Prop} (hl : l.length ≤ 2 ^ 20) (hm : 0 ≤ m ∧ m ≤ 2 ^ 40) (h : K (bnd m l)) : impl_areWithin.wp l m K := by
  intro X hX
  refine all_loop l (fun n => decide (-m ≤ n ∧ n ≤ m)) (X := X) (T := K true) (F := K false) (fun i hi hh => ?_) (fun ht => hX _ ⟨fun c => absurd c (by omega), fun _ => ht⟩) (fun e => by rw [bnd, e] at h; exact h) (fun e => by rw [bnd, e] at h; exact h)
  refine hX _ ⟨fun _ => ⟨⟨by omega, by omega⟩, impl_within_wp ?_⟩, fun c => absurd (show (i : Int) < l.length by omega) c⟩
  rw [nn, gD hi, w1 (by omega), wI (show -9223372036854775808 ≤ (0 : Int) - m ∧ (0 : Int) - m < 9223372036854775808 by omega), Int.zero_sub]; exact hh
theorem spec_l02Integers_wp {l : List Int} {K : Bool → Prop} (hl : l.length ≤ 2 ^ 20) (h : K (isI l)) : spec_l02Integers.wp l K := by
  refine ⟨fun h1 => ⟨fun h2 => spec_l02Bound_wp hl (by omega) ?_, fun h2 => ?_⟩, fun h1 => ?_⟩
  · rw [isI, decide_eq_true (show 1 ≤ l.length ∧ l.length ≤ 128 by omega), Bool.true_and] at h; exact h
  · rw [isI, decide_eq_false (show ¬(1 ≤ l.length ∧ l.length ≤ 128) by omega), Bool.false_and] at h; exact h
  · rw [isI, decide_eq_false (show ¬(1 ≤ l.length ∧ l.length ≤ 128) by omega), Bool.false_and] at h; exact h
theorem impl_AreIntegers_wp {l : List Int} {K : Bool → Prop} (hl : l.length ≤ 2 ^ 20) (h : K (isI l)) : impl_AreIntegers.wp l K := by
  refine impl_within_wp ⟨fun h1 => ?_, fun h1 => ?_⟩
  · have h1 := of_decide_eq_true h1
    refine impl_areWithin_wp hl (by omega) ?_
    rw [isI, decide_eq_true (show 1 ≤ l.length ∧ l.length ≤ 128 by omega), Bool.true_and] at h; exact h
  · have h1 := of_decide_eq_false h1
    rw [isI, decide_eq_false (show ¬(1 ≤ l.length ∧ l.length ≤ 128) by omega), Bool.false_and] at h; exact h
theorem impl_finiteList_wp {l : List Nat} {K : Bool → Bool → Prop} (hl : l.length ≤ 2 ^ 20) (h : K (pAll l) (pAll l)) : impl_finiteList.wp l K := by
  refine impl_areFinite1_wp hl ⟨fun h1 => ?_, fun h1 => ?_⟩ <;> (rw [h1] at h; exact h)
theorem spec_l02List_wp {l : List Nat} {K : Bool → Bool → Prop} (hl : l.length ≤ 2 ^ 20) (h : K (pAll l) (pAll l)) : spec_l02List.wp l K := by
  refine spec_l02Finite_wp hl ⟨fun h1 => ?_, fun h1 => ?_⟩ <;> (rw [h1] at h; exact h)

end Go.Proofs.Ytkaidcgelbhofaa.G

namespace Go.Proofs.Ytkaidcgelbhofaa.G
open Go Go.Ab
set_option maxRecDepth 100000
set_option linter.unusedVariables false
set_option linter.unusedSimpArgs false
set_option maxHeartbeats 1000000
def lineLen (n : Nat) : Bool := decide (n = 1) || decide (n = 3) || decide (n = 7) || decide (n = 15) || decide (n = 31) || decide (n = 63)
def isLn (l : List Nat) : Bool := lineLen l.length && pAll l
theorem line_bits : ∀ n : Nat, n < 65 → 2 ≤ n → decide (ibits .and .i64 (n : Int) (IntKind.i64.wrap ((n : Int) - 1)) = 0) = lineLen (n - 1) := by decide +kernel
theorem ln_yes {l : List Nat} (h : l.length = 1 ∨ l.length = 3 ∨ l.length = 7 ∨ l.length = 15 ∨ l.length = 31 ∨ l.length = 63) : isLn l = pAll l := by
  have : lineLen l.length = true := by simp [lineLen]; omega
  rw [isLn, this, Bool.true_and]
theorem ln_no {l : List Nat} (h : ¬ (l.length = 1 ∨ l.length = 3 ∨ l.length = 7 ∨ l.length = 15 ∨ l.length = 31 ∨ l.length = 63)) : isLn l = false := by
  have : lineLen l.length = false := by simp [lineLen]; omega
  rw [isLn, this, Bool.false_and]
theorem ln_len {l : List Nat} (h : isLn l = true) : 1 ≤ l.length ∧ l.length ≤ 63 := by
  simp only [isLn, Bool.and_eq_true, lineLen, Bool.or_eq_true, decide_eq_true_eq] at h; omega
theorem spec_l07Line_wp {l : List Nat} {K : Bool → Prop} (hl : l.length ≤ 2 ^ 20) (h : K (isLn l)) : spec_l07Line.wp l K := by
  have y : (l.length = 1 ∨ l.length = 3 ∨ l.length = 7 ∨ l.length = 15 ∨ l.length = 31 ∨ l.length = 63) → spec_l02Finite.wp l (fun b => K b) := fun e => spec_l02Finite_wp hl (by rw [ln_yes e] at h; exact h)
  refine ⟨fun c => y (by omega), fun c1 => ⟨fun c => y (by omega), fun c2 => ⟨fun c => y (by omega), fun c3 => ⟨fun c => y (by omega), fun c4 => ⟨fun c => y (by omega), fun c5 => ⟨fun c => y (by omega), fun c6 => ?_⟩⟩⟩⟩⟩⟩
  rw [ln_no (by omega)] at h; exact h
theorem impl_isLine_wp {l : List Nat} {K : Bool → Prop} (hl : l.length ≤ 2 ^ 20) (h : K (isLn l)) : impl_isLine.wp l K := by
  have e : IntKind.i64.wrap ((l.length : Int) + 1) = ((l.length + 1 : Nat) : Int) := w1 (by omega)
  unfold impl_isLine.wp
  rw [e]
  refine ⟨fun c1 => ⟨fun c2 => ?_, fun c2 => ?_⟩, fun c1 => ?_⟩
  · have hb := line_bits (l.length + 1) (by omega) (by omega)
    rw [Nat.add_sub_cancel] at hb
    refine ⟨fun c3 => impl_areFinite1_wp hl ?_, fun c3 => ?_⟩
    · rw [decide_eq_true c3] at hb
      rw [isLn, ← hb, Bool.true_and] at h; exact h
    · rw [decide_eq_false c3] at hb
      rw [isLn, ← hb, Bool.false_and] at h; exact h
  · rw [ln_no (by omega)] at h; exact h
  · rw [ln_no (by omega)] at h; exact h
def force (s x : Nat) : Nat := fop .mul .f32 (fop .mul .f32 s s) x
def mq (d : Nat) : Nat := fop .quo .f32 (cz .f32 3212836864) d
/-- The first numbers of g and d. -/
def fw (f : List Nat) (s : Nat) : Nat → List Nat × List Nat
  | 0 => ([], [])
  | n + 1 => if n = 0 then ([force s (f.getD 0 0)], [cz .f32 1073741824]) else
      ((fw f s n).1 ++ [fop .sub .f32 (force s (f.getD n 0)) (fop .mul .f32 (mq ((fw f s n).2.getD (n - 1) 0)) ((fw f s n).1.getD (n - 1) 0))], (fw f s n).2 ++ [fop .add .f32 (cz .f32 1073741824) (mq ((fw f s n).2.getD (n - 1) 0))])
theorem fw_len (f : List Nat) (s : Nat) : ∀ n, (fw f s n).1.length = n ∧ (fw f s n).2.length = n
  | 0 => ⟨rfl, rfl⟩
  | n + 1 => by
    rw [fw]
    split
    · rename_i h; subst h; exact ⟨rfl, rfl⟩
    · have := fw_len f s n
      simp only [List.length_append, List.length_cons, List.length_nil, this]; exact ⟨trivial, trivial⟩
def bkS (n : Nat) (g d : List Nat) (u : List Nat) (i : Nat) : List Nat := u.set i (fop .quo .f32 (if i + 1 < n then fop .add .f32 (g.getD i 0) (u.getD (i + 1) 0) else g.getD i 0) (d.getD i 0))
def bk (n : Nat) (g d : List Nat) : Nat → List Nat → List Nat
  | 0, u => u
  | k + 1, u => bk n g d k (bkS n g d u k)
theorem bkS_len (n : Nat) (g d u : List Nat) (i : Nat) : (bkS n g d u i).length = u.length := by simp [bkS]
theorem bk_len (n : Nat) (g d : List Nat) : ∀ (k : Nat) (u : List Nat), (bk n g d k u).length = u.length
  | 0, _ => rfl
  | k + 1, u => by rw [bk, bk_len, bkS_len]
theorem bk_loop {n : Nat} {g d : List Nat} {X : List Nat → Int → Prop} {E : List Nat → Prop} (hn : n ≤ 64) (hg : g.length = n) (hd : d.length = n) (hX : ∀ (u : List Nat) (i : Int), (((0 : Int) ≤ i → (0 ≤ i ∧ i < (g.length : Int)) ∧ (((IntKind.i64.wrap (i + (1 : Int))) < (n : Int) → (0 ≤ (IntKind.i64.wrap (i + (1 : Int))) ∧ (IntKind.i64.wrap (i + (1 : Int))) < (u.length : Int)) ∧ (0 ≤ i ∧ i < (d.length : Int)) ∧ (0 ≤ i ∧ i < (u.length : Int)) ∧ X (u.set (i).toNat (fop .quo .f32 (fop .add .f32 (g.getD (i).toNat (0 : Nat)) (u.getD ((IntKind.i64.wrap (i + (1 : Int)))).toNat (0 : Nat))) (d.getD (i).toNat (0 : Nat)))) (IntKind.i64.wrap (i - (1 : Int)))) ∧ (¬((IntKind.i64.wrap (i + (1 : Int))) < (n : Int)) → (0 ≤ i ∧ i < (d.length : Int)) ∧ (0 ≤ i ∧ i < (u.length : Int)) ∧ X (u.set (i).toNat (fop .quo .f32 (g.getD (i).toNat (0 : Nat)) (d.getD (i).toNat (0 : Nat)))) (IntKind.i64.wrap (i - (1 : Int)))))) ∧ (¬((0 : Int) ≤ i) → E u)) → X u i) :
    ∀ (k : Nat) (u : List Nat), k ≤ n → u.length = n → E (bk n g d k u) → X u (IntKind.i64.wrap ((k : Int) - 1))
  | 0, u, _, _, h => by rw [wI (by omega)]; exact hX _ _ ⟨fun c => absurd c (by omega), fun _ => h⟩
  | k + 1, u, hk, hu, h => by
    have ih := bk_loop hn hg hd hX k (bkS n g d u k) (by omega) (by rw [bkS_len]; exact hu) h
    rw [show (((k + 1 : Nat) : Int) - 1) = (k : Int) by omega, wI (n := (k : Int)) (by omega)]
    refine hX _ _ ⟨fun _ => ⟨by omega, fun c => ?_, fun c => ?_⟩, fun c => absurd (show (0 : Int) ≤ k by omega) c⟩
    · rw [w1 (by omega)] at c ⊢
      refine ⟨by omega, by omega, by omega, ?_⟩
      rw [bkS, if_pos (by omega)] at ih
      exact ih
    · rw [w1 (by omega)] at c
      refine ⟨by omega, by omega, ?_⟩
      rw [bkS, if_neg (by omega)] at ih
      exact ih
def slv (f : List Nat) (s : Nat) : List Nat := bk f.length (fw f s f.length).1 (fw f s f.length).2 f.length (List.replicate f.length 0)
theorem slv_len (f : List Nat) (s : Nat) : (slv f s).length = f.length := by rw [slv, bk_len, List.length_replicate]
theorem spec_l07Solve_wp {l : List Nat} {s : Nat} {K : List Nat → Prop} (h1 : 1 ≤ l.length ∧ l.length ≤ 63) (h : K (slv l s)) : spec_l07Solve.wp l s K := by
  refine ⟨by omega, fun X hX => ?_⟩
  have key : X (fw l s (0 + 1)).1 (fw l s (0 + 1)).2 ((0 + 1 : Nat) : Int) := by
    refine up (Y := fun i => X (fw l s (i + 1)).1 (fw l s (i + 1)).2 ((i + 1 : Nat) : Int)) (l.length - 1) ?_ fun i hi hn => ?_
    · rw [show l.length - 1 + 1 = l.length by omega]
      obtain ⟨k1, k2⟩ := fw_len l s l.length
      refine hX _ _ _ ⟨fun c => absurd c (by omega), fun _ => ⟨⟨by omega, by omega, by omega, by omega⟩, fun Y hY => ?_⟩⟩
      exact bk_loop (by omega) k1 k2 hY l.length _ (Nat.le_refl _) (by rw [List.length_replicate]; rfl) h
    · obtain ⟨k1, k2⟩ := fw_len l s (i + 1)
      rw [show (((i + 1) + 1 : Nat) : Int) = ((i + 1 + 1 : Nat) : Int) from rfl] at hn
      rw [fw, if_neg (by omega), Nat.add_sub_cancel] at hn
      refine hX _ _ _ ⟨fun _ => ?_, fun c => absurd (show ((i + 1 : Nat) : Int) < l.length by omega) c⟩
      rw [show IntKind.i64.wrap (((i + 1 : Nat) : Int) - 1) = (i : Int) by rw [wI (by omega)]; omega, w1 (by omega), nn, nn, len1, len1]
      exact ⟨by omega, by omega, by omega, by omega, by omega, hn⟩
  exact key
theorem sl_both (l : List Nat) (s : Nat) (hl : l.length ≤ 2 ^ 20) : ∃ out ok, (∀ K : List Nat → Bool → Prop, K out ok → spec_SolveLine.wp l s K) ∧ (∀ K : List Nat → Bool → Prop, K out ok → impl_SolveLine.wp l s K) ∧ out.length ≤ 2 ^ 20 := by
  by_cases h1 : isLn l = true
  · have hn := ln_len h1
    by_cases h2 : isOver s = true
    · have hlen := slv_len l s
      have impl : ∀ K : List Nat → Bool → Prop, K (bif pAll (slv l s) then slv l s else []) (pAll (slv l s)) → impl_SolveLine.wp l s K := by
        intro K hK
        have hfin : impl_finiteList.wp (slv l s) (fun a b => (a = true → K (slv l s) b) ∧ (a = false → K [] b)) := impl_finiteList_wp (by omega) ⟨fun c => by rw [c] at hK ⊢; exact hK, fun c => by rw [c] at hK ⊢; exact hK⟩
        refine impl_isLine_wp hl (tE h1 (impl_isOver_wp (tE h2 fun X hX => ?_)))
        have key : X (fw l s 0).1 (fw l s 0).2 ((0 : Nat) : Int) := by
          refine up (Y := fun i => X (fw l s i).1 (fw l s i).2 (i : Int)) l.length ?_ fun i hi hn => ?_
          · obtain ⟨k1, k2⟩ := fw_len l s l.length
            refine hX _ _ _ ⟨fun c => absurd c (by omega), fun _ => ⟨⟨by omega, by omega, by omega, by omega⟩, fun Y hY => ?_⟩⟩
            refine bk_loop (by omega) k1 k2 hY l.length _ (Nat.le_refl _) (by rw [List.length_replicate]; rfl) hfin
          · obtain ⟨k1, k2⟩ := fw_len l s i
            refine hX _ _ _ ⟨fun _ => ⟨by omega, fun c => ?_, fun c => ?_⟩, fun c => absurd (show (i : Int) < l.length by omega) c⟩
            · obtain rfl : i = 0 := by omega
              rw [w1 (by omega), len1, len1]
              exact ⟨by omega, by omega, hn⟩
            · rw [fw, if_neg (by omega)] at hn
              rw [show IntKind.i64.wrap ((i : Int) - 1) = ((i - 1 : Nat) : Int) by rw [wI (by omega)]; omega, w1 (by omega), nn, nn, len1, len1]
              exact ⟨by omega, by omega, by omega, by omega, hn⟩
        exact key
      refine ⟨bif pAll (slv l s) then slv l s else [], pAll (slv l s), fun K hK => spec_l07Line_wp hl (tE h1 (spec_l02Above_wp (tE h2 (spec_l07Solve_wp hn (spec_l02Finite_wp (by omega) ⟨fun c => ?_, fun c => ?_⟩))))), impl, ?_⟩
      · rw [c] at hK; exact hK
      · rw [c] at hK; exact hK
      · cases pAll (slv l s)
        · exact Nat.zero_le _
        · show (slv l s).length ≤ _; omega
    · have h2 : isOver s = false := by simpa using h2
      exact ⟨[], false, fun K hK => spec_l07Line_wp hl (tE h1 (spec_l02Above_wp (tG h2 hK))), fun K hK => impl_isLine_wp hl (tE h1 (impl_isOver_wp (tG h2 hK))), Nat.zero_le _⟩
  · have h1 : isLn l = false := by simpa using h1
    exact ⟨[], false, fun K hK => spec_l07Line_wp hl (tG h1 hK), fun K hK => impl_isLine_wp hl (tG h1 hK), Nat.zero_le _⟩

end Go.Proofs.Ytkaidcgelbhofaa.G

namespace Go.Proofs.Ytkaidcgelbhofaa.G
open Go Go.Ab
set_option maxRecDepth 100000
set_option linter.unusedVariables false
set_option linter.unusedSimpArgs false
set_option maxHeartbeats 1000000
theorem pureExactSolveLine (l0 : List Nat) (a1 : Nat) : laws_FnExactSolveLine.wp l0 a1 (fun b => b = true) := by
  refine ⟨fun _ => rfl, fun hb => ?_⟩
  have hl : l0.length ≤ 2 ^ 20 := by omega
  obtain ⟨out, ok, hs, hi, ho⟩ := sl_both l0 a1 hl
  repeat' (first
    | exact rfl
    | refine hs _ ?_
    | refine hi _ ?_
    | refine toFloat32S_wp (by omega) ?_
    | refine szFloat32S_wp (by omega) (by omega) ?_
    | refine eqFloat32S_wp (by first | omega | simp) ?_
    | refine markFloat32S_wp (k := 1) (by first | omega | simp) (by omega) ?_
    | refine markFloat32S_wp (by first | omega | simp) (by omega) ?_
    | refine heldFloat32S_wp (k := 1) (by first | omega | simp) (by omega) ?_
    | refine toInt64S_wp (by omega) ?_
    | refine eqInt64S_wp (by first | omega | simp) ?_
    | refine markInt64S_wp (k := 1) (by first | omega | simp) (by omega) ?_
    | refine markInt64S_wp (by first | omega | simp) (by omega) ?_
    | refine heldInt64S_wp (k := 1) (by first | omega | simp) (by omega) ?_
    | refine toBoolS_wp (by omega) ?_
    | refine szBoolS_wp (by omega) (by omega) ?_
    | refine eqBoolS_wp (by first | omega | simp) ?_
    | refine markBoolS_wp (k := 1) (by first | omega | simp) (by omega) ?_
    | refine markBoolS_wp (by first | omega | simp) (by omega) ?_
    | refine toCostS_wp (by omega) ?_
    | refine szCostS_wp (by omega) (by omega) ?_
    | refine eqCostS_wp (by first | omega | simp) ?_
    | refine markCostS_wp (k := 1) (by first | omega | simp) (by omega) ?_
    | refine markCostS_wp (by first | omega | simp) (by omega) ?_
    | refine toFloat32SS_wp (by omega) ?_
    | refine szFloat32SS_wp (by omega) (by omega) ?_
    | refine eqFloat32SS_wp (by first | omega | simp) ?_
    | refine heldFloat32SS_wp (k := 1) (by first | omega | simp) (by omega) ?_
    | refine toCostSS_wp (by omega) ?_
    | refine szCostSS_wp (by omega) (by omega) ?_
    | refine eqCostSS_wp (by first | omega | simp) ?_
    | refine tT ?_
    | refine tB ?_
    | refine tN (by omega) ?_
    | refine tP (by first | rfl | omega) ?_)

end Go.Proofs.Ytkaidcgelbhofaa.G

