/-
  What the formulas say, over numbers and lists alone. Nothing here is trusted.
-/
import Derived.Test.YtfieljajhmpbiaaMExactStoreTakesWa
namespace Go.Proofs.Ytfieljajhmpbiaa.G
open Go Go.Ab
set_option maxRecDepth 100000
set_option linter.unusedVariables false
set_option linter.unusedSimpArgs false
set_option maxHeartbeats 1000000
/-! ### truth -/
theorem tT {A B : Prop} (h : A) : (true = true → A) ∧ (true = false → B) := ⟨fun _ => h, fun c => (by cases c)⟩
theorem tF {A B : Prop} (h : B) : (false = true → A) ∧ (false = false → B) := ⟨fun c => (by cases c), fun _ => h⟩
theorem tB {A B : Prop} {b : Bool} (h : A) : ((b == b) = true → A) ∧ ((b == b) = false → B) := ⟨fun _ => h, fun c => (by simp at c)⟩
theorem tE {A B : Prop} {b : Bool} (e : b = true) (h : A) : (b = true → A) ∧ (b = false → B) := ⟨fun _ => h, fun c => (by rw [e] at c; cases c)⟩
theorem tG {A B : Prop} {b : Bool} (e : b = false) (h : B) : (b = true → A) ∧ (b = false → B) := ⟨fun c => (by rw [e] at c; cases c), fun _ => h⟩
theorem tP {p A B : Prop} (e : p) (h : A) : (p → A) ∧ (¬p → B) := ⟨fun _ => h, fun c => absurd e c⟩
theorem tN {p A B : Prop} (e : ¬p) (h : B) : (p → A) ∧ (¬p → B) := ⟨fun c => absurd c e, fun _ => h⟩
theorem tI {b : Bool} {K : Bool → Prop} {A B : Prop} (h1 : b = true → A) (h2 : b = false → B) : (b = true → A) ∧ (b = false → B) := ⟨h1, h2⟩
/-! ### loops -/
theorem up {Y : Nat → Prop} (n : Nat) (last : Y n) (step : ∀ i, i < n → Y (i + 1) → Y i) : Y 0 := by
  have key : ∀ d i, i + d = n → Y i := by
    intro d
    induction d with
    | zero => intro i h; obtain rfl : i = n := by omega
              exact last
    | succ d ih => intro i h; exact step i (by omega) (ih (i + 1) (by omega))
  exact key n 0 (by omega)
theorem upFrom {Y : Nat → Prop} (k n : Nat) (hk : k ≤ n) (last : Y n) (step : ∀ i, k ≤ i → i < n → Y (i + 1) → Y i) : Y k := by
  have key : ∀ d i, k ≤ i → i + d = n → Y i := by
    intro d
    induction d with
    | zero => intro i _ h; obtain rfl : i = n := by omega
              exact last
    | succ d ih => intro i h0 h; exact step i h0 (by omega) (ih (i + 1) (by omega) (by omega))
  exact key (n - k) k (Nat.le_refl _) (by omega)
theorem w1 {i : Nat} (h : i < 4611686018427387904) : IntKind.i64.wrap ((i : Int) + (1 : Int)) = ((i + 1 : Nat) : Int) := wrap_succ (by omega)
theorem wI {n : Int} (h : -9223372036854775808 ≤ n ∧ n < 9223372036854775808) : IntKind.i64.wrap n = n := wrap_i64 h.1 h.2
theorem nn (i : Nat) : ((i : Int)).toNat = i := rfl
theorem gD {α : Type} {l : List α} {i : Nat} (h : i < l.length) (d : α) : l.getD i d = l[i] := by rw [List.getD_eq_getElem?_getD, List.getElem?_eq_getElem h]; rfl
theorem dropC {α : Type} {l : List α} {i : Nat} (h : i < l.length) : l.drop i = l[i] :: l.drop (i + 1) := List.drop_eq_getElem_cons h
theorem len1 {α : Type} (a : α) : ([a] : List α).length = 1 := rfl
theorem cz32 (n : Nat) (h : (FloatKind.f32.decode n).isNaN = false) : cz .f32 n = n := by simp [cz, h]
theorem c0_32 : cz .f32 0 = 0 := cz_zero32
theorem c0_64 : cz .f64 0 = 0 := cz_zero64
/-! ### copies, comparisons, marks -/
theorem toFloat32S_wp {l : List Nat} {K : List Nat → Prop} (hl : l.length ≤ 2 ^ 20) (h : K l) : laws_toFloat32S.wp l K := by
  refine ⟨⟨by omega, by omega, by omega, by omega⟩, fun X hX => ?_⟩
  have key : X (l.take 0 ++ List.replicate (l.length - 0) (0 : Nat)) ((0 : Nat) : Int) := by
    refine up (Y := fun i => X (l.take i ++ List.replicate (l.length - i) (0 : Nat)) (i : Int)) l.length ?_ fun i hi hn => ?_
    · refine hX _ _ ⟨fun c => absurd c (by omega), fun _ => ?_⟩
      rw [List.take_length, Nat.sub_self, List.replicate_zero, List.append_nil]; exact h
    · refine hX _ _ ⟨fun _ => ⟨⟨by omega, by omega⟩, ⟨by omega, ?_⟩, ?_⟩, fun c => absurd (show (i : Int) < l.length by omega) c⟩
      · rw [List.length_append, List.length_take, List.length_replicate]; omega
      · rw [nn, w1 (by omega), gD hi, set_fill (0 : Nat) (by omega) hi]
        exact hn
  rw [List.take_zero, List.nil_append, Nat.sub_zero] at key; exact key
theorem toInt64S_wp {l : List Int} {K : List Int → Prop} (hl : l.length ≤ 2 ^ 20) (h : K l) : laws_toInt64S.wp l K := by
  refine ⟨⟨by omega, by omega, by omega, by omega⟩, fun X hX => ?_⟩
  have key : X (l.take 0 ++ List.replicate (l.length - 0) (0 : Int)) ((0 : Nat) : Int) := by
    refine up (Y := fun i => X (l.take i ++ List.replicate (l.length - i) (0 : Int)) (i : Int)) l.length ?_ fun i hi hn => ?_
    · refine hX _ _ ⟨fun c => absurd c (by omega), fun _ => ?_⟩
      rw [List.take_length, Nat.sub_self, List.replicate_zero, List.append_nil]; exact h
    · refine hX _ _ ⟨fun _ => ⟨⟨by omega, by omega⟩, ⟨by omega, ?_⟩, ?_⟩, fun c => absurd (show (i : Int) < l.length by omega) c⟩
      · rw [List.length_append, List.length_take, List.length_replicate]; omega
      · rw [nn, w1 (by omega), gD hi, set_fill (0 : Int) (by omega) hi]
        exact hn
  rw [List.take_zero, List.nil_append, Nat.sub_zero] at key; exact key
theorem toBoolS_wp {l : List Bool} {K : List Bool → Prop} (hl : l.length ≤ 2 ^ 20) (h : K l) : laws_toBoolS.wp l K := by
  refine ⟨⟨by omega, by omega, by omega, by omega⟩, fun X hX => ?_⟩
  have key : X (l.take 0 ++ List.replicate (l.length - 0) false) ((0 : Nat) : Int) := by
    refine up (Y := fun i => X (l.take i ++ List.replicate (l.length - i) false) (i : Int)) l.length ?_ fun i hi hn => ?_
    · refine hX _ _ ⟨fun c => absurd c (by omega), fun _ => ?_⟩
      rw [List.take_length, Nat.sub_self, List.replicate_zero, List.append_nil]; exact h
    · refine hX _ _ ⟨fun _ => ⟨⟨by omega, by omega⟩, ⟨by omega, ?_⟩, ?_⟩, fun c => absurd (show (i : Int) < l.length by omega) c⟩
      · rw [List.length_append, List.length_take, List.length_replicate]; omega
      · rw [nn, w1 (by omega), gD hi, set_fill false (by omega) hi]
        exact hn
  rw [List.take_zero, List.nil_append, Nat.sub_zero] at key; exact key
theorem sameFloat_wp {a : Nat} {K : Bool → Prop} (h : K true) : laws_sameFloat.wp a a K := by
  rcases order_self Ieee.double a with ho | ho
  · have e : fcmp .neq .f64 a a = true := by simp [fcmp, FloatKind.format, ho]
    exact tE e (by rw [e]; exact h)
  · have e : fcmp .neq .f64 a a = false := by simp [fcmp, FloatKind.format, ho]
    have e2 : fcmp .eql .f64 a a = true := by simp [fcmp, FloatKind.format, ho]
    refine tG e (tG e ⟨fun c => ⟨fun _ => by rw [BEq.rfl]; exact h, fun c2 => (by rw [c] at c2; cases c2)⟩, fun _ => by rw [e2]; exact h⟩)
theorem eqFloat32S_wp {l : List Nat} {K : Bool → Prop} (hl : l.length ≤ 2 ^ 20) (h : K true) : laws_eqFloat32S.wp l l K := by
  refine tP rfl fun X hX => ?_
  refine up (Y := fun i => X (i : Int)) l.length ?_ fun i hi hn => ?_
  · exact hX _ ⟨fun c => absurd c (by omega), fun _ => h⟩
  · refine hX _ ⟨fun _ => ⟨⟨by omega, by omega⟩, ⟨by omega, by omega⟩, sameFloat_wp (tT ?_)⟩, fun c => absurd (show (i : Int) < l.length by omega) c⟩
    rw [w1 (by omega)]; exact hn
theorem eqInt64S_wp {l : List Int} {K : Bool → Prop} (hl : l.length ≤ 2 ^ 20) (h : K true) : laws_eqInt64S.wp l l K := by
  refine tP rfl fun X hX => ?_
  refine up (Y := fun i => X (i : Int)) l.length ?_ fun i hi hn => ?_
  · exact hX _ ⟨fun c => absurd c (by omega), fun _ => h⟩
  · refine hX _ ⟨fun _ => ⟨⟨by omega, by omega⟩, ⟨by omega, by omega⟩, tP rfl ?_⟩, fun c => absurd (show (i : Int) < l.length by omega) c⟩
    rw [w1 (by omega)]; exact hn
theorem eqBoolS_wp {l : List Bool} {K : Bool → Prop} (hl : l.length ≤ 2 ^ 20) (h : K true) : laws_eqBoolS.wp l l K := by
  refine tP rfl fun X hX => ?_
  refine up (Y := fun i => X (i : Int)) l.length ?_ fun i hi hn => ?_
  · exact hX _ ⟨fun c => absurd c (by omega), fun _ => h⟩
  · refine hX _ ⟨fun _ => ⟨⟨by omega, by omega⟩, ⟨by omega, by omega⟩, tB ?_⟩, fun c => absurd (show (i : Int) < l.length by omega) c⟩
    rw [w1 (by omega)]; exact hn
theorem markFloat32S_wp {l : List Nat} {k : Nat} {K : Int → List Nat → Prop} (hl : l.length ≤ 2 ^ 20) (hk : k ≤ 2 ^ 40) (h : K ((k + l.length : Nat) : Int) (marks k l.length)) : laws_markFloat32S.wp l (k : Int) K := by
  intro X hX
  have key : X (marks k 0 ++ l.drop 0) ((k + 0 : Nat) : Int) ((0 : Nat) : Int) := by
    refine up (Y := fun i => X (marks k i ++ l.drop i) ((k + i : Nat) : Int) (i : Int)) l.length ?_ fun i hi hn => ?_
    · refine hX _ _ _ ⟨fun c => absurd c (by rw [List.length_append, marks_length, List.length_drop]; omega), fun _ => ?_⟩
      rw [List.drop_length, List.append_nil]; exact h
    · have hlen : (marks k i ++ l.drop i).length = l.length := by rw [List.length_append, marks_length, List.length_drop]; omega
      refine hX _ _ _ ⟨fun _ => ⟨⟨by omega, by rw [hlen]; omega⟩, ?_⟩, fun c => absurd (show (i : Int) < _ by rw [hlen]; omega) c⟩
      rw [nn, w1 (by omega), w1 (by omega)]
      have e := marks_step (l := l) (i := i) (m := l.length - i) k (by omega) hi
      rw [show (k : Int) + (i : Int) = ((k + i : Nat) : Int) by omega] at e
      rw [show itof .f32 ((k + i : Nat) : Int) = fl ((k + i : Nat) : Int) from rfl]
      rw [e]; exact hn
  exact key
theorem heldFloat32S_wp {k n : Nat} {K : Int → Prop} (hl : n ≤ 2 ^ 20) (hk : k ≤ 2 ^ 40) (h : K ((k + n : Nat) : Int)) : laws_heldFloat32S.wp (marks k n) (k : Int) K := by
  intro X hX
  have hlen : (marks k n).length = n := marks_length _ _
  have key : X ((k + 0 : Nat) : Int) ((0 : Nat) : Int) := by
    refine up (Y := fun i => X ((k + i : Nat) : Int) (i : Int)) n ?_ fun i hi hn => ?_
    · exact hX _ _ ⟨fun c => absurd c (by omega), fun _ => h⟩
    · refine hX _ _ ⟨fun _ => ⟨⟨by omega, by omega⟩, ?_⟩, fun c => absurd (show (i : Int) < _ by omega) c⟩
      rw [nn, gD (by omega), marks_at k n i (by omega), show (k : Int) + (i : Int) = ((k + i : Nat) : Int) by omega]
      refine tG (show fcmp .neq .f32 (fl ((k + i : Nat) : Int)) (itof .f32 ((k + i : Nat) : Int)) = false from fl_neq _) ?_
      rw [w1 (by omega), w1 (by omega)]; exact hn
  exact key
theorem markInt64S_wp {l : List Int} {k : Nat} {K : Int → List Int → Prop} (hl : l.length ≤ 2 ^ 20) (hk : k ≤ 2 ^ 40) (h : K ((k + l.length : Nat) : Int) (marksI k l.length)) : laws_markInt64S.wp l (k : Int) K := by
  intro X hX
  have key : X (marksI k 0 ++ l.drop 0) ((k + 0 : Nat) : Int) ((0 : Nat) : Int) := by
    refine up (Y := fun i => X (marksI k i ++ l.drop i) ((k + i : Nat) : Int) (i : Int)) l.length ?_ fun i hi hn => ?_
    · refine hX _ _ _ ⟨fun c => absurd c (by rw [List.length_append, marksI_length, List.length_drop]; omega), fun _ => ?_⟩
      rw [List.drop_length, List.append_nil]; exact h
    · have hlen : (marksI k i ++ l.drop i).length = l.length := by rw [List.length_append, marksI_length, List.length_drop]; omega
      refine hX _ _ _ ⟨fun _ => ⟨⟨by omega, by rw [hlen]; omega⟩, ?_⟩, fun c => absurd (show (i : Int) < _ by rw [hlen]; omega) c⟩
      rw [nn, w1 (by omega), w1 (by omega)]
      have e := marksI_step (l := l) (i := i) (m := l.length - i) k (by omega) hi
      rw [show (k : Int) + (i : Int) = ((k + i : Nat) : Int) by omega] at e
      
      rw [e]; exact hn
  exact key
theorem heldInt64S_wp {k n : Nat} {K : Int → Prop} (hl : n ≤ 2 ^ 20) (hk : k ≤ 2 ^ 40) (h : K ((k + n : Nat) : Int)) : laws_heldInt64S.wp (marksI k n) (k : Int) K := by
  intro X hX
  have hlen : (marksI k n).length = n := marksI_length _ _
  have key : X ((k + 0 : Nat) : Int) ((0 : Nat) : Int) := by
    refine up (Y := fun i => X ((k + i : Nat) : Int) (i : Int)) n ?_ fun i hi hn => ?_
    · exact hX _ _ ⟨fun c => absurd c (by omega), fun _ => h⟩
    · refine hX _ _ ⟨fun _ => ⟨⟨by omega, by omega⟩, ?_⟩, fun c => absurd (show (i : Int) < _ by omega) c⟩
      rw [nn, gD (by omega), marksI_at k n i (by omega), show (k : Int) + (i : Int) = ((k + i : Nat) : Int) by omega]
      refine tP rfl ?_
      rw [w1 (by omega), w1 (by omega)]; exact hn
  exact key

end Go.Proofs.Ytfieljajhmpbiaa.G

namespace Go.Proofs.Ytfieljajhmpbiaa.G
open Go Go.Ab
set_option maxRecDepth 100000
set_option linter.unusedVariables false
set_option linter.unusedSimpArgs false
set_option maxHeartbeats 1000000
def pFin (x : Nat) : Bool := fcmp .eql .f32 (fop .sub .f32 x x) (cz .f32 0)
def pAll (l : List Nat) : Bool := l.all pFin
theorem pAll_cons (x : Nat) (l : List Nat) : pAll (x :: l) = (pFin x && pAll l) := rfl
/-- A loop that ends early where something does not hold. -/
theorem all_loop {α : Type} (l : List α) (p : α → Bool) {X : Int → Prop} {T F : Prop} (hX : ∀ (i : Nat) (h : i < l.length), ((p l[i] = true → X ((i + 1 : Nat) : Int)) ∧ (p l[i] = false → F)) → X (i : Int))
    (hend : T → X (l.length : Int)) (ht : l.all p = true → T) (hf : l.all p = false → F) : X (0 : Int) := by
  have key := up (Y := fun i => ((l.drop i).all p = true → T) → ((l.drop i).all p = false → F) → X (i : Int)) l.length (fun h _ => hend (h (by rw [List.drop_length]; rfl))) fun i hi hn h1 h2 => ?_
  · exact key (by rw [List.drop_zero]; exact ht) (by rw [List.drop_zero]; exact hf)
  · rw [dropC hi, List.all_cons] at h1 h2
    refine hX i hi ⟨fun e => hn (fun a => h1 (by rw [e, a]; rfl)) (fun a => h2 (by rw [e, a]; rfl)), fun e => h2 (by rw [e]; rfl)⟩
/-- A loop that makes a list, and ends early where something does not hold. -/
theorem map_loop {α β : Type} (l : List α) (p : α → Bool) (f : α → β) {X : List β → Int → Prop} {T F : Prop} (hX : ∀ (i : Nat) (h : i < l.length) (o : List β), o.length = i → ((p l[i] = true → X (o ++ [f l[i]]) ((i + 1 : Nat) : Int)) ∧ (p l[i] = false → F)) → X o (i : Int))
    (hend : T → X (l.map f) (l.length : Int)) (ht : l.all p = true → T) (hf : l.all p = false → F) : X [] (0 : Int) := by
  have key := up (Y := fun i => ((l.drop i).all p = true → T) → ((l.drop i).all p = false → F) → X ((l.take i).map f) (i : Int)) l.length (fun h _ => by rw [List.take_length]; exact hend (h (by rw [List.drop_length]; rfl))) fun i hi hn h1 h2 => ?_
  · have := key (by rw [List.drop_zero]; exact ht) (by rw [List.drop_zero]; exact hf)
    rw [List.take_zero] at this; exact this
  · rw [dropC hi, List.all_cons] at h1 h2
    refine hX i hi _ (by rw [List.length_map, List.length_take]; omega) ⟨fun e => ?_, fun e => h2 (by rw [e]; rfl)⟩
    have := hn (fun a => h1 (by rw [e, a]; rfl)) (fun a => h2 (by rw [e, a]; rfl))
    rw [List.take_succ_eq_append_getElem hi, List.map_append] at this
    exact this
theorem spec_l01Finite_wp {a : Nat} {K : Bool → Prop} (h : K (pFin a)) : spec_l01Finite.wp a K := h
theorem impl_IsFinite_wp {a : Nat} {K : Bool → Prop} (h : K (pFin a)) : impl_IsFinite.wp a K := h
theorem spec_l02Finite_wp {l : List Nat} {K : Bool → Prop} (hl : l.length ≤ 2 ^ 20) (h : K (pAll l)) : spec_l02Finite.wp l K := by
  intro X hX
  refine all_loop l pFin (X := X) (T := K true) (F := K false) (fun i hi hh => ?_) (fun ht => hX _ ⟨fun c => absurd c (by omega), fun _ => ht⟩) (fun e => by rw [pAll, e] at h; exact h) (fun e => by rw [pAll, e] at h; exact h)
  refine hX _ ⟨fun _ => ⟨⟨by omega, by omega⟩, spec_l01Finite_wp ?_⟩, fun c => absurd (show (i : Int) < l.length by omega) c⟩
  rw [nn, gD hi, w1 (by omega)]; exact hh
theorem impl_areFinite_wp {ll : List (List Nat)} {K : Bool → Prop} (hll : ll.length ≤ 2 ^ 20) (hl : ∀ l ∈ ll, l.length ≤ 2 ^ 20) (h : K (ll.all pAll)) : impl_areFinite.wp ll K := by
  intro X hX
  refine all_loop ll pAll (X := X) (T := K true) (F := K false) (fun i hi hh => ?_) (fun ht => hX _ ⟨fun c => absurd c (by omega), fun _ => ht⟩) (fun e => by rw [e] at h; exact h) (fun e => by rw [e] at h; exact h)
  refine hX _ ⟨fun _ => ⟨⟨by omega, by omega⟩, fun Y hY => ?_⟩, fun c => absurd (show (i : Int) < ll.length by omega) c⟩
  have hlen := hl ll[i] (List.getElem_mem hi)
  rw [nn, gD hi, w1 (by omega)] at hY
  refine all_loop ll[i] pFin (X := Y) (T := X ((i + 1 : Nat) : Int)) (F := K false) (fun j hj h2 => ?_) (fun ht => hY _ ⟨fun c => absurd c (by omega), fun _ => ht⟩) (fun e => hh.1 e) (fun e => hh.2 e)
  refine hY _ ⟨fun _ => ⟨⟨by omega, by omega⟩, impl_IsFinite_wp ?_⟩, fun c => absurd (show (j : Int) < ll[i].length by omega) c⟩
  rw [nn, gD hj, w1 (by omega)]; exact h2
theorem impl_areFinite1_wp {l : List Nat} {K : Bool → Prop} (hl : l.length ≤ 2 ^ 20) (h : K (pAll l)) : impl_areFinite.wp [l] K := by
  refine impl_areFinite_wp (by simp) (fun x hx => by rw [List.mem_singleton] at hx; subst hx; exact hl) ?_
  rw [List.all_cons, List.all_nil, Bool.and_true]; exact h
theorem impl_within_wp {a b c : Int} {K : Bool → Prop} (h : K (decide (b ≤ a ∧ a ≤ c))) : impl_within.wp a b c K := by
  refine ⟨fun h1 => ?_, fun h1 => ?_⟩
  · have : decide (b ≤ a ∧ a ≤ c) = decide (a ≤ c) := by simp [h1]
    rw [this] at h; exact h
  · have : decide (b ≤ a ∧ a ≤ c) = false := by simp [h1]
    rw [this] at h; exact h
theorem spec_l00In_wp {a b c : Int} {K : Bool → Prop} (h : K (decide (b ≤ a ∧ a ≤ c))) : spec_l00In.wp a b c K := by
  refine ⟨fun h1 => ?_, fun h1 => ?_⟩
  · have : decide (b ≤ a ∧ a ≤ c) = decide (a ≤ c) := by simp [h1]
    rw [this] at h; exact h
  · have : decide (b ≤ a ∧ a ≤ c) = false := by simp [h1]
    rw [this] at h; exact h
theorem bT {b : Bool} {A B : Prop} (h1 : b = true → A) (h2 : b = false → B) : (b = true → A) ∧ (b = false → B) := ⟨h1, h2⟩
def isL (l : List Nat) : Bool := decide (1 ≤ l.length ∧ l.length ≤ 128) && pAll l
theorem spec_l02Is_wp {l : List Nat} {K : Bool → Prop} (hl : l.length ≤ 2 ^ 20) (h : K (isL l)) : spec_l02Is.wp l K := by
  refine ⟨fun h1 => ⟨fun h2 => spec_l02Finite_wp hl ?_, fun h2 => ?_⟩, fun h1 => ?_⟩
  · rw [isL, decide_eq_true (show 1 ≤ l.length ∧ l.length ≤ 128 by omega), Bool.true_and] at h; exact h
  · rw [isL, decide_eq_false (show ¬(1 ≤ l.length ∧ l.length ≤ 128) by omega), Bool.false_and] at h; exact h
  · rw [isL, decide_eq_false (show ¬(1 ≤ l.length ∧ l.length ≤ 128) by omega), Bool.false_and] at h; exact h
theorem impl_IsList_wp {l : List Nat} {K : Bool → Prop} (hl : l.length ≤ 2 ^ 20) (h : K (isL l)) : impl_IsList.wp l K := by
  refine impl_within_wp ⟨fun h1 => ?_, fun h1 => ?_⟩
  · have h1 := of_decide_eq_true h1
    refine impl_areFinite1_wp hl ?_
    rw [isL, decide_eq_true (show 1 ≤ l.length ∧ l.length ≤ 128 by omega), Bool.true_and] at h; exact h
  · have h1 := of_decide_eq_false h1
    rw [isL, decide_eq_false (show ¬(1 ≤ l.length ∧ l.length ≤ 128) by omega), Bool.false_and] at h; exact h
def isOver (x : Nat) : Bool := pFin x && fcmp .gtr .f32 x (cz .f32 0)
def isLeast (x : Nat) : Bool := pFin x && fcmp .geq .f32 x (cz .f32 0)
theorem spec_l02Above_wp {a : Nat} {K : Bool → Prop} (h : K (isOver a)) : spec_l02Above.wp a K := by
  refine spec_l01Finite_wp ⟨fun h1 => ?_, fun h1 => ?_⟩ <;> (rw [isOver, h1] at h; exact h)
theorem impl_isOver_wp {a : Nat} {K : Bool → Prop} (h : K (isOver a)) : impl_isOver.wp a K := by
  refine impl_IsFinite_wp ⟨fun h1 => ?_, fun h1 => ?_⟩ <;> (rw [isOver, h1] at h; exact h)
theorem spec_l02Least_wp {a : Nat} {K : Bool → Prop} (h : K (isLeast a)) : spec_l02Least.wp a K := by
  refine spec_l01Finite_wp ⟨fun h1 => ?_, fun h1 => ?_⟩ <;> (rw [isLeast, h1] at h; exact h)
theorem impl_isLeast_wp {a : Nat} {K : Bool → Prop} (h : K (isLeast a)) : impl_isLeast.wp a K := by
  refine impl_IsFinite_wp ⟨fun h1 => ?_, fun h1 => ?_⟩ <;> (rw [isLeast, h1] at h; exact h)
def isShare (x : Nat) : Bool := fcmp .geq .f32 x (cz .f32 0) && fcmp .leq .f32 x (cz .f32 1065353216)
theorem spec_l02Share_wp {a : Nat} {K : Bool → Prop} (h : K (isShare a)) : spec_l02Share.wp a K := by
  refine ⟨fun h1 => ?_, fun h1 => ?_⟩ <;> (rw [isShare, h1] at h; exact h)
theorem impl_isShare_wp {a : Nat} {K : Bool → Prop} (h : K (isShare a)) : impl_isShare.wp a K := by
  refine ⟨fun h1 => ?_, fun h1 => ?_⟩ <;> (rw [isShare, h1] at h; exact h)
/-! ### integers -/
def bnd (m : Int) (l : List Int) : Bool := l.all fun n => decide (-m ≤ n ∧ n ≤ m)
def isI (l : List Int) : Bool := decide (1 ≤ l.length ∧ l.length ≤ 128) && bnd 1000000 l
theorem spec_l02Bound_wp {l : List Int} {m : Int} {K : Bool → Prop} (hl : l.length ≤ 2 ^ 20) (hm : 0 ≤ m ∧ m ≤ 2 ^ 40) (h : K (bnd m l)) : spec_l02Bound.wp l m K := by
  intro X hX
  refine all_loop l (fun n => decide (-m ≤ n ∧ n ≤ m)) (X := X) (T := K true) (F := K false) (fun i hi hh => ?_) (fun ht => hX _ ⟨fun c => absurd c (by omega), fun _ => ht⟩) (fun e => by rw [bnd, e] at h; exact h) (fun e => by rw [bnd, e] at h; exact h)
  refine hX _ ⟨fun _ => ⟨⟨by omega, by omega⟩, spec_l00In_wp ?_⟩, fun c => absurd (show (i : Int) < l.length by omega) c⟩
  rw [nn, gD hi, w1 (by omega), wI (show -9223372036854775808 ≤ (0 : Int) - m ∧ (0 : Int) - m < 9223372036854775808 by omega), Int.zero_sub]; exact hh
theorem impl_areWithin_wp {l : List Int} {m : Int} {K : Bool → Prop} (hl : l.length ≤ 2 ^ 20) (hm : 0 ≤ m ∧ m ≤ 2 ^ 40) (h : K (bnd m l)) : impl_areWithin.wp l m K := by
  intro X hX
  refine all_loop l (fun n => decide (-m ≤ n ∧ n ≤ m)) (X := X) (T := K true) (F := K false) (fun i hi hh => ?_) (fun ht => hX _ ⟨fun c => absurd c (by omega), fun _ => ht⟩) (fun e => by rw [bnd, e] at h; exact h) (fun e => by rw [bnd, e] at h; exact h)
  refine hX _ ⟨fun _ => ⟨⟨by omega, by omega⟩, impl_within_wp ?_⟩, fun c => absurd (show (i : Int) < l.length by omega) c⟩
  rw [nn, gD hi, w1 (by omega), wI (show -9223372036854775808 ≤ (0 : Int) - m ∧ (0 : Int) - m < 9223372036854775808 by omega), Int.zero_sub]; exact hh
theorem spec_l02Integers_wp {l : List Int} {K : Bool → Prop} (hl : l.length ≤ 2 ^ 20) (h : K (isI l)) : spec_l02Integers.wp l K := by
  refine ⟨fun h1 => ⟨fun h2 => spec_l02Bound_wp hl (by omega) ?_, fun h2 => ?_⟩, fun h1 => ?_⟩
  · rw [isI, decide_eq_true (show 1 ≤ l.length ∧ l.length ≤ 128 by omega), Bool.true_and] at h; exact h
  · rw [isI, decide_eq_false (show ¬(1 ≤ l.length ∧ l.length ≤ 128) by omega), Bool.false_and] at h; exact h
  · rw [isI, decide_eq_false (show ¬(1 ≤ l.length ∧ l.length ≤ 128) by omega), Bool.false_and] at h; exact h
theorem impl_AreIntegers_wp {l : List Int} {K : Bool → Prop} (hl : l.length ≤ 2 ^ 20) (h : K (isI l)) : impl_AreIntegers.wp l K := by
  refine impl_within_wp ⟨fun h1 => ?_, fun h1 => ?_⟩
  · have h1 := of_decide_eq_true h1
    refine impl_areWithin_wp hl (by omega) ?_
    rw [isI, decide_eq_true (show 1 ≤ l.length ∧ l.length ≤ 128 by omega), Bool.true_and] at h; exact h
  · have h1 := of_decide_eq_false h1
    rw [isI, decide_eq_false (show ¬(1 ≤ l.length ∧ l.length ≤ 128) by omega), Bool.false_and] at h; exact h
theorem impl_finiteList_wp {l : List Nat} {K : Bool → Bool → Prop} (hl : l.length ≤ 2 ^ 20) (h : K (pAll l) (pAll l)) : impl_finiteList.wp l K := by
  refine impl_areFinite1_wp hl ⟨fun h1 => ?_, fun h1 => ?_⟩ <;> (rw [h1] at h; exact h)
theorem spec_l02List_wp {l : List Nat} {K : Bool → Bool → Prop} (hl : l.length ≤ 2 ^ 20) (h : K (pAll l) (pAll l)) : spec_l02List.wp l K := by
  refine spec_l02Finite_wp hl ⟨fun h1 => ?_, fun h1 => ?_⟩ <;> (rw [h1] at h; exact h)

end Go.Proofs.Ytfieljajhmpbiaa.G

namespace Go.Proofs.Ytfieljajhmpbiaa.G
open Go Go.Ab
set_option maxRecDepth 100000
set_option linter.unusedVariables false
set_option linter.unusedSimpArgs false
set_option maxHeartbeats 1000000
/-- What is like itself is a number. -/
theorem num_of_eq {x : Nat} (h : fcmp .neq .f32 x x = false) : num .f32 x = true := by
  unfold num
  cases hd : (FloatKind.f32.decode x).isNaN with
  | false => rfl
  | true =>
    exfalso
    have h2 : Ieee.single.order x x = none := by
      unfold Ieee.Format.order
      have hd' : (Ieee.single.read x).isNaN = true := hd
      cases hr : Ieee.single.read x with
      | nan s t => rfl
      | _ => rw [hr] at hd'; cases hd'
    unfold fcmp at h
    rw [show FloatKind.f32.format = Ieee.single from rfl, h2] at h
    cases h
theorem ixor {a b : Nat} (ha : a < 2 ^ 32) (hb : b < 2 ^ 32) : ibits .xor .i64 (a : Int) (b : Int) = ((a ^^^ b : Nat) : Int) := by
  have hx : a ^^^ b < 2 ^ 32 := Nat.xor_lt_two_pow ha hb
  have ea : (BitVec.ofInt 64 (a : Int)).toNat = a := by rw [BitVec.ofInt_natCast, BitVec.toNat_ofNat]; omega
  have eb : (BitVec.ofInt 64 (b : Int)).toNat = b := by rw [BitVec.ofInt_natCast, BitVec.toNat_ofNat]; omega
  show IntKind.i64.wrap ((BitVec.ofInt 64 (a : Int) ^^^ BitVec.ofInt 64 (b : Int)).toNat : Int) = _
  rw [BitVec.toNat_xor, ea, eb]
  exact wI (by omega)
theorem ior {a b : Nat} (ha : a < 2 ^ 32) (hb : b < 2 ^ 32) : ibits .or .i64 (a : Int) (b : Int) = ((a ||| b : Nat) : Int) := by
  have hx : a ||| b < 2 ^ 32 := Nat.or_lt_two_pow ha hb
  have ea : (BitVec.ofInt 64 (a : Int)).toNat = a := by rw [BitVec.ofInt_natCast, BitVec.toNat_ofNat]; omega
  have eb : (BitVec.ofInt 64 (b : Int)).toNat = b := by rw [BitVec.ofInt_natCast, BitVec.toNat_ofNat]; omega
  show IntKind.i64.wrap ((BitVec.ofInt 64 (a : Int) ||| BitVec.ofInt 64 (b : Int)).toNat : Int) = _
  rw [BitVec.toNat_or, ea, eb]
  exact wI (by omega)
theorem p8 : (2 ^ (min (8 : Int).toNat IntKind.i64.bits) : Int) = 256 := by decide
theorem fdiv8 (m : Nat) : Int.fdiv (m : Int) (2 ^ (min (8 : Int).toNat IntKind.i64.bits)) = ((m / 256 : Nat) : Int) := by
  rw [p8, Int.fdiv_eq_ediv_of_nonneg _ (by decide)]; omega
theorem tdivN (m k : Nat) (h : m < 2 ^ 40) : IntKind.i64.wrap (Int.tdiv (m : Int) (k : Int)) = ((m / k : Nat) : Int) := by
  rw [show (m : Int).tdiv (k : Int) = ((m / k : Nat) : Int) by rw [Int.tdiv_eq_ediv_of_nonneg (by omega)]; rfl]
  have := Nat.div_le_self m k
  generalize m / k = d at this
  exact wI (by omega)
theorem u8wrap (m : Nat) : IntKind.u8.wrap (m : Int) = ((m % 256 : Nat) : Int) := by
  show (m : Int) % 256 = _
  omega
theorem tmod8 (m : Nat) : Int.tmod (m : Int) 256 = ((m % 256 : Nat) : Int) := by
  rw [Int.tmod_eq_emod_of_nonneg (by omega)]; rfl
/-- How many bytes a number fills. -/
def nb (x : Nat) : Nat := if x = 0 then 0 else if x < 256 then 1 else if x < 65536 then 2 else if x < 16777216 then 3 else 4
theorem nb_le (x : Nat) : nb x ≤ 4 := by unfold nb; repeat' split
                                         all_goals omega
theorem nb_div {m : Nat} (h : 0 < m) (h32 : m < 2 ^ 32) : nb (m / 256) + 1 = nb m := by
  unfold nb; repeat' split
  all_goals omega
def lowB : Nat → Nat → List Int
  | 0, _ => []
  | n + 1, x => ((x % 256 : Nat) : Int) :: lowB n (x / 256)
theorem lowB_len : ∀ n x, (lowB n x).length = n
  | 0, _ => rfl
  | n + 1, x => by rw [lowB, List.length_cons, lowB_len]
def bitsN (x : Nat) : Nat := if fcmp .neq .f32 x x = true then 2143289344 else x
theorem bitsN_lt {x : Nat} (h : x < 2 ^ 32) : bitsN x < 2 ^ 32 := by unfold bitsN; split <;> omega
def oneB (y : Nat) : List Int := ((4 - nb y : Nat) : Int) :: lowB (nb y) y
theorem oneB_len (y : Nat) : (oneB y).length ≤ 5 := by rw [oneB, List.length_cons, lowB_len]; have := nb_le y; omega
def packTo : List Nat → Nat → List Int
  | [], _ => []
  | x :: l, b => oneB (bitsN x ^^^ b) ++ packTo l (bitsN x)
def packL (l : List Nat) : List UInt8 := byts (packTo l 0)
/-- The loop over the values. -/
theorem pack_loop (l : List Nat) (hl : l.length ≤ 2 ^ 20) (hw : ∀ x ∈ l, x < 2 ^ 32) {X : List Int → Int → Int → Prop} (hX : ∀ (o : List Int) (b i : Nat) (hi : i < l.length), b < 2 ^ 32 → o.length ≤ 5 * i → X (o ++ oneB (bitsN l[i] ^^^ b)) (bitsN l[i] : Nat) ((i + 1 : Nat) : Int) → X o (b : Int) (i : Int)) (hend : ∀ b : Int, X (packTo l 0) b (l.length : Int)) : X [] ((0 : Nat) : Int) ((0 : Nat) : Int) := by
  have key : ∀ (m i : Nat) (o : List Int) (b : Nat), m + i = l.length → b < 2 ^ 32 → o.length ≤ 5 * i → o ++ packTo (l.drop i) b = packTo l 0 → X o (b : Int) (i : Int) := by
    intro m
    induction m with
    | zero => intro i o b h1 h2 h3 h4
              obtain rfl : i = l.length := by omega
              rw [List.drop_length, packTo, List.append_nil] at h4
              rw [h4]; exact hend _
    | succ m ih =>
      intro i o b h1 h2 h3 h4
      have hi : i < l.length := by omega
      refine hX o b i hi h2 h3 (ih (i + 1) _ _ (by omega) (bitsN_lt (hw _ (List.getElem_mem hi))) (by rw [List.length_append]; have := oneB_len (bitsN l[i] ^^^ b); omega) ?_)
      rw [dropC hi, packTo] at h4
      rw [List.append_assoc]; exact h4
  exact key l.length 0 [] 0 (by omega) (by decide) (by simp) rfl
/-- The loop over a number's bytes. -/
theorem bytes_loop (M : Nat) {X : List Int → Int → Int → Prop} {N : Nat} (hX : ∀ (o : List Int) (x k : Nat), k < N → x < 2 ^ 32 → o.length < M → X (o ++ [((x % 256 : Nat) : Int)]) ((x / 256 : Nat) : Int) ((k + 1 : Nat) : Int) → X o (x : Int) (k : Int)) : ∀ (n k x : Nat) (o : List Int), k + n = N → x < 2 ^ 32 → o.length + n ≤ M → (∀ x, X (o ++ lowB n x) x (N : Int) → True) → (∀ y : Int, X (o ++ lowB n x) y (N : Int)) → X o (x : Int) (k : Int) := by
  intro n
  induction n with
  | zero => intro k x o h1 h2 h3 _ h4
            obtain rfl : k = N := by omega
            have := h4 x
            rw [lowB, List.append_nil] at this; exact this
  | succ n ih =>
    intro k x o h1 h2 h3 _ h4
    refine hX o x k (by omega) h2 (by omega) (ih (k + 1) (x / 256) _ (by omega) (by omega) (by rw [List.length_append, List.length_singleton]; omega) (fun _ _ => trivial) fun y => ?_)
    have := h4 y
    rw [lowB] at this
    rw [List.append_assoc]; exact this
theorem spec_l01Bits_wp {x : Nat} {K : Int → Prop} (hx : x < 2 ^ 32) (h : K (bitsN x : Nat)) : spec_l01Bits.wp x K := by
  refine ⟨fun c => ?_, fun c => ⟨?_, ?_⟩⟩
  · rw [bitsN, if_pos c] at h; exact h
  · exact num_of_eq c
  · rw [bitsN, if_neg (by rw [c]; decide)] at h
    rw [wI (by omega)]; exact h
theorem impl_BitsOf_wp {x : Nat} {K : Int → Prop} (hx : x < 2 ^ 32) (h : K (bitsN x : Nat)) : impl_BitsOf.wp x K := by
  refine ⟨fun c => ?_, fun c => ⟨?_, ?_⟩⟩
  · rw [bitsN, if_pos c] at h; exact h
  · exact num_of_eq c
  · rw [bitsN, if_neg (by rw [c]; decide)] at h
    rw [wI (by omega)]; exact h
theorem impl_packed_wp {l : List Nat} {K : List UInt8 → Prop} (hl : l.length ≤ 2 ^ 20) (hw : ∀ x ∈ l, x < 2 ^ 32) (h : K (packL l)) : impl_packed.wp l K := by
  intro X hX
  refine pack_loop l hl hw (X := X) (fun o b i hi hb ho hn => hX _ _ _ ⟨fun _ => ⟨⟨by omega, by omega⟩, ?_⟩, fun c => absurd (show (i : Int) < l.length by omega) c⟩) (fun b => hX _ _ _ ⟨fun c => absurd c (by omega), fun _ => h⟩)
  have hxi := hw _ (List.getElem_mem hi)
  rw [nn, gD hi]
  refine impl_BitsOf_wp hxi ?_
  have hbi := bitsN_lt hxi
  rw [ixor hbi hb, w1 (by omega)]
  generalize hy : bitsN l[i] ^^^ b = y at hn
  have hy32 : y < 2 ^ 32 := by rw [← hy]; exact Nat.xor_lt_two_pow hbi hb
  have hnb := nb_le y
  intro Z hZ
  have key : ∀ (n z m : Nat), nb m = n → z + nb y = 4 + n → m < 2 ^ 32 → Z (z : Int) (m : Int) := by
    intro n
    induction n with
    | zero =>
      intro z m h1 h2 h3
      obtain rfl : m = 0 := by
        unfold nb at h1; repeat' split at h1
        all_goals first | assumption | omega
      refine hZ _ _ ⟨fun c => absurd c (by omega), fun _ => ⟨by rw [len1]; omega, fun Y hY => ?_⟩⟩
      have e1 : IntKind.u8.wrap (z : Int) = ((4 - nb y : Nat) : Int) := by rw [u8wrap]; omega
      have e2 : IntKind.i64.wrap ((4 : Int) - (z : Int)) = ((nb y : Nat) : Int) := by rw [wI (by omega)]; omega
      rw [e1]
      refine bytes_loop (5 * i + 5) (X := Y) (N := nb y) (fun q x k hk hx hq hn2 => hY _ _ _ ⟨fun _ => ⟨by rw [len1]; omega, ?_⟩, fun c => absurd (by rw [e2]; omega) c⟩) (nb y) 0 y _ (by omega) hy32 (by rw [List.length_append, List.length_singleton]; omega) (fun _ _ => trivial) (fun w => hY _ _ _ ⟨fun c => absurd c (by rw [e2]; omega), fun _ => ?_⟩)
      · rw [u8wrap, fdiv8, w1 (by omega)]; exact hn2
      · rw [List.append_assoc]; exact hn
    | succ n ih =>
      intro z m h1 h2 h3
      have hm : 0 < m := by
        unfold nb at h1; repeat' split at h1
        all_goals omega
      have := nb_div hm h3
      have := nb_le m
      refine hZ _ _ ⟨fun _ => ?_, fun c => absurd (show (0 : Int) < m by omega) c⟩
      rw [fdiv8, show IntKind.i64.wrap ((z : Int) - 1) = ((z - 1 : Nat) : Int) by rw [wI (by omega)]; omega]
      exact ih (z - 1) (m / 256) (by omega) (by omega) (by omega)
  exact key (nb y) 4 y rfl (by omega) hy32
theorem spec_l07Pack_wp {l : List Nat} {K : List UInt8 → Prop} (hl : l.length ≤ 2 ^ 20) (hw : ∀ x ∈ l, x < 2 ^ 32) (h : K (packL l)) : spec_l07Pack.wp l K := by
  intro X hX
  refine pack_loop l hl hw (X := X) (fun o b i hi hb ho hn => hX _ _ _ ⟨fun _ => ⟨⟨by omega, by omega⟩, ?_⟩, fun c => absurd (show (i : Int) < l.length by omega) c⟩) (fun b => hX _ _ _ ⟨fun c => absurd c (by omega), fun _ => h⟩)
  have hxi := hw _ (List.getElem_mem hi)
  rw [nn, gD hi]
  refine spec_l01Bits_wp hxi ?_
  have hbi := bitsN_lt hxi
  rw [ixor hbi hb, w1 (by omega)]
  generalize hy : bitsN l[i] ^^^ b = y at hn
  have hy32 : y < 2 ^ 32 := by rw [← hy]; exact Nat.xor_lt_two_pow hbi hb
  have hnb := nb_le y
  intro Z hZ
  have fin : ∀ (z : Nat), z + nb y = 4 → ∀ Y : List Int → Int → Int → Prop, (∀ (q : List Int) (x k : Int), ((k < 4 → ((q.length + ([(IntKind.u8.wrap (Int.tmod x 256))] : List (Int)).length) * 1 ≤ 2 ^ 40) ∧ Y (q ++ ([(IntKind.u8.wrap (Int.tmod x 256))] : List (Int))) (IntKind.i64.wrap (Int.tdiv x 256)) (IntKind.i64.wrap (k + 1))) ∧ (¬(k < 4) → X q (bitsN l[i] : Nat) ((i + 1 : Nat) : Int))) → Y q x k) → Y (o ++ ([(z : Int)] : List Int)) (y : Int) (z : Int) := by
    intro z hz Y hY
    refine bytes_loop (5 * i + 5) (X := Y) (N := 4) (fun q x k hk hx hq hn2 => hY _ _ _ ⟨fun _ => ⟨by rw [len1]; omega, ?_⟩, fun c => absurd (show (k : Int) < 4 by omega) c⟩) (nb y) z y _ hz hy32 (by rw [List.length_append, List.length_singleton]; omega) (fun _ _ => trivial) (fun w => hY _ _ _ ⟨fun c => absurd c (by omega), fun _ => ?_⟩)
    · rw [tmod8, u8wrap, Nat.mod_mod, show (256 : Int) = ((256 : Nat) : Int) from rfl, tdivN _ _ (by omega), w1 (by omega)]; exact hn2
    · rw [List.append_assoc]
      rw [oneB, show 4 - nb y = z by omega] at hn; exact hn
  have wz : ∀ z : Nat, z ≤ 4 → IntKind.u8.wrap (z : Int) = (z : Int) := fun z hz => by rw [u8wrap]; omega
  have q3 : y < 256 → Z ((3 : Nat) : Int) ((1 : Nat) : Int) := fun hy3 => by
    refine hZ _ _ ⟨fun _ => ⟨by decide, ?_⟩, fun c => absurd (by decide) c⟩
    rw [tdivN _ _ (by omega), Nat.div_one]
    refine ⟨fun c => ⟨fun _ => ⟨by rw [len1]; omega, ?_⟩, fun c2 => absurd rfl c2⟩, fun c => ⟨by rw [len1]; omega, ?_⟩⟩
    · rw [w1 (by decide), wz 4 (by decide)]
      exact fin 4 (by unfold nb; rw [if_pos (by omega)])
    · rw [wz 3 (by decide)]
      exact fin 3 (by unfold nb; rw [if_neg (by omega), if_pos (by omega)])
  have q2 : y < 65536 → Z ((2 : Nat) : Int) ((256 : Nat) : Int) := fun hy3 => by
    refine hZ _ _ ⟨fun _ => ⟨by decide, ?_⟩, fun c => absurd (by decide) c⟩
    rw [tdivN _ _ (by omega), w1 (by decide), show IntKind.i64.wrap (Int.tdiv ((256 : Nat) : Int) 256) = ((1 : Nat) : Int) by decide]
    refine ⟨fun c => ⟨fun c2 => absurd c2 (by decide), fun _ => q3 (by omega)⟩, fun c => ⟨by rw [len1]; omega, ?_⟩⟩
    rw [wz 2 (by decide)]
    exact fin 2 (by unfold nb; rw [if_neg (by omega), if_neg (by omega), if_pos (by omega)])
  have q1 : y < 16777216 → Z ((1 : Nat) : Int) ((65536 : Nat) : Int) := fun hy3 => by
    refine hZ _ _ ⟨fun _ => ⟨by decide, ?_⟩, fun c => absurd (by decide) c⟩
    rw [tdivN _ _ (by omega), w1 (by decide), show IntKind.i64.wrap (Int.tdiv ((65536 : Nat) : Int) 256) = ((256 : Nat) : Int) by decide]
    refine ⟨fun c => ⟨fun c2 => absurd c2 (by decide), fun _ => q2 (by omega)⟩, fun c => ⟨by rw [len1]; omega, ?_⟩⟩
    rw [wz 1 (by decide)]
    exact fin 1 (by unfold nb; rw [if_neg (by omega), if_neg (by omega), if_neg (by omega), if_pos (by omega)])
  show Z ((0 : Nat) : Int) ((16777216 : Nat) : Int)
  refine hZ _ _ ⟨fun _ => ⟨by decide, ?_⟩, fun c => absurd (by decide) c⟩
  rw [tdivN _ _ (by omega), w1 (by decide), show IntKind.i64.wrap (Int.tdiv ((16777216 : Nat) : Int) 256) = ((65536 : Nat) : Int) by decide]
  refine ⟨fun c => ⟨fun c2 => absurd c2 (by decide), fun _ => q1 (by omega)⟩, fun c => ⟨by rw [len1]; omega, ?_⟩⟩
  rw [wz 0 (by decide)]
  exact fin 0 (by unfold nb; rw [if_neg (by omega), if_neg (by omega), if_neg (by omega), if_neg (by omega)])

end Go.Proofs.Ytfieljajhmpbiaa.G

namespace Go.Proofs.Ytfieljajhmpbiaa.G
open Go Go.Ab
set_option maxRecDepth 100000
set_option linter.unusedVariables false
set_option linter.unusedSimpArgs false
set_option maxHeartbeats 1000000
theorem szFloat32S_wp {l : List Nat} {n : Int} {K : Int → Prop} (hl : l.length ≤ maxLen) (hn : 0 ≤ n ∧ n ≤ 2 ^ 40) (h0 : K (-1)) (h : (l.length : Int) ≤ n → K (n - (l.length : Int))) : laws_szFloat32S.wp l n K := by
  have hm : l.length < 2 ^ 63 := Nat.lt_of_le_of_lt hl (by decide)
  have e : IntKind.i64.wrap (n - (l.length : Int)) = n - (l.length : Int) := wI (by omega)
  refine ⟨fun c => h0, fun c => ?_⟩
  rw [e] at c ⊢; exact h (by omega)
theorem szTake_wp {a : List UInt8} {k : Int} {l : List Nat} {n : Int} {K : Int → Prop} (ha : a.length ≤ maxLen) (hl : l.length ≤ maxLen) (hn : 0 ≤ n ∧ n ≤ 2 ^ 40) (h0 : K (-1)) (h : (a.length : Int) + (l.length : Int) ≤ n → K (n - (a.length : Int) - (l.length : Int))) : laws_szTake.wp a k l n K := by
  have hm : a.length < 2 ^ 63 := Nat.lt_of_le_of_lt ha (by decide)
  have e : IntKind.i64.wrap (n - (a.length : Int)) = n - (a.length : Int) := wI (by omega)
  refine ⟨fun c => h0, fun c => ?_⟩
  rw [e] at c ⊢
  refine szFloat32S_wp hl (by omega) (tP (by omega) h0) fun h1 => ⟨fun c2 => absurd c2 (by omega), fun _ => h (by omega)⟩
theorem toTake_wp {a : List UInt8} {k : Int} {l : List Nat} {K : List UInt8 → Int → List Nat → Prop} (hl : l.length ≤ 2 ^ 20) (h : K a k l) : laws_toTake.wp a k l K := toFloat32S_wp hl h
theorem eqTake_wp {a : List UInt8} {k : Int} {l : List Nat} {K : Bool → Prop} (hl : l.length ≤ 2 ^ 20) (h : K true) : laws_eqTake.wp a k l a k l K :=
  tP rfl (tP rfl (eqFloat32S_wp hl (tT h)))
def btOk (a : List UInt8) (i : Nat) : Bool := !decide (bt a i < 97) && !decide (122 < bt a i)
def isNm (a : List UInt8) : Bool := (List.range a.length).all (btOk a) && decide (1 ≤ (a.length : Int) ∧ (a.length : Int) ≤ 8)
theorem range_get2 {n i : Nat} (h : i < (List.range n).length) : (List.range n)[i] = i := List.getElem_range h
theorem nm_yes {a : List UInt8} (h : (List.range a.length).all (btOk a) = true) : isNm a = decide (1 ≤ (a.length : Int) ∧ (a.length : Int) ≤ 8) := by rw [isNm, h]; rfl
theorem nm_no {a : List UInt8} (h : (List.range a.length).all (btOk a) = false) : isNm a = false := by rw [isNm, h]; rfl
theorem spec_l07Name_wp {a : List UInt8} {K : Bool → Prop} (ha : a.length ≤ 2 ^ 40) (h : K (isNm a)) : spec_l07Name.wp a K := by
  intro X hX
  refine all_loop (List.range a.length) (btOk a) (X := X) (T := K (decide (1 ≤ (a.length : Int) ∧ (a.length : Int) ≤ 8))) (F := K false) (fun i hi hh => ?_) (fun ht => hX _ ⟨fun c => absurd c (by rw [List.length_range]; omega), fun _ => ⟨fun h1 => ?_, fun h1 => ?_⟩⟩) (fun e => by rw [nm_yes e] at h; exact h) (fun e => by rw [nm_no e] at h; exact h)
  · rw [range_get2] at hh; rw [List.length_range] at hi
    refine hX _ ⟨fun _ => ⟨⟨by omega, by omega⟩, ?_⟩, fun c => absurd (show (i : Int) < a.length by omega) c⟩
    rw [w1 (by omega)]
    refine ⟨fun c1 => hh.2 (by rw [btOk, decide_eq_true c1]; rfl), fun c1 => ⟨fun c2 => hh.2 (by rw [btOk, decide_eq_true c2, Bool.not_true, Bool.and_false]), fun c2 => hh.1 (by rw [btOk, decide_eq_false c1, decide_eq_false c2]; rfl)⟩⟩
  · rw [show decide (1 ≤ (a.length : Int) ∧ (a.length : Int) ≤ 8) = decide ((a.length : Int) ≤ 8) by simp [h1]] at ht; exact ht
  · rw [show decide (1 ≤ (a.length : Int) ∧ (a.length : Int) ≤ 8) = false by simp [h1]] at ht; exact ht
theorem impl_IsName_wp {a : List UInt8} {K : Bool → Prop} (ha : a.length ≤ 2 ^ 40) (h : K (isNm a)) : impl_IsName.wp a K := by
  intro X hX
  refine all_loop (List.range a.length) (btOk a) (X := X) (T := K (decide (1 ≤ (a.length : Int) ∧ (a.length : Int) ≤ 8))) (F := K false) (fun i hi hh => ?_) (fun ht => hX _ ⟨fun c => absurd c (by rw [List.length_range]; omega), fun _ => ⟨fun h1 => ?_, fun h1 => ?_⟩⟩) (fun e => by rw [nm_yes e] at h; exact h) (fun e => by rw [nm_no e] at h; exact h)
  · rw [range_get2] at hh; rw [List.length_range] at hi
    refine hX _ ⟨fun _ => ⟨⟨by omega, by omega⟩, ?_⟩, fun c => absurd (show (i : Int) < a.length by omega) c⟩
    rw [w1 (by omega)]
    refine ⟨fun c1 => hh.2 (by rw [btOk, decide_eq_true c1]; rfl), fun c1 => ⟨fun c2 => hh.2 (by rw [btOk, decide_eq_true c2, Bool.not_true, Bool.and_false]), fun c2 => hh.1 (by rw [btOk, decide_eq_false c1, decide_eq_false c2]; rfl)⟩⟩
  · rw [show decide (1 ≤ (a.length : Int) ∧ (a.length : Int) ≤ 8) = decide ((a.length : Int) ≤ 8) by simp [h1]] at ht; exact ht
  · rw [show decide (1 ≤ (a.length : Int) ∧ (a.length : Int) ≤ 8) = false by simp [h1]] at ht; exact ht
def isVals (l : List Nat) : Bool := decide (1 ≤ (l.length : Int) ∧ (l.length : Int) ≤ 128)
theorem spec_l07Values_wp {l : List Nat} {K : Bool → Prop} (h : K (isVals l)) : spec_l07Values.wp l K := by
  unfold isVals at h
  refine ⟨fun h1 => ?_, fun h1 => ?_⟩
  · rw [show decide (1 ≤ (l.length : Int) ∧ (l.length : Int) ≤ 128) = decide ((l.length : Int) ≤ 128) by simp [h1]] at h; exact h
  · rw [show decide (1 ≤ (l.length : Int) ∧ (l.length : Int) ≤ 128) = false by simp [h1]] at h; exact h
def isTk (a : List UInt8) (k : Int) (l : List Nat) : Bool := isNm a && decide (1 ≤ k ∧ k ≤ 65535) && isVals l
theorem spec_l07Take_wp {a : List UInt8} {k : Int} {l : List Nat} {K : Bool → Prop} (ha : a.length ≤ 2 ^ 40) (h : K (isTk a k l)) : spec_l07Take.wp a k l K := by
  refine spec_l07Name_wp ha ⟨fun h1 => spec_l00In_wp ⟨fun h2 => spec_l07Values_wp ?_, fun h2 => ?_⟩, fun h1 => ?_⟩
  · rw [isTk, h1, h2] at h; exact h
  · rw [isTk, h1, h2] at h; exact h
  · rw [isTk, h1] at h; exact h
theorem impl_ValidTake_wp {a : List UInt8} {k : Int} {l : List Nat} {K : Bool → Prop} (ha : a.length ≤ 2 ^ 40) (h : K (isTk a k l)) : impl_ValidTake.wp a k l K := by
  refine impl_IsName_wp ha ⟨fun h1 => impl_within_wp ⟨fun h2 => impl_within_wp ?_, fun h2 => ?_⟩, fun h1 => ?_⟩
  · rw [isTk, h1, h2] at h; exact h
  · rw [isTk, h1, h2] at h; exact h
  · rw [isTk, h1] at h; exact h

end Go.Proofs.Ytfieljajhmpbiaa.G

namespace Go.Proofs.Ytfieljajhmpbiaa.G
open Go Go.Ab
set_option maxRecDepth 100000
set_option linter.unusedVariables false
set_option linter.unusedSimpArgs false
set_option maxHeartbeats 1000000
theorem nums_len (l : List UInt8) : (nums l).length = l.length := by simp [nums]
theorem byts_len (l : List Int) : (byts l).length = l.length := by simp [byts]
def chkTo : List UInt8 → Nat → Nat
  | [], n => n
  | c :: l, n => chkTo l ((853 * n + c.toNat + 139) % 65003)
theorem chkTo_lt : ∀ (l : List UInt8) (n : Nat), n < 65003 → chkTo l n < 65003
  | [], n, h => h
  | c :: l, n, h => chkTo_lt l _ (Nat.mod_lt _ (by decide))
theorem chk_loop (a : List UInt8) {X : Int → Int → Prop} (hX : ∀ n i : Nat, n < 65003 → ∀ hi : i < a.length, X (((853 * n + (a[i]).toNat + 139) % 65003 : Nat) : Int) ((i + 1 : Nat) : Int) → X n i) (n : Nat) (hn : n < 65003) (hend : X (chkTo a n : Nat) (a.length : Int)) : X (n : Int) ((0 : Nat) : Int) := by
  have key : ∀ (m i n : Nat), m + i = a.length → n < 65003 → chkTo (a.drop i) n = chkTo a (chkTo [] 0 + 0) ∨ True → X (chkTo (a.drop i) n : Nat) (a.length : Int) → X (n : Int) (i : Int) := by
    intro m
    induction m with
    | zero => intro i n h1 h2 _ h3
              obtain rfl : i = a.length := by omega
              rw [List.drop_length] at h3; exact h3
    | succ m ih =>
      intro i n h1 h2 _ h3
      have hi : i < a.length := by omega
      rw [dropC hi] at h3
      exact hX n i h2 hi (ih (i + 1) _ (by omega) (Nat.mod_lt _ (by decide)) (.inr trivial) h3)
  exact key a.length 0 n (by omega) hn (.inr trivial) hend
theorem chk_step (n b : Nat) (hn : n < 65003) (hb : b < 256) : Int.tmod (IntKind.i64.wrap ((IntKind.i64.wrap ((IntKind.i64.wrap (853 * (n : Int))) + (IntKind.i64.wrap ((b : Nat) : Int)))) + 139)) 65003 = ((((853 * n + b + 139) % 65003 : Nat)) : Int) := by
  rw [wI (n := 853 * (n : Int)) (by omega), wI (n := (b : Int)) (by omega), wI (n := 853 * (n : Int) + (b : Int)) (by omega), wI (n := 853 * (n : Int) + (b : Int) + 139) (by omega), Int.tmod_eq_emod_of_nonneg (by omega)]
  omega
theorem bt_at {a : List UInt8} {i : Nat} (hi : i < a.length) : bt a (i : Int) = ((a[i]).toNat : Int) := by
  unfold bt; rw [nn, gD hi]
theorem spec_l01Check_wp {n : Nat} {a : List UInt8} {K : Int → Prop} (ha : a.length ≤ 2 ^ 40) (hn : n < 65003) (h : K (chkTo a n : Nat)) : spec_l01Check.wp (n : Int) a K := by
  intro X hX
  refine chk_loop a (X := X) (fun n i hn hi h2 => hX _ _ ⟨fun _ => ⟨⟨by omega, by omega⟩, ?_⟩, fun c => absurd (show (i : Int) < a.length by omega) c⟩) n hn (hX _ _ ⟨fun c => absurd c (by omega), fun _ => h⟩)
  rw [bt_at hi, chk_step n _ hn (UInt8.toNat_lt _), w1 (by omega)]; exact h2
theorem impl_CheckOf_wp {n : Nat} {a : List UInt8} {K : Int → Bool → Prop} (ha : a.length ≤ 2 ^ 40) (hn : n < 65003) (h : K (chkTo a n : Nat) true) : impl_CheckOf.wp (n : Int) a K := by
  refine impl_within_wp (tE (decide_eq_true (by omega)) fun X hX => ?_)
  refine chk_loop a (X := X) (fun n i hn hi h2 => hX _ _ ⟨fun _ => ⟨⟨by omega, by omega⟩, ?_⟩, fun c => absurd (show (i : Int) < a.length by omega) c⟩) n hn (hX _ _ ⟨fun c => absurd c (by omega), fun _ => h⟩)
  rw [bt_at hi, chk_step n _ hn (UInt8.toNat_lt _), w1 (by omega)]; exact h2
def loB (k : Nat) : List Int := [((k % 256 : Nat) : Int), ((k / 256 % 256 : Nat) : Int)]
theorem loB_s (k : Nat) (hk : k < 2 ^ 40) : [(IntKind.u8.wrap (Int.tmod (k : Int) 256)), (IntKind.u8.wrap (IntKind.i64.wrap (Int.tdiv (k : Int) 256)))] = loB k := by
  rw [tmod8, u8wrap, Nat.mod_mod, show (256 : Int) = ((256 : Nat) : Int) from rfl, tdivN _ _ hk, u8wrap]; rfl
theorem loB_i (k : Nat) : [(IntKind.u8.wrap (k : Int)), (IntKind.u8.wrap (Int.fdiv (k : Int) (2 ^ (min (8 : Int).toNat IntKind.i64.bits))))] = loB k := by
  rw [fdiv8, u8wrap, u8wrap]; rfl
theorem loB_len (k : Nat) : (loB k).length = 2 := rfl
def stBody (a : List UInt8) (k : Nat) (l : List Nat) : List Int := ((([84, 65, 75, 49] ++ [((a.length % 256 : Nat) : Int)]) ++ nums a) ++ (loB k ++ loB (packL l).length)) ++ nums (packL l)
def storeL (a : List UInt8) (k : Nat) (l : List Nat) : List UInt8 := byts (stBody a k l ++ loB (chkTo (byts (stBody a k l)) 0))
theorem packTo_len : ∀ (l : List Nat) (b : Nat), (packTo l b).length ≤ 5 * l.length
  | [], _ => Nat.le_refl _
  | x :: l, b => by
    have h1 := packTo_len l (bitsN x)
    have h2 := oneB_len (bitsN x ^^^ b)
    rw [packTo, List.length_append, List.length_cons]; omega
theorem packL_len (l : List Nat) : (packL l).length ≤ 5 * l.length := by rw [packL, byts_len]; exact packTo_len l 0
theorem stBody_len (a : List UInt8) (k : Nat) (l : List Nat) : (stBody a k l).length ≤ 9 + a.length + 5 * l.length := by
  have := packL_len l
  simp only [stBody, List.length_append, nums_len, loB_len, List.length_cons, List.length_nil]; omega
theorem storeL_len (a : List UInt8) (k : Nat) (l : List Nat) : (storeL a k l).length ≤ 11 + a.length + 5 * l.length := by
  have := stBody_len a k l
  rw [storeL, byts_len, List.length_append, loB_len]; omega
theorem lB_app (k m : Nat) : loB k ++ loB m = [((k % 256 : Nat) : Int), ((k / 256 % 256 : Nat) : Int), ((m % 256 : Nat) : Int), ((m / 256 % 256 : Nat) : Int)] := rfl
theorem four_s (k m : Nat) (hk : k < 2 ^ 40) (hm : m < 2 ^ 40) : [(IntKind.u8.wrap (Int.tmod (k : Int) 256)), (IntKind.u8.wrap (IntKind.i64.wrap (Int.tdiv (k : Int) 256))), (IntKind.u8.wrap (Int.tmod (m : Int) 256)), (IntKind.u8.wrap (IntKind.i64.wrap (Int.tdiv (m : Int) 256)))] = loB k ++ loB m := by
  rw [← loB_s k hk, ← loB_s m hm]; rfl
theorem spec_l07Store_wp {a : List UInt8} {k : Nat} {l : List Nat} {K : List UInt8 → Prop} (ha : a.length ≤ 8) (hk : k < 2 ^ 16) (hl : l.length ≤ 128) (hw : ∀ x ∈ l, x < 2 ^ 32) (h : K (storeL a k l)) : spec_l07Store.wp a (k : Int) l K := by
  have hp := packL_len l
  have hb := stBody_len a k l
  have hc := chkTo_lt (byts (stBody a k l)) 0 (by decide)
  refine ⟨by decide, by simp only [List.length_cons, List.length_nil]; decide, ?_, spec_l07Pack_wp (by omega) hw ⟨?_, ?_, ?_⟩⟩
  · simp only [List.length_append, nums_len, List.length_cons, List.length_nil]; omega
  · simp only [List.length_append, nums_len, List.length_cons, List.length_nil]; omega
  · simp only [List.length_append, nums_len, List.length_cons, List.length_nil]; omega
  · rw [four_s k _ (by omega) (by omega), u8wrap]
    rw [show ((((([84, 65, 75, 49] : List Int) ++ ([((a.length % 256 : Nat) : Int)] : List Int)) ++ nums a) ++ (loB k ++ loB (packL l).length)) ++ nums (packL l)) = stBody a k l from rfl]
    refine spec_l01Check_wp (n := 0) (by rw [byts_len]; omega) (by decide) ⟨?_, ?_⟩
    · simp only [List.length_append, List.length_cons, List.length_nil]; omega
    · rw [loB_s _ (by omega)]; exact h
theorem impl_lowBytes_wp {k : Nat} {K : List Int → Prop} (h : K (loB k)) : impl_lowBytes.wp (k : Int) K := by
  unfold impl_lowBytes.wp
  rw [loB_i]; exact h
theorem st_both (a : List UInt8) (k : Int) (l : List Nat) (ha : a.length ≤ 2 ^ 20) (hl : l.length ≤ 2 ^ 20) (hw : ∀ x ∈ l, x < 2 ^ 32) : ∃ out ok, (∀ K, K out ok → spec_StoreTake.wp a k l K) ∧ (∀ K, K out ok → impl_StoreTake.wp a k l K) := by
  refine ⟨if isTk a k l = true then storeL a k.toNat l else [], isTk a k l, fun K hk => ?_, fun K hk => ?_⟩
  · refine spec_l07Take_wp (by omega) ⟨fun h1 => ?_, fun h1 => by rw [h1, if_neg (by decide)] at hk; exact hk⟩
    rw [h1, if_pos rfl] at hk
    simp only [isTk, isNm, isVals, Bool.and_eq_true, decide_eq_true_eq] at h1
    obtain ⟨kn, rfl⟩ : ∃ kn : Nat, k = kn := ⟨k.toNat, by omega⟩
    exact spec_l07Store_wp (by omega) (by omega) (by omega) hw hk
  · refine impl_ValidTake_wp (by omega) ⟨fun h1 => ?_, fun h1 => by rw [h1, if_neg (by decide)] at hk; exact hk⟩
    rw [h1, if_pos rfl] at hk
    simp only [isTk, isNm, isVals, Bool.and_eq_true, decide_eq_true_eq] at h1
    obtain ⟨kn, rfl⟩ : ∃ kn : Nat, k = kn := ⟨k.toNat, by omega⟩
    have hp := packL_len l
    have hb := stBody_len a kn l
    have hc := chkTo_lt (byts (stBody a kn l)) 0 (by decide)
    refine impl_packed_wp hl hw ⟨by decide, by simp only [List.length_cons, List.length_nil]; decide, ?_, impl_lowBytes_wp ⟨?_, impl_lowBytes_wp ⟨?_, ?_, ?_⟩⟩⟩
    · simp only [List.length_append, List.length_cons, List.length_nil]; omega
    · simp only [List.length_append, nums_len, loB_len, List.length_cons, List.length_nil]; omega
    · simp only [List.length_append, nums_len, loB_len, List.length_cons, List.length_nil]; omega
    · simp only [List.length_append, nums_len, loB_len, List.length_cons, List.length_nil]; omega
    · rw [u8wrap]
      rw [show (((((([84, 65, 75, 49] : List Int) ++ ([((a.length % 256 : Nat) : Int)] : List Int)) ++ nums a) ++ loB kn) ++ loB (packL l).length) ++ nums (packL l)) = stBody a kn l by rw [stBody, List.append_assoc _ (loB kn)]]
      refine impl_CheckOf_wp (n := 0) (by rw [byts_len]; omega) (by decide) (impl_lowBytes_wp ⟨?_, ?_⟩)
      · simp only [List.length_append, loB_len]; omega
      · exact hk

end Go.Proofs.Ytfieljajhmpbiaa.G

namespace Go.Proofs.Ytfieljajhmpbiaa.G
open Go Go.Ab
set_option maxRecDepth 100000
set_option linter.unusedVariables false
set_option linter.unusedSimpArgs false
set_option maxHeartbeats 1000000
abbrev Tk := List UInt8 × Int × List Nat
def tk0 : Tk := (([] : List UInt8), (0 : Int), ([] : List Nat))
/-- What a law is handed. -/
def TkIn (l : List Tk) : Prop := ∀ z ∈ l, z.1.length ≤ maxLen ∧ z.2.2.length ≤ maxLen ∧ (∀ y ∈ z.2.2, y < 2 ^ 32) ∧ True
/-- What is small. -/
def TkOk (l : List Tk) : Prop := l.length ≤ 2 ^ 20 ∧ ∀ z ∈ l, z.1.length ≤ 2 ^ 20 ∧ z.2.2.length ≤ 2 ^ 20 ∧ ∀ y ∈ z.2.2, y < 2 ^ 32
theorem szTakeS_wp {l : List Tk} {n : Int} {K : Int → Prop} (hl : l.length ≤ maxLen) (hin : TkIn l) (hn : 0 ≤ n ∧ n ≤ 2 ^ 20) (h0 : K (-1)) (h : TkOk l → ∀ m, 0 ≤ m ∧ m ≤ n → K m) : laws_szTakeS.wp l n K := by
  have hm : l.length < 2 ^ 63 := Nat.lt_of_le_of_lt hl (by decide)
  have e : IntKind.i64.wrap (n - (l.length : Int)) = n - (l.length : Int) := wI (by omega)
  refine ⟨fun c => h0, fun c => ?_⟩
  rw [e] at c ⊢
  intro X hX
  have key : ∀ (m i : Nat) (r : Int), m + i = l.length → 0 ≤ r → r ≤ n → (∀ z ∈ l.take i, z.1.length ≤ 2 ^ 20 ∧ z.2.2.length ≤ 2 ^ 20 ∧ ∀ y ∈ z.2.2, y < 2 ^ 32) → X r (i : Int) := by
    intro m
    induction m with
    | zero => intro i r h1 h2 h2' h3
              obtain rfl : i = l.length := by omega
              rw [List.take_length] at h3
              exact hX _ _ ⟨fun c => absurd c (by omega), fun _ => h ⟨by omega, h3⟩ r ⟨h2, h2'⟩⟩
    | succ m ih =>
      intro i r h1 h2 h2' h3
      have hi : i < l.length := by omega
      have hz := hin _ (List.getElem_mem hi)
      refine hX _ _ ⟨fun _ => ⟨⟨by omega, by omega⟩, ?_⟩, fun c => absurd (show (i : Int) < l.length by omega) c⟩
      rw [nn, gD hi, w1 (by omega)]
      refine szTake_wp hz.1 hz.2.1 (by omega) (tP (by omega) h0) fun hr => tN (by omega) (ih (i + 1) _ (by omega) (by omega) (by omega) fun z hzz => ?_)
      rw [List.take_succ_eq_append_getElem hi, List.mem_append, List.mem_singleton] at hzz
      rcases hzz with hzz | rfl
      · exact h3 z hzz
      · exact ⟨by omega, by omega, hz.2.2.1⟩
  exact key l.length 0 _ (by omega) (by omega) (by omega) (fun z hz => by cases hz)
theorem toTakeS_wp {l : List Tk} {K : List Tk → Prop} (hl : TkOk l) (h : K l) : laws_toTakeS.wp l K := by
  obtain ⟨hl, hz⟩ := hl
  refine ⟨⟨by omega, by omega, by omega, by omega⟩, fun X hX => ?_⟩
  have key : X (l.take 0 ++ List.replicate (l.length - 0) tk0) ((0 : Nat) : Int) := by
    refine up (Y := fun i => X (l.take i ++ List.replicate (l.length - i) tk0) (i : Int)) l.length ?_ fun i hi hn => ?_
    · refine hX _ _ ⟨fun c => absurd c (by omega), fun _ => ?_⟩
      rw [List.take_length, Nat.sub_self, List.replicate_zero, List.append_nil]; exact h
    · refine hX _ _ ⟨fun _ => ⟨⟨by omega, by omega⟩, ?_⟩, fun c => absurd (show (i : Int) < l.length by omega) c⟩
      rw [nn, w1 (by omega), gD hi]
      refine toTake_wp (hz _ (List.getElem_mem hi)).2.1 ⟨⟨by omega, ?_⟩, ?_⟩
      · rw [List.length_append, List.length_take, List.length_replicate]; omega
      · rw [show (l[i].1, l[i].2.1, l[i].2.2) = l[i] from rfl, set_fill tk0 (by omega) hi]
        exact hn
  rw [List.take_zero, List.nil_append, Nat.sub_zero] at key; exact key
theorem eqTakeS_wp {l : List Tk} {K : Bool → Prop} (hl : TkOk l) (h : K true) : laws_eqTakeS.wp l l K := by
  obtain ⟨hl, hz⟩ := hl
  refine tP rfl fun X hX => ?_
  refine up (Y := fun i => X (i : Int)) l.length ?_ fun i hi hn => ?_
  · exact hX _ ⟨fun c => absurd c (by omega), fun _ => h⟩
  · refine hX _ ⟨fun _ => ⟨⟨by omega, by omega⟩, ⟨by omega, by omega⟩, ?_⟩, fun c => absurd (show (i : Int) < l.length by omega) c⟩
    rw [nn, gD hi, w1 (by omega)]
    exact eqTake_wp (hz _ (List.getElem_mem hi)).2.1 (tT hn)

end Go.Proofs.Ytfieljajhmpbiaa.G

namespace Go.Proofs.Ytfieljajhmpbiaa.G
open Go Go.Ab
set_option maxRecDepth 100000
set_option linter.unusedVariables false
set_option linter.unusedSimpArgs false
set_option maxHeartbeats 1000000
theorem cat_loop {α : Type} (l : List α) (p : α → Bool) (f : α → List UInt8) (B : Nat) (hB : ∀ x ∈ l, p x = true → (f x).length ≤ B) {X : List UInt8 → Int → Prop} {T F : Prop} (hX : ∀ (i : Nat) (h : i < l.length) (o : List UInt8), o.length ≤ B * i → ((p l[i] = true → X (o ++ f l[i]) ((i + 1 : Nat) : Int)) ∧ (p l[i] = false → F)) → X o (i : Int))
    (hend : T → X (l.flatMap f) (l.length : Int)) (ht : l.all p = true → T) (hf : l.all p = false → F) : X [] ((0 : Nat) : Int) := by
  have key : ∀ (m i : Nat) (o : List UInt8), m + i = l.length → o.length ≤ B * i → o ++ (l.drop i).flatMap f = l.flatMap f → ((l.drop i).all p = true → T) → ((l.drop i).all p = false → F) → X o (i : Int) := by
    intro m
    induction m with
    | zero => intro i o h1 h2 h3 h4 h5
              obtain rfl : i = l.length := by omega
              rw [List.drop_length, List.flatMap_nil, List.append_nil] at h3
              rw [h3]; exact hend (h4 (by rw [List.drop_length]; rfl))
    | succ m ih =>
      intro i o h1 h2 h3 h4 h5
      have hi : i < l.length := by omega
      rw [dropC hi, List.all_cons] at h4 h5
      refine hX i hi o h2 ⟨fun e => ih (i + 1) _ (by omega) ?_ ?_ (fun a => h4 (by rw [e, a]; rfl)) (fun a => h5 (by rw [e, a]; rfl)), fun e => h5 (by rw [e]; rfl)⟩
      · have := hB _ (List.getElem_mem hi) e
        rw [List.length_append, Nat.mul_succ]; omega
      · rw [dropC hi, List.flatMap_cons] at h3
        rw [List.append_assoc]; exact h3
  exact key l.length 0 [] (by omega) (by simp) rfl (by rw [List.drop_zero]; exact ht) (by rw [List.drop_zero]; exact hf)
def tkP (z : Tk) : Bool := isTk z.1 z.2.1 z.2.2
def tkS (z : Tk) : List UInt8 := storeL z.1 z.2.1.toNat z.2.2
theorem tkP_len {z : Tk} (h : tkP z = true) : 1 ≤ z.1.length ∧ z.1.length ≤ 8 ∧ 1 ≤ z.2.1 ∧ z.2.1 ≤ 65535 ∧ z.2.2.length ≤ 128 := by
  simp only [tkP, isTk, isNm, isVals, Bool.and_eq_true, decide_eq_true_eq] at h; omega
theorem tkS_len {z : Tk} (h : tkP z = true) : (tkS z).length ≤ 1000 := by
  have := tkP_len h
  have := storeL_len z.1 z.2.1.toNat z.2.2
  rw [tkS]; omega
def stsOk (l : List Tk) : Bool := decide (l.length ≤ 8) && l.all tkP
theorem impl_StoreTake_wp {a : List UInt8} {k : Int} {l : List Nat} {K : List UInt8 → Bool → Prop} (ha : a.length ≤ 2 ^ 20) (hl : l.length ≤ 2 ^ 20) (hw : ∀ x ∈ l, x < 2 ^ 32) (h : K (if isTk a k l = true then storeL a k.toNat l else []) (isTk a k l)) : impl_StoreTake.wp a k l K := by
  refine impl_ValidTake_wp (by omega) ⟨fun h1 => ?_, fun h1 => by rw [h1, if_neg (by decide)] at h; exact h⟩
  rw [h1, if_pos rfl] at h
  simp only [isTk, isNm, isVals, Bool.and_eq_true, decide_eq_true_eq] at h1
  obtain ⟨kn, rfl⟩ : ∃ kn : Nat, k = kn := ⟨k.toNat, by omega⟩
  have hp := packL_len l
  have hb := stBody_len a kn l
  have hc := chkTo_lt (byts (stBody a kn l)) 0 (by decide)
  refine impl_packed_wp hl hw ⟨by decide, by simp only [List.length_cons, List.length_nil]; decide, ?_, impl_lowBytes_wp ⟨?_, impl_lowBytes_wp ⟨?_, ?_, ?_⟩⟩⟩
  · simp only [List.length_append, List.length_cons, List.length_nil]; omega
  · simp only [List.length_append, nums_len, loB_len, List.length_cons, List.length_nil]; omega
  · simp only [List.length_append, nums_len, loB_len, List.length_cons, List.length_nil]; omega
  · simp only [List.length_append, nums_len, loB_len, List.length_cons, List.length_nil]; omega
  · rw [u8wrap]
    rw [show (((((([84, 65, 75, 49] : List Int) ++ ([((a.length % 256 : Nat) : Int)] : List Int)) ++ nums a) ++ loB kn) ++ loB (packL l).length) ++ nums (packL l)) = stBody a kn l by rw [stBody, List.append_assoc _ (loB kn)]]
    refine impl_CheckOf_wp (n := 0) (by rw [byts_len]; omega) (by decide) (impl_lowBytes_wp ⟨?_, ?_⟩)
    · simp only [List.length_append, loB_len]; omega
    · exact h
theorem sts_both (l : List Tk) (hl : TkOk l) : ∃ out ok, (∀ K, K out ok → spec_StoreTakes.wp l K) ∧ (∀ K, K out ok → impl_StoreTakes.wp l K) := by
  refine ⟨if stsOk l = true then l.flatMap tkS else [], stsOk l, fun K hk => ?_, fun K hk => ?_⟩
  · refine ⟨fun c => by rw [show stsOk l = false by rw [stsOk, decide_eq_false (by omega)]; rfl, if_neg (by decide)] at hk; exact hk, fun c => ?_⟩
    have c8 : l.length ≤ 8 := by omega
    have e : stsOk l = l.all tkP := by rw [stsOk, decide_eq_true c8]; rfl
    intro X hX
    refine cat_loop l tkP tkS 1000 (fun z _ h => tkS_len h) (X := X) (T := K (l.flatMap tkS) true) (F := K [] false) (fun i hi o ho hh => hX _ _ ⟨fun _ => ⟨⟨by omega, by omega⟩, ?_⟩, fun c => absurd (show (i : Int) < l.length by omega) c⟩) (fun ht => hX _ _ ⟨fun c => absurd c (by omega), fun _ => ht⟩) (fun ht => by rw [e, ht, if_pos rfl] at hk; exact hk) (fun hf => by rw [e, hf, if_neg (by decide)] at hk; exact hk)
    have hz := hl.2 _ (List.getElem_mem hi)
    rw [nn, gD hi, w1 (by omega)]
    refine spec_l07Take_wp (by omega) ⟨fun h1 => ?_, fun h1 => hh.2 h1⟩
    have hp := tkP_len (z := l[i]) h1
    obtain ⟨kn, hkn⟩ : ∃ kn : Nat, l[i].2.1 = kn := ⟨l[i].2.1.toNat, by omega⟩
    have hs := tkS_len (z := l[i]) h1
    have hx := hh.1 h1
    rw [tkS, hkn] at hx hs
    rw [hkn]
    refine spec_l07Store_wp (by omega) (by omega) (by omega) hz.2.2 ⟨?_, hx⟩
    rw [Int.toNat_natCast] at hs
    omega
  · refine ⟨fun c => by rw [show stsOk l = false by rw [stsOk, decide_eq_false (by omega)]; rfl, if_neg (by decide)] at hk; exact hk, fun c => ?_⟩
    have c8 : l.length ≤ 8 := by omega
    have e : stsOk l = l.all tkP := by rw [stsOk, decide_eq_true c8]; rfl
    intro X hX
    refine cat_loop l tkP tkS 1000 (fun z _ h => tkS_len h) (X := X) (T := K (l.flatMap tkS) true) (F := K [] false) (fun i hi o ho hh => hX _ _ ⟨fun _ => ⟨⟨by omega, by omega⟩, ?_⟩, fun c => absurd (show (i : Int) < l.length by omega) c⟩) (fun ht => hX _ _ ⟨fun c => absurd c (by omega), fun _ => ht⟩) (fun ht => by rw [e, ht, if_pos rfl] at hk; exact hk) (fun hf => by rw [e, hf, if_neg (by decide)] at hk; exact hk)
    have hz := hl.2 _ (List.getElem_mem hi)
    rw [nn, gD hi, w1 (by omega)]
    refine impl_StoreTake_wp hz.1 hz.2.1 hz.2.2 ⟨fun h1 => ?_, fun h1 => hh.2 h1⟩
    have hs := tkS_len (z := l[i]) h1
    have hx := hh.1 h1
    rw [if_pos h1]
    rw [tkS] at hs hx
    exact ⟨by omega, hx⟩

end Go.Proofs.Ytfieljajhmpbiaa.G

namespace Go.Proofs.Ytfieljajhmpbiaa.G
open Go Go.Ab
set_option maxRecDepth 100000
set_option linter.unusedVariables false
set_option linter.unusedSimpArgs false
set_option maxHeartbeats 1000000
-- HYPS: 0
-- HYPE: 0
theorem pureExactStoreTakes (l : List Tk) (hm : l.length ≤ maxLen) (hin : TkIn l) : laws_FnExactStoreTakes.wp l (fun b => b = true) := by
  refine szTakeS_wp hm hin (by omega) (tP (by omega) rfl) fun hl n hn => tN (by omega) ?_
  obtain ⟨out, ok, hs, hi⟩ := sts_both l hl
  exact toTakeS_wp hl (hs _ (toTakeS_wp hl (hi _ (tP rfl (tB (toTakeS_wp hl (eqTakeS_wp hl (tT rfl))))))))

end Go.Proofs.Ytfieljajhmpbiaa.G

