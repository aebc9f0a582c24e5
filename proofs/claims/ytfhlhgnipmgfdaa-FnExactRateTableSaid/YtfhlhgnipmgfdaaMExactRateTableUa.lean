/-
  What the formulas say, over numbers and lists alone. Nothing here is trusted.
-/
import Derived.Test.YtfhlhgnipmgfdaaMExactRateTableWa
namespace Go.Proofs.Ytfhlhgnipmgfdaa.G
open Go Go.Ab
set_option maxRecDepth 100000
set_option linter.unusedVariables false
set_option linter.unusedSimpArgs false
set_option maxHeartbeats 1000000
/-! ### truth -/
theorem tT {A B : Prop} (h : A) : (true = true → A) ∧ (true = false → B) := ⟨fun _ => h, fun c => (by cases c)⟩
theorem tF {A B : Prop} (h : B) : (false = true → A) ∧ (false = false → B) := ⟨fun c => (by cases c), fun _ => h⟩
theorem tB {A B : Prop} {b : Bool} (h : A) : ((b == b) = true → A) ∧ ((b == b) = false → B) := ⟨fun _ => h, fun c => (by simp at c)⟩
theorem tE {A B : Prop} {b : Bool} (e : b = true) (h : A) : (b = true → A) ∧ (b = false → B) := ⟨fun _ => h, fun c => (by rw [e] at c; cases c)⟩
theorem tG {A B : Prop} {b : Bool} (e : b = false) (h : B) : (b = true → A) ∧ (b = false → B) := ⟨fun c => (by rw [e] at c; cases c), fun _ => h⟩
theorem tP {p A B : Prop} (e : p) (h : A) : (p → A) ∧ (¬p → B) := ⟨fun _ => h, fun c => absurd e c⟩
theorem tN {p A B : Prop} (e : ¬p) (h : B) : (p → A) ∧ (¬p → B) := ⟨fun c => absurd c e, fun _ => h⟩
/-! ### loops -/
theorem up {Y : Nat → Prop} (n : Nat) (last : Y n) (step : ∀ i, i < n → Y (i + 1) → Y i) : Y 0 := by
  have key : ∀ d i, i + d = n → Y i := by
    intro d
    induction d with
    | zero => intro i h; obtain rfl : i = n := by omega
              exact last
    | succ d ih => intro i h; exact step i (by omega) (ih (i + 1) (by omega))
  exact key n 0 (by omega)
theorem w1 {i : Nat} (h : i < 4611686018427387904) : IntKind.i64.wrap ((i : Int) + (1 : Int)) = ((i + 1 : Nat) : Int) := wrap_succ (by omega)
theorem wI {n : Int} (h : -9223372036854775808 ≤ n ∧ n < 9223372036854775808) : IntKind.i64.wrap n = n := wrap_i64 h.1 h.2
theorem nn (i : Nat) : ((i : Int)).toNat = i := rfl
theorem gD {α : Type} {l : List α} {i : Nat} (h : i < l.length) (d : α) : l.getD i d = l[i] := by rw [List.getD_eq_getElem?_getD, List.getElem?_eq_getElem h]; rfl
theorem dropC {α : Type} {l : List α} {i : Nat} (h : i < l.length) : l.drop i = l[i] :: l.drop (i + 1) := List.drop_eq_getElem_cons h
theorem len1 {α : Type} (a : α) : ([a] : List α).length = 1 := rfl
theorem cz32 (n : Nat) (h : (FloatKind.f32.decode n).isNaN = false) : cz .f32 n = n := by simp [cz, h]
theorem c0_32 : cz .f32 0 = 0 := cz_zero32
/-! ### copies, comparisons, marks -/
theorem toFloat32S_wp {l : List Nat} {K : List Nat → Prop} (hl : l.length ≤ 2 ^ 20) (h : K l) : laws_toFloat32S.wp l K := by
  refine ⟨⟨by omega, by omega, by omega, by omega⟩, fun X hX => ?_⟩
  have key : X (l.take 0 ++ List.replicate (l.length - 0) (0 : Nat)) ((0 : Nat) : Int) := by
    refine up (Y := fun i => X (l.take i ++ List.replicate (l.length - i) (0 : Nat)) (i : Int)) l.length ?_ fun i hi hn => ?_
    · refine hX _ _ ⟨fun c => absurd c (by omega), fun _ => ?_⟩
      rw [List.take_length, Nat.sub_self, List.replicate_zero, List.append_nil]; exact h
    · refine hX _ _ ⟨fun _ => ⟨⟨by omega, by omega⟩, ⟨by omega, ?_⟩, ?_⟩, fun c => absurd (show (i : Int) < l.length by omega) c⟩
      · rw [List.length_append, List.length_take, List.length_replicate]; omega
      · rw [nn, w1 (by omega), gD hi, set_fill (0 : Nat) (by omega) hi]
        exact hn
  rw [List.take_zero, List.nil_append, Nat.sub_zero] at key; exact key
theorem sameFloat_wp {a : Nat} {K : Bool → Prop} (h : K true) : laws_sameFloat.wp a a K := by
  rcases order_self Ieee.double a with ho | ho
  · have e : fcmp .neq .f64 a a = true := by simp [fcmp, FloatKind.format, ho]
    exact tE e (by rw [e]; exact h)
  · have e : fcmp .neq .f64 a a = false := by simp [fcmp, FloatKind.format, ho]
    have e2 : fcmp .eql .f64 a a = true := by simp [fcmp, FloatKind.format, ho]
    refine tG e (tG e ⟨fun c => ⟨fun _ => by rw [BEq.rfl]; exact h, fun c2 => (by rw [c] at c2; cases c2)⟩, fun _ => by rw [e2]; exact h⟩)
theorem eqFloat32S_wp {l : List Nat} {K : Bool → Prop} (hl : l.length ≤ 2 ^ 20) (h : K true) : laws_eqFloat32S.wp l l K := by
  refine tP rfl fun X hX => ?_
  refine up (Y := fun i => X (i : Int)) l.length ?_ fun i hi hn => ?_
  · exact hX _ ⟨fun c => absurd c (by omega), fun _ => h⟩
  · refine hX _ ⟨fun _ => ⟨⟨by omega, by omega⟩, ⟨by omega, by omega⟩, sameFloat_wp (tT ?_)⟩, fun c => absurd (show (i : Int) < l.length by omega) c⟩
    rw [w1 (by omega)]; exact hn
theorem eqInt64S_wp {l : List Int} {K : Bool → Prop} (hl : l.length ≤ 2 ^ 20) (h : K true) : laws_eqInt64S.wp l l K := by
  refine tP rfl fun X hX => ?_
  refine up (Y := fun i => X (i : Int)) l.length ?_ fun i hi hn => ?_
  · exact hX _ ⟨fun c => absurd c (by omega), fun _ => h⟩
  · refine hX _ ⟨fun _ => ⟨⟨by omega, by omega⟩, ⟨by omega, by omega⟩, tP rfl ?_⟩, fun c => absurd (show (i : Int) < l.length by omega) c⟩
    rw [w1 (by omega)]; exact hn
theorem markFloat32S_wp {l : List Nat} {k : Nat} {K : Int → List Nat → Prop} (hl : l.length ≤ 2 ^ 20) (hk : k ≤ 2 ^ 40) (h : K ((k + l.length : Nat) : Int) (marks k l.length)) : laws_markFloat32S.wp l (k : Int) K := by
  intro X hX
  have key : X (marks k 0 ++ l.drop 0) ((k + 0 : Nat) : Int) ((0 : Nat) : Int) := by
    refine up (Y := fun i => X (marks k i ++ l.drop i) ((k + i : Nat) : Int) (i : Int)) l.length ?_ fun i hi hn => ?_
    · refine hX _ _ _ ⟨fun c => absurd c (by rw [List.length_append, marks_length, List.length_drop]; omega), fun _ => ?_⟩
      rw [List.drop_length, List.append_nil]; exact h
    · have hlen : (marks k i ++ l.drop i).length = l.length := by rw [List.length_append, marks_length, List.length_drop]; omega
      refine hX _ _ _ ⟨fun _ => ⟨⟨by omega, by rw [hlen]; omega⟩, ?_⟩, fun c => absurd (show (i : Int) < _ by rw [hlen]; omega) c⟩
      rw [nn, w1 (by omega), w1 (by omega)]
      have e := marks_step (l := l) (i := i) (m := l.length - i) k (by omega) hi
      rw [show (k : Int) + (i : Int) = ((k + i : Nat) : Int) by omega] at e
      rw [show itof .f32 ((k + i : Nat) : Int) = fl ((k + i : Nat) : Int) from rfl]
      rw [e]; exact hn
  exact key
theorem heldFloat32S_wp {k n : Nat} {K : Int → Prop} (hl : n ≤ 2 ^ 20) (hk : k ≤ 2 ^ 40) (h : K ((k + n : Nat) : Int)) : laws_heldFloat32S.wp (marks k n) (k : Int) K := by
  intro X hX
  have hlen : (marks k n).length = n := marks_length _ _
  have key : X ((k + 0 : Nat) : Int) ((0 : Nat) : Int) := by
    refine up (Y := fun i => X ((k + i : Nat) : Int) (i : Int)) n ?_ fun i hi hn => ?_
    · exact hX _ _ ⟨fun c => absurd c (by omega), fun _ => h⟩
    · refine hX _ _ ⟨fun _ => ⟨⟨by omega, by omega⟩, ?_⟩, fun c => absurd (show (i : Int) < _ by omega) c⟩
      rw [nn, gD (by omega), marks_at k n i (by omega), show (k : Int) + (i : Int) = ((k + i : Nat) : Int) by omega]
      refine tG (show fcmp .neq .f32 (fl ((k + i : Nat) : Int)) (itof .f32 ((k + i : Nat) : Int)) = false from fl_neq _) ?_
      rw [w1 (by omega), w1 (by omega)]; exact hn
  exact key
theorem markInt64S_wp {l : List Int} {k : Nat} {K : Int → List Int → Prop} (hl : l.length ≤ 2 ^ 20) (hk : k ≤ 2 ^ 40) (h : K ((k + l.length : Nat) : Int) (marksI k l.length)) : laws_markInt64S.wp l (k : Int) K := by
  intro X hX
  have key : X (marksI k 0 ++ l.drop 0) ((k + 0 : Nat) : Int) ((0 : Nat) : Int) := by
    refine up (Y := fun i => X (marksI k i ++ l.drop i) ((k + i : Nat) : Int) (i : Int)) l.length ?_ fun i hi hn => ?_
    · refine hX _ _ _ ⟨fun c => absurd c (by rw [List.length_append, marksI_length, List.length_drop]; omega), fun _ => ?_⟩
      rw [List.drop_length, List.append_nil]; exact h
    · have hlen : (marksI k i ++ l.drop i).length = l.length := by rw [List.length_append, marksI_length, List.length_drop]; omega
      refine hX _ _ _ ⟨fun _ => ⟨⟨by omega, by rw [hlen]; omega⟩, ?_⟩, fun c => absurd (show (i : Int) < _ by rw [hlen]; omega) c⟩
      rw [nn, w1 (by omega), w1 (by omega)]
      have e := marksI_step (l := l) (i := i) (m := l.length - i) k (by omega) hi
      rw [show (k : Int) + (i : Int) = ((k + i : Nat) : Int) by omega] at e
      
      rw [e]; exact hn
  exact key
theorem heldInt64S_wp {k n : Nat} {K : Int → Prop} (hl : n ≤ 2 ^ 20) (hk : k ≤ 2 ^ 40) (h : K ((k + n : Nat) : Int)) : laws_heldInt64S.wp (marksI k n) (k : Int) K := by
  intro X hX
  have hlen : (marksI k n).length = n := marksI_length _ _
  have key : X ((k + 0 : Nat) : Int) ((0 : Nat) : Int) := by
    refine up (Y := fun i => X ((k + i : Nat) : Int) (i : Int)) n ?_ fun i hi hn => ?_
    · exact hX _ _ ⟨fun c => absurd c (by omega), fun _ => h⟩
    · refine hX _ _ ⟨fun _ => ⟨⟨by omega, by omega⟩, ?_⟩, fun c => absurd (show (i : Int) < _ by omega) c⟩
      rw [nn, gD (by omega), marksI_at k n i (by omega), show (k : Int) + (i : Int) = ((k + i : Nat) : Int) by omega]
      refine tP rfl ?_
      rw [w1 (by omega), w1 (by omega)]; exact hn
  exact key

def pFin (x : Nat) : Bool := fcmp .eql .f32 (fop .sub .f32 x x) (cz .f32 0)
def pAll (l : List Nat) : Bool := l.all pFin
/-- A loop that ends early where something does not hold. -/
theorem all_loop {α : Type} (l : List α) (p : α → Bool) {X : Int → Prop} {T F : Prop} (hX : ∀ (i : Nat) (h : i < l.length), ((p l[i] = true → X ((i + 1 : Nat) : Int)) ∧ (p l[i] = false → F)) → X (i : Int))
    (hend : T → X (l.length : Int)) (ht : l.all p = true → T) (hf : l.all p = false → F) : X (0 : Int) := by
  have key := up (Y := fun i => ((l.drop i).all p = true → T) → ((l.drop i).all p = false → F) → X (i : Int)) l.length (fun h _ => hend (h (by rw [List.drop_length]; rfl))) fun i hi hn h1 h2 => ?_
  · exact key (by rw [List.drop_zero]; exact ht) (by rw [List.drop_zero]; exact hf)
  · rw [dropC hi, List.all_cons] at h1 h2
    refine hX i hi ⟨fun e => hn (fun a => h1 (by rw [e, a]; rfl)) (fun a => h2 (by rw [e, a]; rfl)), fun e => h2 (by rw [e]; rfl)⟩
/-- A loop that makes a list, and ends early where something does not hold. -/
theorem map_loop {α β : Type} (l : List α) (p : α → Bool) (f : α → β) {X : List β → Int → Prop} {T F : Prop} (hX : ∀ (i : Nat) (h : i < l.length) (o : List β), o.length = i → ((p l[i] = true → X (o ++ [f l[i]]) ((i + 1 : Nat) : Int)) ∧ (p l[i] = false → F)) → X o (i : Int))
    (hend : T → X (l.map f) (l.length : Int)) (ht : l.all p = true → T) (hf : l.all p = false → F) : X [] (0 : Int) := by
  have key := up (Y := fun i => ((l.drop i).all p = true → T) → ((l.drop i).all p = false → F) → X ((l.take i).map f) (i : Int)) l.length (fun h _ => by rw [List.take_length]; exact hend (h (by rw [List.drop_length]; rfl))) fun i hi hn h1 h2 => ?_
  · have := key (by rw [List.drop_zero]; exact ht) (by rw [List.drop_zero]; exact hf)
    rw [List.take_zero] at this; exact this
  · rw [dropC hi, List.all_cons] at h1 h2
    refine hX i hi _ (by rw [List.length_map, List.length_take]; omega) ⟨fun e => ?_, fun e => h2 (by rw [e]; rfl)⟩
    have := hn (fun a => h1 (by rw [e, a]; rfl)) (fun a => h2 (by rw [e, a]; rfl))
    rw [List.take_succ_eq_append_getElem hi, List.map_append] at this
    exact this
theorem spec_l01Finite_wp {a : Nat} {K : Bool → Prop} (h : K (pFin a)) : spec_l01Finite.wp a K := h
theorem impl_IsFinite_wp {a : Nat} {K : Bool → Prop} (h : K (pFin a)) : impl_IsFinite.wp a K := h
theorem spec_l02Finite_wp {l : List Nat} {K : Bool → Prop} (hl : l.length ≤ 2 ^ 20) (h : K (pAll l)) : spec_l02Finite.wp l K := by
  intro X hX
  refine all_loop l pFin (X := X) (T := K true) (F := K false) (fun i hi hh => ?_) (fun ht => hX _ ⟨fun c => absurd c (by omega), fun _ => ht⟩) (fun e => by rw [pAll, e] at h; exact h) (fun e => by rw [pAll, e] at h; exact h)
  refine hX _ ⟨fun _ => ⟨⟨by omega, by omega⟩, spec_l01Finite_wp ?_⟩, fun c => absurd (show (i : Int) < l.length by omega) c⟩
  rw [nn, gD hi, w1 (by omega)]; exact hh
theorem impl_areFinite_wp {ll : List (List Nat)} {K : Bool → Prop} (hll : ll.length ≤ 2 ^ 20) (hl : ∀ l ∈ ll, l.length ≤ 2 ^ 20) (h : K (ll.all pAll)) : impl_areFinite.wp ll K := by
  intro X hX
  refine all_loop ll pAll (X := X) (T := K true) (F := K false) (fun i hi hh => ?_) (fun ht => hX _ ⟨fun c => absurd c (by omega), fun _ => ht⟩) (fun e => by rw [e] at h; exact h) (fun e => by rw [e] at h; exact h)
  refine hX _ ⟨fun _ => ⟨⟨by omega, by omega⟩, fun Y hY => ?_⟩, fun c => absurd (show (i : Int) < ll.length by omega) c⟩
  have hlen := hl ll[i] (List.getElem_mem hi)
  rw [nn, gD hi, w1 (by omega)] at hY
  refine all_loop ll[i] pFin (X := Y) (T := X ((i + 1 : Nat) : Int)) (F := K false) (fun j hj h2 => ?_) (fun ht => hY _ ⟨fun c => absurd c (by omega), fun _ => ht⟩) (fun e => hh.1 e) (fun e => hh.2 e)
  refine hY _ ⟨fun _ => ⟨⟨by omega, by omega⟩, impl_IsFinite_wp ?_⟩, fun c => absurd (show (j : Int) < ll[i].length by omega) c⟩
  rw [nn, gD hj, w1 (by omega)]; exact h2
theorem impl_areFinite1_wp {l : List Nat} {K : Bool → Prop} (hl : l.length ≤ 2 ^ 20) (h : K (pAll l)) : impl_areFinite.wp [l] K := by
  refine impl_areFinite_wp (by simp) (fun x hx => by rw [List.mem_singleton] at hx; subst hx; exact hl) ?_
  rw [List.all_cons, List.all_nil, Bool.and_true]; exact h
theorem impl_within_wp {a b c : Int} {K : Bool → Prop} (h : K (decide (b ≤ a ∧ a ≤ c))) : impl_within.wp a b c K := by
  refine ⟨fun h1 => ?_, fun h1 => ?_⟩
  · have : decide (b ≤ a ∧ a ≤ c) = decide (a ≤ c) := by simp [h1]
    rw [this] at h; exact h
  · have : decide (b ≤ a ∧ a ≤ c) = false := by simp [h1]
    rw [this] at h; exact h
theorem spec_l00In_wp {a b c : Int} {K : Bool → Prop} (h : K (decide (b ≤ a ∧ a ≤ c))) : spec_l00In.wp a b c K := by
  refine ⟨fun h1 => ?_, fun h1 => ?_⟩
  · have : decide (b ≤ a ∧ a ≤ c) = decide (a ≤ c) := by simp [h1]
    rw [this] at h; exact h
  · have : decide (b ≤ a ∧ a ≤ c) = false := by simp [h1]
    rw [this] at h; exact h
def isL (l : List Nat) : Bool := decide (1 ≤ l.length ∧ l.length ≤ 128) && pAll l
theorem spec_l02Is_wp {l : List Nat} {K : Bool → Prop} (hl : l.length ≤ 2 ^ 20) (h : K (isL l)) : spec_l02Is.wp l K := by
  refine ⟨fun h1 => ⟨fun h2 => spec_l02Finite_wp hl ?_, fun h2 => ?_⟩, fun h1 => ?_⟩
  · rw [isL, decide_eq_true (show 1 ≤ l.length ∧ l.length ≤ 128 by omega), Bool.true_and] at h; exact h
  · rw [isL, decide_eq_false (show ¬(1 ≤ l.length ∧ l.length ≤ 128) by omega), Bool.false_and] at h; exact h
  · rw [isL, decide_eq_false (show ¬(1 ≤ l.length ∧ l.length ≤ 128) by omega), Bool.false_and] at h; exact h
theorem impl_IsList_wp {l : List Nat} {K : Bool → Prop} (hl : l.length ≤ 2 ^ 20) (h : K (isL l)) : impl_IsList.wp l K := by
  refine impl_within_wp ⟨fun h1 => ?_, fun h1 => ?_⟩
  · have h1 := of_decide_eq_true h1
    refine impl_areFinite1_wp hl ?_
    rw [isL, decide_eq_true (show 1 ≤ l.length ∧ l.length ≤ 128 by omega), Bool.true_and] at h; exact h
  · have h1 := of_decide_eq_false h1
    rw [isL, decide_eq_false (show ¬(1 ≤ l.length ∧ l.length ≤ 128) by omega), Bool.false_and] at h; exact h
def isOver (x : Nat) : Bool := pFin x && fcmp .gtr .f32 x (cz .f32 0)
theorem spec_l02Above_wp {a : Nat} {K : Bool → Prop} (h : K (isOver a)) : spec_l02Above.wp a K := by
  refine spec_l01Finite_wp ⟨fun h1 => ?_, fun h1 => ?_⟩ <;> (rw [isOver, h1] at h; exact h)
theorem impl_isOver_wp {a : Nat} {K : Bool → Prop} (h : K (isOver a)) : impl_isOver.wp a K := by
  refine impl_IsFinite_wp ⟨fun h1 => ?_, fun h1 => ?_⟩ <;> (rw [isOver, h1] at h; exact h)
def isShare (x : Nat) : Bool := fcmp .geq .f32 x (cz .f32 0) && fcmp .leq .f32 x (cz .f32 1065353216)
theorem spec_l02Share_wp {a : Nat} {K : Bool → Prop} (h : K (isShare a)) : spec_l02Share.wp a K := by
  refine ⟨fun h1 => ?_, fun h1 => ?_⟩ <;> (rw [isShare, h1] at h; exact h)
theorem impl_isShare_wp {a : Nat} {K : Bool → Prop} (h : K (isShare a)) : impl_isShare.wp a K := by
  refine ⟨fun h1 => ?_, fun h1 => ?_⟩ <;> (rw [isShare, h1] at h; exact h)
/-! ### integers -/
def bnd (m : Int) (l : List Int) : Bool := l.all fun n => decide (-m ≤ n ∧ n ≤ m)
def isI (l : List Int) : Bool := decide (1 ≤ l.length ∧ l.length ≤ 128) && bnd 1000000 l
theorem spec_l02Bound_wp {l : List Int} {m : Int} {K : Bool → Prop} (hl : l.length ≤ 2 ^ 20) (hm : 0 ≤ m ∧ m ≤ 2 ^ 40) (h : K (bnd m l)) : spec_l02Bound.wp l m K := by
  intro X hX
  refine all_loop l (fun n => decide (-m ≤ n ∧ n ≤ m)) (X := X) (T := K true) (F := K false) (fun i hi hh => ?_) (fun ht => hX _ ⟨fun c => absurd c (by omega), fun _ => ht⟩) (fun e => by rw [bnd, e] at h; exact h) (fun e => by rw [bnd, e] at h; exact h)
  refine hX _ ⟨fun _ => ⟨⟨by omega, by omega⟩, spec_l00In_wp ?_⟩, fun c => absurd (show (i : Int) < l.length by omega) c⟩
  rw [nn, gD hi, w1 (by omega), wI (show -9223372036854775808 ≤ (0 : Int) - m ∧ (0 : Int) - m < 9223372036854775808 by omega), Int.zero_sub]; exact hh
theorem impl_areWithin_wp {l : List Int} {m : Int} {K : Bool → Prop} (hl : l.length ≤ 2 ^ 20) (hm : 0 ≤ m ∧ m ≤ 2 ^ 40) (h : K (bnd m l)) : impl_areWithin.wp l m K := by
  intro X hX
  refine all_loop l (fun n => decide (-m ≤ n ∧ n ≤ m)) (X := X) (T := K true) (F := K false) (fun i hi hh => ?_) (fun ht => hX _ ⟨fun c => absurd c (by omega), fun _ => ht⟩) (fun e => by rw [bnd, e] at h; exact h) (fun e => by rw [bnd, e] at h; exact h)
  refine hX _ ⟨fun _ => ⟨⟨by omega, by omega⟩, impl_within_wp ?_⟩, fun c => absurd (show (i : Int) < l.length by omega) c⟩
  rw [nn, gD hi, w1 (by omega), wI (show -9223372036854775808 ≤ (0 : Int) - m ∧ (0 : Int) - m < 9223372036854775808 by omega), Int.zero_sub]; exact hh
theorem spec_l02Integers_wp {l : List Int} {K : Bool → Prop} (hl : l.length ≤ 2 ^ 20) (h : K (isI l)) : spec_l02Integers.wp l K := by
  refine ⟨fun h1 => ⟨fun h2 => spec_l02Bound_wp hl (by omega) ?_, fun h2 => ?_⟩, fun h1 => ?_⟩
  · rw [isI, decide_eq_true (show 1 ≤ l.length ∧ l.length ≤ 128 by omega), Bool.true_and] at h; exact h
  · rw [isI, decide_eq_false (show ¬(1 ≤ l.length ∧ l.length ≤ 128) by omega), Bool.false_and] at h; exact h
  · rw [isI, decide_eq_false (show ¬(1 ≤ l.length ∧ l.length ≤ 128) by omega), Bool.false_and] at h; exact h
theorem impl_AreIntegers_wp {l : List Int} {K : Bool → Prop} (hl : l.length ≤ 2 ^ 20) (h : K (isI l)) : impl_AreIntegers.wp l K := by
  refine impl_within_wp ⟨fun h1 => ?_, fun h1 => ?_⟩
  · have h1 := of_decide_eq_true h1
    refine impl_areWithin_wp hl (by omega) ?_
    rw [isI, decide_eq_true (show 1 ≤ l.length ∧ l.length ≤ 128 by omega), Bool.true_and] at h; exact h
  · have h1 := of_decide_eq_false h1
    rw [isI, decide_eq_false (show ¬(1 ≤ l.length ∧ l.length ≤ 128) by omega), Bool.false_and] at h; exact h
theorem impl_finiteList_wp {l : List Nat} {K : Bool → Bool → Prop} (hl : l.length ≤ 2 ^ 20) (h : K (pAll l) (pAll l)) : impl_finiteList.wp l K := by
  refine impl_areFinite1_wp hl ⟨fun h1 => ?_, fun h1 => ?_⟩ <;> (rw [h1] at h; exact h)
theorem spec_l02List_wp {l : List Nat} {K : Bool → Bool → Prop} (hl : l.length ≤ 2 ^ 20) (h : K (pAll l) (pAll l)) : spec_l02List.wp l K := by
  refine spec_l02Finite_wp hl ⟨fun h1 => ?_, fun h1 => ?_⟩ <;> (rw [h1] at h; exact h)
def Sm (n : Int) : Prop := -1000000 ≤ n ∧ n ≤ 1000000
theorem u64w {k : Nat} (h : k < 2 ^ 40) : IntKind.u64.wrap (k : Int) = (k : Int) := by
  show (k : Int) % 18446744073709551616 = _; omega
theorem shr (y k : Nat) (hk : k ≤ 60) : Int.fdiv (y : Int) (2 ^ (min (k : Int).toNat IntKind.i64.bits)) = ((y / 2 ^ k : Nat) : Int) := by
  have e : min (k : Int).toNat IntKind.i64.bits = k := by
    rw [Int.toNat_natCast, show IntKind.i64.bits = 64 from rfl]; omega
  rw [e, Int.fdiv_eq_ediv_of_nonneg _ (by exact Int.le_of_lt (Int.pow_pos (by decide)))]
  rw [show (2 : Int) ^ k = ((2 ^ k : Nat) : Int) by rw [Int.natCast_pow]; rfl]
  rfl
theorem spec_l06AbsC_wp {n : Int} {K : Int → Prop} (h : Sm n) (hk : K (n.natAbs : Int)) : spec_l06Abs.wp n K := by
  obtain ⟨h1, h2⟩ := h
  refine ⟨fun c => ?_, fun c => ?_⟩
  · rw [wI (n := 0 - n) (by omega), show 0 - n = (n.natAbs : Int) by omega]; exact hk
  · rw [show (n.natAbs : Int) = n by omega] at hk; exact hk
theorem impl_farC_wp {n : Int} {K : Int → Prop} (h : Sm n) (hk : K (n.natAbs : Int)) : impl_far.wp n K := by
  obtain ⟨h1, h2⟩ := h
  show K (mxI n (IntKind.i64.wrap (0 - n)))
  rw [wI (n := 0 - n) (by omega)]
  have : mxI n (0 - n) = (n.natAbs : Int) := by unfold mxI; split <;> omega
  rw [this]; exact hk
/-- How many digits the greatest has. -/
def IsTop (l : List Int) (n : Nat) : Prop := (∀ x ∈ l, x.natAbs < 2 ^ n) ∧ (n = 0 ∨ ∃ x ∈ l, 2 ^ (n - 1) ≤ x.natAbs)
theorem top_uniq {l : List Int} {n m : Nat} (h1 : IsTop l n) (h2 : IsTop l m) : n = m := by
  have key : ∀ {n m : Nat}, IsTop l n → IsTop l m → n ≤ m := by
    intro n m h1 h2
    rcases h1.2 with h | ⟨x, hx, h3⟩
    · omega
    · have h4 := h2.1 x hx
      rcases Nat.lt_or_ge m n with h5 | h5
      · have : 2 ^ m ≤ 2 ^ (n - 1) := Nat.pow_le_pow_right (by decide) (by omega)
        omega
      · exact h5
  exact Nat.le_antisymm (key h1 h2) (key h2 h1)
theorem top_le {l : List Int} {n : Nat} (hg : ∀ x ∈ l, Sm x) (h : IsTop l n) : n ≤ 20 := by
  rcases h.2 with h | ⟨x, hx, h3⟩
  · omega
  · obtain ⟨h1, h2⟩ := hg x hx
    rcases Nat.lt_or_ge 20 n with h5 | h5
    · have : 2 ^ 20 ≤ 2 ^ (n - 1) := Nat.pow_le_pow_right (by decide) (by omega)
      omega
    · exact h5
theorem div0 {a n : Nat} : a / 2 ^ n = 0 ↔ a < 2 ^ n := by
  rw [Nat.div_eq_zero_iff]
  have := Nat.two_pow_pos n
  omega
theorem spec_l06Planes_wp {l : List Int} {K : Int → Prop} (hl : l.length ≤ 128) (hg : ∀ x ∈ l, Sm x) (h : ∀ n, IsTop l n → K (n : Nat)) : spec_l06Planes.wp l K := by
  intro X hX
  have key : ∀ (m i n : Nat), m + i = l.length → IsTop (l.take i) n → X (n : Int) (i : Int) := by
    intro m
    induction m with
    | zero =>
      intro i n h1 h2
      obtain rfl : i = l.length := by omega
      rw [List.take_length] at h2
      exact hX _ _ ⟨fun c => absurd c (by omega), fun _ => h n h2⟩
    | succ m ih =>
      intro i n h1 h2
      have hi : i < l.length := by omega
      have hz := hg _ (List.getElem_mem hi)
      have hn20 := top_le (fun x hx => hg x (List.mem_of_mem_take hx)) h2
      refine hX _ _ ⟨fun _ => fun Y hY => ?_, fun c => absurd (show (i : Int) < l.length by omega) c⟩
      have htake : l.take (i + 1) = l.take i ++ [l[i]] := List.take_succ_eq_append_getElem hi
      -- from n on
      have hm : l[i] ∈ l.take (i + 1) := by rw [htake]; exact List.mem_append_right _ (List.mem_singleton.2 rfl)
      have up : ∀ (d k : Nat), k + d = 21 → (∀ x ∈ l.take i, x.natAbs < 2 ^ k) → (k = 0 ∨ ∃ x ∈ l.take (i + 1), 2 ^ (k - 1) ≤ x.natAbs) → Y (k : Int) := by
        intro d
        induction d with
        | zero =>
          intro k hk h3 h4
          rcases h4 with h4 | ⟨x, hx, h4⟩
          · omega
          · obtain ⟨h5, h6⟩ := hg x (List.mem_of_mem_take hx)
            rw [show k - 1 = 20 by omega] at h4
            omega
        | succ d ihd =>
          intro k hk h3 h4
          refine hY _ ⟨⟨by omega, by omega⟩, ?_⟩
          rw [nn, gD hi, u64w (by omega)]
          refine spec_l06AbsC_wp hz ⟨by omega, ?_⟩
          rw [shr _ _ (by omega), w1 (by omega), w1 (by omega)]
          refine ⟨fun c => ih (i + 1) k (by omega) ⟨fun x hx => ?_, h4⟩, fun c => ?_⟩
          · rw [htake] at hx
            rcases List.mem_append.1 hx with hx | hx
            · exact h3 x hx
            · rw [List.mem_singleton.1 hx]; exact div0.1 (by omega)
          · have hge : 2 ^ k ≤ l[i].natAbs := by
              have : ¬ l[i].natAbs / 2 ^ k = 0 := by omega
              rw [div0] at this; omega
            refine ihd (k + 1) (by omega) (fun x hx => ?_) (.inr ⟨l[i], hm, by rw [Nat.add_sub_cancel]; exact hge⟩)
            have := h3 x hx
            rw [Nat.pow_succ]; omega
      refine up (21 - n) n (by omega) h2.1 ?_
      rcases h2.2 with h3 | ⟨x, hx, h3⟩
      · exact .inl h3
      · exact .inr ⟨x, by rw [htake]; exact List.mem_append_left _ hx, h3⟩
  exact key l.length 0 0 (by omega) ⟨fun x hx => by simp at hx, .inl rfl⟩
def tab8 : List UInt8 := ([0, 1, 2, 2, 3, 3, 3, 3, 4, 4, 4, 4, 4, 4, 4, 4, 5, 5, 5, 5, 5, 5, 5, 5, 5, 5, 5, 5, 5, 5, 5, 5] ++ List.replicate 32 6) ++ (List.replicate 64 7 ++ List.replicate 128 8)
def bitL (n : Nat) : Nat := if n = 0 then 0 else n.log2 + 1
def bN8 (n : Nat) : Nat := (tab8.getD n 0).toNat
theorem tab8_at : ∀ n, n < 256 → bN8 n = bitL n := by decide +kernel
theorem bitL_lt (n : Nat) : n < 2 ^ bitL n := by
  unfold bitL; split
  · rename_i h; subst h; decide
  · exact Nat.lt_log2_self
theorem bitL_le {n : Nat} (h : n ≠ 0) : 2 ^ (bitL n - 1) ≤ n := by
  unfold bitL; rw [if_neg h, Nat.add_sub_cancel]; exact Nat.log2_self_le h
theorem fdivu (y k : Nat) (hk : k ≤ 60) : Int.fdiv (y : Int) (2 ^ (min (k : Int).toNat IntKind.u64.bits)) = ((y / 2 ^ k : Nat) : Int) := by
  have e : min (k : Int).toNat IntKind.u64.bits = k := by
    rw [Int.toNat_natCast, show IntKind.u64.bits = 64 from rfl]; omega
  rw [e, Int.fdiv_eq_ediv_of_nonneg _ (by exact Int.le_of_lt (Int.pow_pos (by decide)))]
  rw [show (2 : Int) ^ k = ((2 ^ k : Nat) : Int) by rw [Int.natCast_pow]; rfl]
  rfl
theorem u8w {n : Nat} (h : n < 256) : IntKind.u8.wrap (n : Int) = (n : Int) := by
  show (n : Int) % 256 = _; omega
theorem bt_tab {n : Nat} (h : n < 256) : IntKind.i64.wrap (bt tab8 (n : Int)) = ((bitL n : Nat) : Int) := by
  have e : bt tab8 (n : Int) = ((bitL n : Nat) : Int) := by
    rw [← tab8_at n h]; rfl
  have hb : bitL n ≤ 8 := by
    unfold bitL; split
    · omega
    · have : n.log2 < 8 := (Nat.log2_lt (by assumption)).2 (by omega)
      omega
  rw [e, wI (by omega)]
theorem bitL8 {n : Nat} (h : n < 256) : bitL n ≤ 8 := by
  unfold bitL; split
  · omega
  · have : n.log2 < 8 := (Nat.log2_lt (by assumption)).2 (by omega)
    omega
/-- The digits of a number are those of its upper part, and the lower ones. -/
theorem bits_up {m s : Nat} (h : m / 2 ^ s ≠ 0) : m < 2 ^ (s + bitL (m / 2 ^ s)) ∧ 2 ^ (s + bitL (m / 2 ^ s) - 1) ≤ m := by
  have h1 := bitL_lt (m / 2 ^ s)
  have h2 := bitL_le h
  have h0 : bitL (m / 2 ^ s) ≠ 0 := by unfold bitL; rw [if_neg h]; omega
  have hp := Nat.two_pow_pos s
  constructor
  · rw [Nat.pow_add]; exact Nat.lt_of_lt_of_le ((Nat.div_lt_iff_lt_mul hp).1 h1) (Nat.le_of_eq (Nat.mul_comm _ _))
  · rw [show s + bitL (m / 2 ^ s) - 1 = s + (bitL (m / 2 ^ s) - 1) by omega, Nat.pow_add, Nat.mul_comm]
    exact (Nat.le_div_iff_mul_le hp).1 h2
theorem Len64_wp {m : Nat} {K : Int → Prop} (hm : m ≤ 1000000) (h : ∀ n, n ≤ 40 → m < 2 ^ n → (n = 0 ∨ 2 ^ (n - 1) ≤ m) → K (n : Nat)) : math_bits_Len64.wp (m : Int) K := by
  refine ⟨fun c => absurd c (by omega), fun _ => ⟨fun c => ?_, fun c => ?_⟩⟩
  · have e : Int.fdiv (m : Int) (2 ^ (min (16 : Int).toNat IntKind.u64.bits)) = ((m / 2 ^ 16 : Nat) : Int) := fdivu m 16 (by decide)
    have hd : m / 2 ^ 16 < 256 := by omega
    rw [e]
    refine ⟨fun c2 => absurd c2 (by omega), fun _ => ?_⟩
    rw [u8w hd]
    have hb := bitL8 hd
    refine ⟨⟨by omega, by show ((m / 2 ^ 16 : Nat) : Int) < 256; omega⟩, ?_⟩
    show K (IntKind.i64.wrap (IntKind.i64.wrap (0 + 16) + IntKind.i64.wrap (bt tab8 ((m / 2 ^ 16 : Nat) : Int))))
    rw [bt_tab hd, show IntKind.i64.wrap (IntKind.i64.wrap (0 + 16) + ((bitL (m / 2 ^ 16) : Nat) : Int)) = ((16 + bitL (m / 2 ^ 16) : Nat) : Int) by rw [show IntKind.i64.wrap (0 + 16) = 16 from by decide, wI (by omega)]; omega]
    have := bits_up (m := m) (s := 16) (by omega)
    exact h _ (by omega) this.1 (.inr this.2)
  · refine ⟨fun c2 => ?_, fun c2 => ?_⟩
    · have e : Int.fdiv (m : Int) (2 ^ (min (8 : Int).toNat IntKind.u64.bits)) = ((m / 2 ^ 8 : Nat) : Int) := fdivu m 8 (by decide)
      have hd : m / 2 ^ 8 < 256 := by omega
      rw [e, u8w hd]
      have hb := bitL8 hd
      refine ⟨⟨by omega, by show ((m / 2 ^ 8 : Nat) : Int) < 256; omega⟩, ?_⟩
      show K (IntKind.i64.wrap (IntKind.i64.wrap (0 + 8) + IntKind.i64.wrap (bt tab8 ((m / 2 ^ 8 : Nat) : Int))))
      rw [bt_tab hd, show IntKind.i64.wrap (IntKind.i64.wrap (0 + 8) + ((bitL (m / 2 ^ 8) : Nat) : Int)) = ((8 + bitL (m / 2 ^ 8) : Nat) : Int) by rw [show IntKind.i64.wrap (0 + 8) = 8 from by decide, wI (by omega)]; omega]
      have := bits_up (m := m) (s := 8) (by omega)
      exact h _ (by omega) this.1 (.inr this.2)
    · have hd : m < 256 := by omega
      rw [u8w hd]
      have hb := bitL8 hd
      refine ⟨⟨by omega, by show (m : Int) < 256; omega⟩, ?_⟩
      show K (IntKind.i64.wrap (0 + IntKind.i64.wrap (bt tab8 (m : Int))))
      rw [bt_tab hd, show IntKind.i64.wrap (0 + ((bitL m : Nat) : Int)) = ((bitL m : Nat) : Int) by rw [wI (by omega)]; omega]
      refine h _ (by omega) (bitL_lt m) ?_
      by_cases h0 : m = 0
      · exact .inl (by unfold bitL; rw [if_pos h0])
      · exact .inr (bitL_le h0)
theorem impl_planesFor_wp {l : List Int} {K : Int → Prop} (hl : l.length ≤ 128) (hg : ∀ x ∈ l, Sm x) (h : ∀ n, IsTop l n → K (n : Nat)) : impl_planesFor.wp l K := by
  intro X hX
  have key : ∀ (d i m : Nat), d + i = l.length → m ≤ 1000000 → (∀ x ∈ l.take i, x.natAbs ≤ m) → (m = 0 ∨ ∃ x ∈ l, x.natAbs = m) → X (m : Int) (i : Int) := by
    intro d
    induction d with
    | zero =>
      intro i m h1 hm h2 h3
      obtain rfl : i = l.length := by omega
      rw [List.take_length] at h2
      refine hX _ _ ⟨fun c => absurd c (by omega), fun _ => ?_⟩
      rw [u64w (by omega)]
      refine Len64_wp hm fun n _ h4 h5 => h n ⟨fun x hx => Nat.lt_of_le_of_lt (h2 x hx) h4, ?_⟩
      rcases h5 with h5 | h5
      · exact .inl h5
      · rcases h3 with h3 | ⟨x, hx, h3⟩
        · have := Nat.two_pow_pos (n - 1); omega
        · exact .inr ⟨x, hx, by rw [h3]; exact h5⟩
    | succ d ih =>
      intro i m h1 hm h2 h3
      have hi : i < l.length := by omega
      have hz := hg _ (List.getElem_mem hi)
      refine hX _ _ ⟨fun _ => ⟨⟨by omega, by omega⟩, ?_⟩, fun c => absurd (show (i : Int) < l.length by omega) c⟩
      rw [nn, gD hi, w1 (by omega)]
      refine impl_farC_wp hz ?_
      have hzb : l[i].natAbs ≤ 1000000 := by obtain ⟨h5, h6⟩ := hz; omega
      have hmx : mxI (m : Int) (l[i].natAbs : Int) = ((max m l[i].natAbs : Nat) : Int) := by unfold mxI; split <;> omega
      rw [hmx]
      refine ih (i + 1) _ (by omega) (by omega) (fun x hx => ?_) ?_
      · rw [List.take_succ_eq_append_getElem hi] at hx
        rcases List.mem_append.1 hx with hx | hx
        · have := h2 x hx; omega
        · rw [List.mem_singleton.1 hx]; omega
      · rcases Nat.le_total m l[i].natAbs with h5 | h5
        · exact .inr ⟨l[i], List.getElem_mem hi, by omega⟩
        · rcases h3 with h3 | ⟨x, hx, h3⟩
          · exact .inl (by omega)
          · exact .inr ⟨x, hx, by omega⟩
  exact key l.length 0 0 (by omega) (by omega) (fun x hx => by simp at hx) (.inl rfl)
/-- One integer's bits of a plane. -/
def dgt (a k : Nat) : Bool := decide (ibits .and .i64 ((a / 2 ^ k : Nat) : Int) 1 = 1)
def oneC (n : Int) (k : Nat) : List Bool := if dgt n.natAbs k = true then (if n.natAbs / 2 ^ (k + 1) = 0 then [true, decide (n < 0)] else [true]) else [false]
theorem oneC_len (n : Int) (k : Nat) : (oneC n k).length ≤ 2 := by unfold oneC; split <;> (try split) <;> simp
def planeC (l : List Int) (k : Nat) : List Bool := l.flatMap fun n => oneC n k
def codeC (l : List Int) (p : Nat) : Nat → List Bool
  | 0 => []
  | j + 1 => planeC l (p + j) ++ codeC l p j
theorem flat_len {l : List Int} {k : Nat} : (planeC l k).length ≤ 2 * l.length := by
  unfold planeC
  induction l with
  | nil => simp
  | cons a l ih => rw [List.flatMap_cons, List.length_append, List.length_cons]; have := oneC_len a k; omega
theorem spec_l06Digit_wp {n : Int} {k : Nat} {K : Bool → Prop} (h : Sm n) (hk : k ≤ 40) (hK : K (dgt n.natAbs k)) : spec_l06Digit.wp n (k : Int) K := by
  refine spec_l06AbsC_wp h ?_
  rw [u64w (by omega), shr _ _ (by omega)]
  exact ⟨by omega, hK⟩
theorem impl_digit_wp {n : Int} {k : Nat} {K : Bool → Prop} (h : Sm n) (hk : k ≤ 40) (hK : K (dgt n.natAbs k)) : impl_digit.wp n (k : Int) K := by
  refine impl_farC_wp h ?_
  rw [shr _ _ (by omega)]
  exact ⟨by omega, hK⟩
/-- The inner loop. -/
theorem plane_loop (l : List Int) (k : Nat) {X : List Bool → Int → Prop} (o : List Bool) (hX : ∀ (q : List Bool) (i : Nat) (hi : i < l.length), q.length + (oneC l[i] k).length ≤ o.length + 2 * l.length → X (q ++ oneC l[i] k) ((i + 1 : Nat) : Int) → X q (i : Int)) (hend : X (o ++ planeC l k) (l.length : Int)) : X o ((0 : Nat) : Int) := by
  have key : ∀ m i q, m + i = l.length → q ++ planeC (l.drop i) k = o ++ planeC l k → X q (i : Int) := by
    intro m
    induction m with
    | zero => intro i q h1 h3
              obtain rfl : i = l.length := by omega
              rw [List.drop_length] at h3
              have h3 : q ++ [] = _ := h3
              rw [List.append_nil] at h3
              rw [h3]; exact hend
    | succ m ih =>
      intro i q h1 h3
      have hi : i < l.length := by omega
      rw [dropC hi] at h3
      have h3 : q ++ (oneC l[i] k ++ planeC (l.drop (i + 1)) k) = _ := h3
      have h4 := congrArg List.length h3
      rw [List.length_append, List.length_append, List.length_append] at h4
      have h5 := flat_len (l := l) (k := k)
      exact hX q i hi (by omega) (ih (i + 1) _ (by omega) (by rw [List.append_assoc]; exact h3))
  exact key l.length 0 o (by omega) (by rw [List.drop_zero])
/-- The outer loop: planes down to p. -/
theorem planes_loop (l : List Int) (hl : l.length ≤ 128) (p T : Nat) (hT : T ≤ 40) {X : List Bool → Int → Prop} (hX : ∀ (o : List Bool) (j : Nat), j < T → o.length + 2 * l.length ≤ 2 * l.length * T → X (o ++ planeC l (p + j)) (((p + j : Nat) : Int) - 1) → X o (((p + j : Nat)) : Int)) (hend : X (codeC l p T) ((p : Int) - 1)) : X [] (((p + T : Nat) : Int) - 1) := by
  have key : ∀ j o, j ≤ T → o.length + 2 * l.length * j ≤ 2 * l.length * T → o ++ codeC l p j = codeC l p T → X o (((p + j : Nat) : Int) - 1) := by
    intro j
    induction j with
    | zero =>
      intro o h1 h2 h3
      rw [codeC, List.append_nil] at h3
      rw [h3]; exact hend
    | succ j ih =>
      intro o h1 h2 h3
      rw [codeC] at h3
      rw [Nat.mul_succ] at h2
      have h5 := flat_len (l := l) (k := p + j)
      have := hX o j (by omega) (by omega) (ih _ (by omega) (by rw [List.length_append]; omega) (by rw [List.append_assoc]; exact h3))
      rw [show ((p + (j + 1) : Nat) : Int) - 1 = ((p + j : Nat) : Int) by omega]; exact this
  exact key T [] (Nat.le_refl _) (by simp) rfl
theorem shr1 {n : Int} {k : Nat} (hk : k ≤ 40) {A B : Prop} (h : (n.natAbs / 2 ^ (k + 1) = 0 → A) ∧ (¬ n.natAbs / 2 ^ (k + 1) = 0 → B)) : (Int.fdiv (n.natAbs : Int) (2 ^ (min ((k + 1 : Nat) : Int).toNat IntKind.i64.bits)) = 0 → A) ∧ (¬ Int.fdiv (n.natAbs : Int) (2 ^ (min ((k + 1 : Nat) : Int).toNat IntKind.i64.bits)) = 0 → B) := by
  rw [shr _ _ (by omega)]
  exact ⟨fun c => h.1 (by omega), fun c => h.2 (by omega)⟩
theorem spec_l06Code_wp {l : List Int} {p : Nat} {K : Int → Int → List Bool → Prop} (hl : l.length ≤ 128) (hg : ∀ x ∈ l, Sm x) (hp : p ≤ 40) (h : ∀ n, IsTop l n → K (l.length : Int) (n : Int) (codeC l p (n - p))) : spec_l06Code.wp l (p : Int) K := by
  refine spec_l06Planes_wp hl hg fun n hn => ?_
  have hn20 := top_le hg hn
  intro X hX
  rw [wI (by omega)]
  have main : X [] (l.length : Int) (n : Int) (((p + (n - p) : Nat) : Int) - 1) := by
    refine planes_loop l hl p (n - p) (by omega) (X := fun o k => X o (l.length : Int) (n : Int) k) (fun o j hj ho hn1 => hX _ _ _ _ ⟨fun _ => fun Y hY => ?_, fun c => absurd (show (p : Int) ≤ ((p + j : Nat) : Int) by omega) c⟩) (hX _ _ _ _ ⟨fun c => absurd c (by omega), fun _ => h n hn⟩)
    have hb : 2 * l.length * (n - p) ≤ 256 * 20 := Nat.mul_le_mul (by omega) (by omega)
    refine plane_loop l (p + j) (X := fun o i => Y o (l.length : Int) (n : Int) i) o (fun q i hi hq hn2 => hY _ _ _ _ ⟨fun _ => ⟨⟨by omega, by omega⟩, ?_⟩, fun c => absurd (show (i : Int) < l.length by omega) c⟩) (hY _ _ _ _ ⟨fun c => absurd c (by omega), fun _ => ?_⟩)
    · have hz := hg _ (List.getElem_mem hi)
      rw [nn, gD hi, w1 (by omega)]
      refine spec_l06Digit_wp hz (by omega) ⟨by rw [len1]; omega, fun c => ?_, fun c => ?_⟩
      · refine spec_l06AbsC_wp hz ?_
        rw [w1 (by omega), u64w (by omega)]
        refine ⟨by omega, shr1 (by omega) ⟨fun c2 => ⟨by rw [List.length_append, len1, len1]; omega, ?_⟩, fun c2 => ?_⟩⟩
        · rw [oneC, if_pos c, if_pos c2] at hn2
          rw [c, List.append_assoc]; exact hn2
        · rw [oneC, if_pos c, if_neg c2] at hn2
          rw [c]; exact hn2
      · rw [oneC, if_neg (by rw [c]; decide)] at hn2
        rw [c]
        first | exact hn2 | (rw [w1 (by omega)]; exact hn2)
    · rw [wI (by omega)]; exact hn1
  by_cases hc : p ≤ n
  · rw [show (n : Int) - 1 = ((p + (n - p) : Nat) : Int) - 1 by omega]; exact main
  · refine hX _ _ _ _ ⟨fun c => absurd c (by omega), fun _ => ?_⟩
    have := h n hn
    rw [show n - p = 0 by omega] at this; exact this
theorem impl_codeUntil_wp {l : List Int} {p n : Nat} {K : List Bool → Prop} (hl : l.length ≤ 128) (hg : ∀ x ∈ l, Sm x) (hp : p ≤ 40) (hn20 : n ≤ 20) (h : K (codeC l p (n - p))) : impl_codeUntil.wp l (n : Int) (p : Int) K := by
  intro X hX
  rw [wI (by omega)]
  have main : X [] (((p + (n - p) : Nat) : Int) - 1) := by
    refine planes_loop l hl p (n - p) (by omega) (X := X) (fun o j hj ho hn1 => hX _ _ ⟨fun _ => fun Y hY => ?_, fun c => absurd (show (p : Int) ≤ ((p + j : Nat) : Int) by omega) c⟩) (hX _ _ ⟨fun c => absurd c (by omega), fun _ => h⟩)
    have hb : 2 * l.length * (n - p) ≤ 256 * 20 := Nat.mul_le_mul (by omega) (by omega)
    refine plane_loop l (p + j) (X := Y) o (fun q i hi hq hn2 => hY _ _ ⟨fun _ => ⟨⟨by omega, by omega⟩, ?_⟩, fun c => absurd (show (i : Int) < l.length by omega) c⟩) (hY _ _ ⟨fun c => absurd c (by omega), fun _ => ?_⟩)
    · have hz := hg _ (List.getElem_mem hi)
      rw [nn, gD hi, w1 (by omega)]
      refine impl_digit_wp hz (by omega) ⟨by rw [len1]; omega, fun c => ?_, fun c => ?_⟩
      · refine impl_farC_wp hz ?_
        rw [w1 (by omega)]
        refine ⟨by omega, shr1 (by omega) ⟨fun c2 => ⟨by rw [List.length_append, len1, len1]; omega, ?_⟩, fun c2 => ?_⟩⟩
        · rw [oneC, if_pos c, if_pos c2] at hn2
          rw [c, List.append_assoc]; exact hn2
        · rw [oneC, if_pos c, if_neg c2] at hn2
          rw [c]; exact hn2
      · rw [oneC, if_neg (by rw [c]; decide)] at hn2
        rw [c]
        first | exact hn2 | (rw [w1 (by omega)]; exact hn2)
    · rw [wI (by omega)]; exact hn1
  by_cases hc : p ≤ n
  · rw [show (n : Int) - 1 = ((p + (n - p) : Nat) : Int) - 1 by omega]; exact main
  · refine hX _ _ ⟨fun c => absurd c (by omega), fun _ => ?_⟩
    rw [show n - p = 0 by omega] at h; exact h

theorem szFloat32S_wp {l : List Nat} {n : Int} {K : Int → Prop} (hl : l.length ≤ maxLen) (hn : 0 ≤ n ∧ n ≤ 2 ^ 40) (h0 : K (-1)) (h : (l.length : Int) ≤ n → K (n - (l.length : Int))) : laws_szFloat32S.wp l n K := by
  have hm : l.length < 2 ^ 63 := Nat.lt_of_le_of_lt hl (by decide)
  have e : IntKind.i64.wrap (n - (l.length : Int)) = n - (l.length : Int) := wI (by omega)
  refine ⟨fun c => h0, fun c => ?_⟩
  rw [e] at c ⊢; exact h (by omega)
theorem szScheme_wp {l : List Nat} {s : Nat} {n : Int} {K : Int → Prop} (hl : l.length ≤ maxLen) (hn : 0 ≤ n ∧ n ≤ 2 ^ 40) (h0 : K (-1)) (h : (l.length : Int) ≤ n → K (n - (l.length : Int))) : laws_szScheme.wp l s n K :=
  szFloat32S_wp hl hn (tP (by omega) h0) fun h1 => tN (by omega) (h h1)
theorem toScheme_wp {l : List Nat} {s : Nat} {K : List Nat → Nat → Prop} (hl : l.length ≤ 2 ^ 20) (h : K l s) : laws_toScheme.wp l s K := toFloat32S_wp hl h
theorem eqScheme_wp {l : List Nat} {s : Nat} {K : Bool → Prop} (hl : l.length ≤ 2 ^ 20) (h : K true) : laws_eqScheme.wp l s l s K := eqFloat32S_wp hl (tT (sameFloat_wp (tT h)))
def isSch (l : List Nat) (s : Nat) : Bool := decide (1 ≤ (l.length : Int) ∧ (l.length : Int) ≤ 8) && pAll l && isOver s
theorem spec_l02Scheme_wp {l : List Nat} {s : Nat} {K : Bool → Prop} (hl : l.length ≤ 2 ^ 20) (h : K (isSch l s)) : spec_l02Scheme.wp l s K := by
  refine ⟨fun h1 => ⟨fun h2 => ?_, fun h2 => ?_⟩, fun h1 => ?_⟩
  · rw [isSch, decide_eq_true ⟨h1, h2⟩, Bool.true_and] at h
    refine spec_l02Finite_wp hl ⟨fun h3 => spec_l02Above_wp ?_, fun h3 => ?_⟩ <;> (rw [h3] at h; exact h)
  · rw [isSch, decide_eq_false (by omega)] at h; exact h
  · rw [isSch, decide_eq_false (by omega)] at h; exact h
theorem impl_ValidScheme_wp {l : List Nat} {s : Nat} {K : Bool → Prop} (hl : l.length ≤ 2 ^ 20) (h : K (isSch l s)) : impl_ValidScheme.wp l s K := by
  refine impl_within_wp ⟨fun h1 => impl_areFinite1_wp hl ⟨fun h3 => impl_isOver_wp ?_, fun h3 => ?_⟩, fun h1 => ?_⟩
  · rw [isSch, h1, h3] at h; exact h
  · rw [isSch, h1, h3] at h; exact h
  · rw [isSch, h1] at h; exact h
theorem impl_copyOf_wp {l : List Nat} {K : List Nat → Prop} (hl : l.length ≤ 2 ^ 20) (h : K l) : impl_copyOf.wp l K :=
  ⟨by simp only [List.length_nil]; omega, h⟩
/-! ### from a surplus -/
/-! ### the surplus -/
open Ieee in
theorem neg_read (b : Nat) : single.read (Op.negFloat .f32 b) = (single.read b).opposite := by
  have hs : single.signWeight = 2 ^ 31 := rfl
  have h2 : Op.negFloat .f32 b % 2 ^ 31 = b % 2 ^ 31 := by
    show (b ^^^ 2 ^ 31) % 2 ^ 31 = _
    rw [Nat.xor_mod_two_pow]; simp
  have h3 : Op.negFloat .f32 b / 2 ^ 31 % 2 = (b / 2 ^ 31 + 1) % 2 := by
    show (b ^^^ 2 ^ 31) / 2 ^ 31 % 2 = _
    rw [Nat.xor_div_two_pow, Nat.div_self (by decide)]
    have := Nat.xor_mod_two_pow (a := b / 2 ^ 31) (b := 1) (n := 1)
    rw [Nat.pow_one] at this; rw [this]
    rcases Nat.mod_two_eq_zero_or_one (b / 2 ^ 31) with h | h
    · rw [h, show (b / 2 ^ 31 + 1) % 2 = 1 by omega]; decide
    · rw [h, show (b / 2 ^ 31 + 1) % 2 = 0 by omega]; decide
  have h4 : (Op.negFloat .f32 b / 2 ^ 31 % 2 == 1) = !(b / 2 ^ 31 % 2 == 1) := by
    rw [h3]
    rcases Nat.mod_two_eq_zero_or_one (b / 2 ^ 31) with h | h
    · rw [h, show (b / 2 ^ 31 + 1) % 2 = 1 by omega]; rfl
    · rw [h, show (b / 2 ^ 31 + 1) % 2 = 0 by omega]; rfl
  unfold Format.read
  rw [hs, h2, h4]
  dsimp only
  split
  · rfl
  · split
    · rfl
    · split <;> rfl
open Ieee in
theorem fneg_read {b : Nat} (h : (single.read b).isNaN = false) : single.read (fneg .f32 b) = (single.read b).opposite := by
  have e : (FloatKind.f32.decode (Op.negFloat .f32 b)).isNaN = false := by
    show (single.read _).isNaN = false
    rw [neg_read]; cases hr : single.read b with
    | nan s t => rw [hr] at h; cases h
    | _ => rfl
  rw [fneg, cz32 _ e, neg_read]
/-! ### values, in units of the last place -/
open Ieee in
def val : Datum → Int
  | .number s m e => signed s m (e + 149).toNat
  | _ => 0
open Ieee in
theorem signed_up (s : Bool) (m a b : Nat) : signed s m (a + b) = signed s m a * (2 ^ b : Nat) := by
  unfold signed
  cases s <;> simp [Nat.shiftLeft_eq, Nat.pow_add, Int.mul_assoc, Int.neg_mul]
open Ieee in
theorem order_val {s t : Bool} {m n : Nat} {i j : Int} (hi : -149 ≤ i) (hj : -149 ≤ j) : (Datum.number s m i).order (.number t n j) = some (compare (val (.number s m i)) (val (.number t n j))) := by
  have e1 : val (.number s m i) = signed s m (i - min i j).toNat * (2 ^ (min i j + 149).toNat : Nat) := by
    show signed s m _ = _
    rw [← signed_up]; congr 1; omega
  have e2 : val (.number t n j) = signed t n (j - min i j).toNat * (2 ^ (min i j + 149).toNat : Nat) := by
    show signed t n _ = _
    rw [← signed_up]; congr 1; omega
  rw [e1, e2]
  show some (compare (signed s m (i - min i j).toNat) (signed t n (j - min i j).toNat)) = _
  congr 1
  have hp : (0 : Int) < ((2 ^ (min i j + 149).toNat : Nat) : Int) := by have := Nat.two_pow_pos (min i j + 149).toNat; omega
  generalize signed s m (i - min i j).toNat = a
  generalize signed t n (j - min i j).toNat = b
  generalize ((2 ^ (min i j + 149).toNat : Nat) : Int) = p at hp
  rw [show compare a b = compareOfLessAndEq a b from rfl, show compare (a * p) (b * p) = compareOfLessAndEq (a * p) (b * p) from rfl]
  unfold compareOfLessAndEq
  have h1 : (a * p < b * p) = (a < b) := propext ⟨fun h => Int.lt_of_mul_lt_mul_right h (Int.le_of_lt hp), fun h => Int.mul_lt_mul_of_pos_right h hp⟩
  have h2 : (a * p = b * p) = (a = b) := propext ⟨fun h => Int.eq_of_mul_eq_mul_right (Int.ne_of_gt hp) h, fun h => by rw [h]⟩
  simp only [h1, h2]
/-- A word of single precision: no number, or how it stands to others. -/
theorem cmp_lt {a b : Int} : (compare a b == Ordering.lt) = decide (a < b) := by
  rw [show compare a b = compareOfLessAndEq a b from rfl]; unfold compareOfLessAndEq
  split
  · simp [*]
  · split <;> simp [*]
theorem cmp_gt {a b : Int} : (compare a b == Ordering.gt) = decide (b < a) := by
  rw [show compare a b = compareOfLessAndEq a b from rfl]; unfold compareOfLessAndEq
  split
  · simp; omega
  · split
    · simp; omega
    · simp; omega
/-! ### from nought -/
open Ieee in
theorem read_f32 (x : Nat) : single.read x = if x % 2147483648 < 8388608 then .number (x / 2147483648 % 2 == 1) (x % 2147483648) (-149) else if x % 2147483648 < 2139095040 then .number (x / 2147483648 % 2 == 1) (8388608 + x % 2147483648 % 8388608) (-149 + ((x % 2147483648 / 8388608 - 1 : Nat) : Int)) else if x % 2147483648 = 2139095040 then .infinity (x / 2147483648 % 2 == 1) else .nan (x / 2147483648 % 2 == 1) (x % 2147483648 - 2139095040) := by
  unfold Format.read
  rw [show single.binade = 8388608 from rfl, show single.infRung = 2139095040 by decide, show single.signWeight = 2147483648 from rfl, show single.leastPlace = -149 by decide]
/-! ### sizes -/
def sizI (x : Nat) : Nat := if fcmp .lss .f32 x (cz .f32 0) = true then fneg .f32 x else if fcmp .eql .f32 x (cz .f32 0) = true then cz .f32 0 else x
def sizS (x : Nat) : Nat := if fcmp .leq .f32 x (cz .f32 0) = true then fop .sub .f32 (cz .f32 0) x else x
theorem fc_lss {x y : Nat} {c : Option Ordering} (h : Ieee.single.order x y = c) : fcmp .lss .f32 x y = (c == some .lt) := by subst h; rfl
theorem fc_leq {x y : Nat} {c : Option Ordering} (h : Ieee.single.order x y = c) : fcmp .leq .f32 x y = (c == some .lt || c == some .eq) := by subst h; rfl
theorem fc_eql {x y : Nat} {c : Option Ordering} (h : Ieee.single.order x y = c) : fcmp .eql .f32 x y = (c == some .eq) := by subst h; rfl
theorem fc_gtr {x y : Nat} {c : Option Ordering} (h : Ieee.single.order x y = c) : fcmp .gtr .f32 x y = (c == some .gt) := by subst h; rfl
theorem siz_not {x : Nat} {c : Option Ordering} (h : Ieee.single.order x 0 = c) (h1 : (c == some .lt) = false) (h2 : (c == some .eq) = false) : sizS x = x ∧ sizI x = x := by
  unfold sizS sizI
  rw [c0_32]
  have e1 := fc_leq h
  rw [h1, h2] at e1
  have e2 := fc_lss h
  rw [h1] at e2
  have e3 := fc_eql h
  rw [h2] at e3
  rw [if_neg (by rw [e1]; decide), if_neg (by rw [e2]; decide), if_neg (by rw [e3]; decide)]
  exact ⟨rfl, rfl⟩
theorem siz_lt {x : Nat} (h : Ieee.single.order x 0 = some .lt) : sizS x = fop .sub .f32 0 x ∧ sizI x = fneg .f32 x := by
  unfold sizS sizI
  rw [c0_32]
  have e1 := fc_leq h
  have e2 := fc_lss h
  exact ⟨if_pos (by rw [e1]; rfl), if_pos (by rw [e2]; rfl)⟩
theorem siz_0 {x : Nat} (h : Ieee.single.order x 0 = some .eq) : sizS x = fop .sub .f32 0 x ∧ sizI x = 0 := by
  unfold sizS sizI
  rw [c0_32]
  have e1 := fc_leq h
  have e2 := fc_lss h
  have e3 := fc_eql h
  refine ⟨if_pos (by rw [e1]; rfl), ?_⟩
  rw [if_neg (by rw [e2]; decide)]
  exact if_pos (by rw [e3]; rfl)
open Ieee in
theorem val_neg {m : Nat} {e : Int} : val (.number true m e) = - val (.number false m e) := by
  simp only [val, signed, Bool.false_eq_true, if_false, if_true]
open Ieee in
theorem read_0 : single.read 0 = .number false 0 (-149) := by decide +kernel
theorem impl_size_wp {a : Nat} {K : Nat → Prop} (h : K (sizI a)) : impl_size.wp a K := by
  refine ⟨fun c => ?_, fun c => ⟨fun c2 => ?_, fun c2 => ?_⟩⟩
  · rw [sizI, if_pos c] at h; exact h
  · rw [sizI, if_neg (by rw [c]; decide), if_pos c2] at h; exact h
  · rw [sizI, if_neg (by rw [c]; decide), if_neg (by rw [c2]; decide)] at h; exact h
open Ieee in
theorem near_negN (M : Nat) (e : Int) : single.nearest true M e = 2147483648 + single.nearest false M e ∧ single.nearest false M e ≤ 2139095040 := by
  have hi : single.infRung = 2139095040 := by decide
  have hw : ∀ r, single.word true r = 2147483648 + r := fun r => by unfold Format.word; rw [if_pos rfl]; rfl
  have hf : ∀ r, single.word false r = r := fun r => if_neg (by decide)
  have hc : ∀ a b, Toward.even.cut true a b = Toward.even.cut false a b := fun _ _ => rfl
  unfold Format.nearest
  by_cases h0 : M = 0
  · rw [if_pos h0, if_pos h0, hw, hf]; exact ⟨rfl, by decide⟩
  · rw [if_neg h0, if_neg h0]
    dsimp only
    rw [hw, hf, hc, hi]
    exact ⟨rfl, Nat.min_le_right _ _⟩
theorem xor31N {R : Nat} (h : R < 2147483648) : R ^^^ 2147483648 = 2147483648 + R := by
  have h1 := Nat.two_pow_add_eq_or_of_lt (i := 31) (b := R) h 1
  have h2 : (2147483648 : Nat) ||| R = 2147483648 + R := by rw [← h1]
  rw [← h2]
  apply Nat.eq_of_testBit_eq
  intro i
  rw [Nat.testBit_xor, Nat.testBit_or]
  by_cases hi : i = 31
  · subst hi
    rw [Nat.testBit_lt_two_pow (i := 31) h]; rfl
  · have : Nat.testBit 2147483648 i = false := by
      rw [show (2147483648 : Nat) = 2 ^ 31 from rfl, Nat.testBit_two_pow]
      exact decide_eq_false (fun e => hi e.symm)
    rw [this]; simp
open Ieee in
theorem near_opp (M : Nat) (e : Int) : single.read (single.nearest true M e) = (single.read (single.nearest false M e)).opposite := by
  obtain ⟨h1, h2⟩ := near_negN M e
  rw [h1, ← xor31N (by omega)]
  exact neg_read _
open Ieee in
theorem opp_opp (d : Datum) : d.opposite.opposite = d := by cases d <;> simp [Datum.opposite]
open Ieee in
theorem write_opp {d : Datum} (h : d.isNaN = false) : single.read (single.write d.opposite) = (single.read (single.write d)).opposite := by
  cases d with
  | number s m e =>
    cases s with
    | false => exact near_opp m e
    | true =>
      show single.read (single.nearest false m e) = (single.read (single.nearest true m e)).opposite
      rw [near_opp, opp_opp]
  | infinity s => cases s <;> decide +kernel
  | nan s f => cases h
open Ieee in
theorem prod_opp (a b : Datum) : a.opposite.product b = (a.product b).map Datum.opposite := by
  cases a with
  | nan s f => rfl
  | infinity s =>
    cases b with
    | nan t f => rfl
    | infinity t => cases s <;> cases t <;> rfl
    | number t n j =>
      by_cases c : n = 0
      · simp [Datum.product, Datum.opposite, c]
      · cases s <;> cases t <;> simp [Datum.product, Datum.opposite, c]
  | number s m i =>
    cases b with
    | nan t f => rfl
    | infinity t =>
      by_cases c : m = 0
      · simp [Datum.product, Datum.opposite, c]
      · cases s <;> cases t <;> simp [Datum.product, Datum.opposite, c]
    | number t n j => cases s <;> cases t <;> rfl
open Ieee in
theorem prod_num {a b d : Datum} (h : a.product b = some d) : d.isNaN = false := by
  cases a with
  | nan s f => cases h
  | infinity s =>
    cases b with
    | nan t f => cases h
    | infinity t => cases h; rfl
    | number t n j =>
      by_cases c : n = 0
      · simp [Datum.product, c] at h
      · simp [Datum.product, c] at h
        subst h; rfl
  | number s m i =>
    cases b with
    | nan t f => cases h
    | infinity t =>
      by_cases c : m = 0
      · simp [Datum.product, c] at h
      · simp [Datum.product, c] at h
        subst h; rfl
    | number t n j => cases h; rfl
theorem opp_nan (d : Ieee.Datum) : d.opposite.isNaN = d.isNaN := by cases d <;> rfl
open Ieee in
theorem fmul_neg (w s : Nat) : ((single.read (fop .mul .f32 w s)).isNaN = true ∧ (single.read (fop .mul .f32 (fneg .f32 w) s)).isNaN = true) ∨ single.read (fop .mul .f32 (fneg .f32 w) s) = (single.read (fop .mul .f32 w s)).opposite := by
  have hq : (single.read (qnan .f32)).isNaN = true := by decide +kernel
  have e1 : ∀ x, fop .mul .f32 x s = ((((single.read x).product (single.read s)).map single.write).map (cz .f32)).getD (qnan .f32) := fun x => rfl
  rw [e1, e1]
  cases hw : (single.read w).isNaN with
  | true =>
    have h2 : (single.read (fneg .f32 w)).isNaN = true := by
      have h3 : (FloatKind.f32.decode (Op.negFloat .f32 w)).isNaN = true := by
        show (single.read _).isNaN = true
        rw [neg_read, opp_nan, hw]
      unfold fneg cz
      rw [if_pos h3]; exact hq
    rw [Go.Ab.product_nan_left hw, Go.Ab.product_nan_left h2]
    exact .inl ⟨hq, hq⟩
  | false =>
    rw [fneg_read hw, prod_opp]
    cases hp : (single.read w).product (single.read s) with
    | none => exact .inl ⟨hq, hq⟩
    | some d =>
      have hd := prod_num hp
      have hwo := write_opp hd
      show ((single.read (cz .f32 (single.write d))).isNaN = true ∧ (single.read (cz .f32 (single.write d.opposite))).isNaN = true) ∨ single.read (cz .f32 (single.write d.opposite)) = (single.read (cz .f32 (single.write d))).opposite
      cases hn : (single.read (single.write d)).isNaN with
      | true =>
        have hn2 : (single.read (single.write d.opposite)).isNaN = true := by rw [hwo, opp_nan, hn]
        refine .inl ⟨?_, ?_⟩
        · have hn' : (FloatKind.f32.decode (single.write d)).isNaN = true := hn
          unfold cz; rw [if_pos hn']; exact hq
        · have hn' : (FloatKind.f32.decode (single.write d.opposite)).isNaN = true := hn2
          unfold cz; rw [if_pos hn']; exact hq
      | false =>
        have hn2 : (single.read (single.write d.opposite)).isNaN = false := by rw [hwo, opp_nan, hn]
        right
        rw [cz32 _ hn, cz32 _ hn2]; exact hwo
open Ieee in
theorem add_neg_mul (x w s : Nat) : fop .add .f32 x (fop .mul .f32 (fneg .f32 w) s) = fop .sub .f32 x (fop .mul .f32 w s) := by
  have e1 : ∀ y, fop .add .f32 x y = ((((single.read x).sum (single.read y)).map single.write).map (cz .f32)).getD (qnan .f32) := fun y => rfl
  have e2 : ∀ y, fop .sub .f32 x y = ((((single.read x).sum (single.read y).opposite).map single.write).map (cz .f32)).getD (qnan .f32) := fun y => rfl
  rw [e1, e2]
  rcases fmul_neg w s with ⟨h1, h2⟩ | h
  · rw [Go.Ab.sum_nan_right h2, Go.Ab.sum_nan_right (Go.Ab.opposite_nan h1)]
  · rw [h]
def stp (back : Bool) (w x s : Nat) : Nat := bif back then fop .sub .f32 x (fop .mul .f32 w s) else fop .add .f32 x (fop .mul .f32 w s)
theorem stp_neg (w x s : Nat) : stp false (fneg .f32 w) x s = stp true w x s := add_neg_mul x w s
/-- A loop that changes a list at each of its places. -/
theorem set_loop {P o0 : List Nat} (hP : P.length = o0.length) {X : List Nat → Int → Prop} (hX : ∀ (o : List Nat) (i : Nat), i < o0.length → o.length = o0.length → o.getD i 0 = o0.getD i 0 → X (o.set i (P.getD i 0)) ((i + 1 : Nat) : Int) → X o (i : Int)) (hend : X P (o0.length : Int)) : X o0 0 := by
  have hl : ∀ i, i ≤ o0.length → (P.take i ++ o0.drop i).length = o0.length := fun i hi => by rw [List.length_append, List.length_take, List.length_drop]; omega
  refine up (Y := fun i => X (P.take i ++ o0.drop i) (i : Int)) o0.length ?_ fun i hi hx => hX _ i hi (hl i (by omega)) ?_ ?_
  · show X (P.take o0.length ++ o0.drop o0.length) _
    rw [List.take_of_length_le (by omega), List.drop_of_length_le (by omega), List.append_nil]; exact hend
  · rw [gD (by rw [hl i (by omega)]; exact hi), List.getElem_append_right (by rw [List.length_take]; omega), gD hi]
    simp only [List.length_take, List.getElem_drop]
    congr 1; omega
  · have e : (P.take i ++ o0.drop i).set i (P.getD i 0) = P.take (i + 1) ++ o0.drop (i + 1) := by
      rw [dropC hi, List.take_succ_eq_append_getElem (by omega), gD (by omega : i < P.length), List.set_append_right _ _ (by rw [List.length_take]; omega), List.length_take, Nat.min_eq_left (by omega), Nat.sub_self, List.set_cons_zero, List.append_assoc]; rfl
    rw [e]; exact hx
theorem rg_at {n i : Nat} {f : Nat → Nat} (h : i < n) : ((List.range n).map f).getD i 0 = f i := by
  rw [gD (by simpa using h)]; simp
theorem mp_at {l : List Nat} {i : Nat} {f : Nat → Nat} (h : i < l.length) : (l.map f).getD i 0 = f (l.getD i 0) := by
  rw [gD (by simpa using h), gD h]; simp
/-! ### one step -/
structure Fit (ev od : List Nat) : Prop where
  a : 1 ≤ od.length
  b : od.length ≤ ev.length
  c : ev.length ≤ od.length + 1
  d : ev.length + od.length ≤ 128
def besO (ev : List Nat) (j : Nat) : Nat := fop .add .f32 (ev.getD j 0) (ev.getD (min (j + 1) (ev.length - 1)) 0)
def besE (od : List Nat) (j : Nat) : Nat := fop .add .f32 (od.getD (j - 1) 0) (od.getD (min j (od.length - 1)) 0)
def wO (ev od : List Nat) (w : Nat) (back : Bool) : List Nat := (List.range od.length).map fun j => stp back w (od.getD j 0) (besO ev j)
def wE (ev od : List Nat) (w : Nat) (back : Bool) : List Nat := (List.range ev.length).map fun j => stp back w (ev.getD j 0) (besE od j)
def wgh (k w : Nat) (back : Bool) (x : List Nat × List Nat) : List Nat × List Nat := if k % 2 = 0 then (x.1, wO x.1 x.2 w back) else (wE x.1 x.2 w back, x.2)
theorem wgh_len (k w : Nat) (back : Bool) (x : List Nat × List Nat) : (wgh k w back x).1.length = x.1.length ∧ (wgh k w back x).2.length = x.2.length := by
  unfold wgh; split
  · exact ⟨rfl, by simp [wO]⟩
  · exact ⟨by simp [wE], rfl⟩
theorem wgh_neg (k w : Nat) (x : List Nat × List Nat) : wgh k (fneg .f32 w) false x = wgh k w true x := by
  unfold wgh wO wE
  simp only [stp_neg]
theorem Fit.wgh {k w : Nat} {back : Bool} {x : List Nat × List Nat} (h : Fit x.1 x.2) : Fit (wgh k w back x).1 (wgh k w back x).2 := by
  obtain ⟨h1, h2⟩ := wgh_len k w back x
  obtain ⟨a, b, c, d⟩ := h
  exact ⟨by omega, by omega, by omega, by omega⟩
theorem tm2 (k : Nat) : Int.tmod (k : Int) 2 = ((k % 2 : Nat) : Int) := by rw [Int.tmod_eq_emod_of_nonneg (by omega)]; rfl
theorem mn_of {a b : Int} {n : Nat} (h : (a ≤ b → a = n) ∧ (b ≤ a → b = n)) : mnI a b = (n : Int) := by
  unfold mnI; split <;> omega
theorem mx_of {a b : Int} {n : Nat} (h : (b ≤ a → a = n) ∧ (a ≤ b → b = n)) : mxI a b = (n : Int) := by
  unfold mxI; split <;> omega
theorem besideOdd_wp {ev : List Nat} {j : Nat} {K : Nat → Nat → Prop} (hj : j < ev.length) (hl : ev.length ≤ 128) (h : K (ev.getD j 0) (ev.getD (min (j + 1) (ev.length - 1)) 0)) : impl_besideOdd_float32.wp ev (j : Int) K := by
  have e : mnI (IntKind.i64.wrap ((j : Int) + 1)) (IntKind.i64.wrap ((ev.length : Int) - 1)) = ((min (j + 1) (ev.length - 1) : Nat) : Int) := by
    rw [w1 (by omega), wI (n := (ev.length : Int) - 1) (by omega)]
    exact mn_of (by omega)
  refine ⟨⟨by omega, by omega⟩, ?_⟩
  rw [e]
  exact ⟨⟨by omega, by omega⟩, h⟩
theorem besideEven_wp {od : List Nat} {j : Nat} {K : Nat → Nat → Prop} (h1 : 1 ≤ od.length) (hj : j ≤ od.length) (hl : od.length ≤ 128) (h : K (od.getD (j - 1) 0) (od.getD (min j (od.length - 1)) 0)) : impl_besideEven_float32.wp od (j : Int) K := by
  have e1 : mxI (IntKind.i64.wrap ((j : Int) - 1)) 0 = ((j - 1 : Nat) : Int) := by
    rw [wI (n := (j : Int) - 1) (by omega)]
    exact mx_of (by omega)
  have e2 : mnI (j : Int) (IntKind.i64.wrap ((od.length : Int) - 1)) = ((min j (od.length - 1) : Nat) : Int) := by
    rw [wI (n := (od.length : Int) - 1) (by omega)]
    exact mn_of (by omega)
  unfold impl_besideEven_float32.wp
  rw [e1, e2]
  exact ⟨⟨by omega, by omega⟩, ⟨by omega, by omega⟩, h⟩
theorem beside_wp {l : List Nat} {a : Int} {n : Nat} {K : Nat → Prop} (hl : 1 ≤ l.length ∧ l.length ≤ 128) (hn : n < l.length) (ha : (0 ≤ a ∧ a ≤ (l.length : Int) - 1 ∧ a = n) ∨ (a < 0 ∧ n = 0) ∨ ((l.length : Int) - 1 < a ∧ n + 1 = l.length)) (h : K (l.getD n 0)) : spec_l02Beside.wp l a K := by
  have e : mxI 0 (mnI (IntKind.i64.wrap ((l.length : Int) - 1)) a) = (n : Int) := by
    rw [wI (n := (l.length : Int) - 1) (by omega)]
    unfold mxI mnI
    split <;> split <;> omega
  unfold spec_l02Beside.wp
  rw [e]
  exact ⟨⟨by omega, by omega⟩, h⟩
theorem weigh1_wp {l : List Nat} {j a b w : Nat} {back : Bool} {K : List Nat → Prop} (h : K (l.set j (stp back w (l.getD j 0) (fop .add .f32 a b)))) : impl_weigh_1.wp l (j : Int) a b w back K := by
  refine ⟨fun c => ?_, fun c => ?_⟩ <;> (subst c; exact h)
theorem impl_weigh_wp {ev od : List Nat} {k w : Nat} {back : Bool} {K : List Nat → List Nat → Prop} (hf : Fit ev od) (h : K (wgh k w back (ev, od)).1 (wgh k w back (ev, od)).2) : impl_weigh.wp ev od (k : Int) w back K := by
  obtain ⟨a, b, c, d⟩ := hf
  unfold wgh at h
  refine ⟨fun c1 => ?_, fun c1 => ?_⟩ <;> rw [tm2] at c1
  · rw [if_pos (by omega)] at h
    intro X hX
    refine set_loop (P := wO ev od w back) (by simp [wO]) (fun o i hi ho hoi hn => hX _ _ ⟨fun _ => besideOdd_wp (by omega) (by omega) ⟨⟨by omega, by omega⟩, weigh1_wp ?_⟩, fun c => absurd (show (i : Int) < od.length by omega) c⟩) (hX _ _ ⟨fun c => absurd c (by omega), fun _ => h⟩)
    rw [hoi, w1 (by omega)]
    rw [wO, rg_at hi] at hn
    exact hn
  · rw [if_neg (by omega)] at h
    intro X hX
    refine set_loop (P := wE ev od w back) (by simp [wE]) (fun o i hi ho hoi hn => hX _ _ ⟨fun _ => besideEven_wp (by omega) (by omega) (by omega) ⟨⟨by omega, by omega⟩, weigh1_wp ?_⟩, fun c => absurd (show (i : Int) < ev.length by omega) c⟩) (hX _ _ ⟨fun c => absurd c (by omega), fun _ => h⟩)
    rw [hoi, w1 (by omega)]
    rw [wE, rg_at hi] at hn
    exact hn
theorem spec_l02Weigh_wp {ev od : List Nat} {k w : Nat} {K : List Nat → List Nat → Prop} (hf : Fit ev od) (h : K (wgh k w false (ev, od)).1 (wgh k w false (ev, od)).2) : spec_l02Weigh.wp ev od (k : Int) w K := by
  obtain ⟨a, b, c, d⟩ := hf
  unfold wgh at h
  refine ⟨fun c1 => ?_, fun c1 => ?_⟩ <;> rw [tm2] at c1
  · rw [if_pos (by omega)] at h
    intro X hX
    refine set_loop (P := wO ev od w false) (by simp [wO]) (fun o i hi ho hoi hn => hX _ _ ⟨fun _ => ⟨⟨by omega, by omega⟩, ⟨by omega, by omega⟩, beside_wp (n := min (i + 1) (ev.length - 1)) (by omega) (by omega) (by rw [w1 (by omega)]; omega) ?_⟩, fun c => absurd (show (i : Int) < o.length by omega) c⟩) (hX _ _ ⟨fun c => absurd c (by rw [show (wO ev od w false).length = od.length by simp [wO]]; omega), fun _ => h⟩)
    rw [nn, hoi, w1 (by omega)]
    rw [wO, rg_at hi] at hn
    exact hn
  · rw [if_neg (by omega)] at h
    intro X hX
    refine set_loop (P := wE ev od w false) (by simp [wE]) (fun o i hi ho hoi hn => hX _ _ ⟨fun _ => ⟨⟨by omega, by omega⟩, beside_wp (n := i - 1) (by omega) (by omega) (by rw [wI (n := (i : Int) - 1) (by omega)]; omega) (beside_wp (n := min i (od.length - 1)) (by omega) (by omega) (by omega) ?_)⟩, fun c => absurd (show (i : Int) < o.length by omega) c⟩) (hX _ _ ⟨fun c => absurd c (by rw [show (wE ev od w false).length = ev.length by simp [wE]]; omega), fun _ => h⟩)
    rw [nn, hoi, w1 (by omega)]
    rw [wE, rg_at hi] at hn
    exact hn
/-! ### split -/
def spE (l : List Nat) : Nat → List Nat
  | 0 => []
  | i + 1 => if i % 2 = 0 then spE l i ++ [l.getD i 0] else spE l i
def spO (l : List Nat) : Nat → List Nat
  | 0 => []
  | i + 1 => if i % 2 = 0 then spO l i else spO l i ++ [l.getD i 0]
theorem spE_len (l : List Nat) : ∀ i, (spE l i).length = (i + 1) / 2
  | 0 => rfl
  | i + 1 => by
    have := spE_len l i
    rw [spE]; split
    · rw [List.length_append, len1]; omega
    · omega
theorem spO_len (l : List Nat) : ∀ i, (spO l i).length = i / 2
  | 0 => rfl
  | i + 1 => by
    have := spO_len l i
    rw [spO]; split
    · omega
    · rw [List.length_append, len1]; omega
theorem sp_fit {l : List Nat} (h : 2 ≤ l.length ∧ l.length ≤ 128) : Fit (spE l l.length) (spO l l.length) := by
  have h1 := spE_len l l.length
  have h2 := spO_len l l.length
  exact ⟨by omega, by omega, by omega, by omega⟩
theorem sp_loop {l : List Nat} (hl : l.length ≤ 128) {X : List Nat → List Nat → Int → Prop} (hX : ∀ (od ev : List Nat) (i : Nat), i < l.length → od.length ≤ 128 → ev.length ≤ 128 → (i % 2 = 0 → X od (ev ++ [l.getD i 0]) ((i + 1 : Nat) : Int)) ∧ (i % 2 ≠ 0 → X (od ++ [l.getD i 0]) ev ((i + 1 : Nat) : Int)) → X od ev (i : Int)) (hend : X (spO l l.length) (spE l l.length) (l.length : Int)) : X [] [] 0 := by
  refine up (Y := fun i => X (spO l i) (spE l i) (i : Int)) l.length hend fun i hi hx => ?_
  have h1 := spE_len l i
  have h2 := spO_len l i
  refine hX _ _ i hi (by omega) (by omega) ⟨fun c => ?_, fun c => ?_⟩
  · rw [spO, spE, if_pos c, if_pos c] at hx; exact hx
  · rw [spO, spE, if_neg c, if_neg c] at hx; exact hx
theorem impl_split_wp {l : List Nat} {K : List Nat → List Nat → Prop} (hl : l.length ≤ 128) (h : K (spE l l.length) (spO l l.length)) : impl_split_float32.wp l K := by
  intro X hX
  refine sp_loop hl (X := X) (fun od ev i hi h1 h2 hn => hX _ _ _ ⟨fun _ => ⟨⟨by omega, by omega⟩, fun c => ⟨by rw [len1]; omega, ?_⟩, fun c => ⟨by rw [len1]; omega, ?_⟩⟩, fun c => absurd (show (i : Int) < l.length by omega) c⟩) (hX _ _ _ ⟨fun c => absurd c (by omega), fun _ => h⟩)
  · rw [tm2] at c; rw [nn, w1 (by omega)]; exact hn.1 (by omega)
  · rw [tm2] at c; rw [nn, w1 (by omega)]; exact hn.2 (by omega)
/-! ### lifted once -/
def lfA (ws : List Nat) (x : List Nat × List Nat) : Nat → List Nat × List Nat
  | 0 => x
  | k + 1 => wgh k (ws.getD k 0) false (lfA ws x k)
theorem lfA_fit {ws : List Nat} {x : List Nat × List Nat} (h : Fit x.1 x.2) : ∀ k, Fit (lfA ws x k).1 (lfA ws x k).2
  | 0 => h
  | k + 1 => (lfA_fit h k).wgh
theorem lfA_len (ws : List Nat) (x : List Nat × List Nat) : ∀ k, (lfA ws x k).1.length = x.1.length ∧ (lfA ws x k).2.length = x.2.length
  | 0 => ⟨rfl, rfl⟩
  | k + 1 => by
    have h1 := wgh_len k (ws.getD k 0) false (lfA ws x k)
    have h2 := lfA_len ws x k
    rw [lfA]; omega
def lftX (ws : List Nat) (sc : Nat) (l : List Nat) : List Nat × List Nat := ((lfA ws (spE l l.length, spO l l.length) ws.length).1.map fun x => fop .mul .f32 x sc, (lfA ws (spE l l.length, spO l l.length) ws.length).2.map fun x => fop .quo .f32 x sc)
def lftOk (ws : List Nat) (sc : Nat) (l : List Nat) : Bool := pAll (lftX ws sc l).1 && pAll (lftX ws sc l).2
theorem lftX_len (ws : List Nat) (sc : Nat) (l : List Nat) : (lftX ws sc l).1.length = (l.length + 1) / 2 ∧ (lftX ws sc l).2.length = l.length / 2 := by
  have h1 := lfA_len ws (spE l l.length, spO l l.length) ws.length
  have h2 := spE_len l l.length
  have h3 := spO_len l l.length
  unfold lftX
  simp only [List.length_map]
  simp only at h1
  omega
theorem impl_LiftOnce_wp {ws l : List Nat} {sc : Nat} {K : List Nat → List Nat → Bool → Prop} (hs : isSch ws sc = true) (hl : isL l = true) (h2 : 2 ≤ l.length) (h : if lftOk ws sc l = true then K (lftX ws sc l).1 (lftX ws sc l).2 true else K [] [] false) : impl_LiftOnce.wp ws sc l K := by
  have hll : 1 ≤ l.length ∧ l.length ≤ 128 := by
    unfold isL at hl; rw [Bool.and_eq_true, decide_eq_true_eq] at hl; exact hl.1
  have hws : 1 ≤ ws.length ∧ ws.length ≤ 8 := by
    unfold isSch at hs; rw [Bool.and_eq_true, Bool.and_eq_true, decide_eq_true_eq] at hs; omega
  have hfit := sp_fit (l := l) ⟨h2, hll.2⟩
  have hso := spO_len l l.length
  refine impl_ValidScheme_wp (by omega) (tE hs (impl_IsList_wp (by omega) (tE hl (impl_split_wp (by omega) (tN (by omega) ?_)))))
  intro X hX
  have hfa := fun k => lfA_fit (ws := ws) (x := (spE l l.length, spO l l.length)) hfit k
  refine up (Y := fun k => X (lfA ws (spE l l.length, spO l l.length) k).1 (lfA ws (spE l l.length, spO l l.length) k).2 (k : Int)) ws.length (hX _ _ _ ⟨fun c => absurd c (by omega), fun _ => ?_⟩) fun k hk hx => hX _ _ _ ⟨fun _ => ⟨⟨by omega, by omega⟩, impl_weigh_wp (hfa k) ?_⟩, fun c => absurd (show (k : Int) < ws.length by omega) c⟩
  rotate_left
  · rw [nn, w1 (by omega)]; exact hx
  have hF := hfa ws.length
  unfold lftOk lftX at h
  generalize lfA ws (spE l l.length, spO l l.length) ws.length = x at h hF
  obtain ⟨a, b, c, d⟩ := hF
  intro Y hY
  refine set_loop (P := x.1.map fun x => fop .mul .f32 x sc) (by simp) (fun o i hi ho hoi hn => hY _ _ ⟨fun _ => ⟨⟨by omega, by omega⟩, ?_⟩, fun c => absurd (show (i : Int) < x.1.length by omega) c⟩) (hY _ _ ⟨fun c => absurd c (by omega), fun _ => ?_⟩)
  · rw [mp_at hi] at hn
    rw [nn, hoi, w1 (by omega)]; exact hn
  intro Z hZ
  refine set_loop (P := x.2.map fun x => fop .quo .f32 x sc) (by simp) (fun o i hi ho hoi hn => hZ _ _ ⟨fun _ => ⟨⟨by omega, by omega⟩, ?_⟩, fun c => absurd (show (i : Int) < x.2.length by omega) c⟩) (hZ _ _ ⟨fun c => absurd c (by omega), fun _ => ?_⟩)
  · rw [mp_at hi] at hn
    rw [nn, hoi, w1 (by omega)]; exact hn
  refine impl_areFinite_wp (by simp) (fun y hy => ?_) ?_
  · simp only [List.mem_cons, List.not_mem_nil, or_false] at hy
    rcases hy with rfl | rfl <;> (rw [List.length_map]; omega)
  · rw [List.all_cons, List.all_cons, List.all_nil, Bool.and_true]
    dsimp only at h
    refine ⟨fun e => ?_, fun e => ?_⟩ <;> rw [e] at h
    · rw [if_pos rfl] at h; exact h
    · rw [if_neg (by decide)] at h; exact h
theorem spec_l02LiftOnce_wp {ws l : List Nat} {sc : Nat} {K : List Nat → List Nat → Bool → Prop} (hws : 1 ≤ ws.length ∧ ws.length ≤ 8) (hll : 2 ≤ l.length ∧ l.length ≤ 128) (h1 : lftOk ws sc l = true → K (lftX ws sc l).1 (lftX ws sc l).2 true) (h2 : lftOk ws sc l = false → ∀ a b, K a b false) : spec_l02LiftOnce.wp ws sc l K := by
  have hfit := sp_fit (l := l) hll
  have hso := spO_len l l.length
  intro X0 hX0
  refine sp_loop hll.2 (X := X0) (fun od ev i hi h1 h2 hn => hX0 _ _ _ ⟨fun _ => ⟨fun c => ⟨⟨by omega, by omega⟩, by rw [len1]; omega, ?_⟩, fun c => ⟨⟨by omega, by omega⟩, by rw [len1]; omega, ?_⟩⟩, fun c => absurd (show (i : Int) < l.length by omega) c⟩) (hX0 _ _ _ ⟨fun c => absurd c (by omega), fun _ => tN (by omega) ?_⟩)
  · rw [tm2] at c; rw [nn, w1 (by omega)]; exact hn.1 (by omega)
  · rw [tm2] at c; rw [nn, w1 (by omega)]; exact hn.2 (by omega)
  intro X hX
  have hfa := fun k => lfA_fit (ws := ws) (x := (spE l l.length, spO l l.length)) hfit k
  refine up (Y := fun k => X (lfA ws (spE l l.length, spO l l.length) k).2 (lfA ws (spE l l.length, spO l l.length) k).1 (k : Int)) ws.length (hX _ _ _ ⟨fun c => absurd c (by omega), fun _ => ?_⟩) fun k hk hx => hX _ _ _ ⟨fun _ => ⟨⟨by omega, by omega⟩, spec_l02Weigh_wp (hfa k) ?_⟩, fun c => absurd (show (k : Int) < ws.length by omega) c⟩
  rotate_left
  · rw [nn, w1 (by omega)]; exact hx
  have hF := hfa ws.length
  unfold lftOk lftX at h1 h2
  generalize lfA ws (spE l l.length, spO l l.length) ws.length = x at h1 h2 hF
  obtain ⟨a, b, c, d⟩ := hF
  intro Y hY
  refine set_loop (P := x.1.map fun x => fop .mul .f32 x sc) (by simp) (fun o i hi ho hoi hn => hY _ _ ⟨fun _ => ⟨⟨by omega, by omega⟩, ?_⟩, fun c => absurd (show (i : Int) < o.length by omega) c⟩) (hY _ _ ⟨fun c => absurd c (by rw [List.length_map]; omega), fun _ => ?_⟩)
  · rw [mp_at hi] at hn
    rw [nn, hoi, w1 (by omega)]; exact hn
  intro Z hZ
  refine set_loop (P := x.2.map fun x => fop .quo .f32 x sc) (by simp) (fun o i hi ho hoi hn => hZ _ _ ⟨fun _ => ⟨⟨by omega, by omega⟩, ?_⟩, fun c => absurd (show (i : Int) < o.length by omega) c⟩) (hZ _ _ ⟨fun c => absurd c (by rw [List.length_map]; omega), fun _ => ?_⟩)
  · rw [mp_at hi] at hn
    rw [nn, hoi, w1 (by omega)]; exact hn
  dsimp only at h1 h2
  refine spec_l02Finite_wp (by rw [List.length_map]; omega) ⟨fun e => spec_l02Finite_wp (by rw [List.length_map]; omega) ?_, fun e => h2 (by rw [e]; rfl) _ _⟩
  cases e2 : pAll (x.2.map fun x => fop .quo .f32 x sc) with
  | true => exact h1 (by rw [e, e2]; rfl)
  | false => exact h2 (by rw [e, e2]; rfl) _ _
/-! ### led back once -/
def wvF (ev od : List Nat) : Nat → List Nat
  | 0 => []
  | i + 1 => if i < od.length then wvF ev od i ++ [ev.getD i 0] ++ [od.getD i 0] else wvF ev od i ++ [ev.getD i 0]
theorem wvF_len (ev od : List Nat) : ∀ i, (wvF ev od i).length = i + min i od.length
  | 0 => by simp [wvF]
  | i + 1 => by
    have := wvF_len ev od i
    rw [wvF]; split
    · rw [List.length_append, List.length_append, len1, len1]; omega
    · rw [List.length_append, len1]; omega
theorem wv_loop {ev od : List Nat} (he : ev.length ≤ 128) {X : List Nat → Int → Prop} (hX : ∀ (o : List Nat) (i : Nat), i < ev.length → o.length ≤ 256 → (i < od.length → X (o ++ [ev.getD i 0] ++ [od.getD i 0]) ((i + 1 : Nat) : Int)) ∧ (¬ i < od.length → X (o ++ [ev.getD i 0]) ((i + 1 : Nat) : Int)) → X o (i : Int)) (hend : X (wvF ev od ev.length) (ev.length : Int)) : X [] 0 := by
  refine up (Y := fun i => X (wvF ev od i) (i : Int)) ev.length hend fun i hi hx => ?_
  have h1 := wvF_len ev od i
  refine hX _ i hi (by omega) ⟨fun c => ?_, fun c => ?_⟩
  · rw [wvF, if_pos c] at hx; exact hx
  · rw [wvF, if_neg c] at hx; exact hx
theorem impl_woven_wp {ev od : List Nat} {K : List Nat → Prop} (he : ev.length ≤ 128) (hd : od.length ≤ 128) (h : K (wvF ev od ev.length)) : impl_woven_float32.wp ev od K := by
  intro X hX
  refine wv_loop he (X := X) (od := od) (fun o i hi ho hn => hX _ _ ⟨fun _ => ⟨⟨by omega, by omega⟩, by rw [len1]; omega, fun c => ⟨⟨by omega, by omega⟩, by rw [List.length_append, len1, len1]; omega, ?_⟩, fun c => ?_⟩, fun c => absurd (show (i : Int) < ev.length by omega) c⟩) (hX _ _ ⟨fun c => absurd c (by omega), fun _ => h⟩)
  · rw [nn, w1 (by omega)]; exact hn.1 (by omega)
  · rw [nn, w1 (by omega)]; exact hn.2 (by omega)
def lfD (ws : List Nat) : Nat → List Nat × List Nat → List Nat × List Nat
  | 0, x => x
  | k + 1, x => lfD ws k (wgh k (ws.getD k 0) true x)
def drpX (ws : List Nat) (sc : Nat) (ev od : List Nat) : List Nat × List Nat := lfD ws ws.length (ev.map fun x => fop .quo .f32 x sc, od.map fun x => fop .mul .f32 x sc)
def drpL (ws : List Nat) (sc : Nat) (ev od : List Nat) : List Nat := wvF (drpX ws sc ev od).1 (drpX ws sc ev od).2 (drpX ws sc ev od).1.length
theorem lfD_len (ws : List Nat) : ∀ k x, (lfD ws k x).1.length = x.1.length ∧ (lfD ws k x).2.length = x.2.length
  | 0, x => ⟨rfl, rfl⟩
  | k + 1, x => by
    have h1 := wgh_len k (ws.getD k 0) true x
    have h2 := lfD_len ws k (wgh k (ws.getD k 0) true x)
    rw [lfD]; omega
theorem drpX_len (ws : List Nat) (sc : Nat) (ev od : List Nat) : (drpX ws sc ev od).1.length = ev.length ∧ (drpX ws sc ev od).2.length = od.length := by
  have := lfD_len ws ws.length (ev.map fun x => fop .quo .f32 x sc, od.map fun x => fop .mul .f32 x sc)
  unfold drpX
  simp only [List.length_map] at this
  exact this
theorem drpL_len {ws : List Nat} {sc : Nat} {ev od : List Nat} (hf : Fit ev od) : (drpL ws sc ev od).length = ev.length + od.length := by
  have h1 := drpX_len ws sc ev od
  have h2 := wvF_len (drpX ws sc ev od).1 (drpX ws sc ev od).2 (drpX ws sc ev od).1.length
  obtain ⟨a, b, c, d⟩ := hf
  unfold drpL; omega
theorem drop_loop {ws : List Nat} (hws : ws.length ≤ 8) {X : List Nat → List Nat → Int → Prop} {x : List Nat × List Nat} (hf : Fit x.1 x.2) (hX : ∀ (y : List Nat × List Nat) (k : Nat), Fit y.1 y.2 → k < ws.length → X (wgh k (ws.getD k 0) true y).2 (wgh k (ws.getD k 0) true y).1 ((k : Int) - 1) → X y.2 y.1 (k : Int)) (hend : ∀ y : List Nat × List Nat, y = lfD ws ws.length x → X y.2 y.1 (-1)) : X x.2 x.1 ((ws.length : Int) - 1) := by
  have key : ∀ k (y : List Nat × List Nat), k ≤ ws.length → Fit y.1 y.2 → lfD ws k y = lfD ws ws.length x → X y.2 y.1 ((k : Int) - 1) := by
    intro k
    induction k with
    | zero => intro y _ _ h2; exact hend y h2
    | succ k ih =>
      intro y hk h1 h2
      rw [show (((k + 1 : Nat) : Int) - 1) = (k : Int) by omega]
      exact hX y k h1 (by omega) (ih _ (by omega) h1.wgh (by rw [lfD] at h2; exact h2))
  exact key ws.length x (Nat.le_refl _) hf rfl
theorem impl_DropOnce_wp {ws ev od : List Nat} {sc : Nat} {K : List Nat → Bool → Prop} (hs : isSch ws sc = true) (hf : Fit ev od) (h1 : pAll ev = true) (h2 : pAll od = true) (h : if pAll (drpL ws sc ev od) = true then K (drpL ws sc ev od) true else K [] false) : impl_DropOnce.wp ws sc ev od K := by
  have hws : 1 ≤ ws.length ∧ ws.length ≤ 8 := by
    unfold isSch at hs; rw [Bool.and_eq_true, Bool.and_eq_true, decide_eq_true_eq] at hs; omega
  obtain ⟨fa, fb, fc, fd⟩ := hf
  have hall : ([ev, od] : List (List Nat)).all pAll = true := by rw [List.all_cons, List.all_cons, h1, h2]; rfl
  have hm : ∀ y ∈ ([ev, od] : List (List Nat)), y.length ≤ 2 ^ 20 := fun y hy => by
    simp only [List.mem_cons, List.not_mem_nil, or_false] at hy
    rcases hy with rfl | rfl <;> omega
  have hw : IntKind.i64.wrap ((ev.length : Int) + (od.length : Int)) = (ev.length : Int) + (od.length : Int) := wI (by omega)
  have hwl : IntKind.i64.wrap ((ws.length : Int) - 1) = (ws.length : Int) - 1 := wI (by omega)
  refine impl_ValidScheme_wp (by omega) (tE hs (tN (by omega) ⟨fun _ => ⟨fun c => absurd c (by rw [hw]; omega), fun _ => impl_areFinite_wp (by simp) hm (tE hall (impl_copyOf_wp (by omega) (impl_copyOf_wp (by omega) (tN (by omega) ?_))))⟩, fun _ => ⟨fun _ => ⟨fun c => absurd c (by rw [hw]; omega), fun _ => impl_areFinite_wp (by simp) hm (tE hall (impl_copyOf_wp (by omega) (impl_copyOf_wp (by omega) (tN (by omega) ?_))))⟩, fun c => absurd (show (od.length : Int) = _ by rw [wI (by omega)]; omega) c⟩⟩))
  all_goals
    intro X hX
    refine set_loop (P := ev.map fun x => fop .quo .f32 x sc) (by simp) (fun o i hi ho hoi hn => hX _ _ ⟨fun _ => ⟨⟨by omega, by omega⟩, ?_⟩, fun c => absurd (show (i : Int) < ev.length by omega) c⟩) (hX _ _ ⟨fun c => absurd c (by omega), fun _ => ?_⟩)
    · rw [mp_at hi] at hn
      rw [nn, hoi, w1 (by omega)]; exact hn
    intro Y hY
    refine set_loop (P := od.map fun x => fop .mul .f32 x sc) (by simp) (fun o i hi ho hoi hn => hY _ _ ⟨fun _ => ⟨⟨by omega, by omega⟩, ?_⟩, fun c => absurd (show (i : Int) < od.length by omega) c⟩) (hY _ _ ⟨fun c => absurd c (by omega), fun _ => ?_⟩)
    · rw [mp_at hi] at hn
      rw [nn, hoi, w1 (by omega)]; exact hn
    intro Z hZ
    rw [hwl]
    refine drop_loop (X := Z) (x := (ev.map fun x => fop .quo .f32 x sc, od.map fun x => fop .mul .f32 x sc)) hws.2 ⟨by simp only [List.length_map]; omega, by simp only [List.length_map]; omega, by simp only [List.length_map]; omega, by simp only [List.length_map]; omega⟩ (fun y k hy hk hn => hZ _ _ _ ⟨fun _ => ⟨⟨by omega, by omega⟩, impl_weigh_wp hy ?_⟩, fun c => absurd (show (0 : Int) ≤ (k : Int) by omega) c⟩) (fun y hy => hZ _ _ _ ⟨fun c => absurd c (by decide), fun _ => ?_⟩)
    · rw [nn, show IntKind.i64.wrap ((k : Int) - 1) = (k : Int) - 1 from wI (by omega)]; exact hn
    have hyd : y = drpX ws sc ev od := hy
    have hyl := drpX_len ws sc ev od
    rw [← hyd] at hyl
    have hwv := wvF_len y.1 y.2 y.1.length
    refine impl_woven_wp (by omega) (by omega) (impl_finiteList_wp (by omega) ?_)
    have e : wvF y.1 y.2 y.1.length = drpL ws sc ev od := by unfold drpL; rw [hyd]
    rw [e]
    refine ⟨fun c => ?_, fun c => ?_⟩ <;> rw [c] at h ⊢
    · rw [if_pos rfl] at h; exact h
    · rw [if_neg (by decide)] at h; exact h
theorem spec_l02DropOnce_wp {ws ev od : List Nat} {sc : Nat} {K : List Nat → Bool → Prop} (hws : 1 ≤ ws.length ∧ ws.length ≤ 8) (hf : Fit ev od) (h : if pAll (drpL ws sc ev od) = true then K (drpL ws sc ev od) true else K [] false) : spec_l02DropOnce.wp ws sc ev od K := by
  obtain ⟨fa, fb, fc, fd⟩ := hf
  have hwl : IntKind.i64.wrap ((ws.length : Int) - 1) = (ws.length : Int) - 1 := wI (by omega)
  refine ⟨by simp only [List.length_nil]; omega, by simp only [List.length_nil]; omega, tP (show (0 : Int) < (od.length : Int) by omega) ?_⟩
  intro X hX
  refine set_loop (X := X) (o0 := ev) (P := ev.map fun x => fop .quo .f32 x sc) (by simp) (fun o i hi ho hoi hn => hX _ _ ⟨fun _ => ⟨⟨by omega, by omega⟩, ?_⟩, fun c => absurd (show (i : Int) < o.length by omega) c⟩) (hX _ _ ⟨fun c => absurd c (by rw [List.length_map]; omega), fun _ => ?_⟩)
  · rw [mp_at hi] at hn
    rw [nn, hoi, w1 (by omega)]; exact hn
  intro Y hY
  refine set_loop (X := Y) (o0 := od) (P := od.map fun x => fop .mul .f32 x sc) (by simp) (fun o i hi ho hoi hn => hY _ _ ⟨fun _ => ⟨⟨by omega, by omega⟩, ?_⟩, fun c => absurd (show (i : Int) < o.length by omega) c⟩) (hY _ _ ⟨fun c => absurd c (by rw [List.length_map]; omega), fun _ => ?_⟩)
  · rw [mp_at hi] at hn
    rw [nn, hoi, w1 (by omega)]; exact hn
  intro Z hZ
  rw [hwl]
  refine drop_loop (X := Z) (x := (ev.map fun x => fop .quo .f32 x sc, od.map fun x => fop .mul .f32 x sc)) hws.2 ⟨by simp only [List.length_map]; omega, by simp only [List.length_map]; omega, by simp only [List.length_map]; omega, by simp only [List.length_map]; omega⟩ (fun y k hy hk hn => hZ _ _ _ ⟨fun _ => ⟨⟨by omega, by omega⟩, spec_l02Weigh_wp hy ?_⟩, fun c => absurd (show (0 : Int) ≤ (k : Int) by omega) c⟩) (fun y hy => hZ _ _ _ ⟨fun c => absurd c (by decide), fun _ => ?_⟩)
  · rw [nn, wgh_neg, show IntKind.i64.wrap ((k : Int) - 1) = (k : Int) - 1 from wI (by omega)]; exact hn
  have hyd : y = drpX ws sc ev od := hy
  have hyl := drpX_len ws sc ev od
  rw [← hyd] at hyl
  have hwv := wvF_len y.1 y.2 y.1.length
  intro U hU
  refine wv_loop (by omega) (X := U) (ev := y.1) (od := y.2) (fun o i hi ho hn => hU _ _ ⟨fun _ => ⟨⟨by omega, by omega⟩, by rw [len1]; omega, fun c => ⟨⟨by omega, by omega⟩, by rw [List.length_append, len1, len1]; omega, ?_⟩, fun c => ?_⟩, fun c => absurd (show (i : Int) < y.1.length by omega) c⟩) (hU _ _ ⟨fun c => absurd c (by omega), fun _ => spec_l02List_wp (by omega) ?_⟩)
  · rw [nn, w1 (by omega)]; exact hn.1 (by omega)
  · rw [nn, w1 (by omega)]; exact hn.2 (by omega)
  · have e : wvF y.1 y.2 y.1.length = drpL ws sc ev od := by unfold drpL; rw [hyd]
    rw [e]
    refine ⟨fun c => ?_, fun c => ?_⟩ <;> rw [c] at h ⊢
    · rw [if_pos rfl] at h; exact h
    · rw [if_neg (by decide)] at h; exact h
def bandsI : Nat → Int → List Int
  | 0, n => [n]
  | r + 1, n => if 2 ≤ n then n / 2 :: bandsI r ((n + 1) / 2) else [n]
/-- The sum of the first. -/
def sumTo (sz : List Int) : Nat → Int
  | 0 => 0
  | k + 1 => sumTo sz k + sz.getD k 0
theorem td2 {n : Int} (h : 0 ≤ n ∧ n < 2 ^ 40) : IntKind.i64.wrap (Int.tdiv n 2) = n / 2 := by
  rw [Int.tdiv_eq_ediv_of_nonneg h.1, wI (by omega)]
theorem spec_l02BandSizes_wp {n : Int} {lv : Nat} {K : List Int → Prop} (hn : 1 ≤ n ∧ n ≤ 2 ^ 20) (hlv : lv ≤ 6) (h : K (bandsI lv n)) : spec_l02BandSizes.wp n (lv : Int) K := by
  intro X hX
  have key : ∀ (r : Nat) (m : Int) (k : Nat) (o : List Int), k + r = lv → 1 ≤ m ∧ m ≤ 2 ^ 20 → o.length ≤ 6 → o.length = k → o ++ bandsI r m = bandsI lv n → X o m (k : Int) := by
    intro r
    induction r with
    | zero =>
      intro m k o h1 h2 h3 h4 h5
      rw [bandsI] at h5
      refine hX _ _ _ ⟨fun c => absurd c (by omega), fun _ => ⟨by rw [len1]; omega, by rw [h5]; exact h⟩⟩
    | succ r ih =>
      intro m k o h1 h2 h3 h4 h5
      rw [bandsI] at h5
      refine hX _ _ _ ⟨fun _ => ⟨fun c => ⟨by rw [len1]; omega, ?_⟩, fun c => ⟨by rw [len1]; omega, ?_⟩⟩, fun c => absurd (show (k : Int) < lv by omega) c⟩
      · rw [if_pos c] at h5
        rw [wI (n := m + 1) (by omega), td2 (by omega), td2 (by omega), w1 (by omega)]
        exact ih _ (k + 1) _ (by omega) (by omega) (by rw [List.length_append, len1]; omega) (by rw [List.length_append, len1]; omega) (by rw [List.append_assoc]; exact h5)
      · rw [if_neg c] at h5
        rw [h5]; exact h
  exact key lv n 0 [] (by omega) hn (by simp) rfl rfl
theorem impl_BandSizes_wp {n lv : Int} {K : List Int → Bool → Prop} (h : if (1 ≤ n ∧ n ≤ 128) ∧ 1 ≤ lv ∧ lv ≤ 6 then K (bandsI lv.toNat n) true else K [] false) : impl_BandSizes.wp n lv K := by
  refine impl_within_wp ⟨fun h1 => impl_within_wp ⟨fun h2 => ?_, fun h2 => ?_⟩, fun h1 => ?_⟩
  rotate_left
  · have h2 := of_decide_eq_false h2
    rw [if_neg (by omega)] at h; exact h
  · have h1 := of_decide_eq_false h1
    rw [if_neg (by omega)] at h; exact h
  have h1 := of_decide_eq_true h1
  have h2 := of_decide_eq_true h2
  rw [if_pos ⟨h1, h2⟩] at h
  obtain ⟨lv, rfl⟩ : ∃ k : Nat, lv = k := ⟨lv.toNat, by omega⟩
  rw [nn] at h
  intro X hX
  have key : ∀ (r : Nat) (m : Int) (k : Nat) (o : List Int), k + r = lv → 1 ≤ m ∧ m ≤ 2 ^ 20 → o.length ≤ 6 → o.length = k → o ++ bandsI r m = bandsI lv n → X o m (k : Int) := by
    intro r
    induction r with
    | zero =>
      intro m k o h1 h2 h3 h4 h5
      rw [bandsI] at h5
      refine hX _ _ _ ⟨fun c => absurd c (by omega), fun _ => ⟨by rw [len1]; omega, by rw [h5]; exact h⟩⟩
    | succ r ih =>
      intro m k o h1 h2 h3 h4 h5
      rw [bandsI] at h5
      refine hX _ _ _ ⟨fun _ => ⟨fun c => ⟨by rw [len1]; omega, ?_⟩, fun c => ⟨by rw [len1]; omega, ?_⟩⟩, fun c => absurd (show (k : Int) < lv by omega) c⟩
      · rw [if_pos (by omega)] at h5
        rw [td2 (by omega), w1 (by omega), wI (n := m - m / 2) (by omega), show m - m / 2 = (m + 1) / 2 by omega]
        exact ih _ (k + 1) _ (by omega) (by omega) (by rw [List.length_append, len1]; omega) (by rw [List.length_append, len1]; omega) (by rw [List.append_assoc]; exact h5)
      · rw [if_neg (by omega)] at h5
        rw [h5]; exact h
  exact key lv n 0 [] (by omega) (by omega) (by simp) rfl rfl
/-! ### lifted some times -/
def dpF (ws : List Nat) (sc : Nat) : Nat → List Nat → List (List Nat) → Option (List (List Nat))
  | 0, now, out => some (out ++ [now])
  | f + 1, now, out => if 2 ≤ now.length then (if lftOk ws sc now = true then dpF ws sc f (lftX ws sc now).1 (out ++ [(lftX ws sc now).2]) else none) else some (out ++ [now])
def endD (K : List (List Nat) → Bool → Prop) : Option (List (List Nat)) → Prop
  | some r => K r true
  | none => K [] false
theorem endD_some {K : List (List Nat) → Bool → Prop} {r : List (List Nat)} : endD K (some r) = K r true := rfl
theorem endD_none {K : List (List Nat) → Bool → Prop} : endD K none = K [] false := rfl
open Classical in
noncomputable def dpL (ws : List Nat) (sc : Nat) (l : List Nat) (lv : Int) : Option (List (List Nat)) := if isSch ws sc = true ∧ isL l = true ∧ (1 ≤ lv ∧ lv ≤ 6) then dpF ws sc lv.toNat l [] else none
theorem isL_len {l : List Nat} (h : isL l = true) : (1 ≤ l.length ∧ l.length ≤ 128) ∧ pAll l = true := by
  unfold isL at h
  rw [Bool.and_eq_true, decide_eq_true_eq] at h
  exact h
theorem isL_of {l : List Nat} (h : 1 ≤ l.length ∧ l.length ≤ 128) (h2 : pAll l = true) : isL l = true := by
  unfold isL
  rw [decide_eq_true h, h2]; rfl
theorem isSch_len {ws : List Nat} {sc : Nat} (hs : isSch ws sc = true) : 1 ≤ ws.length ∧ ws.length ≤ 8 := by
  unfold isSch at hs; rw [Bool.and_eq_true, Bool.and_eq_true, decide_eq_true_eq] at hs; omega
theorem lft_isL {ws : List Nat} {sc : Nat} {l : List Nat} (h : lftOk ws sc l = true) (hl : 2 ≤ l.length ∧ l.length ≤ 128) : isL (lftX ws sc l).1 = true := by
  have := lftX_len ws sc l
  unfold lftOk at h
  rw [Bool.and_eq_true] at h
  exact isL_of (by omega) h.1
theorem impl_LiftDeep_wp {ws l : List Nat} {sc : Nat} {lv : Int} {K : List (List Nat) → Bool → Prop} (hw : ws.length ≤ 2 ^ 20) (hl : l.length ≤ 2 ^ 20) (h : endD K (dpL ws sc l lv)) : impl_LiftDeep.wp ws sc l lv K := by
  unfold dpL at h
  have no : ¬ (isSch ws sc = true ∧ isL l = true ∧ (1 ≤ lv ∧ lv ≤ 6)) → K [] false := fun c => by rw [if_neg c] at h; exact h
  refine impl_ValidScheme_wp hw ⟨fun c1 => impl_IsList_wp hl ⟨fun c2 => impl_within_wp ⟨fun c3 => impl_copyOf_wp hl ?_, fun c3 => no fun x => absurd x.2.2 (of_decide_eq_false c3)⟩, fun c2 => no fun x => by rw [c2] at x; exact Bool.false_ne_true x.2.1⟩, fun c1 => no fun x => by rw [c1] at x; exact Bool.false_ne_true x.1⟩
  have c3 := of_decide_eq_true c3
  rw [if_pos ⟨c1, c2, c3⟩] at h
  obtain ⟨n, rfl⟩ : ∃ n : Nat, lv = n := ⟨lv.toNat, by omega⟩
  rw [nn] at h
  intro X hX
  have key : ∀ f k now out, k + f = n → isL now = true → out.length ≤ k → endD K (dpF ws sc f now out) → X now out (k : Int) := by
    intro f
    induction f with
    | zero =>
      intro k now out h1 h2 h3 h4
      exact hX _ _ _ ⟨fun c => absurd c (by omega), fun _ => ⟨by rw [len1]; omega, h4⟩⟩
    | succ f ih =>
      intro k now out h1 h2 h3 h4
      have hnl := isL_len h2
      rw [dpF] at h4
      refine hX _ _ _ ⟨fun _ => ⟨fun c => impl_LiftOnce_wp c1 h2 (by omega) ?_, fun c => ⟨by rw [len1]; omega, ?_⟩⟩, fun c => absurd (show (k : Int) < (n : Int) by omega) c⟩
      · rw [if_pos (by omega)] at h4
        split
        · rename_i ho
          rw [if_pos ho] at h4
          refine tT ⟨by rw [len1]; omega, ?_⟩
          rw [w1 (by omega)]
          exact ih (k + 1) _ _ (by omega) (lft_isL ho (by omega)) (by rw [List.length_append, len1]; omega) h4
        · rename_i ho
          rw [if_neg ho] at h4
          exact tF h4
      · rw [if_neg (by omega)] at h4
        exact h4
  exact key n 0 l [] (by omega) c2 (by simp) h
theorem spec_LiftDeep_wp {ws l : List Nat} {sc : Nat} {lv : Int} {K : List (List Nat) → Bool → Prop} (hw : ws.length ≤ 2 ^ 20) (hl : l.length ≤ 2 ^ 20) (h : endD K (dpL ws sc l lv)) : spec_LiftDeep.wp ws sc l lv K := by
  unfold dpL at h
  have no : ¬ (isSch ws sc = true ∧ isL l = true ∧ (1 ≤ lv ∧ lv ≤ 6)) → K [] false := fun c => by rw [if_neg c] at h; exact h
  refine spec_l02Scheme_wp hw ⟨fun c1 => spec_l02Is_wp hl ⟨fun c2 => spec_l00In_wp ⟨fun c3 => ⟨by simp only [List.length_nil]; omega, ?_⟩, fun c3 => no fun x => absurd x.2.2 (of_decide_eq_false c3)⟩, fun c2 => no fun x => by rw [c2] at x; exact Bool.false_ne_true x.2.1⟩, fun c1 => no fun x => by rw [c1] at x; exact Bool.false_ne_true x.1⟩
  have c3 := of_decide_eq_true c3
  rw [if_pos ⟨c1, c2, c3⟩] at h
  obtain ⟨n, rfl⟩ : ∃ n : Nat, lv = n := ⟨lv.toNat, by omega⟩
  rw [nn] at h
  intro X hX
  have key : ∀ f k now out, k + f = n → isL now = true → out.length ≤ k → endD K (dpF ws sc f now out) → X now out (k : Int) := by
    intro f
    induction f with
    | zero =>
      intro k now out h1 h2 h3 h4
      exact hX _ _ _ ⟨fun c => absurd c (by omega), fun _ => ⟨by rw [len1]; omega, h4⟩⟩
    | succ f ih =>
      intro k now out h1 h2 h3 h4
      have hnl := isL_len h2
      rw [dpF] at h4
      refine hX _ _ _ ⟨fun _ => ⟨fun c => spec_l02LiftOnce_wp (isSch_len c1) (by omega) (fun ho => ?_) (fun ho a b => ?_), fun c => ⟨by rw [len1]; omega, ?_⟩⟩, fun c => absurd (show (k : Int) < (n : Int) by omega) c⟩
      · rw [if_pos (by omega), if_pos ho] at h4
        refine tT ⟨by rw [len1]; omega, ?_⟩
        rw [w1 (by omega)]
        exact ih (k + 1) _ _ (by omega) (lft_isL ho (by omega)) (by rw [List.length_append, len1]; omega) h4
      · rw [if_pos (by omega), if_neg (by rw [ho]; decide)] at h4
        exact tF h4
      · rw [if_neg (by omega)] at h4
        exact h4
  exact key n 0 l [] (by omega) c2 (by simp) h
/-! ### what bands are like -/
def szL (d : List (List Nat)) : List Int := d.map fun y => (y.length : Int)
theorem dpF_is {ws : List Nat} {sc : Nat} : ∀ f now out r, isL now = true → dpF ws sc f now out = some r → ∃ t, r = out ++ t ∧ szL t = bandsI f (now.length : Int) ∧ ∀ y ∈ t, pAll y = true
  | 0, now, out, r, h1, h => by
    cases h
    exact ⟨[now], rfl, rfl, fun y hy => by rw [List.mem_singleton.1 hy]; exact (isL_len h1).2⟩
  | f + 1, now, out, r, h1, h => by
    have hnl := isL_len h1
    rw [dpF] at h
    by_cases c : 2 ≤ now.length
    · rw [if_pos c] at h
      by_cases ho : lftOk ws sc now = true
      · rw [if_pos ho] at h
        obtain ⟨t, e1, e2, e3⟩ := dpF_is f _ _ r (lft_isL ho ⟨c, hnl.1.2⟩) h
        have hx := lftX_len ws sc now
        refine ⟨(lftX ws sc now).2 :: t, by rw [e1, List.append_assoc]; rfl, ?_, fun y hy => ?_⟩
        · rw [bandsI, if_pos (by omega)]
          show ((lftX ws sc now).2.length : Int) :: szL t = _
          rw [e2, hx.1, hx.2]
          congr 1
        · rcases List.mem_cons.1 hy with rfl | hy
          · unfold lftOk at ho; rw [Bool.and_eq_true] at ho; exact ho.2
          · exact e3 y hy
      · rw [if_neg ho] at h; cases h
    · rw [if_neg c] at h
      cases h
      refine ⟨[now], rfl, ?_, fun y hy => by rw [List.mem_singleton.1 hy]; exact hnl.2⟩
      rw [bandsI, if_neg (by omega)]; rfl
def szF (L : List Int) : Nat → Int → Bool
  | 0, n => decide (n ≤ 128)
  | m + 1, n => decide (1 ≤ L.getD m 0) && (decide (L.getD m 0 = n ∨ L.getD m 0 = n - 1) && (decide (n + L.getD m 0 ≤ 128) && szF L m (n + L.getD m 0)))
def arSz (L : List Int) : Bool := decide (1 ≤ L.length ∧ L.length ≤ 7) && (decide (1 ≤ L.getD (L.length - 1) 0 ∧ L.getD (L.length - 1) 0 ≤ 128) && (decide (L.length = 1 → L.getD 0 0 = 1) && szF L (L.length - 1) (L.getD (L.length - 1) 0)))
def posB (L : List Int) : Bool := L.all fun x => decide (1 ≤ x ∧ x ≤ 128)
theorem bands_all : ∀ n : Nat, n < 129 → ∀ lv : Nat, lv < 7 → (decide (n = 0) || (decide (lv = 0) || (arSz (bandsI lv (n : Int)) && (posB (bandsI lv (n : Int)) && decide (sumTo (bandsI lv (n : Int)) (bandsI lv (n : Int)).length = (n : Int)))))) = true := by decide +kernel
structure SzOk (S : List Int) (n : Nat) : Prop where
  a : arSz S = true
  p : ∀ k, k < S.length → 1 ≤ S.getD k 0 ∧ S.getD k 0 ≤ 128
  s : sumTo S S.length = (n : Int)
  n : 1 ≤ n ∧ n ≤ 128
theorem sz_of {n lv : Nat} (hn : 1 ≤ n ∧ n ≤ 128) (hv : 1 ≤ lv ∧ lv ≤ 6) : SzOk (bandsI lv (n : Int)) n := by
  have h := bands_all n (by omega) lv (by omega)
  rw [decide_eq_false (by omega), decide_eq_false (by omega), Bool.false_or, Bool.false_or, Bool.and_eq_true, Bool.and_eq_true, decide_eq_true_eq] at h
  refine ⟨h.1, fun k hk => ?_, h.2.2, hn⟩
  have := h.2.1
  unfold posB at this
  rw [List.all_eq_true] at this
  rw [gD hk]
  exact of_decide_eq_true (this _ (List.getElem_mem hk))
theorem ar_len {L : List Int} (h : arSz L = true) : (1 ≤ L.length ∧ L.length ≤ 7) ∧ (1 ≤ L.getD (L.length - 1) 0 ∧ L.getD (L.length - 1) 0 ≤ 128) ∧ (L.length = 1 → L.getD 0 0 = 1) ∧ szF L (L.length - 1) (L.getD (L.length - 1) 0) = true := by
  unfold arSz at h
  rw [Bool.and_eq_true, Bool.and_eq_true, Bool.and_eq_true, decide_eq_true_eq, decide_eq_true_eq, decide_eq_true_eq] at h
  exact h
theorem sz_loop {L : List Int} {X : Int → Int → Prop} (hX : ∀ (n : Int) (i : Nat), 1 ≤ n → n ≤ 128 → i < L.length → 1 ≤ L.getD i 0 → (L.getD i 0 = n ∨ L.getD i 0 = n - 1) → n + L.getD i 0 ≤ 128 → X (n + L.getD i 0) ((i : Int) - 1) → X n (i : Int)) (hend : ∀ n, n ≤ 128 → X n (-1)) : ∀ (m : Nat) (n : Int), m ≤ L.length → 1 ≤ n → n ≤ 128 → szF L m n = true → X n ((m : Int) - 1)
  | 0, n, _, _, h2, _ => hend n h2
  | m + 1, n, hm, h1, h2, h => by
    rw [szF, Bool.and_eq_true, Bool.and_eq_true, Bool.and_eq_true, decide_eq_true_eq, decide_eq_true_eq, decide_eq_true_eq] at h
    obtain ⟨a, b, c, d⟩ := h
    rw [show (((m + 1 : Nat) : Int) - 1) = (m : Int) by omega]
    exact hX n m h1 h2 (by omega) a b c (sz_loop hX hend m _ (by omega) (by omega) c d)
theorem impl_areSizes_wp {L : List Int} {K : Bool → Prop} (h : arSz L = true) (hK : K true) : impl_areSizes.wp L K := by
  obtain ⟨h1, h2, h3, h4⟩ := ar_len h
  have hw : IntKind.i64.wrap ((L.length : Int) - 1) = ((L.length - 1 : Nat) : Int) := by rw [wI (by omega)]; omega
  unfold impl_areSizes.wp
  rw [hw, nn]
  have hw2 : IntKind.i64.wrap (((L.length - 1 : Nat) : Int) - 1) = ((L.length - 1 : Nat) : Int) - 1 := wI (by omega)
  rw [hw2]
  refine impl_within_wp (tE (decide_eq_true (by omega)) ⟨⟨by omega, by omega⟩, tN (by omega) ⟨fun c => ⟨⟨by omega, by omega⟩, tP (h3 (by omega)) fun X hX => ?_⟩, fun c => fun X hX => ?_⟩⟩)
  all_goals
    refine sz_loop (X := X) (fun n i g1 g2 g3 g4 g5 g6 hn => hX _ _ ⟨fun _ => ⟨⟨by omega, by omega⟩, ?_⟩, fun c => absurd (show (0 : Int) ≤ (i : Int) by omega) c⟩) (fun n g => hX _ _ ⟨fun c => absurd c (by decide), fun _ => by rw [decide_eq_true g]; exact hK⟩) _ _ (by omega) h2.1 h2.2 h4
    rw [nn, wI (n := n + L.getD i 0) (by omega), wI (n := n - 1) (by omega), wI (n := (i : Int) - 1) (by omega)]
    exact tN (by omega) ⟨fun c => tN (by omega) hn, fun c => tP (by omega) (tN (by omega) hn)⟩
theorem fit_wp {n m : Int} {K : Bool → Prop} (h1 : 1 ≤ n ∧ n ≤ 128) (h2 : m = n ∨ m = n - 1) (h3 : n + m ≤ 128) (hK : K true) : spec_l02Fit.wp n m K := by
  have hw : IntKind.i64.wrap (n + m) = n + m := wI (by omega)
  have hw2 : IntKind.i64.wrap (n - 1) = n - 1 := wI (by omega)
  unfold spec_l02Fit.wp
  rw [hw, hw2, decide_eq_true h3]
  exact tP h1.1 ⟨fun _ => hK, fun c => tP (by omega) hK⟩
theorem spec_l02Sizes_wp {L : List Int} {K : Bool → Prop} (h : arSz L = true) (hK : K true) : spec_l02Sizes.wp L K := by
  obtain ⟨h1, h2, h3, h4⟩ := ar_len h
  have hw : IntKind.i64.wrap ((L.length : Int) - 1) = ((L.length - 1 : Nat) : Int) := by rw [wI (by omega)]; omega
  unfold spec_l02Sizes.wp
  rw [hw, nn]
  have hw2 : IntKind.i64.wrap (((L.length - 1 : Nat) : Int) - 1) = ((L.length - 1 : Nat) : Int) - 1 := wI (by omega)
  rw [hw2]
  refine tN (by omega) (tN (by omega) ⟨⟨by omega, by omega⟩, tN (by omega) ⟨fun c => ⟨⟨by omega, by omega⟩, tN (by have := h3 (by omega); show ¬ (1 < L.getD (0 : Int).toNat 0); rw [show (0 : Int).toNat = 0 from rfl, this]; decide) fun X hX => ?_⟩, fun c => fun X hX => ?_⟩⟩)
  all_goals
    refine sz_loop (X := X) (fun n i g1 g2 g3 g4 g5 g6 hn => hX _ _ ⟨fun _ => ⟨⟨by omega, by omega⟩, ?_⟩, fun c => absurd (show (0 : Int) ≤ (i : Int) by omega) c⟩) (fun n g => hX _ _ ⟨fun c => absurd c (by decide), fun _ => by rw [decide_eq_true g]; exact hK⟩) _ _ (by omega) h2.1 h2.2 h4
    rw [nn, wI (n := n + L.getD i 0) (by omega), wI (n := (i : Int) - 1) (by omega)]
    exact tN (by omega) (fit_wp ⟨g1, g2⟩ g5 g6 (tT hn))
/-! ### valid bands -/
structure Bds (d : List (List Nat)) (n : Nat) : Prop where
  z : SzOk (szL d) n
  f : ∀ y ∈ d, pAll y = true
theorem szL_len (d : List (List Nat)) : (szL d).length = d.length := List.length_map ..
theorem szL_at {d : List (List Nat)} {i : Nat} (h : i < d.length) : (szL d).getD i 0 = ((d.getD i ([] : List Nat)).length : Int) := by
  rw [gD (by rw [szL_len]; exact h), gD h]
  unfold szL
  rw [List.getElem_map]
theorem Bds.le {d : List (List Nat)} {n : Nat} (h : Bds d n) {i : Nat} (hi : i < d.length) : 1 ≤ (d.getD i ([] : List Nat)).length ∧ (d.getD i ([] : List Nat)).length ≤ 128 := by
  have := h.z.p i (by rw [szL_len]; exact hi)
  rw [szL_at hi] at this
  omega
theorem Bds.fin {d : List (List Nat)} {n : Nat} (h : Bds d n) {i : Nat} (hi : i < d.length) : pAll (d.getD i ([] : List Nat)) = true := by
  rw [gD hi]; exact h.f _ (List.getElem_mem hi)
theorem Bds.len {d : List (List Nat)} {n : Nat} (h : Bds d n) : 1 ≤ d.length ∧ d.length ≤ 7 := by
  have := (ar_len h.z.a).1
  rw [szL_len] at this; exact this
theorem impl_AreBands_wp {d : List (List Nat)} {n : Nat} {K : Bool → Prop} (h : Bds d n) (hK : K true) : impl_AreBands.wp d K := by
  have hl := h.len
  have hz : impl_sizesOf_float32.wp d fun y101 => impl_areSizes.wp y101 fun y105 => ((y105 = true → impl_areFinite.wp d fun y108 => K (y108)) ∧ (y105 = false → K (false))) := by
    intro X hX
    refine map_loop d (fun _ => true) (fun y => (y.length : Int)) (X := X) (T := True) (F := False) (fun i hi o ho hh => hX _ _ ⟨fun _ => ⟨⟨by omega, by omega⟩, by rw [len1]; omega, ?_⟩, fun c => absurd (show (i : Int) < d.length by omega) c⟩) (fun _ => hX _ _ ⟨fun c => absurd c (by omega), fun _ => ?_⟩) (fun _ => trivial) (fun c => by simp at c)
    · rw [nn, gD hi, w1 (by omega)]; exact hh.1 rfl
    · refine impl_areSizes_wp h.z.a (tT (impl_areFinite_wp (by omega) (fun y hy => ?_) ?_))
      · obtain ⟨i, hi, rfl⟩ := List.getElem_of_mem hy
        have := h.le hi
        rw [gD hi] at this; omega
      · rw [show d.all pAll = true from List.all_eq_true.2 h.f]; exact hK
  exact hz
theorem spec_l02Bands_wp {d : List (List Nat)} {n : Nat} {K : Bool → Prop} (h : Bds d n) (hK : K true) : spec_l02Bands.wp d K := by
  have hl := h.len
  intro X hX
  refine map_loop d (fun _ => true) (fun y => (y.length : Int)) (X := X) (T := True) (F := False) (fun i hi o ho hh => hX _ _ ⟨fun _ => ⟨⟨by omega, by omega⟩, by rw [len1]; omega, tN (by omega) ?_⟩, fun c => absurd (show (i : Int) < d.length by omega) c⟩) (fun _ => hX _ _ ⟨fun c => absurd c (by omega), fun _ => spec_l02Sizes_wp h.z.a hK⟩) (fun _ => trivial) (fun c => by simp at c)
  have h1 := h.le hi
  have h2 := h.fin hi
  rw [nn] at *
  refine spec_l02Finite_wp (by omega) (tE h2 ?_)
  rw [gD hi, w1 (by omega)]; exact hh.1 rfl
/-! ### flattened -/
def flF (d : List (List Nat)) : Nat → List Nat → List Nat
  | 0, o => o
  | m + 1, o => flF d m (o ++ d.getD m ([] : List Nat))
theorem flF_len {d : List (List Nat)} : ∀ m o, m ≤ d.length → ((flF d m o).length : Int) = (o.length : Int) + sumTo (szL d) m
  | 0, o, _ => by rw [flF, sumTo]; omega
  | m + 1, o, h => by
    rw [flF, flF_len m _ (by omega), sumTo, szL_at (by omega), List.length_append]; omega
def flL' (d : List (List Nat)) : List Nat := flF d d.length []
theorem fl_loop {d : List (List Nat)} {n : Nat} (h : Bds d n) {X : List Nat → Int → Prop} (hX : ∀ (o : List Nat) (i : Nat), i < d.length → o.length + (d.getD i ([] : List Nat)).length ≤ 2000 → X (o ++ d.getD i ([] : List Nat)) ((i : Int) - 1) → X o (i : Int)) (hend : X (flL' d) (-1)) : X [] ((d.length : Int) - 1) := by
  have key : ∀ m o, m ≤ d.length → o.length + 128 * m ≤ 1000 → flF d m o = flL' d → X o ((m : Int) - 1) := by
    intro m
    induction m with
    | zero => intro o _ _ h2; rw [flF] at h2; rw [h2]; exact hend
    | succ m ih =>
      intro o h1 h2 h3
      have := h.le (i := m) (by omega)
      rw [show (((m + 1 : Nat) : Int) - 1) = (m : Int) by omega]
      exact hX o m (by omega) (by omega) (ih _ (by omega) (by rw [List.length_append]; omega) h3)
  have := h.len
  exact key d.length [] (Nat.le_refl _) (by simp only [List.length_nil]; omega) rfl
theorem impl_FlatBands_wp {d : List (List Nat)} {n : Nat} {K : List Nat → Bool → Prop} (h : Bds d n) (hK : K (flL' d) true) : impl_FlatBands.wp d K := by
  have hl := h.len
  refine impl_AreBands_wp h (tT fun X hX => ?_)
  rw [wI (by omega)]
  refine fl_loop h (X := X) (fun o i hi h1 hn => hX _ _ ⟨fun _ => ⟨⟨by omega, by omega⟩, by rw [nn]; omega, ?_⟩, fun c => absurd (show (0 : Int) ≤ (i : Int) by omega) c⟩) (hX _ _ ⟨fun c => absurd c (by decide), fun _ => hK⟩)
  rw [nn, wI (n := (i : Int) - 1) (by omega)]; exact hn
theorem spec_FlatBands_wp {d : List (List Nat)} {n : Nat} {K : List Nat → Bool → Prop} (h : Bds d n) (hK : K (flL' d) true) : spec_FlatBands.wp d K := by
  have hl := h.len
  refine spec_l02Bands_wp h (tT fun X hX => ?_)
  rw [wI (by omega)]
  refine fl_loop h (X := X) (fun o i hi h1 hn => hX _ _ ⟨fun _ => ⟨⟨by omega, by omega⟩, by rw [nn]; omega, ?_⟩, fun c => absurd (show (0 : Int) ≤ (i : Int) by omega) c⟩) (hX _ _ ⟨fun c => absurd c (by decide), fun _ => hK⟩)
  rw [nn, wI (n := (i : Int) - 1) (by omega)]; exact hn
theorem flL'_len {d : List (List Nat)} {n : Nat} (h : Bds d n) : (flL' d).length = n := by
  have h1 := flF_len (d := d) d.length [] (Nat.le_refl _)
  have h2 := h.z.s
  rw [szL_len] at h2
  have h3 : ((flL' d).length : Int) = (n : Int) := by
    unfold flL'
    rw [h1, h2]; simp
  omega
/-! ### cut -/
def offN (S : List Int) (k : Nat) : Nat := (sumTo S S.length - sumTo S (k + 1)).toNat
def n_ (l : List Nat) : Nat := l.length
def cutB (l : List Nat) (S : List Int) (k : Nat) : List Nat := (l.drop (offN S k)).take (S.getD k 0).toNat
def cutL (l : List Nat) (S : List Int) : List (List Nat) := (List.range S.length).map (cutB l S)
theorem cutL_len (l : List Nat) (S : List Int) : (cutL l S).length = S.length := by simp [cutL]
theorem cutL_at {l : List Nat} {S : List Int} {k : Nat} (h : k < S.length) : (cutL l S).getD k ([] : List Nat) = cutB l S k := by
  rw [gD (by rw [cutL_len]; exact h)]; simp [cutL]
theorem SzOk.mono {S : List Int} {n : Nat} (h : SzOk S n) : ∀ m k, k + m ≤ S.length → sumTo S k ≤ sumTo S (k + m)
  | 0, k, _ => Int.le_refl _
  | m + 1, k, hk => by
    have h1 := h.mono m k (by omega)
    have h2 := h.p (k + m) (by omega)
    rw [show k + (m + 1) = k + m + 1 by omega, sumTo]; omega
theorem SzOk.zero {S : List Int} {n : Nat} (h : SzOk S n) {k : Nat} (hk : k ≤ S.length) : 0 ≤ sumTo S k ∧ sumTo S k ≤ (n : Int) := by
  have h1 := h.mono k 0 (by omega)
  have h2 := h.mono (S.length - k) k (by omega)
  rw [Nat.zero_add, show sumTo S 0 = 0 from rfl] at h1
  rw [show k + (S.length - k) = S.length by omega, h.s] at h2
  exact ⟨h1, h2⟩
theorem SzOk.off {S : List Int} {n : Nat} (h : SzOk S n) {k : Nat} (hk : k < S.length) : ((offN S k : Nat) : Int) = (n : Int) - sumTo S (k + 1) ∧ ((offN S k : Nat) : Int) + S.getD k 0 = (n : Int) - sumTo S k := by
  have h1 := h.zero (k := k + 1) (by omega)
  have h2 := h.s
  unfold offN
  rw [h2]
  rw [sumTo] at h1 ⊢
  omega
theorem cutB_len {l : List Nat} {S : List Int} (h : SzOk S l.length) {k : Nat} (hk : k < S.length) : ((cutB l S k).length : Int) = S.getD k 0 := by
  have h1 := h.off hk
  have h2 := h.zero (k := k) (by omega)
  have h3 := h.p k hk
  unfold cutB
  rw [List.length_take, List.length_drop]; omega
theorem pAll_part {l : List Nat} (h : pAll l = true) (a b : Nat) : pAll ((l.drop a).take b) = true := by
  unfold pAll at *
  rw [List.all_eq_true] at *
  intro x hx
  exact h x (List.mem_of_mem_drop (List.mem_of_mem_take hx))
theorem cut_bds {l : List Nat} {S : List Int} (h : SzOk S l.length) (hf : pAll l = true) : Bds (cutL l S) l.length := by
  have e : szL (cutL l S) = S := by
    refine List.ext_getElem (by rw [szL_len, cutL_len]) fun i h1 h2 => ?_
    have h3 : i < (cutL l S).length := by rw [cutL_len]; exact h2
    have := szL_at h3
    rw [gD h1, cutL_at h2, cutB_len h h2, gD h2] at this
    exact this
  refine ⟨by rw [e]; exact h, fun y hy => ?_⟩
  obtain ⟨k, _, rfl⟩ := List.mem_map.1 hy
  exact pAll_part hf _ _
theorem impl_CutFlat_wp {l : List Nat} {lv : Nat} {K : List (List Nat) → Bool → Prop} (hl : isL l = true) (hv : 1 ≤ lv ∧ lv ≤ 6) (hK : K (cutL l (bandsI lv (l.length : Int))) true) : impl_CutFlat.wp l (lv : Int) K := by
  have hll := (isL_len hl).1
  have hz := sz_of hll hv
  refine impl_BandSizes_wp (by
    rw [if_pos (by omega)]
    rw [nn]
    refine tT (impl_IsList_wp (by omega) (tE hl ?_))
    generalize bandsI lv (l.length : Int) = S at *
    have hS := (ar_len hz.a).1
    refine ⟨⟨by omega, by omega, by omega, by omega⟩, fun X hX => ?_⟩
    have hc := cutL_len l S
    have key : ∀ m, m ≤ S.length → X (List.replicate m ([] : List Nat) ++ (cutL l S).drop m) ((n_ l : Int) - sumTo S m) ((m : Int) - 1) := by
      intro m
      induction m with
      | zero =>
        intro _
        refine hX _ _ _ ⟨fun c => absurd c (by omega), fun _ => ?_⟩
        rw [List.replicate_zero, List.nil_append, List.drop_zero]; exact hK
      | succ m ih =>
        intro hm
        have h1 := hz.off (k := m) (by omega)
        have h2 := hz.zero (k := m) (by omega)
        have h3 := hz.p m (by omega)
        have hw : IntKind.i64.wrap ((n_ l : Int) - sumTo S (m + 1) + S.getD m 0) = (n_ l : Int) - sumTo S m := by
          rw [sumTo, wI (by unfold n_; omega)]; omega
        rw [show (((m + 1 : Nat) : Int) - 1) = (m : Int) by omega]
        refine hX _ _ _ ⟨fun _ => ⟨⟨by omega, by omega⟩, ?_⟩, fun c => absurd (show (0 : Int) ≤ (m : Int) by omega) c⟩
        rw [nn, hw]
        have hlen : (List.replicate (m + 1) ([] : List Nat) ++ (cutL l S).drop (m + 1)).length = S.length := by
          rw [List.length_append, List.length_replicate, List.length_drop]; omega
        have e1 : ((n_ l : Int) - sumTo S (m + 1)).toNat = offN S m := by unfold n_; omega
        have e2 : ((n_ l : Int) - sumTo S m).toNat - offN S m = (S.getD m 0).toNat := by unfold n_; omega
        refine ⟨⟨by unfold n_; omega, by rw [sumTo]; omega, by unfold n_; omega⟩, ?_⟩
        rw [e1, e2]
        have hcb := cutB_len hz (k := m) (by omega)
        refine impl_copyOf_wp (l := cutB l S m) (by omega) ⟨⟨by omega, by rw [hlen]; omega⟩, ?_⟩
        rw [show IntKind.i64.wrap ((m : Int) - 1) = (m : Int) - 1 from wI (by omega)]
        have e3 : (List.replicate (m + 1) ([] : List Nat) ++ (cutL l S).drop (m + 1)).set m (cutB l S m) = List.replicate m ([] : List Nat) ++ (cutL l S).drop m := by
          rw [dropC (show m < (cutL l S).length by omega), List.set_append_left _ _ (by rw [List.length_replicate]; omega), List.replicate_succ', List.set_append_right _ _ (by rw [List.length_replicate]; omega), List.length_replicate, Nat.sub_self, List.set_cons_zero, List.append_assoc]
          have := cutL_at (l := l) (S := S) (k := m) (by omega)
          rw [gD (by omega)] at this
          rw [this]; rfl
        rw [e3]
        exact ih (by omega)
    have := key S.length (Nat.le_refl _)
    rw [show (n_ l : Int) - sumTo S S.length = 0 by rw [hz.s]; unfold n_; omega, List.drop_of_length_le (by omega), List.append_nil] at this
    rw [wI (by omega), nn]
    exact this)
theorem spec_l02Cut_wp {l : List Nat} {lv : Nat} {K : List (List Nat) → Prop} (hl : isL l = true) (hv : 1 ≤ lv ∧ lv ≤ 6) (hK : K (cutL l (bandsI lv (l.length : Int)))) : spec_l02Cut.wp l (lv : Int) K := by
  have hll := (isL_len hl).1
  have hz := sz_of hll hv
  refine spec_l02BandSizes_wp (by omega) (by omega) ?_
  generalize bandsI lv (l.length : Int) = S at *
  have hS := (ar_len hz.a).1
  intro X hX
  have hc := cutL_len l S
  refine up (Y := fun k => X ((cutL l S).take k) (k : Int)) S.length (hX _ _ ⟨fun c => absurd c (by omega), fun _ => by rw [List.take_of_length_le (by omega)]; exact hK⟩) fun k hk hx => hX _ _ ⟨fun _ => fun Z hZ => ?_, fun c => absurd (show (k : Int) < S.length by omega) c⟩
  have h1 := hz.off (k := k) hk
  have h2 := hz.zero (k := k) (by omega)
  have h3 := hz.p k hk
  have inner : ∀ m j, m + j = S.length → k + 1 ≤ j → Z (sumTo S j - sumTo S (k + 1)) (j : Int) := by
    intro m
    induction m with
    | zero =>
      intro j hj hj2
      obtain rfl : j = S.length := by omega
      have hs : sumTo S S.length - sumTo S (k + 1) = ((offN S k : Nat) : Int) := by rw [hz.s]; omega
      rw [hs]
      have hw : IntKind.i64.wrap (((offN S k : Nat) : Int) + S.getD k 0) = ((offN S k : Nat) : Int) + S.getD k 0 := wI (by omega)
      have hcb := cutB_len hz hk
      refine hZ _ _ ⟨fun c => absurd c (by omega), fun _ => ⟨⟨by omega, by omega⟩, ?_⟩⟩
      rw [nn k, hw, nn]
      have e2 : (((offN S k : Nat) : Int) + S.getD k 0).toNat - offN S k = (S.getD k 0).toNat := by omega
      rw [e2]
      refine ⟨⟨by omega, by omega, by omega⟩, ?_, ?_, ?_⟩
      · show (([] : List Nat).length + (cutB l S k).length) * 4 ≤ 2 ^ 40
        simp only [List.length_nil]; omega
      · rw [len1, List.length_take]; omega
      · rw [w1 (by omega)]
        rw [List.take_succ_eq_append_getElem (by omega)] at hx
        have := cutL_at (l := l) (S := S) (k := k) hk
        rw [gD (by omega)] at this
        rw [this] at hx
        exact hx
    | succ m ih =>
      intro j hj hj2
      have g1 := hz.zero (k := j) (by omega)
      have g2 := hz.p j (by omega)
      have g3 := hz.zero (k := k + 1) (by omega)
      refine hZ _ _ ⟨fun _ => ⟨⟨by omega, by omega⟩, ?_⟩, fun c => absurd (show (j : Int) < S.length by omega) c⟩
      rw [nn, w1 (by omega), wI (by omega)]
      have := ih (j + 1) (by omega) (by omega)
      rw [sumTo] at this
      rw [show sumTo S j - sumTo S (k + 1) + S.getD j 0 = sumTo S j + S.getD j 0 - sumTo S (k + 1) by omega]
      exact this
  have := inner (S.length - (k + 1)) (k + 1) (by omega) (by omega)
  rw [Int.sub_self] at this
  rw [w1 (by omega)]
  exact this
/-! ### led back -/
def udF (ws : List Nat) (sc : Nat) (d : List (List Nat)) : Nat → List Nat → Option (List Nat)
  | 0, now => some now
  | m + 1, now => if pAll (drpL ws sc now (d.getD m ([] : List Nat))) = true then udF ws sc d m (drpL ws sc now (d.getD m ([] : List Nat))) else none
def endU (K : List Nat → Bool → Prop) : Option (List Nat) → Prop
  | some r => K r true
  | none => K [] false
theorem endU_some {K : List Nat → Bool → Prop} {r : List Nat} : endU K (some r) = K r true := rfl
theorem endU_none {K : List Nat → Bool → Prop} : endU K none = K [] false := rfl
def udL (ws : List Nat) (sc : Nat) (d : List (List Nat)) : Option (List Nat) := udF ws sc d (d.length - 1) (d.getD (d.length - 1) ([] : List Nat))
theorem szF_fit {d : List (List Nat)} {m : Nat} {now : List Nat} (hm : m < d.length) (h : szF (szL d) (m + 1) (now.length : Int) = true) : Fit now (d.getD m ([] : List Nat)) ∧ szF (szL d) m ((now.length : Int) + ((d.getD m ([] : List Nat)).length : Int)) = true := by
  rw [szF, Bool.and_eq_true, Bool.and_eq_true, Bool.and_eq_true, decide_eq_true_eq, decide_eq_true_eq, decide_eq_true_eq, szL_at hm] at h
  obtain ⟨a, b, c, e⟩ := h
  exact ⟨⟨by omega, by omega, by omega, by omega⟩, e⟩
theorem ud_loop {ws : List Nat} {sc : Nat} {d : List (List Nat)} {K : List Nat → Bool → Prop} (hd : ∀ y ∈ d, pAll y = true) {X : List Nat → Int → Prop} (hX : ∀ (now : List Nat) (i : Nat), i < d.length → Fit now (d.getD i ([] : List Nat)) → pAll now = true → (if pAll (drpL ws sc now (d.getD i ([] : List Nat))) = true then X (drpL ws sc now (d.getD i ([] : List Nat))) ((i : Int) - 1) else K [] false) → X now (i : Int)) (hend : ∀ now, K now true → X now (-1)) : ∀ m now, m < d.length → pAll now = true → szF (szL d) m (now.length : Int) = true → endU K (udF ws sc d m now) → X now ((m : Int) - 1)
  | 0, now, _, _, _, h => hend now h
  | m + 1, now, hm, hf, hz, h => by
    obtain ⟨g1, g2⟩ := szF_fit (by omega) hz
    rw [show (((m + 1 : Nat) : Int) - 1) = (m : Int) by omega]
    refine hX now m (by omega) g1 hf ?_
    rw [udF] at h
    split
    · rename_i c
      rw [if_pos c] at h
      refine ud_loop hd hX hend m _ (by omega) c ?_ h
      rw [drpL_len g1, show (((now.length + (d.getD m ([] : List Nat)).length : Nat)) : Int) = (now.length : Int) + ((d.getD m ([] : List Nat)).length : Int) by omega]
      exact g2
    · rename_i c
      rw [if_neg c] at h
      exact h
theorem bds_last {d : List (List Nat)} {n : Nat} (h : Bds d n) : szF (szL d) (d.length - 1) ((d.getD (d.length - 1) ([] : List Nat)).length : Int) = true := by
  have hl := h.len
  have h1 := (ar_len h.z.a).2.2.2
  rw [szL_len, szL_at (by omega)] at h1
  exact h1
theorem impl_DropDeep_wp {ws : List Nat} {sc : Nat} {d : List (List Nat)} {n : Nat} {K : List Nat → Bool → Prop} (hs : isSch ws sc = true) (h : Bds d n) (hK : endU K (udL ws sc d)) : impl_DropDeep.wp ws sc d K := by
  have hl := h.len
  have hsl := isSch_len hs
  refine impl_ValidScheme_wp (by omega) (tE hs (impl_AreBands_wp h (tT ?_)))
  have hw : IntKind.i64.wrap ((d.length : Int) - 1) = ((d.length - 1 : Nat) : Int) := by rw [wI (by omega)]; omega
  have hw2 : IntKind.i64.wrap ((d.length : Int) - 2) = ((d.length - 1 : Nat) : Int) - 1 := by rw [wI (by omega)]; omega
  rw [hw, hw2, nn]
  have hle := h.le (i := d.length - 1) (by omega)
  refine ⟨⟨by omega, by omega⟩, impl_copyOf_wp (by omega) fun X hX => ?_⟩
  refine ud_loop (K := K) (X := X) h.f (fun now i hi hf hp hn => hX _ _ ⟨fun _ => ⟨⟨by omega, by omega⟩, ?_⟩, fun c => absurd (show (0 : Int) ≤ (i : Int) by omega) c⟩) (fun now hk => hX _ _ ⟨fun c => absurd c (by decide), fun _ => hk⟩) _ _ (by omega) (h.fin (by omega)) (bds_last h) hK
  rw [nn]
  refine impl_DropOnce_wp hs hf hp (h.fin hi) ?_
  split at hn
  · rename_i c
    rw [if_pos c]
    refine tT ?_
    rw [wI (by omega)]; exact hn
  · rename_i c
    rw [if_neg c]
    exact tF hn
theorem spec_l02Undeep_wp {ws : List Nat} {sc : Nat} {d : List (List Nat)} {n : Nat} {K : List Nat → Bool → Prop} (hs : isSch ws sc = true) (h : Bds d n) (hK : endU K (udL ws sc d)) : spec_l02Undeep.wp ws sc d K := by
  have hl := h.len
  have hw : IntKind.i64.wrap ((d.length : Int) - 1) = ((d.length - 1 : Nat) : Int) := by rw [wI (by omega)]; omega
  have hw2 : IntKind.i64.wrap ((d.length : Int) - 2) = ((d.length - 1 : Nat) : Int) - 1 := by rw [wI (by omega)]; omega
  unfold spec_l02Undeep.wp
  rw [hw, hw2, nn]
  have hle := h.le (i := d.length - 1) (by omega)
  refine ⟨⟨by omega, by omega⟩, by simp only [List.length_nil]; omega, fun X hX => ?_⟩
  rw [List.nil_append]
  refine ud_loop (K := K) (X := X) h.f (fun now i hi hf hp hn => hX _ _ ⟨fun _ => ⟨⟨by omega, by omega⟩, ?_⟩, fun c => absurd (show (0 : Int) ≤ (i : Int) by omega) c⟩) (fun now hk => hX _ _ ⟨fun c => absurd c (by decide), fun _ => hk⟩) _ _ (by omega) (h.fin (by omega)) (bds_last h) hK
  rw [nn]
  refine spec_l02DropOnce_wp (isSch_len hs) hf ?_
  split at hn
  · rename_i c
    rw [if_pos c]
    refine tT ?_
    rw [wI (by omega)]; exact hn
  · rename_i c
    rw [if_neg c]
    exact tF hn
theorem udF_len {ws : List Nat} {sc : Nat} {d : List (List Nat)} : ∀ m now r, m < d.length → szF (szL d) m (now.length : Int) = true → udF ws sc d m now = some r → (r.length : Int) = (now.length : Int) + sumTo (szL d) m
  | 0, now, r, _, _, h => by cases h; rw [sumTo]; omega
  | m + 1, now, r, hm, hz, h => by
    obtain ⟨g1, g2⟩ := szF_fit (by omega) hz
    rw [udF] at h
    split at h
    · have hdl := drpL_len (ws := ws) (sc := sc) g1
      have := udF_len m _ r (by omega) (by rw [hdl, show (((now.length + (d.getD m ([] : List Nat)).length : Nat)) : Int) = (now.length : Int) + ((d.getD m ([] : List Nat)).length : Int) by omega]; exact g2) h
      rw [this, hdl, sumTo, szL_at (by omega)]; omega
    · cases h
theorem udL_len {ws : List Nat} {sc : Nat} {d : List (List Nat)} {n : Nat} {r : List Nat} (h : Bds d n) (hr : udL ws sc d = some r) : r.length = n := by
  have hl := h.len
  have h1 := udF_len _ _ r (by omega) (bds_last h) hr
  have h2 := h.z.s
  rw [szL_len] at h2
  have h3 : sumTo (szL d) d.length = sumTo (szL d) (d.length - 1) + ((d.getD (d.length - 1) ([] : List Nat)).length : Int) := by
    conv => lhs; rw [show d.length = d.length - 1 + 1 by omega, sumTo]
    rw [szL_at (by omega)]
  omega
def unsc (n : Int) (s h : Nat) : Nat := if 0 < n then fop .mul .f32 s (fop .add .f32 (itof .f32 n) h) else if n < 0 then fop .mul .f32 s (fop .sub .f32 (itof .f32 n) h) else cz .f32 0
def losOk (l : List Int) (s h : Nat) : Bool := isI l && isOver s && isShare h && pAll (l.map fun n => unsc n s h)
theorem spec_l06Unscale_wp {n : Int} {s h : Nat} {K : Nat → Prop} (hk : K (unsc n s h)) : spec_l06Unscale.wp n s h K := by
  refine ⟨fun h1 => ?_, fun h1 => ⟨fun h2 => ?_, fun h2 => ?_⟩⟩
  · rw [unsc, if_pos h1] at hk; exact hk
  · rw [unsc, if_neg h1, if_pos h2] at hk; exact hk
  · rw [unsc, if_neg h1, if_neg h2] at hk; exact hk
theorem los_wp (l : List Int) (s h : Nat) (hl : l.length ≤ 2 ^ 20) : (∀ K : List Nat → Bool → Prop, K (if losOk l s h = true then l.map fun n => unsc n s h else []) (losOk l s h) → spec_ListOfScale.wp l s h K) ∧ (∀ K : List Nat → Bool → Prop, K (if losOk l s h = true then l.map fun n => unsc n s h else []) (losOk l s h) → impl_ListOfScale.wp l s h K) := by
  refine ⟨fun K hk => ?_, fun K hk => ?_⟩
  · refine spec_l02Integers_wp hl ⟨fun h1 => spec_l02Above_wp ⟨fun h2 => spec_l02Share_wp ⟨fun h3 => fun X hX => ?_, fun h3 => ?_⟩, fun h2 => ?_⟩, fun h1 => ?_⟩
    · have e : losOk l s h = pAll (l.map fun n => unsc n s h) := by simp [losOk, h1, h2, h3]
      rw [e] at hk
      refine map_loop l (fun _ => true) (fun n => unsc n s h) (X := X) (T := True) (F := False) (fun i hi o ho hh => ?_) (fun _ => ?_) (fun _ => trivial) (fun c => by simp at c)
      · refine hX _ _ ⟨fun _ => ⟨⟨by omega, by omega⟩, spec_l06Unscale_wp ⟨?_, ?_⟩⟩, fun c => absurd (show (i : Int) < l.length by omega) c⟩
        · rw [len1, ho]; omega
        · rw [nn, gD hi, w1 (by omega)]; exact hh.1 rfl
      · refine hX _ _ ⟨fun c => absurd c (by omega), fun _ => spec_l02List_wp (by rw [List.length_map]; exact hl) ⟨fun h4 => ?_, fun h4 => ?_⟩⟩
        · rw [h4, if_pos rfl] at hk; rw [h4]; exact hk
        · rw [h4, if_neg (by simp)] at hk; rw [h4]; exact hk
    · rw [show losOk l s h = false by simp [losOk, h3], if_neg (by simp)] at hk; exact hk
    · rw [show losOk l s h = false by simp [losOk, h2], if_neg (by simp)] at hk; exact hk
    · rw [show losOk l s h = false by simp [losOk, h1], if_neg (by simp)] at hk; exact hk
  · refine impl_AreIntegers_wp hl ⟨fun h1 => impl_isOver_wp ⟨fun h2 => impl_isShare_wp ⟨fun h3 => fun X hX => ?_, fun h3 => ?_⟩, fun h2 => ?_⟩, fun h1 => ?_⟩
    · have e : losOk l s h = pAll (l.map fun n => unsc n s h) := by simp [losOk, h1, h2, h3]
      rw [e] at hk
      refine map_loop l (fun _ => true) (fun n => unsc n s h) (X := X) (T := True) (F := False) (fun i hi o ho hh => ?_) (fun _ => ?_) (fun _ => trivial) (fun c => by simp at c)
      · have hh := hh.1 rfl
        refine hX _ _ ⟨fun _ => ⟨⟨by omega, by omega⟩, ⟨fun c => ?_, fun c => ⟨fun c2 => ?_, fun c2 => ?_⟩⟩⟩, fun c => absurd (show (i : Int) < l.length by omega) c⟩
        all_goals (try rw [nn, gD hi] at c); (try rw [nn, gD hi] at c2); refine ⟨by rw [len1, ho]; omega, ?_⟩; rw [w1 (by omega)]
        · rw [unsc, if_neg (by omega), if_neg (by omega)] at hh; exact hh
        · rw [unsc, if_pos c2] at hh; rw [nn, gD hi]; exact hh
        · rw [unsc, if_neg c2, if_pos (by omega)] at hh; rw [nn, gD hi]; exact hh
      · refine hX _ _ ⟨fun c => absurd c (by omega), fun _ => impl_finiteList_wp (by rw [List.length_map]; exact hl) ⟨fun h4 => ?_, fun h4 => ?_⟩⟩
        · rw [h4, if_pos rfl] at hk; rw [h4]; exact hk
        · rw [h4, if_neg (by simp)] at hk; rw [h4]; exact hk
    · rw [show losOk l s h = false by simp [losOk, h3], if_neg (by simp)] at hk; exact hk
    · rw [show losOk l s h = false by simp [losOk, h2], if_neg (by simp)] at hk; exact hk
    · rw [show losOk l s h = false by simp [losOk, h1], if_neg (by simp)] at hk; exact hk
open Ieee in
structure Fmt (f : Format) : Prop where
  b : f.binade = 2 ^ f.fractionBits
  i : f.infRung < f.signWeight
  r : f.infRung = (2 ^ f.exponentBits - 1) * f.binade
  x : 2 ≤ f.exponentBits
theorem fmt1 : Fmt Ieee.single := ⟨rfl, by decide, rfl, by decide⟩
theorem fmt2 : Fmt Ieee.double := ⟨rfl, by decide, rfl, by decide⟩
open Ieee in
theorem read_word {f : Format} (h : Fmt f) (s : Bool) {r : Nat} (hr : r ≤ f.infRung) : f.read (f.word s r) = if r < f.binade then .number s r f.leastPlace else if r < f.infRung then .number s (f.binade + r % f.binade) (f.leastPlace + (r / f.binade - 1 : Nat)) else .infinity s := by
  have hi := h.i
  have hl : r < f.signWeight := by omega
  have e1 : f.word s r % f.signWeight = r := by
    unfold Format.word
    split
    · rw [Nat.add_mod_left, Nat.mod_eq_of_lt hl]
    · exact Nat.mod_eq_of_lt hl
  have e2 : (f.word s r / f.signWeight % 2 == 1) = s := by
    unfold Format.word
    cases s with
    | true => rw [if_pos rfl, Nat.add_div_left _ (by omega), Nat.div_eq_of_lt hl]; rfl
    | false => rw [if_neg (by decide), Nat.div_eq_of_lt hl]; rfl
  unfold Format.read
  dsimp only
  rw [e1, e2]
  split
  · rfl
  · split
    · rfl
    · rw [if_pos (by omega)]
open Ieee in
theorem near_exact {f : Format} (h : Fmt f) (s : Bool) {M M0 k : Nat} {e : Int} (hM : M = M0 * 2 ^ k) (h0 : M0 < 2 ^ (f.fractionBits + 1)) (hL : f.leastPlace ≤ e + k) (hI : (e + k - f.leastPlace).toNat + 2 ≤ 2 ^ f.exponentBits - 1) : ∃ m e', f.read (f.nearest s M e) = .number s m e' ∧ f.leastPlace ≤ e' ∧ m * 2 ^ (e' - f.leastPlace).toNat = M0 * 2 ^ (e + k - f.leastPlace).toNat := by
  have hB := h.b
  have hBp : 0 < f.binade := by rw [hB]; exact Nat.two_pow_pos _
  generalize hp : f.fractionBits = p at *
  generalize hLL : f.leastPlace = L at *
  by_cases hz : M0 = 0
  · subst hz
    rw [Nat.zero_mul] at hM
    refine ⟨0, L, ?_, Int.le_refl _, by simp⟩
    unfold Format.nearest
    rw [if_pos hM, read_word h s (Nat.zero_le _), if_pos hBp, hLL]
  have hMz : M ≠ 0 := by rw [hM]; exact Nat.mul_ne_zero hz (by have := Nat.two_pow_pos k; omega)
  have hlog : M.log2 = M0.log2 + k := by
    refine (Nat.log2_eq_iff hMz).2 ⟨?_, ?_⟩
    · rw [hM, Nat.pow_add]; exact Nat.mul_le_mul_right _ (Nat.log2_self_le hz)
    · rw [hM, show M0.log2 + k + 1 = (M0.log2 + 1) + k by omega, Nat.pow_add]; exact Nat.mul_lt_mul_of_pos_right Nat.lt_log2_self (Nat.two_pow_pos k)
  have hg1 : M0 < 2 ^ (M0.log2 + 1) := Nat.lt_log2_self
  have hg2 : 2 ^ M0.log2 ≤ M0 := Nat.log2_self_le hz
  have hgp : M0.log2 ≤ p := by
    have := (Nat.pow_lt_pow_iff_right (a := 2) (by decide)).1 (Nat.lt_of_le_of_lt hg2 h0); omega
  generalize hg : M0.log2 = g at *
  unfold Format.nearest
  rw [if_neg hMz]
  dsimp only
  rw [hlog, hLL, hp, hB]
  generalize hla : max (e + ((g + k : Nat) : Int) - p) L = last
  have hlast : last ≤ e + k ∧ L ≤ last ∧ (last = L ∨ last = e + g + k - p) ∧ e + g + k - p ≤ last := by omega
  have hkept : Toward.even.cut s (M <<< (e - last).toNat) (last - e).toNat = M0 * 2 ^ (e + k - last).toNat := by
    unfold Toward.cut
    by_cases c : last ≤ e
    · have : (last - e).toNat = 0 := by omega
      rw [this]
      dsimp only
      rw [Nat.zero_min, Nat.shiftLeft_zero, Nat.div_one, Nat.mod_one, Nat.shiftLeft_eq, hM, Nat.mul_assoc, ← Nat.pow_add, show k + (e - last).toNat = (e + k - last).toNat by omega]
      rfl
    · have : (e - last).toNat = 0 := by omega
      rw [this, Nat.shiftLeft_zero]
      have hd : min (last - e).toNat (M.log2 + 2) = (last - e).toNat := by omega
      dsimp only
      rw [hd, Nat.shiftLeft_eq, Nat.one_mul]
      have hMe : M = M0 * 2 ^ (e + k - last).toNat * 2 ^ (last - e).toNat := by rw [hM, Nat.mul_assoc, ← Nat.pow_add]; congr 2; omega
      have hpp := Nat.two_pow_pos (last - e).toNat
      rw [hMe, Nat.mul_div_cancel _ hpp, Nat.mul_mod_left, Nat.mul_zero]
      have e1 : decide (2 ^ (last - e).toNat < 0) = false := by simp
      have e2 : (2 ^ (last - e).toNat == 0) = false := by simp
      rw [e1, e2]; rfl
  rw [hkept]
  have hkl : M0 * 2 ^ (e + k - last).toNat < 2 ^ (p + 1) := by
    have : M0 * 2 ^ (e + k - last).toNat < 2 ^ (g + 1) * 2 ^ (e + k - last).toNat := Nat.mul_lt_mul_of_pos_right hg1 (Nat.two_pow_pos _)
    refine Nat.lt_of_lt_of_le this ?_
    rw [← Nat.pow_add]
    exact Nat.pow_le_pow_right (by decide) (by omega)
  have hkb : last ≠ L → 2 ^ p ≤ M0 * 2 ^ (e + k - last).toNat := by
    intro c
    have : 2 ^ g * 2 ^ (e + k - last).toNat ≤ M0 * 2 ^ (e + k - last).toNat := Nat.mul_le_mul_right _ hg2
    refine Nat.le_trans ?_ this
    rw [← Nat.pow_add]
    exact Nat.pow_le_pow_right (by decide) (by omega)
  have hfin : M0 * 2 ^ (e + k - L).toNat = M0 * 2 ^ (e + k - last).toNat * 2 ^ (last - L).toNat := by
    rw [Nat.mul_assoc, ← Nat.pow_add]; congr 2; omega
  rw [hfin]
  generalize M0 * 2 ^ (e + k - last).toNat = q at *
  rw [Nat.pow_succ] at hkl
  rw [hB] at hBp
  have hinf : (last - L).toNat * 2 ^ p + q < f.infRung := by
    rw [h.r, hB]
    generalize hE : 2 ^ f.exponentBits - 1 = E at *
    have h1 : ((last - L).toNat + 2) * 2 ^ p ≤ E * 2 ^ p := Nat.mul_le_mul_right _ (by omega)
    rw [Nat.add_mul] at h1
    omega
  rw [Nat.min_eq_left (by omega), read_word h s (by omega), hB]
  by_cases c : q < 2 ^ p
  · have hl : last = L := by
      by_cases c2 : last = L
      · exact c2
      · have := hkb c2; omega
    subst hl
    refine ⟨q, last, ?_, Int.le_refl _, rfl⟩
    rw [show (last - last).toNat = 0 by omega, Nat.zero_mul, Nat.zero_add, if_pos c, hLL]
  · refine ⟨q, last, ?_, hlast.2.1, rfl⟩
    generalize ha : (last - L).toNat = a at *
    have h1 : (a * 2 ^ p + q) / 2 ^ p = a + 1 := by
      rw [Nat.mul_comm, Nat.mul_add_div hBp]
      congr 1
      rw [show q = (q - 2 ^ p) + 2 ^ p by omega, Nat.add_div_right _ hBp, Nat.div_eq_of_lt (by omega)]
    have h2 : (a * 2 ^ p + q) % 2 ^ p = q - 2 ^ p := by
      rw [Nat.mul_comm, Nat.mul_add_mod, Nat.mod_eq_sub_mod (by omega), Nat.mod_eq_of_lt (by omega)]
    have h3 : ¬ a * 2 ^ p + q < 2 ^ p := by omega
    rw [if_neg h3, if_pos hinf, h1, h2, hLL]
    congr 1
    · omega
    · omega
/-! ### how they stand to others -/
/-! ### halves, and wider words -/
open Ieee in
theorem rung_val {f : Format} (h : Fmt f) (s : Bool) {r : Nat} (hr : r < f.infRung) : ∃ m e, f.read (f.word s r) = .number s m e ∧ f.leastPlace ≤ e ∧ (∀ n, r ≤ (n + 2) * 2 ^ f.fractionBits → m * 2 ^ (e - f.leastPlace).toNat ≤ 2 ^ (f.fractionBits + 1 + n)) ∧ (∀ n, (n + 1) * 2 ^ f.fractionBits ≤ r → 2 ^ (f.fractionBits + n) ≤ m * 2 ^ (e - f.leastPlace).toNat) := by
  have hB := h.b
  rw [read_word h s (Nat.le_of_lt hr), hB]
  generalize f.fractionBits = p at *
  generalize f.leastPlace = L at *
  have hp : 0 < 2 ^ p := Nat.two_pow_pos _
  by_cases c : r < 2 ^ p
  · rw [if_pos c]
    refine ⟨_, _, rfl, Int.le_refl _, ?_, ?_⟩
    · intro n _
      rw [Int.sub_self]
      have : 2 ^ p ≤ 2 ^ (p + 1 + n) := Nat.pow_le_pow_right (by decide) (by omega)
      simp; omega
    · intro n hn
      have : 1 * 2 ^ p ≤ (n + 1) * 2 ^ p := Nat.mul_le_mul_right _ (by omega)
      omega
  · rw [if_neg c, if_pos hr]
    have hj : 1 ≤ r / 2 ^ p := (Nat.le_div_iff_mul_le hp).2 (by omega)
    have hm : r % 2 ^ p < 2 ^ p := Nat.mod_lt _ hp
    have hd := Nat.div_add_mod r (2 ^ p)
    refine ⟨_, _, rfl, by omega, ?_, ?_⟩
    · intro n hn
      have e1 : (L + ((r / 2 ^ p - 1 : Nat) : Int) - L).toNat = r / 2 ^ p - 1 := by omega
      rw [e1]
      have hjn : r / 2 ^ p ≤ n + 2 := by
        refine (Nat.div_le_iff_le_mul_add_pred hp).2 ?_
        rw [Nat.mul_comm]; omega
      by_cases cj : r / 2 ^ p ≤ n + 1
      · have h1 : 2 ^ (r / 2 ^ p - 1) ≤ 2 ^ n := Nat.pow_le_pow_right (by decide) (by omega)
        rw [Nat.pow_add 2 (p + 1) n]
        refine Nat.mul_le_mul ?_ h1
        rw [Nat.pow_succ]; omega
      · have h2 : r / 2 ^ p = n + 2 := by omega
        rw [h2] at hd ⊢
        rw [Nat.mul_comm] at hd
        have h3 : r % 2 ^ p = 0 := by omega
        rw [h3, Nat.add_zero, ← Nat.pow_add]
        exact Nat.le_of_eq (by congr 1; omega)
    · intro n hn
      have e1 : (L + ((r / 2 ^ p - 1 : Nat) : Int) - L).toNat = r / 2 ^ p - 1 := by omega
      rw [e1]
      have hjn : n + 1 ≤ r / 2 ^ p := (Nat.le_div_iff_mul_le hp).2 hn
      rw [Nat.pow_add]
      exact Nat.mul_le_mul (by omega) (Nat.pow_le_pow_right (by decide) (by omega))
open Ieee in
theorem cut_zero (s : Bool) (n : Nat) : Toward.even.cut s n 0 = n := by
  unfold Toward.cut
  simp [Nat.mod_one]
open Ieee in
theorem cut_le (s : Bool) (n d : Nat) : n / 2 ^ min d (n.log2 + 2) ≤ Toward.even.cut s n d ∧ Toward.even.cut s n d ≤ n / 2 ^ min d (n.log2 + 2) + 1 := by
  unfold Toward.cut
  rw [Nat.one_shiftLeft]
  dsimp only
  have : ∀ b : Bool, b.toNat ≤ 1 := by intro b; cases b <;> decide
  constructor
  · exact Nat.le_add_right _ _
  · exact Nat.add_le_add_left (this _) _
open Ieee in
theorem near_log {f : Format} (h : Fmt f) (s : Bool) {M : Nat} {e : Int} (hM : M ≠ 0) (hI : (e + M.log2 - f.fractionBits - f.leastPlace).toNat + 4 ≤ 2 ^ f.exponentBits) : ∃ m q, f.read (f.nearest s M e) = .number s m q ∧ f.leastPlace ≤ q ∧ m * 2 ^ (q - f.leastPlace).toNat ≤ 2 ^ (f.fractionBits + 1 + (e + M.log2 - f.fractionBits - f.leastPlace).toNat) ∧ (f.leastPlace + f.fractionBits ≤ e + M.log2 → 2 ^ (e + M.log2 - f.leastPlace).toNat ≤ m * 2 ^ (q - f.leastPlace).toNat) := by
  have hB := h.b
  have hr := h.r
  have hp : 0 < 2 ^ f.fractionBits := Nat.two_pow_pos _
  have g1 : M < 2 ^ (M.log2 + 1) := Nat.lt_log2_self
  have g2 : 2 ^ M.log2 ≤ M := Nat.log2_self_le hM
  unfold Format.nearest
  rw [if_neg hM]
  dsimp only
  have key : ∃ kept, Toward.even.cut s (M <<< (e - max (e + M.log2 - f.fractionBits) f.leastPlace).toNat) (max (e + M.log2 - f.fractionBits) f.leastPlace - e).toNat = kept ∧ kept ≤ 2 ^ (f.fractionBits + 1) ∧ (f.leastPlace + f.fractionBits ≤ e + M.log2 → 2 ^ f.fractionBits ≤ kept) := by
    refine ⟨_, rfl, ?_⟩
    generalize f.fractionBits = p at *
    generalize f.leastPlace = L at *
    generalize hg : M.log2 = g at *
    generalize hl : max (e + g - p) L = last at *
    rw [Nat.shiftLeft_eq]
    by_cases c : last ≤ e
    · rw [show (last - e).toNat = 0 by omega, cut_zero]
      constructor
      · have h1 : M * 2 ^ (e - last).toNat < 2 ^ (g + 1) * 2 ^ (e - last).toNat := Nat.mul_lt_mul_of_pos_right g1 (Nat.two_pow_pos _)
        rw [← Nat.pow_add] at h1
        have h2 : 2 ^ (g + 1 + (e - last).toNat) ≤ 2 ^ (p + 1) := Nat.pow_le_pow_right (by decide) (by omega)
        omega
      · intro hc
        have h1 : 2 ^ g * 2 ^ (e - last).toNat ≤ M * 2 ^ (e - last).toNat := Nat.mul_le_mul_right _ g2
        rw [← Nat.pow_add, show g + (e - last).toNat = p by omega] at h1
        exact h1
    · rw [show (e - last).toNat = 0 by omega, Nat.pow_zero, Nat.mul_one]
      obtain ⟨k1, k2⟩ := cut_le s M (last - e).toNat
      rw [hg] at k1 k2
      constructor
      · refine Nat.le_trans k2 ?_
        have hx : M / 2 ^ min (last - e).toNat (g + 2) < 2 ^ (p + 1) := by
          refine (Nat.div_lt_iff_lt_mul (Nat.two_pow_pos _)).2 (Nat.lt_of_lt_of_le g1 ?_)
          rw [← Nat.pow_add]
          exact Nat.pow_le_pow_right (by decide) (by omega)
        omega
      · intro hc
        refine Nat.le_trans ?_ k1
        refine (Nat.le_div_iff_mul_le (Nat.two_pow_pos _)).2 ?_
        rw [← Nat.pow_add]
        exact Nat.le_trans (Nat.pow_le_pow_right (by decide) (by omega)) g2
  obtain ⟨kept, k0, k1, k2⟩ := key
  rw [k0]
  have hn : (max (e + M.log2 - f.fractionBits) f.leastPlace - f.leastPlace).toNat = (e + M.log2 - f.fractionBits - f.leastPlace).toNat := by omega
  rw [hn]
  generalize hN : (e + M.log2 - f.fractionBits - f.leastPlace).toNat = n at *
  rw [Nat.pow_succ] at k1
  have hu : n * f.binade + kept ≤ (n + 2) * 2 ^ f.fractionBits := by
    rw [hB, Nat.add_mul]; omega
  have hlt : n * f.binade + kept < f.infRung := by
    refine Nat.lt_of_le_of_lt hu ?_
    rw [hr, hB]
    exact Nat.mul_lt_mul_of_pos_right (by omega) hp
  rw [Nat.min_eq_left (Nat.le_of_lt hlt)]
  obtain ⟨m, q, r1, r2, r3, r4⟩ := rung_val h s hlt
  refine ⟨m, q, r1, r2, r3 n hu, ?_⟩
  intro hc
  have := r4 n (by rw [hB, Nat.add_mul]; have := k2 hc; omega)
  rw [show (e + M.log2 - f.leastPlace).toNat = f.fractionBits + n by omega]
  exact this
open Ieee in
/-- The word x of kind k is a number of at most 2 ^ A least places. -/
def Bf (k : FloatKind) (x A : Nat) : Prop := ∃ s m e, k.format.read x = .number s m e ∧ k.format.leastPlace ≤ e ∧ m * 2 ^ (e - k.format.leastPlace).toNat ≤ 2 ^ A
theorem bf_cz {k : FloatKind} {x A : Nat} (h : Bf k x A) : cz k x = x := by
  obtain ⟨s, m, e, r, _⟩ := h
  unfold cz
  rw [show k.decode x = k.format.read x from rfl, r]; rfl
theorem Bf.up {k : FloatKind} {x A B : Nat} (h : Bf k x A) (hAB : A ≤ B) : Bf k x B := by
  obtain ⟨s, m, e, r, l, v⟩ := h
  exact ⟨s, m, e, r, l, Nat.le_trans v (Nat.pow_le_pow_right (by decide) hAB)⟩
theorem log_le {M a A : Nat} (hM : M ≠ 0) (h : M * 2 ^ a ≤ 2 ^ A) : M.log2 + a ≤ A := by
  have h1 : 2 ^ M.log2 * 2 ^ a ≤ M * 2 ^ a := Nat.mul_le_mul_right _ (Nat.log2_self_le hM)
  rw [← Nat.pow_add] at h1
  exact (Nat.pow_le_pow_iff_right (a := 2) (by decide)).1 (Nat.le_trans h1 h)
theorem bf_near {k : FloatKind} (hk : Fmt k.format) (s : Bool) {M A : Nat} {e : Int} (hA : k.format.fractionBits ≤ A) (hI : A + 4 ≤ 2 ^ k.format.exponentBits + k.format.fractionBits) (h : M ≠ 0 → e + M.log2 - k.format.leastPlace ≤ A) : Bf k (k.format.nearest s M e) (A + 1) := by
  by_cases hM : M = 0
  · refine ⟨s, 0, k.format.leastPlace, ?_, Int.le_refl _, by simp⟩
    unfold Ieee.Format.nearest
    have hBp : 0 < k.format.binade := by rw [hk.b]; exact Nat.two_pow_pos _
    rw [if_pos hM, read_word hk s (Nat.zero_le _), if_pos hBp]
  · have := h hM
    obtain ⟨m, q, r1, r2, r3, _⟩ := near_log hk s (e := e) hM (by omega)
    exact ⟨s, m, q, r1, r2, Nat.le_trans r3 (Nat.pow_le_pow_right (by decide) (by omega))⟩
open Ieee in
theorem fconv_some {y A : Nat} (h : Bf .f64 y A) (hA : A ≤ 1170) : (fconv .f64 y .f32).isSome = true := by
  obtain ⟨s, m, e, r, l, v⟩ := h
  unfold fconv
  rw [if_neg (by decide), show FloatKind.decode .f64 y = (FloatKind.format .f64).read y from rfl, r]
  have hL : (FloatKind.format .f64).leastPlace = -1074 := by decide
  rw [hL] at l v
  have hb : Bf .f32 (FloatKind.encode .f32 (.number s m e)) (254 + 1) := by
    refine bf_near (k := .f32) (M := m) (e := e) (A := 254) fmt1 s (by decide) (by decide) ?_
    intro hm
    have := log_le hm v
    have h2 : (FloatKind.format .f32).leastPlace = -149 := by decide
    rw [h2]; omega
  obtain ⟨s2, m2, e2, r2, _⟩ := hb
  dsimp only
  rw [show FloatKind.decode .f32 (FloatKind.encode .f32 (.number s m e)) = (FloatKind.format .f32).read (FloatKind.encode .f32 (.number s m e)) from rfl, r2]
  rfl
end Go.Proofs.Ytfhlhgnipmgfdaa.G
namespace Go.Proofs.Ytfhlhgnipmgfdaa.G
open Go Go.Ab
set_option maxRecDepth 100000
set_option linter.unusedVariables false
set_option linter.unusedSimpArgs false
set_option maxHeartbeats 1000000
set_option exponentiation.threshold 4000
open Ieee Ieee.Datum in
theorem root_from (n : Nat) : ∀ todo root, root * root ≤ n → rootFrom n todo root * rootFrom n todo root ≤ n
  | 0, root, h => h
  | todo + 1, root, h => by
    rw [rootFrom]
    split
    · rename_i c; exact root_from n todo _ c
    · exact root_from n todo _ h
open Ieee in
theorem root_bf {m : Nat} {e : Int} (l : -1074 ≤ e) (hv : m * 2 ^ (e + 1074).toNat ≤ 2 ^ 1202) (s : Bool) : ((Datum.number s m e).root 54).map double.write = none ∨ ∃ z, ((Datum.number s m e).root 54).map double.write = some z ∧ Bf .f64 z 1170 := by
  unfold Datum.root
  dsimp only
  by_cases h0 : m = 0
  · rw [if_pos h0]
    refine .inr ⟨_, rfl, ?_⟩
    have := bf_near (k := .f64) (M := m) (e := e) (A := 1100) fmt2 s (by decide) (by decide) (fun c => absurd h0 c)
    exact this.up (by omega)
  · rw [if_neg h0]
    cases s with
    | true => exact .inl rfl
    | false =>
      right
      rw [if_neg (by decide)]
      generalize hmore : 2 * 54 - m.log2 + ((e - ((2 * 54 - m.log2 : Nat) : Int)) % 2).toNat = more
      have hev : (e - (more : Int)) % 2 = 0 := by omega
      generalize hwh : Datum.rootFrom (m <<< more) ((m <<< more).log2 / 2 + 1) 0 = whole
      have hw : whole * whole ≤ m * 2 ^ more := by
        have := root_from (m <<< more) ((m <<< more).log2 / 2 + 1) 0 (by simp)
        rw [hwh, Nat.shiftLeft_eq] at this
        exact this
      have hlog := log_le h0 hv
      refine ⟨_, rfl, ?_⟩
      have hb : (whole * whole != m <<< more).toNat ≤ 1 := by cases (whole * whole != m <<< more) <;> decide
      generalize (whole * whole != m <<< more).toNat = b at hb
      have := bf_near (k := .f64) (M := 2 * whole + b) (e := (e - (more : Int)) / 2 - 1) (A := 1150) fmt2 false (by decide) (by decide) (fun hz => by
        have hL : (FloatKind.f64.format).leastPlace = -1074 := by decide
        rw [hL]
        by_cases c : whole = 0
        · have hM : 2 * whole + b = 1 := by omega
          rw [hM, show (1 : Nat).log2 = 0 by decide]
          omega
        · have g1 : (2 * whole + b).log2 ≤ whole.log2 + 1 := by
            have h1 : 2 * whole + b < 2 ^ (whole.log2 + 1 + 1) := by
              have := Nat.lt_log2_self (n := whole)
              rw [Nat.pow_succ]; omega
            have := (Nat.log2_lt hz).2 h1
            omega
          have g2 : 2 * whole.log2 < m.log2 + 1 + more := by
            have h1 : 2 ^ whole.log2 * 2 ^ whole.log2 ≤ whole * whole := Nat.mul_le_mul (Nat.log2_self_le c) (Nat.log2_self_le c)
            have h2 : m * 2 ^ more < 2 ^ (m.log2 + 1) * 2 ^ more := Nat.mul_lt_mul_of_pos_right Nat.lt_log2_self (Nat.two_pow_pos _)
            rw [← Nat.pow_add] at h1 h2
            have := (Nat.pow_lt_pow_iff_right (a := 2) (by decide)).1 (Nat.lt_of_le_of_lt h1 (Nat.lt_of_le_of_lt hw h2))
            omega
          omega)
      exact this.up (by omega)
theorem rt_q : (fconv .f64 (sqrtW (qnan .f64)) .f32).isSome = true := by decide +kernel
theorem rt_i (s : Bool) : (fconv .f64 (sqrtW (cz .f64 (FloatKind.f64.encode (.infinity s)))) .f32).isSome = true := by cases s <;> decide +kernel
theorem rt_n : (fconv .f64 (qnan .f64) .f32).isSome = true := by decide +kernel
theorem cz_numR {k : FloatKind} {z m : Nat} {s : Bool} {e : Int} (r : k.format.read z = .number s m e) : cz k z = z := by
  unfold cz
  rw [show k.decode z = k.format.read z from rfl, r]; rfl
open Ieee in
theorem rt_some (x : Nat) : (fconv .f64 (sqrtW (widen x)) .f32).isSome = true := by
  cases hx : (FloatKind.f32.format).read x with
  | nan s f =>
    have : widen x = qnan .f64 := by
      unfold widen fconv
      rw [if_neg (by decide), show FloatKind.f32.decode x = (FloatKind.f32.format).read x from rfl, hx]; rfl
    rw [this]; exact rt_q
  | infinity s =>
    have : widen x = cz .f64 (FloatKind.f64.encode (.infinity s)) := by
      unfold widen fconv
      rw [if_neg (by decide), show FloatKind.f32.decode x = (FloatKind.f32.format).read x from rfl, hx]; rfl
    rw [this]; exact rt_i s
  | number s m e =>
    have hr := read_f32 x
    rw [show single.read x = (FloatKind.f32.format).read x from rfl, hx] at hr
    have hme : m < 16777216 ∧ -149 ≤ e ∧ e ≤ 104 := by
      have hlt := Nat.mod_lt x (show 0 < 2147483648 by decide)
      generalize x % 2147483648 = r at hr hlt
      by_cases h1 : r < 8388608
      · rw [if_pos h1] at hr
        simp only [Datum.number.injEq] at hr
        omega
      · rw [if_neg h1] at hr
        by_cases h2 : r < 2139095040
        · rw [if_pos h2] at hr
          simp only [Datum.number.injEq] at hr
          omega
        · rw [if_neg h2] at hr
          split at hr <;> cases hr
    have hL2 : (FloatKind.f64.format).leastPlace = -1074 := by decide
    have hp : (FloatKind.f64.format).fractionBits = 52 := by decide
    have hxb : (FloatKind.f64.format).exponentBits = 11 := by decide
    obtain ⟨m', e', k1, k2, k3⟩ := near_exact (f := FloatKind.f64.format) fmt2 s (M := m) (M0 := m) (k := 0) (e := e) (by simp) (by rw [hp]; omega) (by rw [hL2]; omega) (by rw [hL2, hxb]; omega)
    have hw : widen x = (FloatKind.f64.format).nearest s m e := by
      have : fconv .f32 x .f64 = some ((FloatKind.f64.format).nearest s m e) := by
        unfold fconv
        rw [if_neg (by decide), show FloatKind.f32.decode x = (FloatKind.f32.format).read x from rfl, hx]
        dsimp only
        rw [show FloatKind.f64.decode (FloatKind.encode .f64 (.number s m e)) = (FloatKind.f64.format).read ((FloatKind.f64.format).nearest s m e) from rfl, k1]
        show (if false = true then none else some (cz .f64 ((FloatKind.f64.format).nearest s m e))) = _
        rw [if_neg (by decide), cz_numR k1]
      rw [widen, this]; rfl
    rw [hw]
    generalize (FloatKind.f64.format).nearest s m e = y at *
    rw [hL2] at k2 k3
    have hv : m' * 2 ^ (e' + 1074).toNat ≤ 2 ^ 1202 := by
      rw [show e' + 1074 = e' - -1074 by omega, k3]
      have h1 : m * 2 ^ (e + ((0 : Nat) : Int) - -1074).toNat ≤ 2 ^ 24 * 2 ^ 1178 := Nat.mul_le_mul (by omega) (Nat.pow_le_pow_right (by decide) (by omega))
      rw [← Nat.pow_add] at h1
      exact h1
    have hs : FloatKind.f64.format.sqrt y = ((Datum.number s m' e').root 54).map double.write := by
      unfold Format.sqrt
      rw [k1]; rfl
    unfold sqrtW
    rw [hs]
    rcases root_bf k2 hv s with h | ⟨z, h, hz⟩
    · rw [h]; exact rt_n
    · rw [h]
      show (fconv .f64 (cz .f64 z) .f32).isSome = true
      rw [bf_cz hz]
      exact fconv_some hz (by decide)
end Go.Proofs.Ytfhlhgnipmgfdaa.G
namespace Go.Proofs.Ytfhlhgnipmgfdaa.G
open Go Go.Ab
set_option maxRecDepth 100000
set_option linter.unusedVariables false
set_option linter.unusedSimpArgs false
set_option maxHeartbeats 1000000
open Ieee in
theorem read_M : single.read 1232348176 = .number false 16000016 (-4) := by decide +kernel
open Ieee in
theorem read_mM : single.read 3379831824 = .number true 16000016 (-4) := by decide +kernel
theorem cz_M : cz .f32 1232348176 = 1232348176 := by decide +kernel
theorem cz_mM : cz .f32 3379831824 = 3379831824 := by decide +kernel
/-- One million and one, in units of the last place. -/
def vM : Int := 16000016 * (2 ^ 145 : Nat)
open Ieee in
theorem val_M : val (.number false 16000016 (-4)) = vM := by decide +kernel
open Ieee in
theorem val_mM : val (.number true 16000016 (-4)) = -vM := by decide +kernel
open Ieee in
theorem ord_num {x y : Nat} {s t : Bool} {m n : Nat} {e k : Int} (h : single.read x = .number s m e) (h2 : single.read y = .number t n k) (he : -149 ≤ e) (hk : -149 ≤ k) : single.order x y = some (compare (val (.number s m e)) (val (.number t n k))) := by
  unfold Format.order; rw [h, h2, order_val he hk]
theorem lt_num {x y : Nat} {a b : Int} (h : Ieee.single.order x y = some (compare a b)) : fcmp .lss .f32 x y = decide (a < b) := by
  rw [fc_lss h, ← cmp_lt]; rfl
theorem gt_num {x y : Nat} {a b : Int} (h : Ieee.single.order x y = some (compare a b)) : fcmp .gtr .f32 x y = decide (b < a) := by
  rw [fc_gtr h, ← cmp_gt]; rfl
open Ieee in
/-- What the size is of a number. -/
theorem siz_val {x m : Nat} {s : Bool} {e : Int} (h : single.read x = .number s m e) (he : -149 ≤ e) : ∃ t n k, single.read (sizI x) = .number t n k ∧ -149 ≤ k ∧ val (.number t n k) = ((val (.number s m e)).natAbs : Int) := by
  have ho : single.order x 0 = some (compare (val (.number s m e)) 0) := by rw [ord_num h read_0 he (by omega)]; rfl
  rcases Int.lt_trichotomy (val (.number s m e)) 0 with hv | hv | hv
  · have hc : compare (val (.number s m e)) 0 = Ordering.lt := by
      have := cmp_lt (a := val (.number s m e)) (b := 0); rw [decide_eq_true hv] at this; exact eq_of_beq this
    rw [hc] at ho
    refine ⟨!s, m, e, ?_, he, ?_⟩
    · rw [(siz_lt ho).2, fneg_read (by rw [h]; rfl), h]; rfl
    · have : val (.number (!s) m e) = - val (.number s m e) := by cases s <;> simp [val, signed]
      rw [this]; omega
  · rw [hv] at ho
    refine ⟨false, 0, -149, ?_, by omega, ?_⟩
    · rw [(siz_0 ho).2, read_0]
    · rw [hv]; rfl
  · have hc : compare (val (.number s m e)) 0 = Ordering.gt := by
      have := cmp_gt (a := val (.number s m e)) (b := 0); rw [decide_eq_true hv] at this; exact eq_of_beq this
    rw [hc] at ho
    refine ⟨s, m, e, ?_, he, ?_⟩
    · rw [(siz_not ho rfl rfl).2, h]
    · omega
/-- Between the two bounds: by either test. -/
theorem siz_M (x : Nat) : fcmp .lss .f32 (sizI x) 1232348176 = (fcmp .gtr .f32 x 3379831824 && fcmp .lss .f32 x 1232348176) := by
  rcases read_single x with ⟨s, t, h⟩ | ⟨s, h⟩ | ⟨s, m, e, h, hm, he, _⟩
  · have ho : Ieee.single.order x 0 = none := by unfold Ieee.Format.order; rw [h]; rfl
    have h1 : Ieee.single.order x 1232348176 = none := by unfold Ieee.Format.order; rw [h]; rfl
    rw [(siz_not ho rfl rfl).2, fc_lss h1]
    simp
  · cases s
    · have ho : Ieee.single.order x 0 = some .gt := by unfold Ieee.Format.order; rw [h, read_0]; rfl
      have h1 : Ieee.single.order x 1232348176 = some .gt := by unfold Ieee.Format.order; rw [h, read_M]; rfl
      rw [(siz_not ho rfl rfl).2, fc_lss h1]
      simp
    · have ho : Ieee.single.order x 0 = some .lt := by unfold Ieee.Format.order; rw [h, read_0]; rfl
      have h1 : Ieee.single.order x 3379831824 = some .lt := by unfold Ieee.Format.order; rw [h, read_mM]; rfl
      have h2 : Ieee.single.order (sizI x) 1232348176 = some .gt := by
        unfold Ieee.Format.order; rw [(siz_lt ho).2, fneg_read (by rw [h]; rfl), h, read_M]; rfl
      rw [fc_gtr h1, fc_lss h2]
      rfl
  · obtain ⟨t, n, k, h1, hk, h2⟩ := siz_val h he
    rw [lt_num (ord_num h1 read_M hk (by omega)), gt_num (ord_num h read_mM he (by omega)), lt_num (ord_num h read_M he (by omega)), h2, val_M, val_mM]
    generalize val (.number s m e) = v
    generalize vM = w
    rw [Bool.eq_iff_iff]
    simp only [decide_eq_true_eq, Bool.and_eq_true]
    omega
open Ieee in
theorem cutz (s : Bool) (n d : Nat) : Toward.zero.cut s n d = n / 2 ^ d := by
  simp only [Toward.cut, Nat.shiftLeft_eq, Nat.one_mul, Bool.toNat_false, Nat.add_zero]
  by_cases h : d ≤ n.log2 + 2
  · rw [Nat.min_eq_left h]
  · rw [Nat.min_eq_right (by omega)]
    have h1 : n < 2 ^ (n.log2 + 1) := Nat.lt_log2_self
    have h2 : 2 ^ (n.log2 + 1) ≤ 2 ^ (n.log2 + 2) := Nat.pow_le_pow_right (by decide) (by omega)
    have h3 : 2 ^ (n.log2 + 1) ≤ 2 ^ d := Nat.pow_le_pow_right (by decide) (by omega)
    rw [Nat.div_eq_of_lt (by omega), Nat.div_eq_of_lt (by omega)]
open Ieee in
/-- The whole part is below the bound. -/
theorem whole_M {m : Nat} {e : Int} (he : -149 ≤ e) (hv : val (.number false m e) < vM) : (m <<< e.toNat) / 2 ^ (-e).toNat ≤ 1000000 := by
  have hv' : m * 2 ^ (e + 149).toNat < 1000001 * 2 ^ 149 := by
    have e1 : val (.number false m e) = ((m * 2 ^ (e + 149).toNat : Nat) : Int) := by simp [val, signed, Nat.shiftLeft_eq]
    have e2 : vM = ((1000001 * 2 ^ 149 : Nat) : Int) := by decide +kernel
    rw [e1, e2] at hv; exact Int.ofNat_lt.1 hv
  rw [Nat.shiftLeft_eq]
  by_cases h : 0 ≤ e
  · rw [show (-e).toNat = 0 by omega, Nat.pow_zero, Nat.div_one]
    rw [show (e + 149).toNat = e.toNat + 149 by omega, Nat.pow_add, ← Nat.mul_assoc] at hv'
    have := Nat.lt_of_mul_lt_mul_right hv'
    omega
  · rw [show e.toNat = 0 by omega, Nat.pow_zero, Nat.mul_one]
    have h1 : (2 : Nat) ^ 149 = 2 ^ (-e).toNat * 2 ^ (e + 149).toNat := by rw [← Nat.pow_add]; congr 1; omega
    rw [h1, ← Nat.mul_assoc] at hv'
    have h2 := Nat.lt_of_mul_lt_mul_right hv'
    have h3 : m / 2 ^ (-e).toNat < 1000001 := (Nat.div_lt_iff_lt_mul (Nat.two_pow_pos _)).2 h2
    omega
/-- A number between the bounds has a whole part, and it is small. -/
theorem whole_of {x : Nat} (h1 : fcmp .gtr .f32 x 3379831824 = true) (h2 : fcmp .lss .f32 x 1232348176 = true) : (floatToIntVal .f32 x .i64).isSome = true ∧ -1000000 ≤ ftoi .f32 x .i64 ∧ ftoi .f32 x .i64 ≤ 1000000 := by
  rcases read_single x with ⟨s, t, h⟩ | ⟨s, h⟩ | ⟨s, m, e, h, hm, he, _⟩
  · have h3 : Ieee.single.order x 1232348176 = none := by unfold Ieee.Format.order; rw [h]; rfl
    rw [fc_lss h3] at h2; cases h2
  · cases s
    · have h3 : Ieee.single.order x 1232348176 = some .gt := by unfold Ieee.Format.order; rw [h, read_M]; rfl
      rw [fc_lss h3] at h2; cases h2
    · have h3 : Ieee.single.order x 3379831824 = some .lt := by unfold Ieee.Format.order; rw [h, read_mM]; rfl
      rw [fc_gtr h3] at h1; cases h1
  · rw [gt_num (ord_num h read_mM he (by omega)), val_mM, decide_eq_true_eq] at h1
    rw [lt_num (ord_num h read_M he (by omega)), val_M, decide_eq_true_eq] at h2
    have hv : val (.number false m e) < vM := by
      cases s
      · exact h2
      · rw [val_neg] at h1; omega
    have hw := whole_M he hv
    have hn : ∃ n : Int, (FloatKind.f32.decode x).toInt .zero = some n ∧ -1000000 ≤ n ∧ n ≤ 1000000 := by
      refine ⟨Ieee.signed s ((m <<< e.toNat) / 2 ^ (-e).toNat) 0, ?_, ?_⟩
      · show (Ieee.single.read x).toInt .zero = _
        rw [h]
        simp only [Ieee.Datum.toInt, Ieee.Datum.integral, cutz]
      · generalize (m <<< e.toNat) / 2 ^ (-e).toNat = w at hw
        cases s <;> simp only [Ieee.signed, Nat.shiftLeft_zero, if_true, Bool.false_eq_true, if_false] <;> omega
    obtain ⟨n, h5, h6⟩ := hn
    have hf : floatToIntVal .f32 x .i64 = some n := by
      unfold floatToIntVal
      rw [h5]
      have hmin : IntKind.min .i64 = -9223372036854775808 := by decide +kernel
      have hmax : IntKind.max .i64 = 9223372036854775807 := by decide +kernel
      show (if IntKind.min .i64 ≤ n ∧ n ≤ IntKind.max .i64 then some n else none) = some n
      rw [hmin, hmax, if_pos (by omega)]
    unfold ftoi
    rw [hf]; exact ⟨rfl, h6⟩
def okM (x : Nat) : Bool := fcmp .gtr .f32 x 3379831824 && fcmp .lss .f32 x 1232348176
def slOk (l : List Nat) (s : Nat) : Bool := isL l && isOver s && l.all fun x => okM (fop .quo .f32 x s)
def slL (l : List Nat) (s : Nat) : List Int := l.map fun x => ftoi .f32 (fop .quo .f32 x s) .i64
theorem slL_is {l : List Nat} {s : Nat} (h : slOk l s = true) : isI (slL l s) = true := by
  simp only [slOk, isL, Bool.and_eq_true, decide_eq_true_eq] at h
  simp only [isI, slL, List.length_map, Bool.and_eq_true, decide_eq_true_eq]
  refine ⟨h.1.1.1, ?_⟩
  simp only [bnd, List.all_eq_true, List.mem_map, decide_eq_true_eq]
  rintro n ⟨x, hx, rfl⟩
  have := List.all_eq_true.1 h.2 x hx
  simp only [okM, Bool.and_eq_true] at this
  exact (whole_of this.1 this.2).2
theorem sl_wp (l : List Nat) (s : Nat) (hl : l.length ≤ 2 ^ 20) : (∀ K : List Int → Bool → Prop, K (if slOk l s = true then slL l s else []) (slOk l s) → spec_ScaleList.wp l s K) ∧ (∀ K : List Int → Bool → Prop, K (if slOk l s = true then slL l s else []) (slOk l s) → impl_ScaleList.wp l s K) := by
  refine ⟨fun K hk => ?_, fun K hk => ?_⟩
  · refine spec_l02Is_wp hl ⟨fun h1 => spec_l02Above_wp ⟨fun h2 => fun X hX => ?_, fun h2 => ?_⟩, fun h1 => ?_⟩
    · have e : slOk l s = l.all fun x => okM (fop .quo .f32 x s) := by rw [slOk, h1, h2]; rfl
      refine map_loop l (fun x => okM (fop .quo .f32 x s)) (fun x => ftoi .f32 (fop .quo .f32 x s) .i64) (X := X) (T := slOk l s = true) (F := K [] false) (fun i hi o ho hh => ?_) (fun ht => ?_) (fun ht => by rw [e]; exact ht) (fun hf => by rw [e, hf, if_neg (by decide)] at hk; exact hk)
      · refine hX _ _ ⟨fun _ => ⟨⟨by omega, by omega⟩, ?_⟩, fun c => absurd (show (i : Int) < l.length by omega) c⟩
        rw [nn, gD hi, w1 (by omega), cz_M, cz_mM]
        refine ⟨fun c1 => ⟨fun c2 => ⟨(whole_of c1 c2).1, by rw [len1, ho]; omega, hh.1 (by rw [okM, c1, c2]; rfl)⟩, fun c2 => hh.2 (by rw [okM, c2, Bool.and_false])⟩, fun c1 => hh.2 (by rw [okM, c1]; rfl)⟩
      · refine hX _ _ ⟨fun c => absurd c (by omega), fun _ => spec_l02Integers_wp (by rw [List.length_map]; exact hl) ?_⟩
        have := slL_is ht
        rw [ht, if_pos rfl] at hk
        exact tE this hk
    · rw [show slOk l s = false by rw [slOk, h2, Bool.and_false, Bool.false_and], if_neg (by decide)] at hk; exact hk
    · rw [show slOk l s = false by rw [slOk, h1]; rfl, if_neg (by decide)] at hk; exact hk
  · refine impl_IsList_wp hl ⟨fun h1 => impl_isOver_wp ⟨fun h2 => fun X hX => ?_, fun h2 => ?_⟩, fun h1 => ?_⟩
    · have e : slOk l s = l.all fun x => okM (fop .quo .f32 x s) := by rw [slOk, h1, h2]; rfl
      refine map_loop l (fun x => okM (fop .quo .f32 x s)) (fun x => ftoi .f32 (fop .quo .f32 x s) .i64) (X := X) (T := slOk l s = true) (F := K [] false) (fun i hi o ho hh => ?_) (fun ht => ?_) (fun ht => by rw [e]; exact ht) (fun hf => by rw [e, hf, if_neg (by decide)] at hk; exact hk)
      · refine hX _ _ ⟨fun _ => ⟨⟨by omega, by omega⟩, impl_size_wp ?_⟩, fun c => absurd (show (i : Int) < l.length by omega) c⟩
        rw [nn, gD hi, w1 (by omega), cz_M, siz_M]
        refine ⟨fun c => ?_, fun c => hh.2 c⟩
        have c' := c
        rw [Bool.and_eq_true] at c'
        exact ⟨(whole_of c'.1 c'.2).1, by rw [len1, ho]; omega, hh.1 c⟩
      · refine hX _ _ ⟨fun c => absurd c (by omega), fun _ => ?_⟩
        rw [ht, if_pos rfl] at hk
        exact hk
    · rw [show slOk l s = false by rw [slOk, h2, Bool.and_false, Bool.false_and], if_neg (by decide)] at hk; exact hk
    · rw [show slOk l s = false by rw [slOk, h1]; rfl, if_neg (by decide)] at hk; exact hk
theorem isI_smR {l : List Int} (h : isI l = true) : (1 ≤ l.length ∧ l.length ≤ 128) ∧ ∀ x ∈ l, Sm x := by
  unfold isI bnd at h
  rw [Bool.and_eq_true, decide_eq_true_eq, List.all_eq_true] at h
  exact ⟨h.1, fun x hx => of_decide_eq_true (p := -1000000 ≤ x ∧ x ≤ 1000000) (h.2 x hx)⟩
theorem impl_BitsUntilR_wp {l : List Int} {p n : Nat} {K : Int → Bool → Prop} (hl : l.length ≤ 2 ^ 20) (h1 : isI l = true) (hn : IsTop l n) (hp : p ≤ 24) (h : K ((codeC l p (n - p)).length : Int) true) : impl_BitsUntil.wp l (p : Int) K := by
  have hg := isI_smR h1
  refine impl_AreIntegers_wp hl (tE h1 (impl_within_wp (tE (decide_eq_true (by omega)) (impl_planesFor_wp hg.1.2 hg.2 fun m hm => ?_))))
  rw [top_uniq hm hn]
  exact impl_codeUntil_wp hg.1.2 hg.2 (by omega) (top_le hg.2 hn) h
/-! ### the planes above one -/
def abvF (p : Nat) (n : Int) : Int := if n < 0 then -((n.natAbs / 2 ^ p * 2 ^ p : Nat) : Int) else ((n.natAbs / 2 ^ p * 2 ^ p : Nat) : Int)
theorem fdv (m p : Nat) (hp : p ≤ 24) (hm : m ≤ 1000000) : IntKind.i64.wrap (Int.fdiv (m : Int) (2 ^ (min ((p : Int)).toNat IntKind.i64.bits)) * (2 ^ (min ((p : Int)).toNat IntKind.i64.bits))) = ((m / 2 ^ p * 2 ^ p : Nat) : Int) := by
  have hb : min ((p : Int)).toNat IntKind.i64.bits = p := by
    show min ((p : Int)).toNat 64 = p
    rw [nn]; omega
  rw [hb]
  have h1 : Int.fdiv (m : Int) (2 ^ p) = ((m / 2 ^ p : Nat) : Int) := by
    have e : ((2 : Int) ^ p) = ((2 ^ p : Nat) : Int) := by simp
    rw [e, Int.fdiv_eq_ediv_of_nonneg _ (Int.natCast_nonneg _)]; rfl
  have h2 : ((m / 2 ^ p : Nat) : Int) * (2 : Int) ^ p = ((m / 2 ^ p * 2 ^ p : Nat) : Int) := by simp
  rw [h1, h2]
  have := Nat.div_mul_le_self m (2 ^ p)
  exact wI (by omega)
theorem impl_above_wp {n : Int} {p : Nat} {K : Int → Prop} (h : Sm n) (hp : p ≤ 24) (hK : K (abvF p n)) : impl_above.wp n (p : Int) K := by
  obtain ⟨h1, h2⟩ := h
  unfold abvF at hK
  have hle := Nat.div_mul_le_self n.natAbs (2 ^ p)
  refine ⟨fun c => ⟨by omega, ?_⟩, fun c => ⟨by omega, ?_⟩⟩
  · rw [if_pos c] at hK
    rw [wI (n := 0 - n) (by omega), show 0 - n = ((n.natAbs : Nat) : Int) by omega, fdv _ _ hp (by omega), wI (by omega), Int.zero_sub]
    exact hK
  · rw [if_neg c] at hK
    rw [show n = ((n.natAbs : Nat) : Int) by omega, fdv _ _ hp (by omega)]
    exact hK
theorem spec_l06Cleared_wp {l : List Int} {p : Nat} {K : List Int → Prop} (hl : l.length ≤ 128) (hs : ∀ x ∈ l, Sm x) (hp : p ≤ 24) (hK : K (l.map (abvF p))) : spec_l06Cleared.wp l (p : Int) K := by
  intro X hX
  have hu : IntKind.u64.wrap (p : Int) = (p : Int) := by show (p : Int) % 18446744073709551616 = _; omega
  refine map_loop l (fun _ => true) (abvF p) (X := X) (T := True) (F := False) (fun i hi o ho hh => ?_) (fun _ => hX _ _ ⟨fun c => absurd c (by omega), fun _ => hK⟩) (fun _ => trivial) (fun c => by simp at c)
  have hsm := hs _ (List.getElem_mem hi)
  have hn := hh.1 rfl
  have h1 := hsm.1
  have h2 := hsm.2
  have hle := Nat.div_mul_le_self l[i].natAbs (2 ^ p)
  refine hX _ _ ⟨fun _ => ⟨⟨by omega, by omega⟩, ?_⟩, fun c => absurd (show (i : Int) < l.length by omega) c⟩
  rw [nn, gD hi, hu]
  unfold abvF at hn
  refine spec_l06AbsC_wp hsm ⟨by omega, ?_⟩
  rw [fdv _ _ hp (by omega), w1 (by omega)]
  refine ⟨fun c => ⟨by rw [len1, ho]; omega, ?_⟩, fun c => ⟨by rw [len1, ho]; omega, ?_⟩⟩
  · rw [if_pos c] at hn
    rw [wI (by omega), Int.zero_sub]; exact hn
  · rw [if_neg c] at hn; exact hn
/-! ### how far -/
def ssq (l b : List Nat) : Nat → Nat
  | 0 => cz .f32 0
  | i + 1 => fop .add .f32 (ssq l b i) (fop .mul .f32 (fop .sub .f32 (l.getD i 0) (b.getD i 0)) (fop .sub .f32 (l.getD i 0) (b.getD i 0)))
def rtW (x : Nat) : Nat := narrow (sqrtW (widen x))
def farW (l b : List Nat) : Nat := rtW (fop .quo .f32 (ssq l b l.length) (itof .f32 (l.length : Int)))
theorem impl_RootNumber_wp {x : Nat} {K : Nat → Prop} (h : K (rtW x)) : impl_RootNumber.wp x K := ⟨rt_some x, h⟩
theorem spec_l01Sqrt_wp {x : Nat} {K : Nat → Prop} (h : K (rtW x)) : spec_l01Sqrt.wp x K := ⟨rt_some x, h⟩
/-! ### one plane -/
def toldOk (cd : List Int) (st p : Nat) : Bool := losOk (cd.map (abvF p)) st (cz .f32 1056964608)
def told (cd : List Int) (st p : Nat) : List Nat := (cd.map (abvF p)).map fun n => unsc n st (cz .f32 1056964608)
def backF (ws : List Nat) (sc : Nat) (cd : List Int) (lv st p : Nat) : Option (List Nat) := if toldOk cd st p = true then udL ws sc (cutL (told cd st p) (bandsI lv ((told cd st p).length : Int))) else none
theorem told_is {cd : List Int} {st p : Nat} (hc : 1 ≤ cd.length ∧ cd.length ≤ 128) (h : toldOk cd st p = true) : isL (told cd st p) = true ∧ (told cd st p).length = cd.length := by
  have e : (told cd st p).length = cd.length := by unfold told; rw [List.length_map, List.length_map]
  refine ⟨isL_of (by omega) ?_, e⟩
  unfold toldOk losOk at h
  rw [Bool.and_eq_true, Bool.and_eq_true, Bool.and_eq_true] at h
  exact h.2
theorem told_bds {cd : List Int} {lv st p : Nat} (hc : 1 ≤ cd.length ∧ cd.length ≤ 128) (hv : 1 ≤ lv ∧ lv ≤ 6) (h : toldOk cd st p = true) : Bds (cutL (told cd st p) (bandsI lv ((told cd st p).length : Int))) (told cd st p).length := by
  obtain ⟨h1, h2⟩ := told_is hc h
  obtain ⟨h3, h4⟩ := isL_len h1
  exact cut_bds (sz_of h3 hv) h4
theorem backF_len {ws : List Nat} {sc : Nat} {cd : List Int} {lv st p : Nat} {r : List Nat} (hc : 1 ≤ cd.length ∧ cd.length ≤ 128) (hv : 1 ≤ lv ∧ lv ≤ 6) (h : backF ws sc cd lv st p = some r) : r.length = cd.length := by
  unfold backF at h
  split at h
  · rename_i c
    have := udL_len (told_bds hc hv c) h
    have := (told_is hc c).2
    omega
  · cases h
def endM (K : Nat → Bool → Prop) (l : List Nat) : Option (List Nat) → Prop
  | some b => if pFin (farW l b) = true then K (farW l b) true else K (cz .f32 0) false
  | none => K (cz .f32 0) false
theorem impl_missAbove_wp {ws : List Nat} {sc : Nat} {l : List Nat} {cd : List Int} {lv p st : Nat} {K : Nat → Bool → Prop} (hs : isSch ws sc = true) (hl : l.length = cd.length) (hc : isI cd = true) (hv : 1 ≤ lv ∧ lv ≤ 6) (hp : p ≤ 24) (hK : endM K l (backF ws sc cd lv st p)) : impl_missAbove.wp ws sc l cd (lv : Int) (p : Int) st K := by
  obtain ⟨h1, h2⟩ := isI_smR hc
  intro X hX
  refine map_loop cd (fun _ => true) (abvF p) (X := X) (T := True) (F := False) (fun i hi o ho hh => hX _ _ ⟨fun _ => ⟨⟨by omega, by omega⟩, ?_⟩, fun c => absurd (show (i : Int) < cd.length by omega) c⟩) (fun _ => hX _ _ ⟨fun c => absurd c (by omega), fun _ => ?_⟩) (fun _ => trivial) (fun c => by simp at c)
  · rw [nn, gD hi]
    refine impl_above_wp (h2 _ (List.getElem_mem hi)) hp ⟨by rw [len1, ho]; omega, ?_⟩
    rw [w1 (by omega)]; exact hh.1 rfl
  refine (los_wp (cd.map (abvF p)) st (cz .f32 1056964608) (by rw [List.length_map]; omega)).2 _ ?_
  unfold backF toldOk told at hK
  have ht := told_is (cd := cd) (st := st) (p := p) h1
  have hb := told_bds (cd := cd) (lv := lv) (st := st) (p := p) h1 hv
  unfold toldOk told at ht hb
  cases hlo : losOk (cd.map (abvF p)) st (cz .f32 1056964608) with
  | false =>
    rw [hlo, if_neg (by decide)] at hK
    exact tF hK
  | true =>
    rw [hlo] at hK
    rw [if_pos rfl] at hK ⊢
    obtain ⟨t1, t2⟩ := ht hlo
    have hb := hb hlo
    refine tT (impl_CutFlat_wp t1 hv (tT (impl_DropDeep_wp hs hb ?_)))
    cases hu : udL ws sc (cutL ((cd.map (abvF p)).map fun n => unsc n st (cz .f32 1056964608)) (bandsI lv (((cd.map (abvF p)).map fun n => unsc n st (cz .f32 1056964608)).length : Int))) with
    | none => rw [hu] at hK; rw [endU_none]; exact tF hK
    | some b =>
      rw [hu] at hK
      rw [endU_some]
      have hbl := udL_len hb hu
      refine tT fun Y hY => ?_
      refine up (Y := fun i => Y (ssq l b i) (i : Int)) l.length (hY _ _ ⟨fun c => absurd c (by omega), fun _ => impl_RootNumber_wp ?_⟩) fun i hi hx => hY _ _ ⟨fun _ => ⟨⟨by omega, by omega⟩, ⟨by omega, by omega⟩, ?_⟩, fun c => absurd (show (i : Int) < l.length by omega) c⟩
      · refine impl_IsFinite_wp ?_
        have hK : if pFin (farW l b) = true then K (farW l b) true else K (cz .f32 0) false := hK
        show (pFin (farW l b) = true → K (farW l b) true) ∧ (pFin (farW l b) = false → K (cz .f32 0) false)
        refine ⟨fun c => ?_, fun c => ?_⟩ <;> rw [c] at hK
        · rw [if_pos rfl] at hK; exact hK
        · rw [if_neg (by decide)] at hK; exact hK
      · rw [nn, w1 (by omega)]; exact hx
/-! ### the table -/
def tblF (ws : List Nat) (sc : Nat) (l : List Nat) (cd : List Int) (lv st n : Nat) : Nat → List Int → List Nat → Option (List Int × List Nat)
  | 0, b, ms => some (b, ms)
  | m + 1, b, ms => match backF ws sc cd lv st m with
    | none => none
    | some r => if pFin (farW l r) = true then tblF ws sc l cd lv st n m (b ++ [((codeC cd m (n - m)).length : Int)]) (ms ++ [farW l r]) else none
def endT (K : List Int → List Nat → Bool → Prop) : Option (List Int × List Nat) → Prop
  | some x => K x.1 x.2 true
  | none => K [] [] false
theorem pAll_app (a : List Nat) (x : Nat) : pAll (a ++ [x]) = (pAll a && pFin x) := by
  unfold pAll
  rw [List.all_append]; simp
theorem tblF_len {ws : List Nat} {sc : Nat} {l : List Nat} {cd : List Int} {lv st n : Nat} : ∀ m b ms r, tblF ws sc l cd lv st n m b ms = some r → r.1.length = b.length + m ∧ r.2.length = ms.length + m
  | 0, b, ms, r, h => by cases h; exact ⟨rfl, rfl⟩
  | m + 1, b, ms, r, h => by
    rw [tblF] at h
    split at h
    · cases h
    · split at h
      · have := tblF_len m _ _ r h
        rw [List.length_append, List.length_append, len1, len1] at this
        omega
      · cases h
open Classical in
noncomputable def rateF (ws : List Nat) (sc : Nat) (l : List Nat) (lv : Int) (st : Nat) : Option (List Int × List Nat) := match dpL ws sc l lv with
  | none => none
  | some d => if slOk (flL' d) st = true then (if h : ∃ n, IsTop (slL (flL' d) st) n then tblF ws sc l (slL (flL' d) st) lv.toNat st (Classical.choose h) (Classical.choose h + 1) [] [] else none) else none
theorem dp_bds {ws : List Nat} {sc : Nat} {l : List Nat} {lv : Int} {d : List (List Nat)} (h : dpL ws sc l lv = some d) : (isSch ws sc = true ∧ isL l = true ∧ (1 ≤ lv ∧ lv ≤ 6)) ∧ Bds d l.length := by
  unfold dpL at h
  split at h
  · rename_i c
    obtain ⟨t, e1, e2, e3⟩ := dpF_is _ _ _ _ c.2.1 h
    rw [List.nil_append] at e1
    subst e1
    refine ⟨c, ?_, e3⟩
    rw [e2]
    have hl := (isL_len c.2.1).1
    exact sz_of hl (by omega)
  · cases h
theorem impl_RateTable_wp {ws : List Nat} {sc : Nat} {l : List Nat} {lv : Int} {st : Nat} {K : List Int → List Nat → Bool → Prop} (hw : ws.length ≤ 2 ^ 20) (hl : l.length ≤ 2 ^ 20) (hK : endT K (rateF ws sc l lv st)) : impl_RateTable.wp ws sc l lv st K := by
  refine impl_LiftDeep_wp hw hl ?_
  unfold rateF at hK
  cases hd : dpL ws sc l lv with
  | none => rw [hd] at hK; rw [endD_none]; exact tF hK
  | some d =>
    rw [hd] at hK
    rw [endD_some]
    obtain ⟨⟨c1, c2, c3⟩, hb⟩ := dp_bds hd
    have hll := (isL_len c2).1
    obtain ⟨v, rfl⟩ : ∃ n : Nat, lv = n := ⟨lv.toNat, by omega⟩
    dsimp only at hK
    rw [nn] at hK
    have hfl := flL'_len hb
    refine tT (impl_FlatBands_wp hb ((sl_wp (flL' d) st (by omega)).2 _ (tT ?_)))
    cases hso : slOk (flL' d) st with
    | false => rw [hso, if_neg (by decide)] at hK; exact tF hK
    | true =>
      rw [hso, if_pos rfl] at hK
      rw [if_pos rfl]
      have hI := slL_is hso
      have hcl : (slL (flL' d) st).length = l.length := by unfold slL; rw [List.length_map]; exact hfl
      obtain ⟨g1, g2⟩ := isI_smR hI
      generalize slL (flL' d) st = cd at *
      refine tT (impl_planesFor_wp g1.2 g2 fun n hn => ?_)
      have hex : ∃ n, IsTop cd n := ⟨n, hn⟩
      rw [dif_pos hex, top_uniq (Classical.choose_spec hex) hn] at hK
      have hn20 := top_le g2 hn
      intro X hX
      have key : ∀ m b ms, m ≤ n + 1 → b.length + m = n + 1 → ms.length + m = n + 1 → endT K (tblF ws sc l cd v st n m b ms) → X ms b ((m : Int) - 1) := by
        intro m
        induction m with
        | zero => intro b ms _ _ _ h; exact hX _ _ _ ⟨fun c => absurd c (by decide), fun _ => h⟩
        | succ m ih =>
          intro b ms h1 h2 h3 h4
          rw [show (((m + 1 : Nat) : Int) - 1) = (m : Int) by omega]
          rw [tblF] at h4
          refine hX _ _ _ ⟨fun _ => impl_BitsUntilR_wp (n := n) (by omega) hI hn (by omega) (impl_missAbove_wp c1 (by omega) hI (by omega) (by omega) ?_), fun c => absurd (show (0 : Int) ≤ (m : Int) by omega) c⟩
          cases hbk : backF ws sc cd v st m with
          | none =>
            rw [hbk] at h4
            exact tT (tF h4)
          | some r =>
            rw [hbk] at h4
            dsimp only at h4
            show if pFin (farW l r) = true then _ else _
            split at h4
            · rename_i c
              rw [if_pos c]
              refine tT (tT ⟨by rw [len1]; omega, by rw [len1]; omega, ?_⟩)
              rw [wI (by omega)]
              exact ih _ _ (by omega) (by rw [List.length_append, len1]; omega) (by rw [List.length_append, len1]; omega) h4
            · rename_i c
              rw [if_neg c]
              exact tT (tF h4)
      have := key (n + 1) [] [] (Nat.le_refl _) (by simp) (by simp) hK
      rw [show (((n + 1 : Nat) : Int) - 1) = (n : Int) by omega] at this
      exact this
theorem spec_RateTable_wp {ws : List Nat} {sc : Nat} {l : List Nat} {lv : Int} {st : Nat} {K : List Int → List Nat → Bool → Prop} (hw : ws.length ≤ 2 ^ 20) (hl : l.length ≤ 2 ^ 20) (hK : endT K (rateF ws sc l lv st)) : spec_RateTable.wp ws sc l lv st K := by
  refine spec_LiftDeep_wp hw hl ?_
  unfold rateF at hK
  cases hd : dpL ws sc l lv with
  | none => rw [hd] at hK; rw [endD_none]; exact tF hK
  | some d =>
    rw [hd] at hK
    rw [endD_some]
    obtain ⟨⟨c1, c2, c3⟩, hb⟩ := dp_bds hd
    have hll := (isL_len c2).1
    obtain ⟨v, rfl⟩ : ∃ n : Nat, lv = n := ⟨lv.toNat, by omega⟩
    dsimp only at hK
    rw [nn] at hK
    have hfl := flL'_len hb
    refine tT (spec_FlatBands_wp hb ((sl_wp (flL' d) st (by omega)).1 _ (tT ?_)))
    cases hso : slOk (flL' d) st with
    | false => rw [hso, if_neg (by decide)] at hK; exact tF hK
    | true =>
      rw [hso, if_pos rfl] at hK
      rw [if_pos rfl]
      have hI := slL_is hso
      have hcl : (slL (flL' d) st).length = l.length := by unfold slL; rw [List.length_map]; exact hfl
      obtain ⟨g1, g2⟩ := isI_smR hI
      generalize slL (flL' d) st = cd at *
      refine tT (spec_l06Planes_wp g1.2 g2 fun n hn => ?_)
      have hex : ∃ n, IsTop cd n := ⟨n, hn⟩
      rw [dif_pos hex, top_uniq (Classical.choose_spec hex) hn] at hK
      have hn20 := top_le g2 hn
      intro X hX
      have key : ∀ m b ms, m ≤ n + 1 → b.length + m = n + 1 → ms.length + m = n + 1 → (pAll ms = true → endT K (tblF ws sc l cd v st n m b ms)) → (pAll ms = false → K [] [] false) → X ms b ((m : Int) - 1) := by
        intro m
        induction m with
        | zero =>
          intro b ms _ _ h3 h h'
          refine hX _ _ _ ⟨fun c => absurd c (by decide), fun _ => spec_l02Finite_wp (by omega) ⟨fun c => h c, fun c => h' c⟩⟩
        | succ m ih =>
          intro b ms h1 h2 h3 h4 h5
          rw [show (((m + 1 : Nat) : Int) - 1) = (m : Int) by omega]
          have hno : backF ws sc cd v st m = none → K [] [] false := fun e => by
            cases hp : pAll ms with
            | false => exact h5 hp
            | true =>
              have := h4 hp
              rw [tblF, e] at this; exact this
          refine hX _ _ _ ⟨fun _ => spec_l06Cleared_wp g1.2 g2 (by omega) ((los_wp (cd.map (abvF m)) st (cz .f32 1056964608) (by rw [List.length_map]; omega)).1 _ ?_), fun c => absurd (show (0 : Int) ≤ (m : Int) by omega) c⟩
          have hbk : backF ws sc cd v st m = if losOk (cd.map (abvF m)) st (cz .f32 1056964608) = true then udL ws sc (cutL ((cd.map (abvF m)).map fun n => unsc n st (cz .f32 1056964608)) (bandsI v (((cd.map (abvF m)).map fun n => unsc n st (cz .f32 1056964608)).length : Int))) else none := rfl
          have ht := told_is (cd := cd) (st := st) (p := m) g1
          have hbd := told_bds (cd := cd) (lv := v) (st := st) (p := m) g1 (by omega)
          unfold toldOk told at ht hbd
          cases hlo : losOk (cd.map (abvF m)) st (cz .f32 1056964608) with
          | false =>
            rw [hlo, if_neg (by decide)] at hbk
            exact tF (hno hbk)
          | true =>
            rw [hlo] at hbk
            rw [if_pos rfl] at hbk ⊢
            obtain ⟨t1, t2⟩ := ht hlo
            have hbd := hbd hlo
            refine tT (spec_l02Cut_wp t1 (by omega) (spec_l02Undeep_wp c1 hbd ?_))
            rw [← hbk]
            cases hbk2 : backF ws sc cd v st m with
            | none => rw [endU_none]; exact tF (hno hbk2)
            | some r =>
              rw [endU_some]
              have hrl := backF_len g1 (by omega) hbk2
              refine tT fun Y hY => ?_
              let sb : Nat → Nat := fun i => fop .sub .f32 (l.getD i 0) (r.getD i 0)
              have hlm : ∀ i, ((List.range i).map sb).length = i := fun i => by rw [List.length_map, List.length_range]
              refine up (Y := fun i => Y ((List.range i).map sb) (i : Int)) l.length (hY _ _ ⟨fun c => absurd c (by omega), fun _ => ?_⟩) fun i hi hx => hY _ _ ⟨fun _ => ⟨⟨by omega, by omega⟩, ⟨by omega, by omega⟩, by rw [len1, hlm]; omega, ?_⟩, fun c => absurd (show (i : Int) < l.length by omega) c⟩
              rotate_left
              · rw [List.range_succ, List.map_append] at hx
                rw [nn, w1 (by omega)]; exact hx
              refine spec_l06Code_wp g1.2 g2 (by omega) fun n' hn' => ⟨by rw [len1]; omega, fun Z hZ => ?_⟩
              have hnn := top_uniq hn' hn
              subst hnn
              have hll2 := hlm l.length
              refine up (Y := fun i => Z (ssq l r i) (i : Int)) l.length (hZ _ _ ⟨fun c => absurd c (by rw [hll2]; omega), fun _ => spec_l01Sqrt_wp ?_⟩) fun i hi hx => hZ _ _ ⟨fun _ => ⟨⟨by omega, by rw [hll2]; omega⟩, ?_⟩, fun c => absurd (show (i : Int) < ((List.range l.length).map sb).length by rw [hll2]; omega) c⟩
              rotate_left
              · rw [nn, w1 (by omega), rg_at hi]; exact hx
              rw [hll2]
              refine ⟨by rw [len1]; omega, ?_⟩
              rw [wI (by omega)]
              refine ih _ _ (by omega) (by rw [List.length_append, len1]; omega) (by rw [List.length_append, len1]; omega) (fun c => ?_) (fun c => ?_)
              · have c' : pAll (ms ++ [farW l r]) = true := c
                rw [pAll_app, Bool.and_eq_true] at c'
                have := h4 c'.1
                rw [tblF, hbk2] at this
                dsimp only at this
                rw [if_pos c'.2] at this
                exact this
              · have c' : pAll (ms ++ [farW l r]) = false := c
                cases hp : pAll ms with
                | false => exact h5 hp
                | true =>
                  rw [pAll_app, hp, Bool.true_and] at c'
                  have := h4 hp
                  rw [tblF, hbk2] at this
                  dsimp only at this
                  rw [if_neg (by rw [c']; decide)] at this
                  exact this
      have := key (n + 1) [] [] (Nat.le_refl _) (by simp) (by simp) (fun _ => hK) (fun c => by cases c)
      rw [show (((n + 1 : Nat) : Int) - 1) = (n : Int) by omega] at this
      exact this
theorem rateF_len {ws : List Nat} {sc : Nat} {l : List Nat} {lv : Int} {st : Nat} {r : List Int × List Nat} (h : rateF ws sc l lv st = some r) : r.1.length ≤ 2 ^ 20 ∧ r.2.length ≤ 2 ^ 20 := by
  unfold rateF at h
  split at h
  · cases h
  · rename_i d hd
    split at h
    · rename_i hso
      split at h
      · rename_i hex
        have h1 := tblF_len _ _ _ _ h
        have h2 := top_le (isI_smR (slL_is hso)).2 (Classical.choose_spec hex)
        simp only [List.length_nil] at h1
        omega
      · cases h
    · cases h
theorem rate_both (ws : List Nat) (sc : Nat) (l : List Nat) (lv : Int) (st : Nat) (hw : ws.length ≤ 2 ^ 20) (hl : l.length ≤ 2 ^ 20) : ∃ bits misses ok, (∀ K : List Int → List Nat → Bool → Prop, K bits misses ok → spec_RateTable.wp ws sc l lv st K) ∧ (∀ K : List Int → List Nat → Bool → Prop, K bits misses ok → impl_RateTable.wp ws sc l lv st K) ∧ bits.length ≤ 2 ^ 20 ∧ misses.length ≤ 2 ^ 20 := by
  cases hr : rateF ws sc l lv st with
  | none => exact ⟨[], [], false, fun K hk => spec_RateTable_wp hw hl (by rw [hr]; exact hk), fun K hk => impl_RateTable_wp hw hl (by rw [hr]; exact hk), by simp, by simp⟩
  | some r =>
    have := rateF_len hr
    exact ⟨r.1, r.2, true, fun K hk => spec_RateTable_wp hw hl (by rw [hr]; exact hk), fun K hk => impl_RateTable_wp hw hl (by rw [hr]; exact hk), this.1, this.2⟩
-- HYPS: 0
theorem markSchemeR_wp {l : List Nat} {s q : Nat} {K : Int → List Nat → Prop} (hl : l.length ≤ 2 ^ 20) (hq : q ≤ 2 ^ 40) (h : K ((q + l.length : Nat) : Int) (marks q l.length)) : laws_markScheme.wp l s (q : Int) K := markFloat32S_wp hl hq h
theorem pureExactRateTable (l0 : List Nat) (a1 : Nat) (l2 : List Nat) (a3 : Int) (a4 : Nat) (hp : l0.length ≤ maxLen) : laws_FnExactRateTable.wp l0 a1 l2 a3 a4 (fun b => b = true) := by
  refine ⟨fun _ => rfl, fun hb => szScheme_wp hp (by omega) (tP (by omega) rfl) fun hd => tN (by omega) ?_⟩
  have h0 : l0.length ≤ 2 ^ 20 := by omega
  have h2 : l2.length ≤ 2 ^ 20 := by omega
  obtain ⟨bits, misses, ok, hs, hi, hbl, hml⟩ := rate_both l0 a1 l2 a3 a4 h0 h2
  refine toScheme_wp h0 (toFloat32S_wp h2 (hs _ (toScheme_wp h0 (toFloat32S_wp h2 (hi _ ?_)))))
  refine eqInt64S_wp hbl (tT (eqFloat32S_wp hml (tT (tB (toScheme_wp h0 ⟨true, eqScheme_wp h0 rfl, tT (toFloat32S_wp h2 (eqFloat32S_wp h2 (tT ?_)))⟩)))))
  refine markSchemeR_wp (q := 1) h0 (by omega) (markFloat32S_wp h2 (by omega) (tN (by omega) ?_))
  refine eqInt64S_wp hbl (tT (eqFloat32S_wp hml (tT ?_)))
  refine markInt64S_wp (k := 1) hbl (by omega) (markFloat32S_wp hml (by omega) (heldInt64S_wp (k := 1) hbl (by omega) (tN (by omega) (heldFloat32S_wp hml (by omega) (tN (by omega) (tP rfl ?_))))))
  refine toScheme_wp h0 (toFloat32S_wp h2 (hi _ (eqInt64S_wp hbl (tT (eqFloat32S_wp hml (tT (tB ?_)))))))
  exact heldInt64S_wp (k := 1) hbl (by omega) (tN (by omega) (heldFloat32S_wp hml (by omega) (tN (by omega) (tP rfl rfl))))
end Go.Proofs.Ytfhlhgnipmgfdaa.G
