/-
  What the formulas say, over numbers and lists alone. Nothing here is trusted.
-/
import Derived.Test.YtochgocgmeeppaaMExactLinesSharedWa
namespace Go.Proofs.Ytochgocgmeeppaa.G
open Go Go.Ab
set_option maxRecDepth 100000
set_option linter.unusedVariables false
set_option linter.unusedSimpArgs false
set_option maxHeartbeats 1000000
/-! ### truth -/
theorem tT {A B : Prop} (h : A) : (true = true → A) ∧ (true = false → B) := ⟨fun _ => h, fun c => (by cases c)⟩
theorem tF {A B : Prop} (h : B) : (false = true → A) ∧ (false = false → B) := ⟨fun c => (by cases c), fun _ => h⟩
theorem tB {A B : Prop} {b : Bool} (h : A) : ((b == b) = true → A) ∧ ((b == b) = false → B) := ⟨fun _ => h, fun c => (by simp at c)⟩
theorem tE {A B : Prop} {b : Bool} (e : b = true) (h : A) : (b = true → A) ∧ (b = false → B) := ⟨fun _ => h, fun c => (by rw [e] at c; cases c)⟩
theorem tG {A B : Prop} {b : Bool} (e : b = false) (h : B) : (b = true → A) ∧ (b = false → B) := ⟨fun c => (by rw [e] at c; cases c), fun _ => h⟩
theorem tP {p A B : Prop} (e : p) (h : A) : (p → A) ∧ (¬p → B) := ⟨fun _ => h, fun c => absurd e c⟩
theorem tN {p A B : Prop} (e : ¬p) (h : B) : (p → A) ∧ (¬p → B) := ⟨fun c => absurd c e, fun _ => h⟩
/-! ### loops -/
theorem up {Y : Nat → Prop} (n : Nat) (last : Y n) (step : ∀ i, i < n → Y (i + 1) → Y i) : Y 0 := by
  have key : ∀ d i, i + d = n → Y i := by
    intro d
    induction d with
    | zero => intro i h; obtain rfl : i = n := by omega
              exact last
    | succ d ih => intro i h; exact step i (by omega) (ih (i + 1) (by omega))
  exact key n 0 (by omega)
theorem w1 {i : Nat} (h : i < 4611686018427387904) : IntKind.i64.wrap ((i : Int) + (1 : Int)) = ((i + 1 : Nat) : Int) := wrap_succ (by omega)
theorem wI {n : Int} (h : -9223372036854775808 ≤ n ∧ n < 9223372036854775808) : IntKind.i64.wrap n = n := wrap_i64 h.1 h.2
theorem nn (i : Nat) : ((i : Int)).toNat = i := rfl
theorem gD {α : Type} {l : List α} {i : Nat} (h : i < l.length) (d : α) : l.getD i d = l[i] := by rw [List.getD_eq_getElem?_getD, List.getElem?_eq_getElem h]; rfl
theorem dropC {α : Type} {l : List α} {i : Nat} (h : i < l.length) : l.drop i = l[i] :: l.drop (i + 1) := List.drop_eq_getElem_cons h
theorem len1 {α : Type} (a : α) : ([a] : List α).length = 1 := rfl
/-! ### copies, comparisons, marks -/
theorem toFloat32S_wp {l : List Nat} {K : List Nat → Prop} (hl : l.length ≤ 2 ^ 20) (h : K l) : laws_toFloat32S.wp l K := by
  refine ⟨⟨by omega, by omega, by omega, by omega⟩, fun X hX => ?_⟩
  have key : X (l.take 0 ++ List.replicate (l.length - 0) (0 : Nat)) ((0 : Nat) : Int) := by
    refine up (Y := fun i => X (l.take i ++ List.replicate (l.length - i) (0 : Nat)) (i : Int)) l.length ?_ fun i hi hn => ?_
    · refine hX _ _ ⟨fun c => absurd c (by omega), fun _ => ?_⟩
      rw [List.take_length, Nat.sub_self, List.replicate_zero, List.append_nil]; exact h
    · refine hX _ _ ⟨fun _ => ⟨⟨by omega, by omega⟩, ⟨by omega, ?_⟩, ?_⟩, fun c => absurd (show (i : Int) < l.length by omega) c⟩
      · rw [List.length_append, List.length_take, List.length_replicate]; omega
      · rw [nn, w1 (by omega), gD hi, set_fill (0 : Nat) (by omega) hi]
        exact hn
  rw [List.take_zero, List.nil_append, Nat.sub_zero] at key; exact key
theorem sameFloat_wp {a : Nat} {K : Bool → Prop} (h : K true) : laws_sameFloat.wp a a K := by
  rcases order_self Ieee.double a with ho | ho
  · have e : fcmp .neq .f64 a a = true := by simp [fcmp, FloatKind.format, ho]
    exact tE e (by rw [e]; exact h)
  · have e : fcmp .neq .f64 a a = false := by simp [fcmp, FloatKind.format, ho]
    have e2 : fcmp .eql .f64 a a = true := by simp [fcmp, FloatKind.format, ho]
    refine tG e (tG e ⟨fun c => ⟨fun _ => by rw [BEq.rfl]; exact h, fun c2 => (by rw [c] at c2; cases c2)⟩, fun _ => by rw [e2]; exact h⟩)
theorem eqFloat32S_wp {l : List Nat} {K : Bool → Prop} (hl : l.length ≤ 2 ^ 20) (h : K true) : laws_eqFloat32S.wp l l K := by
  refine tP rfl fun X hX => ?_
  refine up (Y := fun i => X (i : Int)) l.length ?_ fun i hi hn => ?_
  · exact hX _ ⟨fun c => absurd c (by omega), fun _ => h⟩
  · refine hX _ ⟨fun _ => ⟨⟨by omega, by omega⟩, ⟨by omega, by omega⟩, sameFloat_wp (tT ?_)⟩, fun c => absurd (show (i : Int) < l.length by omega) c⟩
    rw [w1 (by omega)]; exact hn
theorem markFloat32S_wp {l : List Nat} {k : Nat} {K : Int → List Nat → Prop} (hl : l.length ≤ 2 ^ 20) (hk : k ≤ 2 ^ 40) (h : K ((k + l.length : Nat) : Int) (marks k l.length)) : laws_markFloat32S.wp l (k : Int) K := by
  intro X hX
  have key : X (marks k 0 ++ l.drop 0) ((k + 0 : Nat) : Int) ((0 : Nat) : Int) := by
    refine up (Y := fun i => X (marks k i ++ l.drop i) ((k + i : Nat) : Int) (i : Int)) l.length ?_ fun i hi hn => ?_
    · refine hX _ _ _ ⟨fun c => absurd c (by rw [List.length_append, marks_length, List.length_drop]; omega), fun _ => ?_⟩
      rw [List.drop_length, List.append_nil]; exact h
    · have hlen : (marks k i ++ l.drop i).length = l.length := by rw [List.length_append, marks_length, List.length_drop]; omega
      refine hX _ _ _ ⟨fun _ => ⟨⟨by omega, by rw [hlen]; omega⟩, ?_⟩, fun c => absurd (show (i : Int) < _ by rw [hlen]; omega) c⟩
      rw [nn, w1 (by omega), w1 (by omega)]
      have e := marks_step (l := l) (i := i) (m := l.length - i) k (by omega) hi
      rw [show (k : Int) + (i : Int) = ((k + i : Nat) : Int) by omega] at e
      rw [show itof .f32 ((k + i : Nat) : Int) = fl ((k + i : Nat) : Int) from rfl]
      rw [e]; exact hn
  exact key
theorem heldFloat32S_wp {k n : Nat} {K : Int → Prop} (hl : n ≤ 2 ^ 20) (hk : k ≤ 2 ^ 40) (h : K ((k + n : Nat) : Int)) : laws_heldFloat32S.wp (marks k n) (k : Int) K := by
  intro X hX
  have hlen : (marks k n).length = n := marks_length _ _
  have key : X ((k + 0 : Nat) : Int) ((0 : Nat) : Int) := by
    refine up (Y := fun i => X ((k + i : Nat) : Int) (i : Int)) n ?_ fun i hi hn => ?_
    · exact hX _ _ ⟨fun c => absurd c (by omega), fun _ => h⟩
    · refine hX _ _ ⟨fun _ => ⟨⟨by omega, by omega⟩, ?_⟩, fun c => absurd (show (i : Int) < _ by omega) c⟩
      rw [nn, gD (by omega), marks_at k n i (by omega), show (k : Int) + (i : Int) = ((k + i : Nat) : Int) by omega]
      refine tG (show fcmp .neq .f32 (fl ((k + i : Nat) : Int)) (itof .f32 ((k + i : Nat) : Int)) = false from fl_neq _) ?_
      rw [w1 (by omega), w1 (by omega)]; exact hn
  exact key
def pFin (x : Nat) : Bool := fcmp .eql .f32 (fop .sub .f32 x x) (cz .f32 0)
def pAll (l : List Nat) : Bool := l.all pFin
/-- A loop that ends early where something does not hold. -/
theorem all_loop {α : Type} (l : List α) (p : α → Bool) {X : Int → Prop} {T F : Prop} (hX : ∀ (i : Nat) (h : i < l.length), ((p l[i] = true → X ((i + 1 : Nat) : Int)) ∧ (p l[i] = false → F)) → X (i : Int))
    (hend : T → X (l.length : Int)) (ht : l.all p = true → T) (hf : l.all p = false → F) : X (0 : Int) := by
  have key := up (Y := fun i => ((l.drop i).all p = true → T) → ((l.drop i).all p = false → F) → X (i : Int)) l.length (fun h _ => hend (h (by rw [List.drop_length]; rfl))) fun i hi hn h1 h2 => ?_
  · exact key (by rw [List.drop_zero]; exact ht) (by rw [List.drop_zero]; exact hf)
  · rw [dropC hi, List.all_cons] at h1 h2
    refine hX i hi ⟨fun e => hn (fun a => h1 (by rw [e, a]; rfl)) (fun a => h2 (by rw [e, a]; rfl)), fun e => h2 (by rw [e]; rfl)⟩
theorem spec_l01Finite_wp {a : Nat} {K : Bool → Prop} (h : K (pFin a)) : spec_l01Finite.wp a K := h
theorem impl_IsFinite_wp {a : Nat} {K : Bool → Prop} (h : K (pFin a)) : impl_IsFinite.wp a K := h
theorem spec_l02Finite_wp {l : List Nat} {K : Bool → Prop} (hl : l.length ≤ 2 ^ 20) (h : K (pAll l)) : spec_l02Finite.wp l K := by
  intro X hX
  refine all_loop l pFin (X := X) (T := K true) (F := K false) (fun i hi hh => ?_) (fun ht => hX _ ⟨fun c => absurd c (by omega), fun _ => ht⟩) (fun e => by rw [pAll, e] at h; exact h) (fun e => by rw [pAll, e] at h; exact h)
  refine hX _ ⟨fun _ => ⟨⟨by omega, by omega⟩, spec_l01Finite_wp ?_⟩, fun c => absurd (show (i : Int) < l.length by omega) c⟩
  rw [nn, gD hi, w1 (by omega)]; exact hh
theorem impl_areFinite_wp {ll : List (List Nat)} {K : Bool → Prop} (hll : ll.length ≤ 2 ^ 20) (hl : ∀ l ∈ ll, l.length ≤ 2 ^ 20) (h : K (ll.all pAll)) : impl_areFinite.wp ll K := by
  intro X hX
  refine all_loop ll pAll (X := X) (T := K true) (F := K false) (fun i hi hh => ?_) (fun ht => hX _ ⟨fun c => absurd c (by omega), fun _ => ht⟩) (fun e => by rw [e] at h; exact h) (fun e => by rw [e] at h; exact h)
  refine hX _ ⟨fun _ => ⟨⟨by omega, by omega⟩, fun Y hY => ?_⟩, fun c => absurd (show (i : Int) < ll.length by omega) c⟩
  have hlen := hl ll[i] (List.getElem_mem hi)
  rw [nn, gD hi, w1 (by omega)] at hY
  refine all_loop ll[i] pFin (X := Y) (T := X ((i + 1 : Nat) : Int)) (F := K false) (fun j hj h2 => ?_) (fun ht => hY _ ⟨fun c => absurd c (by omega), fun _ => ht⟩) (fun e => hh.1 e) (fun e => hh.2 e)
  refine hY _ ⟨fun _ => ⟨⟨by omega, by omega⟩, impl_IsFinite_wp ?_⟩, fun c => absurd (show (j : Int) < ll[i].length by omega) c⟩
  rw [nn, gD hj, w1 (by omega)]; exact h2
theorem impl_areFinite1_wp {l : List Nat} {K : Bool → Prop} (hl : l.length ≤ 2 ^ 20) (h : K (pAll l)) : impl_areFinite.wp [l] K := by
  refine impl_areFinite_wp (by simp) (fun x hx => by rw [List.mem_singleton] at hx; subst hx; exact hl) ?_
  rw [List.all_cons, List.all_nil, Bool.and_true]; exact h
theorem impl_within_wp {a b c : Int} {K : Bool → Prop} (h : K (decide (b ≤ a ∧ a ≤ c))) : impl_within.wp a b c K := by
  refine ⟨fun h1 => ?_, fun h1 => ?_⟩
  · have : decide (b ≤ a ∧ a ≤ c) = decide (a ≤ c) := by simp [h1]
    rw [this] at h; exact h
  · have : decide (b ≤ a ∧ a ≤ c) = false := by simp [h1]
    rw [this] at h; exact h
theorem spec_l00In_wp {a b c : Int} {K : Bool → Prop} (h : K (decide (b ≤ a ∧ a ≤ c))) : spec_l00In.wp a b c K := by
  refine ⟨fun h1 => ?_, fun h1 => ?_⟩
  · have : decide (b ≤ a ∧ a ≤ c) = decide (a ≤ c) := by simp [h1]
    rw [this] at h; exact h
  · have : decide (b ≤ a ∧ a ≤ c) = false := by simp [h1]
    rw [this] at h; exact h
def isOver (x : Nat) : Bool := pFin x && fcmp .gtr .f32 x (cz .f32 0)
theorem spec_l02Above_wp {a : Nat} {K : Bool → Prop} (h : K (isOver a)) : spec_l02Above.wp a K := by
  refine spec_l01Finite_wp ⟨fun h1 => ?_, fun h1 => ?_⟩ <;> (rw [isOver, h1] at h; exact h)
theorem impl_isOver_wp {a : Nat} {K : Bool → Prop} (h : K (isOver a)) : impl_isOver.wp a K := by
  refine impl_IsFinite_wp ⟨fun h1 => ?_, fun h1 => ?_⟩ <;> (rw [isOver, h1] at h; exact h)
/-! ### integers -/
theorem impl_finiteList_wp {l : List Nat} {K : Bool → Bool → Prop} (hl : l.length ≤ 2 ^ 20) (h : K (pAll l) (pAll l)) : impl_finiteList.wp l K := by
  refine impl_areFinite1_wp hl ⟨fun h1 => ?_, fun h1 => ?_⟩ <;> (rw [h1] at h; exact h)

theorem szFloat32S_wp {l : List Nat} {n : Int} {K : Int → Prop} (hl : l.length ≤ maxLen) (hn : 0 ≤ n ∧ n ≤ 2 ^ 40) (h0 : K (-1)) (h : (l.length : Int) ≤ n → K (n - (l.length : Int))) : laws_szFloat32S.wp l n K := by
  have hm : l.length < 2 ^ 63 := Nat.lt_of_le_of_lt hl (by decide)
  have e : IntKind.i64.wrap (n - (l.length : Int)) = n - (l.length : Int) := wI (by omega)
  refine ⟨fun c => h0, fun c => ?_⟩
  rw [e] at c ⊢; exact h (by omega)
abbrev Fl2 := List (List Nat)
def fsN : List Nat := ([] : List (Nat))
def tot (l : Fl2) : Nat := (l.map List.length).sum
theorem tot_cons (x : List Nat) (l : Fl2) : tot (x :: l) = x.length + tot l := by simp [tot]
theorem tot_app (a b : Fl2) : tot (a ++ b) = tot a + tot b := by simp only [tot, List.map_append, List.sum_append]
theorem tot_mem : ∀ {l : Fl2} {z : List Nat}, z ∈ l → z.length ≤ tot l
  | x :: l, z, h => by
    rw [tot_cons]
    rcases List.mem_cons.1 h with rfl | h
    · omega
    · have := tot_mem h; omega
theorem tot_take {l : Fl2} {i : Nat} (h : i < l.length) : tot (l.take (i + 1)) = tot (l.take i) + l[i].length := by
  rw [List.take_succ_eq_append_getElem h, tot_app, tot_cons]; rfl
theorem tot_take_le : ∀ (l : Fl2) (i : Nat), tot (l.take i) ≤ tot l
  | [], i => by simp
  | x :: l, 0 => by simp [tot]
  | x :: l, i + 1 => by
    rw [List.take_succ_cons, tot_cons, tot_cons]
    have := tot_take_le l i
    omega
/-- What a law is handed. -/
def FsIn (l : Fl2) : Prop := ∀ z ∈ l, z.length ≤ maxLen ∧ (∀ y ∈ z, y < 2 ^ 32) ∧ True
/-- What is small. -/
def FsOk (l : Fl2) : Prop := l.length ≤ 2 ^ 20 ∧ tot l ≤ 2 ^ 25 ∧ ∀ z ∈ l, z.length ≤ 2 ^ 20
theorem szFloat32SS_wp {l : Fl2} {K : Int → Prop} (hl : l.length ≤ maxLen) (hin : FsIn l) (h0 : K (-1)) (h : FsOk l → ∀ m, 0 ≤ m → K m) : laws_szFloat32SS.wp l 1048576 K := by
  have hm : l.length < 2 ^ 63 := Nat.lt_of_le_of_lt hl (by decide)
  have e : IntKind.i64.wrap (1048576 - (l.length : Int)) = 1048576 - (l.length : Int) := wI (by omega)
  refine ⟨fun c => h0, fun c => ?_⟩
  rw [e] at c ⊢
  intro X hX
  have key : ∀ (m i : Nat) (r : Int), m + i = l.length → 0 ≤ r → r + tot (l.take i) ≤ 1048576 → X r (i : Int) := by
    intro m
    induction m with
    | zero => intro i r h1 h2 h3
              obtain rfl : i = l.length := by omega
              rw [List.take_length] at h3
              exact hX _ _ ⟨fun c => absurd c (by omega), fun _ => h ⟨by omega, by omega, fun z hz => by have := tot_mem hz; omega⟩ r h2⟩
    | succ m ih =>
      intro i r h1 h2 h3
      have hi : i < l.length := by omega
      have hz := (hin _ (List.getElem_mem hi)).1
      refine hX _ _ ⟨fun _ => ⟨⟨by omega, by omega⟩, ?_⟩, fun c => absurd (show (i : Int) < l.length by omega) c⟩
      rw [nn, gD hi, w1 (by omega)]
      have ht := tot_take hi
      refine szFloat32S_wp hz ⟨h2, by omega⟩ (tP (by omega) h0) fun hle => tN (by omega) (ih (i + 1) _ (by omega) (by omega) (by rw [ht]; omega))
  exact key l.length 0 _ (by omega) (by omega) (by simp [tot]; omega)
theorem toFloat32SS_wp {l : Fl2} {K : Fl2 → Prop} (hl : FsOk l) (h : K l) : laws_toFloat32SS.wp l K := by
  obtain ⟨hl, _, hz⟩ := hl
  refine ⟨⟨by omega, by omega, by omega, by omega⟩, fun X hX => ?_⟩
  have key : X (l.take 0 ++ List.replicate (l.length - 0) fsN) ((0 : Nat) : Int) := by
    refine up (Y := fun i => X (l.take i ++ List.replicate (l.length - i) fsN) (i : Int)) l.length ?_ fun i hi hn => ?_
    · refine hX _ _ ⟨fun c => absurd c (by omega), fun _ => ?_⟩
      rw [List.take_length, Nat.sub_self, List.replicate_zero, List.append_nil]; exact h
    · refine hX _ _ ⟨fun _ => ⟨⟨by omega, by omega⟩, ?_⟩, fun c => absurd (show (i : Int) < l.length by omega) c⟩
      rw [nn, w1 (by omega), gD hi]
      refine toFloat32S_wp (hz _ (List.getElem_mem hi)) ⟨⟨by omega, ?_⟩, ?_⟩
      · rw [List.length_append, List.length_take, List.length_replicate]; omega
      · rw [set_fill fsN (by omega) hi]
        exact hn
  rw [List.take_zero, List.nil_append, Nat.sub_zero] at key; exact key
theorem eqFloat32SS_wp {l : Fl2} {K : Bool → Prop} (hl : FsOk l) (h : K true) : laws_eqFloat32SS.wp l l K := by
  obtain ⟨hl, _, hz⟩ := hl
  refine tP rfl fun X hX => ?_
  refine up (Y := fun i => X (i : Int)) l.length ?_ fun i hi hn => ?_
  · exact hX _ ⟨fun c => absurd c (by omega), fun _ => h⟩
  · refine hX _ ⟨fun _ => ⟨⟨by omega, by omega⟩, ⟨by omega, by omega⟩, ?_⟩, fun c => absurd (show (i : Int) < l.length by omega) c⟩
    rw [nn, gD hi, w1 (by omega)]
    exact eqFloat32S_wp (hz _ (List.getElem_mem hi)) (tT hn)
/-- Marks, row by row. -/
def marks2 (k : Nat) : Fl2 → Fl2
  | [] => []
  | x :: l => marks k x.length :: marks2 (k + x.length) l
theorem marks2_len (k : Nat) : ∀ l : Fl2, (marks2 k l).length = l.length
  | [] => rfl
  | x :: l => by rw [marks2, List.length_cons, marks2_len, List.length_cons]
theorem marks2_app (k : Nat) : ∀ (l : Fl2) (x : List Nat), marks2 k (l ++ [x]) = marks2 k l ++ [marks ((k + tot l : Nat) : Int) x.length]
  | [], x => by simp [marks2, tot]
  | y :: l, x => by
    rw [List.cons_append, marks2, marks2_app (k + y.length) l x, marks2, List.cons_append, tot_cons, show k + y.length + tot l = k + (y.length + tot l) by omega]
theorem marks2_at (k : Nat) : ∀ (l : Fl2) (i : Nat) (h : i < l.length), (marks2 k l).getD i ([] : List Nat) = marks ((k + tot (l.take i) : Nat) : Int) (l[i]).length
  | x :: l, 0, h => by simp [marks2, tot]
  | x :: l, i + 1, h => by
    rw [marks2, List.getD_cons_succ, marks2_at (k + x.length) l i (by simpa using h), List.take_succ_cons, tot_cons, show k + x.length + tot (l.take i) = k + (x.length + tot (l.take i)) by omega]
    simp
theorem markFloat32SS_wp {l : Fl2} {K : Int → Fl2 → Prop} (hl : FsOk l) (h : K ((1 + tot l : Nat) : Int) (marks2 1 l)) : laws_markFloat32SS.wp l 1 K := by
  obtain ⟨hl, ht, hz⟩ := hl
  intro X hX
  have key : X (marks2 1 (l.take 0) ++ l.drop 0) ((1 + tot (l.take 0) : Nat) : Int) ((0 : Nat) : Int) := by
    refine up (Y := fun i => X (marks2 1 (l.take i) ++ l.drop i) ((1 + tot (l.take i) : Nat) : Int) (i : Int)) l.length ?_ fun i hi hn => ?_
    · refine hX _ _ _ ⟨fun c => absurd c (by rw [List.length_append, marks2_len, List.length_take, List.length_drop]; omega), fun _ => ?_⟩
      rw [List.drop_length, List.append_nil, List.take_length]; exact h
    · have hlen : (marks2 1 (l.take i) ++ l.drop i).length = l.length := by rw [List.length_append, marks2_len, List.length_take, List.length_drop]; omega
      refine hX _ _ _ ⟨fun _ => ⟨⟨by omega, by rw [hlen]; omega⟩, ?_⟩, fun c => absurd (show (i : Int) < _ by rw [hlen]; omega) c⟩
      have h1 : (marks2 1 (l.take i)).length = i := by rw [marks2_len, List.length_take]; omega
      have e1 : (marks2 1 (l.take i) ++ l.drop i).getD i ([] : List Nat) = l[i] := by
        rw [List.getD_eq_getElem?_getD, List.getElem?_append_right (by omega), h1, Nat.sub_self, dropC hi]; rfl
      have hle := tot_take_le l (i + 1)
      have htk := tot_take hi
      rw [nn, e1, w1 (by omega)]
      refine markFloat32S_wp (hz _ (List.getElem_mem hi)) (by omega) ?_
      have e2 : (marks2 1 (l.take i) ++ l.drop i).set i (marks ((1 + tot (l.take i) : Nat) : Int) l[i].length) = marks2 1 (l.take (i + 1)) ++ l.drop (i + 1) := by
        rw [List.set_append_right _ _ (by omega), h1, Nat.sub_self, dropC hi, List.set_cons_zero, List.take_succ_eq_append_getElem hi, marks2_app, List.append_assoc]; rfl
      rw [e2]
      rw [htk, ← Nat.add_assoc] at hn
      exact hn
  have h0 : tot (l.take 0) = 0 := by simp [tot]
  rw [h0] at key
  simpa [marks2] using key
theorem heldFloat32SS_wp {l : Fl2} {K : Int → Prop} (hl : FsOk l) (h : K ((1 + tot l : Nat) : Int)) : laws_heldFloat32SS.wp (marks2 1 l) 1 K := by
  obtain ⟨hl, ht, hz⟩ := hl
  intro X hX
  have hlen : (marks2 1 l).length = l.length := marks2_len _ _
  have key : X ((1 + tot (l.take 0) : Nat) : Int) ((0 : Nat) : Int) := by
    refine up (Y := fun i => X ((1 + tot (l.take i) : Nat) : Int) (i : Int)) l.length ?_ fun i hi hn => ?_
    · refine hX _ _ ⟨fun c => absurd c (by omega), fun _ => ?_⟩
      rw [List.take_length]; exact h
    · refine hX _ _ ⟨fun _ => ⟨⟨by omega, by omega⟩, ?_⟩, fun c => absurd (show (i : Int) < _ by omega) c⟩
      have hle := tot_take_le l (i + 1)
      have htk := tot_take hi
      rw [nn, marks2_at 1 l i hi, w1 (by omega)]
      refine heldFloat32S_wp (hz _ (List.getElem_mem hi)) (by omega) (tN (by omega) ?_)
      rw [htk, ← Nat.add_assoc] at hn
      exact hn
  have h0 : tot (l.take 0) = 0 := by simp [tot]
  rw [h0] at key
  simpa using key
def lineLen (n : Nat) : Bool := decide (n = 1) || decide (n = 3) || decide (n = 7) || decide (n = 15) || decide (n = 31) || decide (n = 63)
def isLn (l : List Nat) : Bool := lineLen l.length && pAll l
theorem line_bits : ∀ n : Nat, n < 65 → 2 ≤ n → decide (ibits .and .i64 (n : Int) (IntKind.i64.wrap ((n : Int) - 1)) = 0) = lineLen (n - 1) := by decide +kernel
theorem ln_yes {l : List Nat} (h : l.length = 1 ∨ l.length = 3 ∨ l.length = 7 ∨ l.length = 15 ∨ l.length = 31 ∨ l.length = 63) : isLn l = pAll l := by
  have : lineLen l.length = true := by simp [lineLen]; omega
  rw [isLn, this, Bool.true_and]
theorem ln_no {l : List Nat} (h : ¬ (l.length = 1 ∨ l.length = 3 ∨ l.length = 7 ∨ l.length = 15 ∨ l.length = 31 ∨ l.length = 63)) : isLn l = false := by
  have : lineLen l.length = false := by simp [lineLen]; omega
  rw [isLn, this, Bool.false_and]
theorem ln_len {l : List Nat} (h : isLn l = true) : 1 ≤ l.length ∧ l.length ≤ 63 := by
  simp only [isLn, Bool.and_eq_true, lineLen, Bool.or_eq_true, decide_eq_true_eq] at h; omega
theorem spec_l07Line_wp {l : List Nat} {K : Bool → Prop} (hl : l.length ≤ 2 ^ 20) (h : K (isLn l)) : spec_l07Line.wp l K := by
  have y : (l.length = 1 ∨ l.length = 3 ∨ l.length = 7 ∨ l.length = 15 ∨ l.length = 31 ∨ l.length = 63) → spec_l02Finite.wp l (fun b => K b) := fun e => spec_l02Finite_wp hl (by rw [ln_yes e] at h; exact h)
  refine ⟨fun c => y (by omega), fun c1 => ⟨fun c => y (by omega), fun c2 => ⟨fun c => y (by omega), fun c3 => ⟨fun c => y (by omega), fun c4 => ⟨fun c => y (by omega), fun c5 => ⟨fun c => y (by omega), fun c6 => ?_⟩⟩⟩⟩⟩⟩
  rw [ln_no (by omega)] at h; exact h
theorem impl_isLine_wp {l : List Nat} {K : Bool → Prop} (hl : l.length ≤ 2 ^ 20) (h : K (isLn l)) : impl_isLine.wp l K := by
  have e : IntKind.i64.wrap ((l.length : Int) + 1) = ((l.length + 1 : Nat) : Int) := w1 (by omega)
  unfold impl_isLine.wp
  rw [e]
  refine ⟨fun c1 => ⟨fun c2 => ?_, fun c2 => ?_⟩, fun c1 => ?_⟩
  · have hb := line_bits (l.length + 1) (by omega) (by omega)
    rw [Nat.add_sub_cancel] at hb
    refine ⟨fun c3 => impl_areFinite1_wp hl ?_, fun c3 => ?_⟩
    · rw [decide_eq_true c3] at hb
      rw [isLn, ← hb, Bool.true_and] at h; exact h
    · rw [decide_eq_false c3] at hb
      rw [isLn, ← hb, Bool.false_and] at h; exact h
  · rw [ln_no (by omega)] at h; exact h
  · rw [ln_no (by omega)] at h; exact h
def force (s x : Nat) : Nat := fop .mul .f32 (fop .mul .f32 s s) x
def mq (d : Nat) : Nat := fop .quo .f32 (cz .f32 3212836864) d
/-- The first numbers of g and d. -/
def fw (f : List Nat) (s : Nat) : Nat → List Nat × List Nat
  | 0 => ([], [])
  | n + 1 => if n = 0 then ([force s (f.getD 0 0)], [cz .f32 1073741824]) else
      ((fw f s n).1 ++ [fop .sub .f32 (force s (f.getD n 0)) (fop .mul .f32 (mq ((fw f s n).2.getD (n - 1) 0)) ((fw f s n).1.getD (n - 1) 0))], (fw f s n).2 ++ [fop .add .f32 (cz .f32 1073741824) (mq ((fw f s n).2.getD (n - 1) 0))])
theorem fw_len (f : List Nat) (s : Nat) : ∀ n, (fw f s n).1.length = n ∧ (fw f s n).2.length = n
  | 0 => ⟨rfl, rfl⟩
  | n + 1 => by
    rw [fw]
    split
    · rename_i h; subst h; exact ⟨rfl, rfl⟩
    · have := fw_len f s n
      simp only [List.length_append, List.length_cons, List.length_nil, this]; exact ⟨trivial, trivial⟩
def bkS (n : Nat) (g d : List Nat) (u : List Nat) (i : Nat) : List Nat := u.set i (fop .quo .f32 (if i + 1 < n then fop .add .f32 (g.getD i 0) (u.getD (i + 1) 0) else g.getD i 0) (d.getD i 0))
def bk (n : Nat) (g d : List Nat) : Nat → List Nat → List Nat
  | 0, u => u
  | k + 1, u => bk n g d k (bkS n g d u k)
theorem bkS_len (n : Nat) (g d u : List Nat) (i : Nat) : (bkS n g d u i).length = u.length := by simp [bkS]
theorem bk_len (n : Nat) (g d : List Nat) : ∀ (k : Nat) (u : List Nat), (bk n g d k u).length = u.length
  | 0, _ => rfl
  | k + 1, u => by rw [bk, bk_len, bkS_len]
theorem bk_loop {n : Nat} {g d : List Nat} {X : List Nat → Int → Prop} {E : List Nat → Prop} (hn : n ≤ 64) (hg : g.length = n) (hd : d.length = n) (hX : ∀ (u : List Nat) (i : Int), (((0 : Int) ≤ i → (0 ≤ i ∧ i < (g.length : Int)) ∧ (((IntKind.i64.wrap (i + (1 : Int))) < (n : Int) → (0 ≤ (IntKind.i64.wrap (i + (1 : Int))) ∧ (IntKind.i64.wrap (i + (1 : Int))) < (u.length : Int)) ∧ (0 ≤ i ∧ i < (d.length : Int)) ∧ (0 ≤ i ∧ i < (u.length : Int)) ∧ X (u.set (i).toNat (fop .quo .f32 (fop .add .f32 (g.getD (i).toNat (0 : Nat)) (u.getD ((IntKind.i64.wrap (i + (1 : Int)))).toNat (0 : Nat))) (d.getD (i).toNat (0 : Nat)))) (IntKind.i64.wrap (i - (1 : Int)))) ∧ (¬((IntKind.i64.wrap (i + (1 : Int))) < (n : Int)) → (0 ≤ i ∧ i < (d.length : Int)) ∧ (0 ≤ i ∧ i < (u.length : Int)) ∧ X (u.set (i).toNat (fop .quo .f32 (g.getD (i).toNat (0 : Nat)) (d.getD (i).toNat (0 : Nat)))) (IntKind.i64.wrap (i - (1 : Int)))))) ∧ (¬((0 : Int) ≤ i) → E u)) → X u i) :
    ∀ (k : Nat) (u : List Nat), k ≤ n → u.length = n → E (bk n g d k u) → X u (IntKind.i64.wrap ((k : Int) - 1))
  | 0, u, _, _, h => by rw [wI (by omega)]; exact hX _ _ ⟨fun c => absurd c (by omega), fun _ => h⟩
  | k + 1, u, hk, hu, h => by
    have ih := bk_loop hn hg hd hX k (bkS n g d u k) (by omega) (by rw [bkS_len]; exact hu) h
    rw [show (((k + 1 : Nat) : Int) - 1) = (k : Int) by omega, wI (n := (k : Int)) (by omega)]
    refine hX _ _ ⟨fun _ => ⟨by omega, fun c => ?_, fun c => ?_⟩, fun c => absurd (show (0 : Int) ≤ k by omega) c⟩
    · rw [w1 (by omega)] at c ⊢
      refine ⟨by omega, by omega, by omega, ?_⟩
      rw [bkS, if_pos (by omega)] at ih
      exact ih
    · rw [w1 (by omega)] at c
      refine ⟨by omega, by omega, ?_⟩
      rw [bkS, if_neg (by omega)] at ih
      exact ih
def slv (f : List Nat) (s : Nat) : List Nat := bk f.length (fw f s f.length).1 (fw f s f.length).2 f.length (List.replicate f.length 0)
theorem slv_len (f : List Nat) (s : Nat) : (slv f s).length = f.length := by rw [slv, bk_len, List.length_replicate]
theorem spec_l07Solve_wp {l : List Nat} {s : Nat} {K : List Nat → Prop} (h1 : 1 ≤ l.length ∧ l.length ≤ 63) (h : K (slv l s)) : spec_l07Solve.wp l s K := by
  refine ⟨by omega, fun X hX => ?_⟩
  have key : X (fw l s (0 + 1)).1 (fw l s (0 + 1)).2 ((0 + 1 : Nat) : Int) := by
    refine up (Y := fun i => X (fw l s (i + 1)).1 (fw l s (i + 1)).2 ((i + 1 : Nat) : Int)) (l.length - 1) ?_ fun i hi hn => ?_
    · rw [show l.length - 1 + 1 = l.length by omega]
      obtain ⟨k1, k2⟩ := fw_len l s l.length
      refine hX _ _ _ ⟨fun c => absurd c (by omega), fun _ => ⟨⟨by omega, by omega, by omega, by omega⟩, fun Y hY => ?_⟩⟩
      exact bk_loop (by omega) k1 k2 hY l.length _ (Nat.le_refl _) (by rw [List.length_replicate]; rfl) h
    · obtain ⟨k1, k2⟩ := fw_len l s (i + 1)
      rw [show (((i + 1) + 1 : Nat) : Int) = ((i + 1 + 1 : Nat) : Int) from rfl] at hn
      rw [fw, if_neg (by omega), Nat.add_sub_cancel] at hn
      refine hX _ _ _ ⟨fun _ => ?_, fun c => absurd (show ((i + 1 : Nat) : Int) < l.length by omega) c⟩
      rw [show IntKind.i64.wrap (((i + 1 : Nat) : Int) - 1) = (i : Int) by rw [wI (by omega)]; omega, w1 (by omega), nn, nn, len1, len1]
      exact ⟨by omega, by omega, by omega, by omega, by omega, hn⟩
  exact key
/-- A line solved, and whether it could be. -/
def svOk (l : List Nat) (s : Nat) : Bool := isLn l && isOver s && pAll (slv l s)
def sv (l : List Nat) (s : Nat) : List Nat := bif svOk l s then slv l s else []
theorem sl_sv (l : List Nat) (s : Nat) (hl : l.length ≤ 2 ^ 20) : (∀ K : List Nat → Bool → Prop, K (sv l s) (svOk l s) → spec_SolveLine.wp l s K) ∧ (∀ K : List Nat → Bool → Prop, K (sv l s) (svOk l s) → impl_SolveLine.wp l s K) ∧ (sv l s).length ≤ 2 ^ 20 := by
  by_cases h1 : isLn l = true
  · have hn := ln_len h1
    by_cases h2 : isOver s = true
    · have eok : svOk l s = pAll (slv l s) := by simp [svOk, h1, h2]
      have esv : sv l s = bif pAll (slv l s) then slv l s else [] := by rw [sv, eok]
      rw [esv, eok]
      have hlen := slv_len l s
      have impl : ∀ K : List Nat → Bool → Prop, K (bif pAll (slv l s) then slv l s else []) (pAll (slv l s)) → impl_SolveLine.wp l s K := by
        intro K hK
        have hfin : impl_finiteList.wp (slv l s) (fun a b => (a = true → K (slv l s) b) ∧ (a = false → K [] b)) := impl_finiteList_wp (by omega) ⟨fun c => by rw [c] at hK ⊢; exact hK, fun c => by rw [c] at hK ⊢; exact hK⟩
        refine impl_isLine_wp hl (tE h1 (impl_isOver_wp (tE h2 fun X hX => ?_)))
        have key : X (fw l s 0).1 (fw l s 0).2 ((0 : Nat) : Int) := by
          refine up (Y := fun i => X (fw l s i).1 (fw l s i).2 (i : Int)) l.length ?_ fun i hi hn => ?_
          · obtain ⟨k1, k2⟩ := fw_len l s l.length
            refine hX _ _ _ ⟨fun c => absurd c (by omega), fun _ => ⟨⟨by omega, by omega, by omega, by omega⟩, fun Y hY => ?_⟩⟩
            refine bk_loop (by omega) k1 k2 hY l.length _ (Nat.le_refl _) (by rw [List.length_replicate]; rfl) hfin
          · obtain ⟨k1, k2⟩ := fw_len l s i
            refine hX _ _ _ ⟨fun _ => ⟨by omega, fun c => ?_, fun c => ?_⟩, fun c => absurd (show (i : Int) < l.length by omega) c⟩
            · obtain rfl : i = 0 := by omega
              rw [w1 (by omega), len1, len1]
              exact ⟨by omega, by omega, hn⟩
            · rw [fw, if_neg (by omega)] at hn
              rw [show IntKind.i64.wrap ((i : Int) - 1) = ((i - 1 : Nat) : Int) by rw [wI (by omega)]; omega, w1 (by omega), nn, nn, len1, len1]
              exact ⟨by omega, by omega, by omega, by omega, hn⟩
        exact key
      refine ⟨fun K hK => spec_l07Line_wp hl (tE h1 (spec_l02Above_wp (tE h2 (spec_l07Solve_wp hn (spec_l02Finite_wp (by omega) ⟨fun c => ?_, fun c => ?_⟩))))), impl, ?_⟩
      · rw [c] at hK; exact hK
      · rw [c] at hK; exact hK
      · cases pAll (slv l s)
        · exact Nat.zero_le _
        · show (slv l s).length ≤ _; omega
    · have h2 : isOver s = false := by simpa using h2
      have eok : svOk l s = false := by simp [svOk, h2]
      have esv : sv l s = [] := by rw [sv, eok]; rfl
      rw [esv, eok]
      exact ⟨fun K hK => spec_l07Line_wp hl (tE h1 (spec_l02Above_wp (tG h2 hK))), fun K hK => impl_isLine_wp hl (tE h1 (impl_isOver_wp (tG h2 hK))), Nat.zero_le _⟩
  · have h1 : isLn l = false := by simpa using h1
    have eok : svOk l s = false := by simp [svOk, h1]
    have esv : sv l s = [] := by rw [sv, eok]; rfl
    rw [esv, eok]
    exact ⟨fun K hK => spec_l07Line_wp hl (tG h1 hK), fun K hK => impl_isLine_wp hl (tG h1 hK), Nat.zero_le _⟩
theorem sv_some {l : List Nat} {s : Nat} (h : svOk l s = true) : sv l s ≠ [] := by
  have e : sv l s = slv l s := by rw [sv, h]; rfl
  have h1 : isLn l = true := by simp [svOk] at h; exact h.1.1
  have := ln_len h1
  intro hx
  rw [e] at hx
  have h2 := slv_len l s
  rw [hx] at h2
  simp at h2; omega
/-- Whether all can be solved. -/
def lsOk (l : Fl2) (s : Nat) (w : Int) : Bool := decide (l.length ≤ 8) && isOver s && decide (1 ≤ w ∧ w ≤ 8) && l.all fun x => svOk x s
def lsOut (l : Fl2) (s : Nat) (w : Int) : Fl2 := bif lsOk l s w then l.map fun x => sv x s else []
theorem sum_le : ∀ (l : Fl2), (∀ x ∈ l, x.length ≤ 2 ^ 20) → tot l ≤ l.length * 2 ^ 20
  | [], _ => by simp [tot]
  | x :: l, h => by
    have := sum_le l fun y hy => h y (List.mem_cons_of_mem _ hy)
    have h1 := h x (List.mem_cons_self ..)
    rw [tot_cons, List.length_cons]; omega
theorem lsOut_ok {l : Fl2} {s : Nat} {w : Int} (hl : FsOk l) : FsOk (lsOut l s w) := by
  unfold lsOut
  cases h : lsOk l s w with
  | false => exact ⟨Nat.zero_le _, by simp [tot], fun z hz => absurd hz (List.not_mem_nil)⟩
  | true =>
    have h8 : l.length ≤ 8 := by simp [lsOk] at h; exact h.1.1.1
    have hz : ∀ z ∈ l.map (fun x => sv x s), z.length ≤ 2 ^ 20 := fun z hz => by
      obtain ⟨x, hx, rfl⟩ := List.mem_map.1 hz
      exact (sl_sv x s (hl.2.2 x hx)).2.2
    have := sum_le _ hz
    rw [List.length_map] at this
    exact ⟨by show (l.map _).length ≤ _; rw [List.length_map]; omega, by show tot (l.map _) ≤ _; omega, hz⟩
theorem spec_ls {l : Fl2} {s : Nat} {w : Int} {K : Fl2 → Bool → Prop} (hl : FsOk l) (h : K (lsOut l s w) (lsOk l s w)) : spec_LinesShared.wp l s w K := by
  by_cases h8 : l.length ≤ 8
  · refine tN (by omega) (spec_l02Above_wp ?_)
    cases hs : isOver s with
    | false => exact tF (by have e : lsOk l s w = false := by simp [lsOk, hs]
                            rw [lsOut, e] at h; exact h)
    | true =>
      refine tT (spec_l00In_wp ?_)
      by_cases hw : 1 ≤ w ∧ w ≤ 8
      · refine tE (decide_eq_true hw) fun X hX => ?_
        have e : lsOk l s w = l.all fun x => svOk x s := by simp [lsOk, hs, hw, h8]
        rw [lsOut, e] at h
        have key : ∀ (d i : Nat), i + d = l.length → (∀ x ∈ l.take i, svOk x s = true) → X ((l.take i).map fun x => sv x s) (i : Int) := by
          intro d
          induction d with
          | zero =>
            intro i h1 h2
            obtain rfl : i = l.length := by omega
            rw [List.take_length] at h2 ⊢
            have e2 : (l.all fun x => svOk x s) = true := List.all_eq_true.2 h2
            rw [e2] at h
            exact hX _ _ ⟨fun c => absurd c (by omega), fun _ => h⟩
          | succ d ih =>
            intro i h1 h2
            have hi : i < l.length := by omega
            refine hX _ _ ⟨fun _ => ⟨⟨by omega, by omega⟩, ?_⟩, fun c => absurd (show (i : Int) < l.length by omega) c⟩
            rw [nn, gD hi, w1 (by omega)]
            refine (sl_sv l[i] s (hl.2.2 _ (List.getElem_mem hi))).1 _ ?_
            cases ho : svOk l[i] s with
            | false =>
              refine tF ?_
              have e2 : (l.all fun x => svOk x s) = false := by
                rw [Bool.eq_false_iff]; intro hx
                rw [List.all_eq_true.1 hx _ (List.getElem_mem hi)] at ho; cases ho
              rw [e2] at h; exact h
            | true =>
              refine tT ⟨by rw [List.length_map, List.length_take, len1]; omega, ?_⟩
              have := ih (i + 1) (by omega) fun x hx => by
                rw [List.take_succ_eq_append_getElem hi, List.mem_append, List.mem_singleton] at hx
                rcases hx with hx | rfl
                · exact h2 x hx
                · exact ho
              rw [List.take_succ_eq_append_getElem hi, List.map_append] at this
              exact this
        exact key l.length 0 (by omega) (fun x hx => by simp at hx)
      · have e : lsOk l s w = false := by simp only [lsOk, decide_eq_false hw]; simp
        exact tG (decide_eq_false hw) (by rw [lsOut, e] at h; exact h)
  · have e : lsOk l s w = false := by simp [lsOk, h8]
    exact tP (by omega) (by rw [lsOut, e] at h; exact h)
theorem impl_ls {l : Fl2} {s : Nat} {w : Int} {K : Fl2 → Bool → Prop} (hl : FsOk l) (h : K (lsOut l s w) (lsOk l s w)) : impl_LinesShared.wp l s w K := by
  by_cases h8 : l.length ≤ 8
  · refine tN (by omega) (impl_isOver_wp ?_)
    cases hs : isOver s with
    | false => exact tF (by have e : lsOk l s w = false := by simp [lsOk, hs]
                            rw [lsOut, e] at h; exact h)
    | true =>
      refine tT (impl_within_wp ?_)
      by_cases hw : 1 ≤ w ∧ w ≤ 8
      · have e : lsOk l s w = l.all fun x => svOk x s := by simp [lsOk, hs, hw, h8]
        rw [lsOut, e] at h
        refine tE (decide_eq_true hw) ⟨w.toNat, by omega, by omega, by omega, fun o => sv (l.getD o []) s, fun o => svOk (l.getD o []) s, fun o ho K' hK => (sl_sv _ s (by rw [gD ho]; exact hl.2.2 _ (List.getElem_mem ho))).2.1 _ hK, ?_⟩
        have emap : ((List.range l.length).map fun o => sv (l.getD o []) s) = l.map fun x => sv x s := by
          apply List.ext_getElem (by simp)
          intro i h1 h2
          simp at h1
          simp [List.getElem?_eq_getElem h1]
        rw [emap]
        cases ha : (l.all fun x => svOk x s) with
        | true =>
          rw [ha] at h
          have h2 : ∀ o, o < l.length → svOk (l.getD o []) s = true := fun o ho => by rw [gD ho]; exact List.all_eq_true.1 ha _ (List.getElem_mem ho)
          exact .inl ⟨h2, fun o ho => sv_some (h2 o ho), h⟩
        | false =>
          rw [ha] at h
          refine .inr ⟨fun hx => ?_, h⟩
          have : (l.all fun x => svOk x s) = true := List.all_eq_true.2 fun x hx' => by
            obtain ⟨i, hi, rfl⟩ := List.getElem_of_mem hx'
            have := hx i hi
            show svOk l[i] s = true
            rw [← gD hi ([] : List Nat)]; exact this
          rw [ha] at this; cases this
      · have e : lsOk l s w = false := by simp only [lsOk, decide_eq_false hw]; simp
        exact tG (decide_eq_false hw) (by rw [lsOut, e] at h; exact h)
  · have e : lsOk l s w = false := by simp [lsOk, h8]
    exact tP (by omega) (by rw [lsOut, e] at h; exact h)
-- HYPS: 0
-- HYPE: 0
theorem pureExactLinesShared (l0 : List (List Nat)) (a1 : Nat) (a2 : Int) (hm : l0.length ≤ maxLen) (hin : FsIn l0) : laws_FnExactLinesShared.wp l0 a1 a2 (fun b => b = true) := by
  refine szFloat32SS_wp hm hin (tP (by omega) rfl) fun hl m hm => tN (by omega) ?_
  have hb := lsOut_ok (s := a1) (w := a2) hl
  refine toFloat32SS_wp hl (spec_ls hl (toFloat32SS_wp hl (impl_ls hl (eqFloat32SS_wp hb (tT (tB (toFloat32SS_wp hl (eqFloat32SS_wp hl (tT (markFloat32SS_wp hl (tN (by omega) (eqFloat32SS_wp hb (tT ?_)))))))))))))
  exact markFloat32SS_wp hb (heldFloat32SS_wp hb (tN (by omega) (tP rfl (toFloat32SS_wp hl (impl_ls hl (eqFloat32SS_wp hb (tT (tB (heldFloat32SS_wp hb (tN (by omega) (tP rfl rfl)))))))))))
end Go.Proofs.Ytochgocgmeeppaa.G
