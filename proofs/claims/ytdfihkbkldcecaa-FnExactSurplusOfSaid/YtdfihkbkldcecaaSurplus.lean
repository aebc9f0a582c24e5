/-
  SurplusOf in both packages, as contracts. By an AI agent; nothing here is trusted.
-/
import Derived.Test.YtdfihkbkldcecaaFromSurplus
namespace Go.Proofs.Ytdfihkbkldcecaa.W
open Go Go.Ab Go.Proofs Go.Proofs.Ytdfihkbkldcecaa
set_option maxRecDepth 100000
set_option linter.unusedSimpArgs false
set_option linter.unusedVariables false
set_option maxHeartbeats 4000000

/-- The lowest bit. -/
def low (p : Nat) : Nat := if p % 2 = 1 then 1 else if p % 4 = 2 then 2 else if p % 8 = 4 then 4 else if p % 16 = 8 then 8 else if p % 32 = 16 then 16 else if p % 64 = 32 then 32 else 64
theorem low_bits : ∀ p : Nat, p < 65 → 1 ≤ p → ibits .and .i64 (p : Int) (IntKind.i64.wrap (0 - (p : Int))) = (low p : Int) := by decide +kernel
def surAt (l : List Nat) (i h : Nat) : Nat := fop .sub .f32 (l.getD i 0) (half (fop .add .f32 (l.getD (i - h) 0) (l.getD (i + h) 0)))
/-- All below i done. -/
def surI (l : List Nat) (i : Nat) : List Nat := (List.range l.length).map fun p => if 0 < p ∧ p + 1 < l.length ∧ p < i then surAt l p (low p) else l.getD p 0
/-- All levels below h done, and level h below i. -/
def surH (l : List Nat) (h i : Nat) : List Nat := (List.range l.length).map fun p => if 0 < p ∧ p + 1 < l.length ∧ (p % h ≠ 0 ∨ (p % (2 * h) = h ∧ p < i)) then surAt l p (low p) else l.getD p 0
def surL (l : List Nat) : List Nat := surI l l.length
theorem surI_len (l : List Nat) (i : Nat) : (surI l i).length = l.length := by simp [surI]
theorem surH_len (l : List Nat) (h i : Nat) : (surH l h i).length = l.length := by simp [surH]
theorem surL_len (l : List Nat) : (surL l).length = l.length := surI_len ..
theorem surI_step (l : List Nat) {i : Nat} (h0 : 0 < i) (hi : i + 1 < l.length) : (surI l i).set i (surAt l i (low i)) = surI l (i + 1) := by
  apply List.ext_getElem (by simp [surI])
  intro p h1 h2
  have hp : p < l.length := by simpa [surI] using h2
  rw [List.getElem_set]
  simp only [surI, List.getElem_map, List.getElem_range]
  by_cases he : i = p
  · subst he; rw [if_pos rfl, if_pos ⟨h0, hi, by omega⟩]
  · rw [if_neg he]
    by_cases hc : 0 < p ∧ p + 1 < l.length ∧ p < i
    · rw [if_pos hc, if_pos ⟨hc.1, hc.2.1, by omega⟩]
    · rw [if_neg hc, if_neg (fun h => hc ⟨h.1, h.2.1, by omega⟩)]
theorem surI_0 (l : List Nat) : surI l 1 = l := by
  apply List.ext_getElem (by simp [surI])
  intro p h1 h2
  simp only [surI, List.getElem_map, List.getElem_range]
  rw [if_neg (by omega), getD_in0 l h2]
theorem surI_end (l : List Nat) {i : Nat} (hi : l.length ≤ i + 1) : surI l i = surL l := by
  apply List.ext_getElem (by simp [surI, surL])
  intro p h1 h2
  have hp : p < l.length := by simpa [surI] using h1
  simp only [surI, surL, List.getElem_map, List.getElem_range]
  by_cases hc : 0 < p ∧ p + 1 < l.length ∧ p < i
  · rw [if_pos hc, if_pos ⟨hc.1, hc.2.1, hp⟩]
  · rw [if_neg hc, if_neg (fun h => hc ⟨h.1, h.2.1, by omega⟩)]
def isPw (h : Nat) : Prop := h = 1 ∨ h = 2 ∨ h = 4 ∨ h = 8 ∨ h = 16 ∨ h = 32 ∨ h = 64
theorem low_of {h i : Nat} (hh : isPw h) (hi : i % (2 * h) = h) (hs : i < 65) : low i = h := by
  rcases hh with rfl | rfl | rfl | rfl | rfl | rfl | rfl <;> simp only [low] <;> (repeat' split) <;> omega
theorem surH_step (l : List Nat) {h i : Nat} (hh : isPw h) (him : i % (2 * h) = h) (hi : i + 1 < l.length) (hl : l.length ≤ 65) : (surH l h i).set i (surAt l i h) = surH l h (i + 2 * h) := by
  have hlow := low_of hh him (by omega)
  have h0 : 0 < i := by
    rcases hh with rfl | rfl | rfl | rfl | rfl | rfl | rfl <;> omega
  apply List.ext_getElem (by simp [surH])
  intro p h1 h2
  rw [List.getElem_set]
  simp only [surH, List.getElem_map, List.getElem_range]
  by_cases he : i = p
  · subst he
    rw [if_pos rfl, if_pos ⟨h0, hi, .inr ⟨him, by rcases hh with rfl | rfl | rfl | rfl | rfl | rfl | rfl <;> omega⟩⟩, hlow]
  · rw [if_neg he]
    have key : (p % h ≠ 0 ∨ (p % (2 * h) = h ∧ p < i)) ↔ (p % h ≠ 0 ∨ (p % (2 * h) = h ∧ p < i + 2 * h)) := by
      rcases hh with rfl | rfl | rfl | rfl | rfl | rfl | rfl <;> omega
    by_cases hc : 0 < p ∧ p + 1 < l.length ∧ (p % h ≠ 0 ∨ (p % (2 * h) = h ∧ p < i))
    · rw [if_pos hc, if_pos ⟨hc.1, hc.2.1, key.1 hc.2.2⟩]
    · rw [if_neg hc, if_neg (fun h => hc ⟨h.1, h.2.1, key.2 h.2.2⟩)]
theorem surH_up (l : List Nat) {h i : Nat} (hh : isPw h) (hi : l.length ≤ i + 1) : surH l h i = surH l (2 * h) (2 * h) := by
  apply List.ext_getElem (by simp [surH])
  intro p h1 h2
  have hp : p < l.length := by simpa [surH] using h1
  simp only [surH, List.getElem_map, List.getElem_range]
  have key : p + 1 < l.length → ((p % h ≠ 0 ∨ (p % (2 * h) = h ∧ p < i)) ↔ (p % (2 * h) ≠ 0 ∨ (p % (2 * (2 * h)) = 2 * h ∧ p < 2 * h))) := by
    intro hp'
    rcases hh with rfl | rfl | rfl | rfl | rfl | rfl | rfl <;> omega
  by_cases hc : 0 < p ∧ p + 1 < l.length ∧ (p % h ≠ 0 ∨ (p % (2 * h) = h ∧ p < i))
  · rw [if_pos hc, if_pos ⟨hc.1, hc.2.1, (key hc.2.1).1 hc.2.2⟩]
  · rw [if_neg hc, if_neg (fun h => hc ⟨h.1, h.2.1, (key h.2.1).2 h.2.2⟩)]
theorem surH_0 (l : List Nat) : surH l 1 1 = l := by
  apply List.ext_getElem (by simp [surH])
  intro p h1 h2
  simp only [surH, List.getElem_map, List.getElem_range]
  rw [if_neg (by omega), getD_in0 l h2]
theorem surH_end (l : List Nat) {h : Nat} (hh : isPw h) (hg : gridLen l.length = true) (hi : l.length ≤ 2 * h) : surH l h h = surL l := by
  have hn := grid_small hg
  apply List.ext_getElem (by simp [surH, surL, surI])
  intro p h1 h2
  have hp : p < l.length := by simpa [surH] using h1
  simp only [surH, surL, surI, List.getElem_map, List.getElem_range]
  have key : 0 < p → p + 1 < l.length → p % h ≠ 0 := by
    intro hp0 hp'
    rcases hh with rfl | rfl | rfl | rfl | rfl | rfl | rfl <;> omega
  by_cases hc : 0 < p ∧ p + 1 < l.length
  · rw [if_pos ⟨hc.1, hc.2, .inl (key hc.1 hc.2)⟩, if_pos ⟨hc.1, hc.2, hp⟩]
  · rw [if_neg (fun h => hc ⟨h.1, h.2.1⟩), if_neg (fun h => hc ⟨h.1, h.2.1⟩)]
def surF (l : List Nat) : Option (List Nat) := if isGr l = true ∧ allFin (surL l) = true then some (surL l) else none

theorem l07Surplus_ok (l : List Nat) (id off : Nat) (H : Heap) (hr0 : Ab.Row H id off (eF l)) (hg : gridLen l.length = true) :
    Ok Try.prog 49 [.v (.sl id off l.length 1)] H (.v (.sl H.n 0 l.length 1)) (H.alloc (.own (eF (surL l)))) := by
  have hn := grid_small hg
  have hl : l.length ≤ 2 ^ 20 := by omega
  refine Ok.of_fin (fn := Try.f49) (c := _) F.hm Try.func49 rfl Try.call49 (by kernel_rfl) (by simp) ?_
  show Ab.Fin _ _ _ _ (Ab.Ends Try.prog Try.f49 _ _ _)
  have e1 : IntKind.i64.wrap ((l.length : Int) - 1) = ((l.length - 1 : Nat) : Int) := by rw [wrap_i64 (by omega) (by omega)]; omega
  simp only [go_sem, ↓reduceIte, reduceCtorEq, Nat.reduceEqDiff, Nat.reduceAdd, Nat.reduceSub, Nat.reduceMul, Nat.reduceLeDiff, Int.reduceLT, Int.reduceLE, Int.reduceNeg, Int.reduceEq, Int.reduceAdd, Int.reduceSub, Int.reduceMul, Int.reduceToNat, Int.natCast_one, ne_eq, not_true_eq_false, not_false_eq_true, Bool.false_eq_true, Int.toNat_natCast, app_copy hr0 hl]
  rw [Fin_loop]
  refine Fin_rule (fun m s H' => ∃ h, m + h = 64 ∧ isPw h ∧ s 0 = .v (.sl id off l.length 1) ∧ s 3 = .v (.sl (H.n + 1) 0 l.length 1) ∧ s 4 = .v (.int .i64 l.length) ∧ s 5 = .v (.int .i64 h) ∧ H'.n = H.n + 2 ∧ H'.f (H.n + 1) = .own (eF (surH l h h)) ∧ ∀ i, i < H.n → H'.f i = H.f i)
    63 ⟨1, rfl, .inl rfl, by simp only [go_sem, ↓reduceIte, reduceCtorEq, Nat.reduceEqDiff], by simp only [go_sem, ↓reduceIte, reduceCtorEq, Nat.reduceEqDiff], by simp only [go_sem, ↓reduceIte, reduceCtorEq, Nat.reduceEqDiff], by simp only [go_sem, ↓reduceIte, reduceCtorEq, Nat.reduceEqDiff, Int.natCast_one], rfl, by simp only [go_sem, ↓reduceIte, surH_0], fun i hi => by simp only [go_sem, ↓reduceIte, ne_add hi, ne_self hi]⟩ ?_
  rintro m s H' ⟨h, hm, hpw, s0, s3, s4, s5, hn2, hf, hx⟩ next
  have hh64 : 1 ≤ h ∧ h ≤ 64 := by rcases hpw with rfl | rfl | rfl | rfl | rfl | rfl | rfl <;> omega
  have e5 : IntKind.i64.wrap (2 * (h : Int)) = ((2 * h : Nat) : Int) := by rw [wrap_i64 (by omega) (by omega)]; omega
  have e7 : IntKind.i64.wrap ((h : Int) * 2) = ((2 * h : Nat) : Int) := by rw [wrap_i64 (by omega) (by omega)]; omega
  by_cases h1 : ((2 * h : Nat) : Int) < (l.length : Int)
  case neg =>
    have hT := surH_end l hpw hg (by omega)
    rw [hT] at hf
    simp only [go_sem, ↓reduceIte, reduceCtorEq, Nat.reduceEqDiff, Nat.reduceAdd, Nat.reduceSub, Nat.reduceMul, Nat.reduceLeDiff, Int.reduceLT, Int.reduceLE, Int.reduceNeg, Int.reduceEq, Int.reduceAdd, Int.reduceSub, Int.reduceMul, Int.reduceToNat, Int.natCast_one, ne_eq, not_true_eq_false, not_false_eq_true, Bool.false_eq_true, Int.toNat_natCast, s3, s4, s5, e5, h1]
    refine Ab.Ends.one (N := H.n + 1) ?_ (by omega) (by omega) hf hx (eF_plain _) (by simp [TV.refs, AV.refs])
    simp only [resultOf, Try.f49, go_sem, ↓reduceIte, reduceCtorEq, Nat.reduceEqDiff, Nat.reduceAdd, Nat.reduceSub, Nat.reduceMul, Nat.reduceLeDiff, Int.reduceLT, Int.reduceLE, Int.reduceNeg, Int.reduceEq, Int.reduceAdd, Int.reduceSub, Int.reduceMul, Int.reduceToNat, Int.natCast_one, ne_eq, not_true_eq_false, not_false_eq_true, Bool.false_eq_true, Int.toNat_natCast, TV.ren, AV.ren, Nat.lt_irrefl]
  have hpw2 : isPw (2 * h) := by
    rcases hpw with rfl | rfl | rfl | rfl | rfl | rfl | rfl <;> first | omega | simp [isPw]
  simp only [go_sem, ↓reduceIte, reduceCtorEq, Nat.reduceEqDiff, Nat.reduceAdd, Nat.reduceSub, Nat.reduceMul, Nat.reduceLeDiff, Int.reduceLT, Int.reduceLE, Int.reduceNeg, Int.reduceEq, Int.reduceAdd, Int.reduceSub, Int.reduceMul, Int.reduceToNat, Int.natCast_one, ne_eq, not_true_eq_false, not_false_eq_true, Bool.false_eq_true, Int.toNat_natCast, s3, s4, s5, e5, h1]
  rw [Fin_loop]
  refine Fin_rule (fun m2 s H' => ∃ i, m2 + i = l.length + h ∧ i % (2 * h) = h ∧ s 0 = .v (.sl id off l.length 1) ∧ s 3 = .v (.sl (H.n + 1) 0 l.length 1) ∧ s 4 = .v (.int .i64 l.length) ∧ s 5 = .v (.int .i64 h) ∧ s 6 = .v (.int .i64 i) ∧ H'.n = H.n + 2 ∧ H'.f (H.n + 1) = .own (eF (surH l h i)) ∧ ∀ i, i < H.n → H'.f i = H.f i)
    l.length ⟨h, rfl, Nat.mod_eq_of_lt (by omega), by simp only [go_sem, ↓reduceIte, reduceCtorEq, Nat.reduceEqDiff, s0], by simp only [go_sem, ↓reduceIte, reduceCtorEq, Nat.reduceEqDiff, s3], by simp only [go_sem, ↓reduceIte, reduceCtorEq, Nat.reduceEqDiff, s4], by simp only [go_sem, ↓reduceIte, reduceCtorEq, Nat.reduceEqDiff, s5], by simp only [go_sem, ↓reduceIte, reduceCtorEq, Nat.reduceEqDiff], hn2, hf, hx⟩ ?_
  rintro m2 s H2 ⟨i, him, himod, s0, s3, s4, s5, s6, hn3, hf2, hx2⟩ next2
  have hr := hr0.mono (by omega) (hx2 id hr0.lt)
  by_cases hi : (i : Int) < ((l.length - 1 : Nat) : Int)
  · have hbd : h ≤ i ∧ i + h < l.length := by
      rcases hpw with rfl | rfl | rfl | rfl | rfl | rfl | rfl <;> omega
    obtain ⟨hb1, hb2⟩ := hbd
    have a1 : IntKind.i64.wrap ((i : Int) - (h : Int)) = ((i - h : Nat) : Int) := by rw [wrap_i64 (by omega) (by omega)]; omega
    have a2 : IntKind.i64.wrap ((i : Int) + (h : Int)) = ((i + h : Nat) : Int) := by rw [wrap_i64 (by omega) (by omega)]; omega
    have a3 : IntKind.i64.wrap ((i : Int) + ((2 * h : Nat) : Int)) = ((i + 2 * h : Nat) : Int) := by rw [wrap_i64 (by omega) (by omega)]; omega
    have b1 : (0 : Int) ≤ ((i - h : Nat) : Int) := by omega
    have b2 : ((i - h : Nat) : Int) < (l.length : Int) := by omega
    have b3 : (0 : Int) ≤ ((i + h : Nat) : Int) := by omega
    have b4 : ((i + h : Nat) : Int) < (l.length : Int) := by omega
    have b5 : (0 : Int) ≤ (i : Int) := by omega
    have b6 : (i : Int) < (l.length : Int) := by omega
    have c1 := hr.atF (i := i - h) (by omega)
    have c2 := hr.atF (i := i + h) (by omega)
    have c3 := hr.atF (i := i) (by omega)
    have w := fun H' x => @wrF H' (H.n + 1) i x (surH l h i) (by rw [surH_len]; omega)
    have hs : (surH l h i).set i (fop .sub .f32 l[i] (fop .mul .f32 1056964608 (fop .add .f32 l[i - h] l[i + h]))) = surH l h (i + 2 * h) := by
      rw [← surH_step l hpw himod (by omega) (by omega), surAt, getD_in0 l (i := i) (by omega), getD_in0 l (i := i - h) (by omega), getD_in0 l (i := i + h) (by omega)]; rfl
    simp only [go_sem, ↓reduceIte, reduceCtorEq, Nat.reduceEqDiff, Nat.reduceAdd, Nat.reduceSub, Nat.reduceMul, Nat.reduceLeDiff, Int.reduceLT, Int.reduceLE, Int.reduceNeg, Int.reduceEq, Int.reduceAdd, Int.reduceSub, Int.reduceMul, Int.reduceToNat, Int.natCast_one, ne_eq, not_true_eq_false, not_false_eq_true, Bool.false_eq_true, Int.toNat_natCast, s0, s3, s4, s5, s6, e1, hi, a1, a2, b1, b2, b3, b4, b5, b6, hf2, c1, c2, c3, Nat.mul_one, cz_half, w, hs]
    rw [stepTo_bar (by kernel_rfl)]
    simp only [go_sem, ↓reduceIte, reduceCtorEq, Nat.reduceEqDiff, Nat.reduceAdd, Nat.reduceSub, Nat.reduceMul, Nat.reduceLeDiff, Int.reduceLT, Int.reduceLE, Int.reduceNeg, Int.reduceEq, Int.reduceAdd, Int.reduceSub, Int.reduceMul, Int.reduceToNat, Int.natCast_one, ne_eq, not_true_eq_false, not_false_eq_true, Bool.false_eq_true, Int.toNat_natCast, s0, s3, s4, s5, s6, e5, a3]
    refine next2 (m2 - 2 * h) _ _ (by omega) ⟨i + 2 * h, by omega, by rw [Nat.add_mod_right]; exact himod, ?_, ?_, ?_, ?_, ?_, ?_, ?_, fun j hj => ?_⟩
    · simp only [go_sem, ↓reduceIte, reduceCtorEq, Nat.reduceEqDiff, s0]
    · simp only [go_sem, ↓reduceIte, reduceCtorEq, Nat.reduceEqDiff, s3]
    · simp only [go_sem, ↓reduceIte, reduceCtorEq, Nat.reduceEqDiff, s4]
    · simp only [go_sem, ↓reduceIte, reduceCtorEq, Nat.reduceEqDiff, s5]
    · simp only [go_sem, ↓reduceIte, reduceCtorEq, Nat.reduceEqDiff]
    · simp only [go_sem]; exact hn3
    · simp only [go_sem, ↓reduceIte]
    · simp only [go_sem, ↓reduceIte, ne_add hj, hx2 j hj]
  · have hup := surH_up l hpw (i := i) (by omega)
    rw [hup] at hf2
    simp only [go_sem, ↓reduceIte, reduceCtorEq, Nat.reduceEqDiff, Nat.reduceAdd, Nat.reduceSub, Nat.reduceMul, Nat.reduceLeDiff, Int.reduceLT, Int.reduceLE, Int.reduceNeg, Int.reduceEq, Int.reduceAdd, Int.reduceSub, Int.reduceMul, Int.reduceToNat, Int.natCast_one, ne_eq, not_true_eq_false, not_false_eq_true, Bool.false_eq_true, Int.toNat_natCast, s0, s3, s4, s5, s6, e1, hi, e7]
    refine next (m - h) _ _ (by omega) ⟨2 * h, by omega, hpw2, ?_, ?_, ?_, ?_, hn3, hf2, hx2⟩
    · simp only [go_sem, ↓reduceIte, reduceCtorEq, Nat.reduceEqDiff, s0]
    · simp only [go_sem, ↓reduceIte, reduceCtorEq, Nat.reduceEqDiff, s3]
    · simp only [go_sem, ↓reduceIte, reduceCtorEq, Nat.reduceEqDiff, s4]
    · simp only [go_sem, ↓reduceIte, reduceCtorEq, Nat.reduceEqDiff]
theorem sSurplusOf_ok (l : List Nat) (id off : Nat) (H : Heap) (hr : Ab.Row H id off (eF l)) (hl : l.length ≤ 2 ^ 20) :
    Ok Try.prog 27 [.v (.sl id off l.length 1)] H (optTV H.n (surF l)) (optH H (surF l)) := by
  refine Ok.of_fin (fn := Try.f27) (c := _) F.hm Try.func27 rfl Try.call27 (by kernel_rfl) (by simp) ?_
  show Ab.Fin _ _ _ _ (Ab.Ends Try.prog Try.f27 _ _ _)
  simp only [go_sem, ↓reduceIte, reduceCtorEq, Nat.reduceEqDiff, Nat.reduceAdd, Nat.reduceSub, Nat.reduceMul, Nat.reduceLeDiff, Int.reduceLT, Int.reduceLE, Int.reduceNeg, Int.reduceEq, Int.reduceAdd, Int.reduceSub, Int.reduceMul, Int.reduceToNat, Int.natCast_one, ne_eq, not_true_eq_false, not_false_eq_true, Bool.false_eq_true, Int.toNat_natCast]
  refine callG_intro (l07Grid_ok l _ _ _ hr hl) ?_
  rcases (isGr l).eq_false_or_eq_true with h1 | h1
  case inr =>
    have hf : surF l = none := by simp [surF, h1]
    simp only [go_sem, ↓reduceIte, reduceCtorEq, Nat.reduceEqDiff, Nat.reduceAdd, Nat.reduceSub, Nat.reduceMul, Nat.reduceLeDiff, Int.reduceLT, Int.reduceLE, Int.reduceNeg, Int.reduceEq, Int.reduceAdd, Int.reduceSub, Int.reduceMul, Int.reduceToNat, Int.natCast_one, ne_eq, not_true_eq_false, not_false_eq_true, Bool.false_eq_true, Int.toNat_natCast, h1, hf, optH]
    exact Ab.Ends.same (by simp only [resultOf, Try.f27, go_sem, ↓reduceIte, reduceCtorEq, Nat.reduceEqDiff, Nat.reduceAdd, Nat.reduceSub, Nat.reduceMul, Nat.reduceLeDiff, Int.reduceLT, Int.reduceLE, Int.reduceNeg, Int.reduceEq, Int.reduceAdd, Int.reduceSub, Int.reduceMul, Int.reduceToNat, Int.natCast_one, ne_eq, not_true_eq_false, not_false_eq_true, Bool.false_eq_true, Int.toNat_natCast, hf, optTV, downAll, TV.down]) (fun i hi => by first | rfl | simp only [go_sem, ne_add hi, ne_self hi]) (by first | exact Nat.le_refl _ | (simp only [go_sem]; omega)) (by simp [TV.refs, TV0.refs, AV.refs, hf, optTV, downAll, TV.down])
  have hs : gridLen l.length = true := by simp [isGr] at h1; exact h1.1
  simp only [go_sem, ↓reduceIte, reduceCtorEq, Nat.reduceEqDiff, Nat.reduceAdd, Nat.reduceSub, Nat.reduceMul, Nat.reduceLeDiff, Int.reduceLT, Int.reduceLE, Int.reduceNeg, Int.reduceEq, Int.reduceAdd, Int.reduceSub, Int.reduceMul, Int.reduceToNat, Int.natCast_one, ne_eq, not_true_eq_false, not_false_eq_true, Bool.false_eq_true, Int.toNat_natCast, h1]
  refine callG_intro (l07Surplus_ok l _ _ _ hr hs) ?_
  simp only [go_sem, ↓reduceIte, reduceCtorEq, Nat.reduceEqDiff, Nat.reduceAdd, Nat.reduceSub, Nat.reduceMul, Nat.reduceLeDiff, Int.reduceLT, Int.reduceLE, Int.reduceNeg, Int.reduceEq, Int.reduceAdd, Int.reduceSub, Int.reduceMul, Int.reduceToNat, Int.natCast_one, ne_eq, not_true_eq_false, not_false_eq_true, Bool.false_eq_true, Int.toNat_natCast]
  have hcl := surL_len l
  have q1 : Ab.Row (H.alloc (.own (eF (surL l)))) H.n 0 (eF (surL l)) := Ab.Row.of_f (Nat.lt_succ_self _) (by simp only [go_sem, ↓reduceIte])
  have hfin := l02Finite_ok (surL l) _ _ _ q1 (by rw [hcl]; omega)
  rw [hcl] at hfin
  refine callG_intro hfin ?_
  rcases (allFin (surL l)).eq_false_or_eq_true with h3 | h3
  · have hf : surF l = some (surL l) := by rw [surF, if_pos ⟨h1, h3⟩]
    simp only [go_sem, ↓reduceIte, reduceCtorEq, Nat.reduceEqDiff, Nat.reduceAdd, Nat.reduceSub, Nat.reduceMul, Nat.reduceLeDiff, Int.reduceLT, Int.reduceLE, Int.reduceNeg, Int.reduceEq, Int.reduceAdd, Int.reduceSub, Int.reduceMul, Int.reduceToNat, Int.natCast_one, ne_eq, not_true_eq_false, not_false_eq_true, Bool.false_eq_true, Int.toNat_natCast, h3, hf, optH]
    refine Ab.Ends.fresh ?_ (eF_plain _) (by simp [hf, optTV, TV.refs, TV0.refs, AV.refs])
    simp only [resultOf, Try.f27, go_sem, ↓reduceIte, reduceCtorEq, Nat.reduceEqDiff, Nat.reduceAdd, Nat.reduceSub, Nat.reduceMul, Nat.reduceLeDiff, Int.reduceLT, Int.reduceLE, Int.reduceNeg, Int.reduceEq, Int.reduceAdd, Int.reduceSub, Int.reduceMul, Int.reduceToNat, Int.natCast_one, ne_eq, not_true_eq_false, not_false_eq_true, Bool.false_eq_true, Int.toNat_natCast, hf, optTV, hcl, downAll, TV.down]
  · have hf : surF l = none := by simp [surF, h3]
    simp only [go_sem, ↓reduceIte, reduceCtorEq, Nat.reduceEqDiff, Nat.reduceAdd, Nat.reduceSub, Nat.reduceMul, Nat.reduceLeDiff, Int.reduceLT, Int.reduceLE, Int.reduceNeg, Int.reduceEq, Int.reduceAdd, Int.reduceSub, Int.reduceMul, Int.reduceToNat, Int.natCast_one, ne_eq, not_true_eq_false, not_false_eq_true, Bool.false_eq_true, Int.toNat_natCast, h3, hf, optH]
    exact Ab.Ends.same (by simp only [resultOf, Try.f27, go_sem, ↓reduceIte, reduceCtorEq, Nat.reduceEqDiff, Nat.reduceAdd, Nat.reduceSub, Nat.reduceMul, Nat.reduceLeDiff, Int.reduceLT, Int.reduceLE, Int.reduceNeg, Int.reduceEq, Int.reduceAdd, Int.reduceSub, Int.reduceMul, Int.reduceToNat, Int.natCast_one, ne_eq, not_true_eq_false, not_false_eq_true, Bool.false_eq_true, Int.toNat_natCast, hf, optTV, downAll, TV.down]) (fun i hi => by first | rfl | simp only [go_sem, ne_add hi, ne_self hi]) (by first | exact Nat.le_refl _ | (simp only [go_sem]; omega)) (by simp [TV.refs, TV0.refs, AV.refs, hf, optTV, downAll, TV.down])
theorem iSurplusOf_ok (l : List Nat) (id off : Nat) (H : Heap) (hr0 : Ab.Row H id off (eF l)) (hl : l.length ≤ 2 ^ 20) :
    Ok Try.prog 28 [.v (.sl id off l.length 1)] H (optTV H.n (surF l)) (optH H (surF l)) := by
  refine Ok.of_fin (fn := Try.f28) (c := _) F.hm Try.func28 rfl Try.call28 (by kernel_rfl) (by simp) ?_
  show Ab.Fin _ _ _ _ (Ab.Ends Try.prog Try.f28 _ _ _)
  simp only [go_sem, ↓reduceIte, reduceCtorEq, Nat.reduceEqDiff, Nat.reduceAdd, Nat.reduceSub, Nat.reduceMul, Nat.reduceLeDiff, Int.reduceLT, Int.reduceLE, Int.reduceNeg, Int.reduceEq, Int.reduceAdd, Int.reduceSub, Int.reduceMul, Int.reduceToNat, Int.natCast_one, ne_eq, not_true_eq_false, not_false_eq_true, Bool.false_eq_true, Int.toNat_natCast]
  refine callG_intro (isGrid_ok l _ _ _ hr0 hl) ?_
  rcases (isGr l).eq_false_or_eq_true with h0 | h0
  case inr =>
    have hf : surF l = none := by simp [surF, h0]
    simp only [go_sem, ↓reduceIte, reduceCtorEq, Nat.reduceEqDiff, Nat.reduceAdd, Nat.reduceSub, Nat.reduceMul, Nat.reduceLeDiff, Int.reduceLT, Int.reduceLE, Int.reduceNeg, Int.reduceEq, Int.reduceAdd, Int.reduceSub, Int.reduceMul, Int.reduceToNat, Int.natCast_one, ne_eq, not_true_eq_false, not_false_eq_true, Bool.false_eq_true, Int.toNat_natCast, h0, hf, optH]
    exact Ab.Ends.same (by simp only [resultOf, Try.f28, go_sem, ↓reduceIte, reduceCtorEq, Nat.reduceEqDiff, Nat.reduceAdd, Nat.reduceSub, Nat.reduceMul, Nat.reduceLeDiff, Int.reduceLT, Int.reduceLE, Int.reduceNeg, Int.reduceEq, Int.reduceAdd, Int.reduceSub, Int.reduceMul, Int.reduceToNat, Int.natCast_one, ne_eq, not_true_eq_false, not_false_eq_true, Bool.false_eq_true, Int.toNat_natCast, hf, optTV, downAll, TV.down]) (fun i hi => by first | rfl | simp only [go_sem, ne_add hi, ne_self hi]) (by first | exact Nat.le_refl _ | (simp only [go_sem]; omega)) (by simp [TV.refs, TV0.refs, AV.refs, hf, optTV, downAll, TV.down])
  have hg : gridLen l.length = true := by simp [isGr] at h0; exact h0.1
  have hn := grid_small hg
  have e1 : IntKind.i64.wrap ((l.length : Int) - 1) = ((l.length - 1 : Nat) : Int) := by rw [wrap_i64 (by omega) (by omega)]; omega
  simp only [go_sem, ↓reduceIte, reduceCtorEq, Nat.reduceEqDiff, Nat.reduceAdd, Nat.reduceSub, Nat.reduceMul, Nat.reduceLeDiff, Int.reduceLT, Int.reduceLE, Int.reduceNeg, Int.reduceEq, Int.reduceAdd, Int.reduceSub, Int.reduceMul, Int.reduceToNat, Int.natCast_one, ne_eq, not_true_eq_false, not_false_eq_true, Bool.false_eq_true, Int.toNat_natCast, h0]
  refine callG_intro (copyOf_ok l _ _ _ hr0 hl) ?_
  simp only [go_sem, ↓reduceIte, reduceCtorEq, Nat.reduceEqDiff, Nat.reduceAdd, Nat.reduceSub, Nat.reduceMul, Nat.reduceLeDiff, Int.reduceLT, Int.reduceLE, Int.reduceNeg, Int.reduceEq, Int.reduceAdd, Int.reduceSub, Int.reduceMul, Int.reduceToNat, Int.natCast_one, ne_eq, not_true_eq_false, not_false_eq_true, Bool.false_eq_true, Int.toNat_natCast]
  rw [Fin_loop]
  refine Fin_rule (fun m s H' => ∃ i, m + i = l.length ∧ 1 ≤ i ∧ s 0 = .v (.sl id off l.length 1) ∧ s 4 = .v (.sl H.n 0 l.length 1) ∧ s 5 = .v (.int .i64 i) ∧ H'.n = H.n + 1 ∧ H'.f H.n = .own (eF (surI l i)) ∧ ∀ i, i < H.n → H'.f i = H.f i)
    (l.length - 1) ⟨1, by omega, Nat.le_refl _, by simp only [go_sem, ↓reduceIte, reduceCtorEq, Nat.reduceEqDiff], by simp only [go_sem, ↓reduceIte, reduceCtorEq, Nat.reduceEqDiff], by simp only [go_sem, ↓reduceIte, reduceCtorEq, Nat.reduceEqDiff, Int.natCast_one], rfl, by simp only [go_sem, ↓reduceIte, surI_0], fun i hi => by simp only [go_sem, ↓reduceIte, ne_self hi]⟩ ?_
  rintro m s H' ⟨i, him, hi1, s0, s4, s5, hn2, hf, hx⟩ next
  have hr := hr0.mono (by omega) (hx id hr0.lt)
  by_cases hi : (i : Int) < ((l.length - 1 : Nat) : Int)
  · have hlo := low_bits i (by omega) hi1
    have hbd : low i ≤ i ∧ i + low i < l.length := by
      simp only [low]
      (repeat' split) <;> omega
    obtain ⟨hb1, hb2⟩ := hbd
    generalize hlw : low i = h at *
    have a1 : IntKind.i64.wrap ((i : Int) - (h : Int)) = ((i - h : Nat) : Int) := by rw [wrap_i64 (by omega) (by omega)]; omega
    have a2 : IntKind.i64.wrap ((i : Int) + (h : Int)) = ((i + h : Nat) : Int) := by rw [wrap_i64 (by omega) (by omega)]; omega
    have a3 := @wrap_succ i (by omega)
    have b1 : (0 : Int) ≤ ((i - h : Nat) : Int) := by omega
    have b2 : ((i - h : Nat) : Int) < (l.length : Int) := by omega
    have b3 : (0 : Int) ≤ ((i + h : Nat) : Int) := by omega
    have b4 : ((i + h : Nat) : Int) < (l.length : Int) := by omega
    have b5 : (0 : Int) ≤ (i : Int) := by omega
    have b6 : (i : Int) < (l.length : Int) := by omega
    have c1 := hr.atF (i := i - h) (by omega)
    have c2 := hr.atF (i := i + h) (by omega)
    have c3 := hr.atF (i := i) (by omega)
    have w := fun H' x => @wrF H' H.n i x (surI l i) (by rw [surI_len]; omega)
    have hs : (surI l i).set i (fop .sub .f32 l[i] (fop .mul .f32 1056964608 (fop .add .f32 l[i - h] l[i + h]))) = surI l (i + 1) := by
      rw [← surI_step l (by omega) (by omega), surAt, hlw, getD_in0 l (i := i) (by omega), getD_in0 l (i := i - h) (by omega), getD_in0 l (i := i + h) (by omega)]; rfl
    simp only [go_sem, ↓reduceIte, reduceCtorEq, Nat.reduceEqDiff, Nat.reduceAdd, Nat.reduceSub, Nat.reduceMul, Nat.reduceLeDiff, Int.reduceLT, Int.reduceLE, Int.reduceNeg, Int.reduceEq, Int.reduceAdd, Int.reduceSub, Int.reduceMul, Int.reduceToNat, Int.natCast_one, ne_eq, not_true_eq_false, not_false_eq_true, Bool.false_eq_true, Int.toNat_natCast, s0, s4, s5, e1, hi, hlo, a1, a2, b1, b2, b3, b4, b5, b6, hf, c1, c2, c3, Nat.mul_one, cz_two, quo_two, w, hs]
    rw [stepTo_bar (by kernel_rfl)]
    simp only [go_sem, ↓reduceIte, reduceCtorEq, Nat.reduceEqDiff, Nat.reduceAdd, Nat.reduceSub, Nat.reduceMul, Nat.reduceLeDiff, Int.reduceLT, Int.reduceLE, Int.reduceNeg, Int.reduceEq, Int.reduceAdd, Int.reduceSub, Int.reduceMul, Int.reduceToNat, Int.natCast_one, ne_eq, not_true_eq_false, not_false_eq_true, Bool.false_eq_true, Int.toNat_natCast, s0, s4, s5, a3]
    refine next (m - 1) _ _ (by omega) ⟨i + 1, by omega, by omega, ?_, ?_, ?_, ?_, ?_, fun j hj => ?_⟩
    · simp only [go_sem, ↓reduceIte, reduceCtorEq, Nat.reduceEqDiff, s0]
    · simp only [go_sem, ↓reduceIte, reduceCtorEq, Nat.reduceEqDiff, s4]
    · simp only [go_sem, ↓reduceIte, reduceCtorEq, Nat.reduceEqDiff]
    · simp only [go_sem]; exact hn2
    · simp only [go_sem, ↓reduceIte]
    · simp only [go_sem, ↓reduceIte, ne_self hj, hx j hj]
  · have hT := surI_end l (i := i) (by omega)
    rw [hT] at hf
    have hq : Ab.Row H' H.n 0 (eF (surL l)) := Ab.Row.of_f (by omega) (by rw [hf]; rfl)
    have hfin := finiteList_ok (surL l) H.n 0 H' hq (by rw [surL_len]; exact hl)
    rw [surL_len] at hfin
    simp only [go_sem, ↓reduceIte, reduceCtorEq, Nat.reduceEqDiff, Nat.reduceAdd, Nat.reduceSub, Nat.reduceMul, Nat.reduceLeDiff, Int.reduceLT, Int.reduceLE, Int.reduceNeg, Int.reduceEq, Int.reduceAdd, Int.reduceSub, Int.reduceMul, Int.reduceToNat, Int.natCast_one, ne_eq, not_true_eq_false, not_false_eq_true, Bool.false_eq_true, Int.toNat_natCast, s0, s4, s5, e1, hi]
    refine callG_intro hfin ?_
    rcases (allFin (surL l)).eq_false_or_eq_true with h3 | h3
    · have hF : surF l = some (surL l) := by rw [surF, if_pos ⟨h0, h3⟩]
      simp only [go_sem, ↓reduceIte, reduceCtorEq, Nat.reduceEqDiff, Nat.reduceAdd, Nat.reduceSub, Nat.reduceMul, Nat.reduceLeDiff, Int.reduceLT, Int.reduceLE, Int.reduceNeg, Int.reduceEq, Int.reduceAdd, Int.reduceSub, Int.reduceMul, Int.reduceToNat, Int.natCast_one, ne_eq, not_true_eq_false, not_false_eq_true, Bool.false_eq_true, Int.toNat_natCast, h3, hF, optH, finTV]
      refine Ab.Ends.one (N := H.n) ?_ (Nat.le_refl _) (by omega) hf hx (eF_plain _) (by simp [hF, optTV, TV.refs, TV0.refs, AV.refs])
      simp only [resultOf, Try.f28, go_sem, ↓reduceIte, reduceCtorEq, Nat.reduceEqDiff, Nat.reduceAdd, Nat.reduceSub, Nat.reduceMul, Nat.reduceLeDiff, Int.reduceLT, Int.reduceLE, Int.reduceNeg, Int.reduceEq, Int.reduceAdd, Int.reduceSub, Int.reduceMul, Int.reduceToNat, Int.natCast_one, ne_eq, not_true_eq_false, not_false_eq_true, Bool.false_eq_true, Int.toNat_natCast, hF, optTV, surL_len, downAll, TV.down, TV.ren, TV0.ren, AV.ren, Nat.lt_irrefl]
    · have hF : surF l = none := by simp [surF, h3]
      have hle : H.n ≤ H'.n := by omega
      simp only [go_sem, ↓reduceIte, reduceCtorEq, Nat.reduceEqDiff, Nat.reduceAdd, Nat.reduceSub, Nat.reduceMul, Nat.reduceLeDiff, Int.reduceLT, Int.reduceLE, Int.reduceNeg, Int.reduceEq, Int.reduceAdd, Int.reduceSub, Int.reduceMul, Int.reduceToNat, Int.natCast_one, ne_eq, not_true_eq_false, not_false_eq_true, Bool.false_eq_true, Int.toNat_natCast, h3, hF, optH, finTV]
      exact Ab.Ends.same (by simp only [resultOf, Try.f28, go_sem, ↓reduceIte, reduceCtorEq, Nat.reduceEqDiff, Nat.reduceAdd, Nat.reduceSub, Nat.reduceMul, Nat.reduceLeDiff, Int.reduceLT, Int.reduceLE, Int.reduceNeg, Int.reduceEq, Int.reduceAdd, Int.reduceSub, Int.reduceMul, Int.reduceToNat, Int.natCast_one, ne_eq, not_true_eq_false, not_false_eq_true, Bool.false_eq_true, Int.toNat_natCast, hF, optTV, downAll, TV.down]) (fun i hi => by simp only [go_sem, ↓reduceIte, ne_add (Nat.lt_of_lt_of_le hi hle), ne_self (Nat.lt_of_lt_of_le hi hle), hx i hi]) (by first | omega | (simp only [go_sem]; omega)) (by simp [TV.refs, TV0.refs, AV.refs, hF, optTV, downAll, TV.down])
end Go.Proofs.Ytdfihkbkldcecaa.W
