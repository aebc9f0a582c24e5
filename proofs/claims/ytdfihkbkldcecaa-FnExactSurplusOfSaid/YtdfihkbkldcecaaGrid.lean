/-
  Grids: both packages' tests and copies, FromSurplus, as contracts. By an AI agent; nothing here is trusted.
-/
import Derived.Test.YtdfihkbkldcecaaLines
namespace Go.Proofs.Ytdfihkbkldcecaa.W
open Go Go.Ab Go.Proofs Go.Proofs.Ytdfihkbkldcecaa
set_option maxRecDepth 100000
set_option linter.unusedSimpArgs false
set_option linter.unusedVariables false
set_option maxHeartbeats 4000000

def gridLen (n : Nat) : Bool := decide (n = 2) || decide (n = 3) || decide (n = 5) || decide (n = 9) || decide (n = 17) || decide (n = 33) || decide (n = 65)
def isGr (l : List Nat) : Bool := gridLen l.length && allFin l
theorem grid_bits : ∀ n : Nat, n < 65 → 1 ≤ n → decide (ibits .and .i64 (n : Int) ((n - 1 : Nat) : Int) = 0) = gridLen (n + 1) := by decide +kernel
theorem grid_small {n : Nat} (h : gridLen n = true) : n = 2 ∨ n = 3 ∨ n = 5 ∨ n = 9 ∨ n = 17 ∨ n = 33 ∨ n = 65 := by
  simp [gridLen] at h; omega

theorem l07Grid_ok (l : List Nat) (id off : Nat) (H : Heap) (hr : Ab.Row H id off (eF l)) (hl : l.length ≤ 2 ^ 20) : Ok Try.prog 48 [.v (.sl id off l.length 1)] H (.v (.bool (isGr l))) H := by
  refine Ok.of_fin (fn := Try.f48) (c := _) F.hm Try.func48 rfl Try.call48 (by kernel_rfl) (by simp) ?_
  show Ab.Fin _ _ _ _ (Ab.Ends Try.prog Try.f48 _ _ _)
  by_cases h : l.length = 2 ∨ l.length = 3 ∨ l.length = 5 ∨ l.length = 9 ∨ l.length = 17 ∨ l.length = 33 ∨ l.length = 65
  · have hf : isGr l = allFin l := by
      have : gridLen l.length = true := by simp [gridLen]; omega
      rw [isGr, this, Bool.true_and]
    rcases h with h | h | h | h | h | h | h
    all_goals
      first
      | have hn : (l.length : Int) = 2 := by omega
      | have hn : (l.length : Int) = 3 := by omega
      | have hn : (l.length : Int) = 5 := by omega
      | have hn : (l.length : Int) = 9 := by omega
      | have hn : (l.length : Int) = 17 := by omega
      | have hn : (l.length : Int) = 33 := by omega
      | have hn : (l.length : Int) = 65 := by omega
      simp only [go_sem, ↓reduceIte, reduceCtorEq, Nat.reduceEqDiff, Nat.reduceAdd, Nat.reduceSub, Nat.reduceMul, Nat.reduceLeDiff, Int.reduceLT, Int.reduceLE, Int.reduceNeg, Int.reduceEq, Int.reduceAdd, Int.reduceSub, Int.reduceMul, Int.reduceToNat, Int.natCast_one, ne_eq, not_true_eq_false, not_false_eq_true, Bool.false_eq_true, Int.toNat_natCast, hn]
      refine callG_intro (l02Finite_ok _ _ _ _ hr hl) ?_
      simp only [go_sem, ↓reduceIte, reduceCtorEq, Nat.reduceEqDiff, Nat.reduceAdd, Nat.reduceSub, Nat.reduceMul, Nat.reduceLeDiff, Int.reduceLT, Int.reduceLE, Int.reduceNeg, Int.reduceEq, Int.reduceAdd, Int.reduceSub, Int.reduceMul, Int.reduceToNat, Int.natCast_one, ne_eq, not_true_eq_false, not_false_eq_true, Bool.false_eq_true, Int.toNat_natCast]
      exact Ab.Ends.same (by simp only [resultOf, Try.f48, go_sem, ↓reduceIte, reduceCtorEq, Nat.reduceEqDiff, Nat.reduceAdd, Nat.reduceSub, Nat.reduceMul, Nat.reduceLeDiff, Int.reduceLT, Int.reduceLE, Int.reduceNeg, Int.reduceEq, Int.reduceAdd, Int.reduceSub, Int.reduceMul, Int.reduceToNat, Int.natCast_one, ne_eq, not_true_eq_false, not_false_eq_true, Bool.false_eq_true, Int.toNat_natCast, hf]) (fun i hi => by first | rfl | simp only [go_sem, ne_add hi, ne_self hi]) (by first | exact Nat.le_refl _ | (simp only [go_sem]; omega)) (by simp [TV.refs, TV0.refs, AV.refs, hf])
  · have hf : isGr l = false := by
      have : gridLen l.length = false := by simp [gridLen]; omega
      rw [isGr, this, Bool.false_and]
    have h1 : ¬ (l.length : Int) = 2 := by omega
    have h2 : ¬ (l.length : Int) = 3 := by omega
    have h3 : ¬ (l.length : Int) = 5 := by omega
    have h4 : ¬ (l.length : Int) = 9 := by omega
    have h5 : ¬ (l.length : Int) = 17 := by omega
    have h6 : ¬ (l.length : Int) = 33 := by omega
    have h7 : ¬ (l.length : Int) = 65 := by omega
    simp only [go_sem, ↓reduceIte, reduceCtorEq, Nat.reduceEqDiff, Nat.reduceAdd, Nat.reduceSub, Nat.reduceMul, Nat.reduceLeDiff, Int.reduceLT, Int.reduceLE, Int.reduceNeg, Int.reduceEq, Int.reduceAdd, Int.reduceSub, Int.reduceMul, Int.reduceToNat, Int.natCast_one, ne_eq, not_true_eq_false, not_false_eq_true, Bool.false_eq_true, Int.toNat_natCast, h1, h2, h3, h4, h5, h6, h7]
    exact Ab.Ends.same (by simp only [resultOf, Try.f48, go_sem, ↓reduceIte, reduceCtorEq, Nat.reduceEqDiff, Nat.reduceAdd, Nat.reduceSub, Nat.reduceMul, Nat.reduceLeDiff, Int.reduceLT, Int.reduceLE, Int.reduceNeg, Int.reduceEq, Int.reduceAdd, Int.reduceSub, Int.reduceMul, Int.reduceToNat, Int.natCast_one, ne_eq, not_true_eq_false, not_false_eq_true, Bool.false_eq_true, Int.toNat_natCast, hf]) (fun i hi => by first | rfl | simp only [go_sem, ne_add hi, ne_self hi]) (by first | exact Nat.le_refl _ | (simp only [go_sem]; omega)) (by simp [TV.refs, TV0.refs, AV.refs, hf])
theorem isGrid_ok (l : List Nat) (id off : Nat) (H : Heap) (hr : Ab.Row H id off (eF l)) (hl : l.length ≤ 2 ^ 20) : Ok Try.prog 50 [.v (.sl id off l.length 1)] H (.v (.bool (isGr l))) H := by
  refine Ok.of_fin (fn := Try.f50) (c := _) F.hm Try.func50 rfl Try.call50 (by kernel_rfl) (by simp) ?_
  show Ab.Fin _ _ _ _ (Ab.Ends Try.prog Try.f50 _ _ _)
  by_cases h1 : (1 : Int) ≤ (l.length : Int) - 1
  case neg =>
    have e1 : IntKind.i64.wrap ((l.length : Int) - 1) = (l.length : Int) - 1 := wrap_i64 (by omega) (by omega)
    have hf : isGr l = false := by
      have : gridLen l.length = false := by simp [gridLen]; omega
      rw [isGr, this, Bool.false_and]
    simp only [go_sem, ↓reduceIte, reduceCtorEq, Nat.reduceEqDiff, Nat.reduceAdd, Nat.reduceSub, Nat.reduceMul, Nat.reduceLeDiff, Int.reduceLT, Int.reduceLE, Int.reduceNeg, Int.reduceEq, Int.reduceAdd, Int.reduceSub, Int.reduceMul, Int.reduceToNat, Int.natCast_one, ne_eq, not_true_eq_false, not_false_eq_true, Bool.false_eq_true, Int.toNat_natCast, e1, h1]
    exact Ab.Ends.same (by simp only [resultOf, Try.f50, go_sem, ↓reduceIte, reduceCtorEq, Nat.reduceEqDiff, Nat.reduceAdd, Nat.reduceSub, Nat.reduceMul, Nat.reduceLeDiff, Int.reduceLT, Int.reduceLE, Int.reduceNeg, Int.reduceEq, Int.reduceAdd, Int.reduceSub, Int.reduceMul, Int.reduceToNat, Int.natCast_one, ne_eq, not_true_eq_false, not_false_eq_true, Bool.false_eq_true, Int.toNat_natCast, hf]) (fun i hi => by first | rfl | simp only [go_sem, ne_add hi, ne_self hi]) (by first | exact Nat.le_refl _ | (simp only [go_sem]; omega)) (by simp [TV.refs, TV0.refs, AV.refs, hf])
  obtain ⟨n, hn⟩ : ∃ n, l.length = n + 1 := ⟨l.length - 1, by omega⟩
  have e1 : IntKind.i64.wrap ((l.length : Int) - 1) = (n : Int) := by rw [wrap_i64 (by omega) (by omega)]; omega
  have e2 : IntKind.i64.wrap ((n : Int) - 1) = ((n - 1 : Nat) : Int) := by rw [wrap_i64 (by omega) (by omega)]; omega
  have g1 : (1 : Int) ≤ (n : Int) := by omega
  by_cases h2 : (n : Int) ≤ 64
  case neg =>
    have hf : isGr l = false := by
      have : gridLen l.length = false := by simp [gridLen]; omega
      rw [isGr, this, Bool.false_and]
    simp only [go_sem, ↓reduceIte, reduceCtorEq, Nat.reduceEqDiff, Nat.reduceAdd, Nat.reduceSub, Nat.reduceMul, Nat.reduceLeDiff, Int.reduceLT, Int.reduceLE, Int.reduceNeg, Int.reduceEq, Int.reduceAdd, Int.reduceSub, Int.reduceMul, Int.reduceToNat, Int.natCast_one, ne_eq, not_true_eq_false, not_false_eq_true, Bool.false_eq_true, Int.toNat_natCast, e1, e2, g1, h2]
    exact Ab.Ends.same (by simp only [resultOf, Try.f50, go_sem, ↓reduceIte, reduceCtorEq, Nat.reduceEqDiff, Nat.reduceAdd, Nat.reduceSub, Nat.reduceMul, Nat.reduceLeDiff, Int.reduceLT, Int.reduceLE, Int.reduceNeg, Int.reduceEq, Int.reduceAdd, Int.reduceSub, Int.reduceMul, Int.reduceToNat, Int.natCast_one, ne_eq, not_true_eq_false, not_false_eq_true, Bool.false_eq_true, Int.toNat_natCast, hf]) (fun i hi => by first | rfl | simp only [go_sem, ne_add hi, ne_self hi]) (by first | exact Nat.le_refl _ | (simp only [go_sem]; omega)) (by simp [TV.refs, TV0.refs, AV.refs, hf])
  have hb := grid_bits n (by omega) (by omega)
  rw [← hn] at hb
  rcases (gridLen l.length).eq_false_or_eq_true with h3 | h3
  · rw [h3] at hb
    have hrow : Ab.Row (H.alloc (.own [.sl id off l.length 1])) H.n 0 (rowsAV [(id, off, l)]) := Ab.Row.of_f (Nat.lt_succ_self _) (by simp only [go_sem, ↓reduceIte, rowsAV])
    have := areFinite_ok [(id, off, l)] H.n 0 _ hrow (by simp) (by intro r hr'; simp at hr'; subst hr'; exact ⟨hr.alloc _, hl⟩)
    simp only [go_sem, ↓reduceIte, reduceCtorEq, Nat.reduceEqDiff, Nat.reduceAdd, Nat.reduceSub, Nat.reduceMul, Nat.reduceLeDiff, Int.reduceLT, Int.reduceLE, Int.reduceNeg, Int.reduceEq, Int.reduceAdd, Int.reduceSub, Int.reduceMul, Int.reduceToNat, Int.natCast_one, ne_eq, not_true_eq_false, not_false_eq_true, Bool.false_eq_true, Int.toNat_natCast, e1, e2, g1, h2, hb]
    refine callG_intro this ?_
    simp only [go_sem, ↓reduceIte, reduceCtorEq, Nat.reduceEqDiff, Nat.reduceAdd, Nat.reduceSub, Nat.reduceMul, Nat.reduceLeDiff, Int.reduceLT, Int.reduceLE, Int.reduceNeg, Int.reduceEq, Int.reduceAdd, Int.reduceSub, Int.reduceMul, Int.reduceToNat, Int.natCast_one, ne_eq, not_true_eq_false, not_false_eq_true, Bool.false_eq_true, Int.toNat_natCast]
    exact Ab.Ends.same (by simp only [resultOf, Try.f50, go_sem, ↓reduceIte, reduceCtorEq, Nat.reduceEqDiff, Nat.reduceAdd, Nat.reduceSub, Nat.reduceMul, Nat.reduceLeDiff, Int.reduceLT, Int.reduceLE, Int.reduceNeg, Int.reduceEq, Int.reduceAdd, Int.reduceSub, Int.reduceMul, Int.reduceToNat, Int.natCast_one, ne_eq, not_true_eq_false, not_false_eq_true, Bool.false_eq_true, Int.toNat_natCast, isGr, h3, List.all_cons, List.all_nil]) (fun i hi => by first | rfl | simp only [go_sem, ne_add hi, ne_self hi]) (by first | exact Nat.le_refl _ | (simp only [go_sem]; omega)) (by simp [TV.refs, TV0.refs, AV.refs, isGr, h3, List.all_cons, List.all_nil])
  · rw [h3] at hb
    simp only [go_sem, ↓reduceIte, reduceCtorEq, Nat.reduceEqDiff, Nat.reduceAdd, Nat.reduceSub, Nat.reduceMul, Nat.reduceLeDiff, Int.reduceLT, Int.reduceLE, Int.reduceNeg, Int.reduceEq, Int.reduceAdd, Int.reduceSub, Int.reduceMul, Int.reduceToNat, Int.natCast_one, ne_eq, not_true_eq_false, not_false_eq_true, Bool.false_eq_true, Int.toNat_natCast, e1, e2, g1, h2, hb]
    exact Ab.Ends.same (by simp only [resultOf, Try.f50, go_sem, ↓reduceIte, reduceCtorEq, Nat.reduceEqDiff, Nat.reduceAdd, Nat.reduceSub, Nat.reduceMul, Nat.reduceLeDiff, Int.reduceLT, Int.reduceLE, Int.reduceNeg, Int.reduceEq, Int.reduceAdd, Int.reduceSub, Int.reduceMul, Int.reduceToNat, Int.natCast_one, ne_eq, not_true_eq_false, not_false_eq_true, Bool.false_eq_true, Int.toNat_natCast, isGr, h3]) (fun i hi => by first | rfl | simp only [go_sem, ne_add hi, ne_self hi]) (by first | exact Nat.le_refl _ | (simp only [go_sem]; omega)) (by simp [TV.refs, TV0.refs, AV.refs, isGr, h3])
/-- A copy: behind an empty list that is given up. -/
theorem app_copy {H : Heap} {id off : Nat} {l : List Nat} (hr : Ab.Row H id off (eF l)) (hl : l.length ≤ 2 ^ 20) :
    aappend (H.alloc (.own [])) 1 4 (.sl H.n 0 0 1) (.sl id off l.length 1) = some (.v (.sl (H.n + 1) 0 l.length 1), ((H.alloc (.own [])).put H.n .gone).alloc (.own (eF l))) := by
  have ha := hr.alloc (.own [])
  have h3 : cellsOfArg (H.alloc (.own [])) 1 (.sl id off l.length 1) = some (l.length, eF l) := by
    refine arg_sl ?_
    have h1 := ha.2.1
    have h2 := ha.2.2
    rw [eF_length] at h1 h2
    rw [Nat.mul_one, rdCells_eq, if_pos h1, h2]
  rw [aappend_sl (cs := []) (n := l.length) (new := eF l) (by rw [alloc_f, if_pos rfl]) rfl h3 (by omega) (by decide)]
  simp [alloc_n]
theorem copyOf_ok (l : List Nat) (id off : Nat) (H : Heap) (hr : Ab.Row H id off (eF l)) (hl : l.length ≤ 2 ^ 20) : Ok Try.prog 51 [.v (.sl id off l.length 1)] H (.v (.sl H.n 0 l.length 1)) (H.alloc (.own (eF l))) := by
  refine Ok.of_fin (fn := Try.f51) (c := _) F.hm Try.func51 rfl Try.call51 (by kernel_rfl) (by simp) ?_
  show Ab.Fin _ _ _ _ (Ab.Ends Try.prog Try.f51 _ _ _)
  simp only [go_sem, ↓reduceIte, reduceCtorEq, Nat.reduceEqDiff, Nat.reduceAdd, Nat.reduceSub, Nat.reduceMul, Nat.reduceLeDiff, Int.reduceLT, Int.reduceLE, Int.reduceNeg, Int.reduceEq, Int.reduceAdd, Int.reduceSub, Int.reduceMul, Int.reduceToNat, Int.natCast_one, ne_eq, not_true_eq_false, not_false_eq_true, Bool.false_eq_true, Int.toNat_natCast, app_copy hr hl]
  refine Ab.Ends.one (N := H.n + 1) ?_ (by omega) (by simp only [go_sem]; omega) (by simp only [go_sem, ↓reduceIte]) (fun i hi => ?_) (eF_plain _) (by simp [TV.refs, AV.refs])
  · simp only [resultOf, Try.f51, go_sem, ↓reduceIte, reduceCtorEq, Nat.reduceEqDiff, Nat.reduceAdd, Nat.reduceSub, Nat.reduceMul, Nat.reduceLeDiff, Int.reduceLT, Int.reduceLE, Int.reduceNeg, Int.reduceEq, Int.reduceAdd, Int.reduceSub, Int.reduceMul, Int.reduceToNat, Int.natCast_one, ne_eq, not_true_eq_false, not_false_eq_true, Bool.false_eq_true, Int.toNat_natCast, TV.ren, AV.ren, Nat.lt_irrefl]
  · simp only [go_sem, ↓reduceIte, ne_add hi, ne_self hi]
end Go.Proofs.Ytdfihkbkldcecaa.W
