/-
  Grids: both packages' tests and copies, FromSurplus, as contracts. By an AI agent; nothing here is trusted.
-/
import Derived.Test.YtdfihkbkldcecabLines
namespace Go.Proofs.Ytdfihkbkldcecab.W
open Go Go.Ab Go.Proofs Go.Proofs.Ytdfihkbkldcecab
set_option maxRecDepth 100000
set_option linter.unusedSimpArgs false
set_option linter.unusedVariables false
set_option maxHeartbeats 4000000

def gridLen (n : Nat) : Bool := decide (n = 2) || decide (n = 3) || decide (n = 5) || decide (n = 9) || decide (n = 17) || decide (n = 33) || decide (n = 65)
def isGr (l : List Nat) : Bool := gridLen l.length && allFin l
theorem grid_bits : ∀ n : Nat, n < 65 → 1 ≤ n → decide (ibits .and .i64 (n : Int) ((n - 1 : Nat) : Int) = 0) = gridLen (n + 1) := by decide +kernel
theorem grid_small {n : Nat} (h : gridLen n = true) : n = 2 ∨ n = 3 ∨ n = 5 ∨ n = 9 ∨ n = 17 ∨ n = 33 ∨ n = 65 := by
  simp [gridLen] at h; omega

/-- A copy: behind an empty list that is given up. -/
theorem app_copy {H : Heap} {id off : Nat} {l : List Nat} (hr : Ab.Row H id off (eF l)) (hl : l.length ≤ 2 ^ 20) :
    aappend (H.alloc (.own [])) 1 4 (.sl H.n 0 0 1) (.sl id off l.length 1) = some (.v (.sl (H.n + 1) 0 l.length 1), ((H.alloc (.own [])).put H.n .gone).alloc (.own (eF l))) := by
  have ha := hr.alloc (.own [])
  have h3 : cellsOfArg (H.alloc (.own [])) 1 (.sl id off l.length 1) = some (l.length, eF l) := by
    refine arg_sl ?_
    have h1 := ha.2.1
    have h2 := ha.2.2
    rw [eF_length] at h1 h2
    rw [Nat.mul_one, rdCells_eq, if_pos h1, h2]
  rw [aappend_sl (cs := []) (n := l.length) (new := eF l) (by rw [alloc_f, if_pos rfl]) rfl h3 (by omega) (by decide)]
  simp [alloc_n]
theorem copyOf_ok (l : List Nat) (id off : Nat) (H : Heap) (hr : Ab.Row H id off (eF l)) (hl : l.length ≤ 2 ^ 20) : Ok Try.prog 48 [.v (.sl id off l.length 1)] H (.v (.sl H.n 0 l.length 1)) (H.alloc (.own (eF l))) := by
  refine Ok.of_fin (fn := Try.f48) (c := _) F.hm Try.func48 rfl Try.call48 (by kernel_rfl) (by simp) ?_
  show Ab.Fin _ _ _ _ (Ab.Ends Try.prog Try.f48 _ _ _)
  simp only [go_sem, ↓reduceIte, reduceCtorEq, Nat.reduceEqDiff, Nat.reduceAdd, Nat.reduceSub, Nat.reduceMul, Nat.reduceLeDiff, Int.reduceLT, Int.reduceLE, Int.reduceNeg, Int.reduceEq, Int.reduceAdd, Int.reduceSub, Int.reduceMul, Int.reduceToNat, Int.natCast_one, ne_eq, not_true_eq_false, not_false_eq_true, Bool.false_eq_true, Int.toNat_natCast, app_copy hr hl]
  refine Ab.Ends.one (N := H.n + 1) ?_ (by omega) (by simp only [go_sem]; omega) (by simp only [go_sem, ↓reduceIte]) (fun i hi => ?_) (eF_plain _) (by simp [TV.refs, AV.refs])
  · simp only [resultOf, Try.f48, go_sem, ↓reduceIte, reduceCtorEq, Nat.reduceEqDiff, Nat.reduceAdd, Nat.reduceSub, Nat.reduceMul, Nat.reduceLeDiff, Int.reduceLT, Int.reduceLE, Int.reduceNeg, Int.reduceEq, Int.reduceAdd, Int.reduceSub, Int.reduceMul, Int.reduceToNat, Int.natCast_one, ne_eq, not_true_eq_false, not_false_eq_true, Bool.false_eq_true, Int.toNat_natCast, TV.ren, AV.ren, Nat.lt_irrefl]
  · simp only [go_sem, ↓reduceIte, ne_add hi, ne_self hi]
end Go.Proofs.Ytdfihkbkldcecab.W
