/-
  The small functions of both packages, as contracts. By an AI agent; nothing here is trusted.
-/
import Derived.Test.YtdmoagnkdkeeeaaFacts
namespace Go.Proofs.Ytdmoagnkdkeeeaa.W
open Go Go.Ab Go.Proofs Go.Proofs.Ytdmoagnkdkeeeaa
set_option maxRecDepth 100000
set_option linter.unusedSimpArgs false
set_option linter.unusedVariables false

def inR (n lo hi : Int) : Bool := decide (lo ≤ n) && decide (n ≤ hi)
def isFin (x : Nat) : Bool := fcmp .eql .f32 (fop .sub .f32 x x) 0
def isLst (x : Nat) : Bool := isFin x && fcmp .geq .f32 x 0

theorem within_ok (n lo hi : Int) (H : Heap) : Ok Try.prog 20 [.v (.int .i64 n), .v (.int .i64 lo), .v (.int .i64 hi)] H (.v (.bool (inR n lo hi))) H := by
  refine Ok.of_fin (fn := Try.f20) (c := _) F.hm Try.func20 rfl Try.call20 (by kernel_rfl) (by simp) ?_
  show Ab.Fin _ _ _ _ (Ab.Ends Try.prog Try.f20 _ _ _)
  by_cases h : lo ≤ n <;> by_cases h2 : n ≤ hi
  all_goals
    simp only [go_sem, ↓reduceIte, reduceCtorEq, Nat.reduceEqDiff, Nat.reduceAdd, Nat.reduceSub, Nat.reduceMul, Nat.reduceLeDiff, Int.reduceLT, Int.reduceLE, Int.reduceNeg, Bool.false_eq_true, Int.toNat_natCast, h, h2]
    exact Ab.Ends.same (by simp only [resultOf, Try.f20, go_sem, ↓reduceIte, reduceCtorEq, Nat.reduceEqDiff, Nat.reduceAdd, Nat.reduceSub, Nat.reduceMul, Nat.reduceLeDiff, Int.reduceLT, Int.reduceLE, Int.reduceNeg, Bool.false_eq_true, Int.toNat_natCast, h, h2, inR]) (fun i hi => by first | rfl | simp only [go_sem, ne_add hi, ne_self hi]) (by first | exact Nat.le_refl _ | (simp only [go_sem]; omega)) (by simp [TV.refs, AV.refs])
theorem l00In_ok (n lo hi : Int) (H : Heap) : Ok Try.prog 23 [.v (.int .i64 n), .v (.int .i64 lo), .v (.int .i64 hi)] H (.v (.bool (inR n lo hi))) H := by
  refine Ok.of_fin (fn := Try.f23) (c := _) F.hm Try.func23 rfl Try.call23 (by kernel_rfl) (by simp) ?_
  show Ab.Fin _ _ _ _ (Ab.Ends Try.prog Try.f23 _ _ _)
  by_cases h : lo ≤ n <;> by_cases h2 : n ≤ hi
  all_goals
    simp only [go_sem, ↓reduceIte, reduceCtorEq, Nat.reduceEqDiff, Nat.reduceAdd, Nat.reduceSub, Nat.reduceMul, Nat.reduceLeDiff, Int.reduceLT, Int.reduceLE, Int.reduceNeg, Bool.false_eq_true, Int.toNat_natCast, h, h2]
    exact Ab.Ends.same (by simp only [resultOf, Try.f23, go_sem, ↓reduceIte, reduceCtorEq, Nat.reduceEqDiff, Nat.reduceAdd, Nat.reduceSub, Nat.reduceMul, Nat.reduceLeDiff, Int.reduceLT, Int.reduceLE, Int.reduceNeg, Bool.false_eq_true, Int.toNat_natCast, h, h2, inR]) (fun i hi => by first | rfl | simp only [go_sem, ne_add hi, ne_self hi]) (by first | exact Nat.le_refl _ | (simp only [go_sem]; omega)) (by simp [TV.refs, AV.refs])
theorem iIsFinite_ok (x : Nat) (H : Heap) : Ok Try.prog 28 [.v (.flt .f32 x)] H (.v (.bool (isFin x))) H := by
  refine Ok.of_fin (fn := Try.f28) (c := _) F.hm Try.func28 rfl Try.call28 (by kernel_rfl) (by simp) ?_
  show Ab.Fin _ _ _ _ (Ab.Ends Try.prog Try.f28 _ _ _)
  simp only [go_sem, ↓reduceIte, reduceCtorEq, Nat.reduceEqDiff, Nat.reduceAdd, Nat.reduceSub, Nat.reduceMul, Nat.reduceLeDiff, Int.reduceLT, Int.reduceLE, Int.reduceNeg, Bool.false_eq_true, Int.toNat_natCast, cz_zero32]
  exact Ab.Ends.same (by simp only [resultOf, Try.f28, go_sem, ↓reduceIte, reduceCtorEq, Nat.reduceEqDiff, Nat.reduceAdd, Nat.reduceSub, Nat.reduceMul, Nat.reduceLeDiff, Int.reduceLT, Int.reduceLE, Int.reduceNeg, Bool.false_eq_true, Int.toNat_natCast, isFin]) (fun i hi => by first | rfl | simp only [go_sem, ne_add hi, ne_self hi]) (by first | exact Nat.le_refl _ | (simp only [go_sem]; omega)) (by simp [TV.refs, AV.refs])
theorem l01Finite_ok (x : Nat) (H : Heap) : Ok Try.prog 31 [.v (.flt .f32 x)] H (.v (.bool (isFin x))) H := by
  refine Ok.of_fin (fn := Try.f31) (c := _) F.hm Try.func31 rfl Try.call31 (by kernel_rfl) (by simp) ?_
  show Ab.Fin _ _ _ _ (Ab.Ends Try.prog Try.f31 _ _ _)
  simp only [go_sem, ↓reduceIte, reduceCtorEq, Nat.reduceEqDiff, Nat.reduceAdd, Nat.reduceSub, Nat.reduceMul, Nat.reduceLeDiff, Int.reduceLT, Int.reduceLE, Int.reduceNeg, Bool.false_eq_true, Int.toNat_natCast, cz_zero32]
  exact Ab.Ends.same (by simp only [resultOf, Try.f31, go_sem, ↓reduceIte, reduceCtorEq, Nat.reduceEqDiff, Nat.reduceAdd, Nat.reduceSub, Nat.reduceMul, Nat.reduceLeDiff, Int.reduceLT, Int.reduceLE, Int.reduceNeg, Bool.false_eq_true, Int.toNat_natCast, isFin]) (fun i hi => by first | rfl | simp only [go_sem, ne_add hi, ne_self hi]) (by first | exact Nat.le_refl _ | (simp only [go_sem]; omega)) (by simp [TV.refs, AV.refs])
theorem isLeast_ok (x : Nat) (H : Heap) : Ok Try.prog 21 [.v (.flt .f32 x)] H (.v (.bool (isLst x))) H := by
  refine Ok.of_fin (fn := Try.f21) (c := _) F.hm Try.func21 rfl Try.call21 (by kernel_rfl) (by simp) ?_
  show Ab.Fin _ _ _ _ (Ab.Ends Try.prog Try.f21 _ _ _)
  cases h : isFin x
  all_goals
    simp only [go_sem, ↓reduceIte, reduceCtorEq, Nat.reduceEqDiff, Nat.reduceAdd, Nat.reduceSub, Nat.reduceMul, Nat.reduceLeDiff, Int.reduceLT, Int.reduceLE, Int.reduceNeg, Bool.false_eq_true, Int.toNat_natCast, h, cz_zero32]
    refine callG_intro (iIsFinite_ok _ _) ?_
    simp only [go_sem, ↓reduceIte, reduceCtorEq, Nat.reduceEqDiff, Nat.reduceAdd, Nat.reduceSub, Nat.reduceMul, Nat.reduceLeDiff, Int.reduceLT, Int.reduceLE, Int.reduceNeg, Bool.false_eq_true, Int.toNat_natCast, h, cz_zero32]
    exact Ab.Ends.same (by simp only [resultOf, Try.f21, go_sem, ↓reduceIte, reduceCtorEq, Nat.reduceEqDiff, Nat.reduceAdd, Nat.reduceSub, Nat.reduceMul, Nat.reduceLeDiff, Int.reduceLT, Int.reduceLE, Int.reduceNeg, Bool.false_eq_true, Int.toNat_natCast, h, isLst]) (fun i hi => by first | rfl | simp only [go_sem, ne_add hi, ne_self hi]) (by first | exact Nat.le_refl _ | (simp only [go_sem]; omega)) (by simp [TV.refs, AV.refs])
theorem l02Least_ok (x : Nat) (H : Heap) : Ok Try.prog 27 [.v (.flt .f32 x)] H (.v (.bool (isLst x))) H := by
  refine Ok.of_fin (fn := Try.f27) (c := _) F.hm Try.func27 rfl Try.call27 (by kernel_rfl) (by simp) ?_
  show Ab.Fin _ _ _ _ (Ab.Ends Try.prog Try.f27 _ _ _)
  cases h : isFin x
  all_goals
    simp only [go_sem, ↓reduceIte, reduceCtorEq, Nat.reduceEqDiff, Nat.reduceAdd, Nat.reduceSub, Nat.reduceMul, Nat.reduceLeDiff, Int.reduceLT, Int.reduceLE, Int.reduceNeg, Bool.false_eq_true, Int.toNat_natCast, h, cz_zero32]
    refine callG_intro (l01Finite_ok _ _) ?_
    simp only [go_sem, ↓reduceIte, reduceCtorEq, Nat.reduceEqDiff, Nat.reduceAdd, Nat.reduceSub, Nat.reduceMul, Nat.reduceLeDiff, Int.reduceLT, Int.reduceLE, Int.reduceNeg, Bool.false_eq_true, Int.toNat_natCast, h, cz_zero32]
    exact Ab.Ends.same (by simp only [resultOf, Try.f27, go_sem, ↓reduceIte, reduceCtorEq, Nat.reduceEqDiff, Nat.reduceAdd, Nat.reduceSub, Nat.reduceMul, Nat.reduceLeDiff, Int.reduceLT, Int.reduceLE, Int.reduceNeg, Bool.false_eq_true, Int.toNat_natCast, h, isLst]) (fun i hi => by first | rfl | simp only [go_sem, ne_add hi, ne_self hi]) (by first | exact Nat.le_refl _ | (simp only [go_sem]; omega)) (by simp [TV.refs, AV.refs])
/-- Equal numbers are the same. -/
theorem sameFloat_ok (x : Nat) (H : Heap) : Ok Try.prog 29 [.v (.flt .f64 x), .v (.flt .f64 x)] H (.v (.bool true)) H := by
  refine Ok.of_fin (fn := Try.f29) (c := _) F.hm Try.func29 rfl Try.call29 (by kernel_rfl) (by simp) ?_
  show Ab.Fin _ _ _ _ (Ab.Ends Try.prog Try.f29 _ _ _)
  have ho := order_self (FloatKind.format .f64) x
  rcases ho with ho | ho
  · have h : fcmp .neq .f64 x x = true := by simp [fcmp, ho]
    simp only [go_sem, ↓reduceIte, reduceCtorEq, Nat.reduceEqDiff, Nat.reduceAdd, Nat.reduceSub, Nat.reduceMul, Nat.reduceLeDiff, Int.reduceLT, Int.reduceLE, Int.reduceNeg, Bool.false_eq_true, Int.toNat_natCast, h]
    exact Ab.Ends.same (by simp only [resultOf, Try.f29, go_sem, ↓reduceIte, reduceCtorEq, Nat.reduceEqDiff, Nat.reduceAdd, Nat.reduceSub, Nat.reduceMul, Nat.reduceLeDiff, Int.reduceLT, Int.reduceLE, Int.reduceNeg, Bool.false_eq_true, Int.toNat_natCast, h]) (fun i hi => by first | rfl | simp only [go_sem, ne_add hi, ne_self hi]) (by first | exact Nat.le_refl _ | (simp only [go_sem]; omega)) (by simp [TV.refs, AV.refs])
  · have h : fcmp .neq .f64 x x = false := by simp [fcmp, ho]
    have h2 : fcmp .eql .f64 x x = true := by simp [fcmp, ho]
    cases h3 : fcmp .eql .f64 x 0
    · simp only [go_sem, ↓reduceIte, reduceCtorEq, Nat.reduceEqDiff, Nat.reduceAdd, Nat.reduceSub, Nat.reduceMul, Nat.reduceLeDiff, Int.reduceLT, Int.reduceLE, Int.reduceNeg, Bool.false_eq_true, Int.toNat_natCast, h, h2, h3, cz_zero64, cz_one64]
      exact Ab.Ends.same (by simp only [resultOf, Try.f29, go_sem, ↓reduceIte, reduceCtorEq, Nat.reduceEqDiff, Nat.reduceAdd, Nat.reduceSub, Nat.reduceMul, Nat.reduceLeDiff, Int.reduceLT, Int.reduceLE, Int.reduceNeg, Bool.false_eq_true, Int.toNat_natCast, h, h2, h3]) (fun i hi => by first | rfl | simp only [go_sem, ne_add hi, ne_self hi]) (by first | exact Nat.le_refl _ | (simp only [go_sem]; omega)) (by simp [TV.refs, AV.refs])
    · cases h4 : fcmp .gtr .f64 (fop .quo .f64 4607182418800017408 x) 0
      all_goals
        simp only [go_sem, ↓reduceIte, reduceCtorEq, Nat.reduceEqDiff, Nat.reduceAdd, Nat.reduceSub, Nat.reduceMul, Nat.reduceLeDiff, Int.reduceLT, Int.reduceLE, Int.reduceNeg, Bool.false_eq_true, Int.toNat_natCast, h, h2, h3, h4, cz_zero64, cz_one64]
        exact Ab.Ends.same (by simp only [resultOf, Try.f29, go_sem, ↓reduceIte, reduceCtorEq, Nat.reduceEqDiff, Nat.reduceAdd, Nat.reduceSub, Nat.reduceMul, Nat.reduceLeDiff, Int.reduceLT, Int.reduceLE, Int.reduceNeg, Bool.false_eq_true, Int.toNat_natCast, h, h2, h3]) (fun i hi => by first | rfl | simp only [go_sem, ne_add hi, ne_self hi]) (by first | exact Nat.le_refl _ | (simp only [go_sem]; omega)) (by simp [TV.refs, AV.refs])
end Go.Proofs.Ytdmoagnkdkeeeaa.W
