/-
  ResidualOf in both packages, as contracts. By an AI agent; nothing here is trusted.
-/
import Derived.Test.YtdfihkbkldcecabRefine
namespace Go.Proofs.Ytdfihkbkldcecab.W
open Go Go.Ab Go.Proofs Go.Proofs.Ytdfihkbkldcecab
set_option maxRecDepth 100000
set_option linter.unusedSimpArgs false
set_option linter.unusedVariables false
set_option maxHeartbeats 4000000

def isOv (x : Nat) : Bool := isFin x && fcmp .gtr .f32 x 0
theorem isOver_ok (x : Nat) (H : Heap) : Ok Try.prog 44 [.v (.flt .f32 x)] H (.v (.bool (isOv x))) H := by
  refine Ok.of_fin (fn := Try.f44) (c := _) F.hm Try.func44 rfl Try.call44 (by kernel_rfl) (by simp) ?_
  show Ab.Fin _ _ _ _ (Ab.Ends Try.prog Try.f44 _ _ _)
  simp only [go_sem, ↓reduceIte, reduceCtorEq, Nat.reduceEqDiff, Nat.reduceAdd, Nat.reduceSub, Nat.reduceMul, Nat.reduceLeDiff, Int.reduceLT, Int.reduceLE, Int.reduceNeg, Int.reduceEq, Int.reduceAdd, Int.reduceSub, Int.reduceMul, Int.reduceToNat, Int.natCast_one, ne_eq, not_true_eq_false, not_false_eq_true, Bool.false_eq_true, Int.toNat_natCast]
  refine callG_intro (iIsFinite_ok _ _) ?_
  rcases (isFin x).eq_false_or_eq_true with h | h
  all_goals
    simp only [go_sem, ↓reduceIte, reduceCtorEq, Nat.reduceEqDiff, Nat.reduceAdd, Nat.reduceSub, Nat.reduceMul, Nat.reduceLeDiff, Int.reduceLT, Int.reduceLE, Int.reduceNeg, Int.reduceEq, Int.reduceAdd, Int.reduceSub, Int.reduceMul, Int.reduceToNat, Int.natCast_one, ne_eq, not_true_eq_false, not_false_eq_true, Bool.false_eq_true, Int.toNat_natCast, h, cz_zero32]
    exact Ab.Ends.same (by simp only [resultOf, Try.f44, go_sem, ↓reduceIte, reduceCtorEq, Nat.reduceEqDiff, Nat.reduceAdd, Nat.reduceSub, Nat.reduceMul, Nat.reduceLeDiff, Int.reduceLT, Int.reduceLE, Int.reduceNeg, Int.reduceEq, Int.reduceAdd, Int.reduceSub, Int.reduceMul, Int.reduceToNat, Int.natCast_one, ne_eq, not_true_eq_false, not_false_eq_true, Bool.false_eq_true, Int.toNat_natCast, h, isOv]) (fun i hi => by first | rfl | simp only [go_sem, ne_add hi, ne_self hi]) (by first | exact Nat.le_refl _ | (simp only [go_sem]; omega)) (by simp [TV.refs, TV0.refs, AV.refs, h, isOv])
theorem l02Above_ok (x : Nat) (H : Heap) : Ok Try.prog 42 [.v (.flt .f32 x)] H (.v (.bool (isOv x))) H := by
  refine Ok.of_fin (fn := Try.f42) (c := _) F.hm Try.func42 rfl Try.call42 (by kernel_rfl) (by simp) ?_
  show Ab.Fin _ _ _ _ (Ab.Ends Try.prog Try.f42 _ _ _)
  simp only [go_sem, ↓reduceIte, reduceCtorEq, Nat.reduceEqDiff, Nat.reduceAdd, Nat.reduceSub, Nat.reduceMul, Nat.reduceLeDiff, Int.reduceLT, Int.reduceLE, Int.reduceNeg, Int.reduceEq, Int.reduceAdd, Int.reduceSub, Int.reduceMul, Int.reduceToNat, Int.natCast_one, ne_eq, not_true_eq_false, not_false_eq_true, Bool.false_eq_true, Int.toNat_natCast]
  refine callG_intro (l01Finite_ok _ _) ?_
  rcases (isFin x).eq_false_or_eq_true with h | h
  all_goals
    simp only [go_sem, ↓reduceIte, reduceCtorEq, Nat.reduceEqDiff, Nat.reduceAdd, Nat.reduceSub, Nat.reduceMul, Nat.reduceLeDiff, Int.reduceLT, Int.reduceLE, Int.reduceNeg, Int.reduceEq, Int.reduceAdd, Int.reduceSub, Int.reduceMul, Int.reduceToNat, Int.natCast_one, ne_eq, not_true_eq_false, not_false_eq_true, Bool.false_eq_true, Int.toNat_natCast, h, cz_zero32]
    exact Ab.Ends.same (by simp only [resultOf, Try.f42, go_sem, ↓reduceIte, reduceCtorEq, Nat.reduceEqDiff, Nat.reduceAdd, Nat.reduceSub, Nat.reduceMul, Nat.reduceLeDiff, Int.reduceLT, Int.reduceLE, Int.reduceNeg, Int.reduceEq, Int.reduceAdd, Int.reduceSub, Int.reduceMul, Int.reduceToNat, Int.natCast_one, ne_eq, not_true_eq_false, not_false_eq_true, Bool.false_eq_true, Int.toNat_natCast, h, isOv]) (fun i hi => by first | rfl | simp only [go_sem, ne_add hi, ne_self hi]) (by first | exact Nat.le_refl _ | (simp only [go_sem]; omega)) (by simp [TV.refs, TV0.refs, AV.refs, h, isOv])
def areL (u f : List Nat) (x : Nat) : Bool := isLn u && isLn f && decide (u.length = f.length) && isOv x
theorem areLines_ok (u f : List Nat) (x : Nat) (i0 o0 i1 o1 : Nat) (H : Heap) (hr : Ab.Row H i0 o0 (eF u)) (hr1 : Ab.Row H i1 o1 (eF f)) (hl : u.length ≤ 2 ^ 20) (hl1 : f.length ≤ 2 ^ 20) :
    Ok Try.prog 41 [.v (.sl i0 o0 u.length 1), .v (.sl i1 o1 f.length 1), .v (.flt .f32 x)] H (.v (.bool (areL u f x))) H := by
  refine Ok.of_fin (fn := Try.f41) (c := _) F.hm Try.func41 rfl Try.call41 (by kernel_rfl) (by simp) ?_
  show Ab.Fin _ _ _ _ (Ab.Ends Try.prog Try.f41 _ _ _)
  simp only [go_sem, ↓reduceIte, reduceCtorEq, Nat.reduceEqDiff, Nat.reduceAdd, Nat.reduceSub, Nat.reduceMul, Nat.reduceLeDiff, Int.reduceLT, Int.reduceLE, Int.reduceNeg, Int.reduceEq, Int.reduceAdd, Int.reduceSub, Int.reduceMul, Int.reduceToNat, Int.natCast_one, ne_eq, not_true_eq_false, not_false_eq_true, Bool.false_eq_true, Int.toNat_natCast]
  refine callG_intro (isLine_ok u _ _ _ hr hl) ?_
  rcases (isLn u).eq_false_or_eq_true with h1 | h1
  case inr =>
    simp only [go_sem, ↓reduceIte, reduceCtorEq, Nat.reduceEqDiff, Nat.reduceAdd, Nat.reduceSub, Nat.reduceMul, Nat.reduceLeDiff, Int.reduceLT, Int.reduceLE, Int.reduceNeg, Int.reduceEq, Int.reduceAdd, Int.reduceSub, Int.reduceMul, Int.reduceToNat, Int.natCast_one, ne_eq, not_true_eq_false, not_false_eq_true, Bool.false_eq_true, Int.toNat_natCast, h1]
    exact Ab.Ends.same (by simp only [resultOf, Try.f41, go_sem, ↓reduceIte, reduceCtorEq, Nat.reduceEqDiff, Nat.reduceAdd, Nat.reduceSub, Nat.reduceMul, Nat.reduceLeDiff, Int.reduceLT, Int.reduceLE, Int.reduceNeg, Int.reduceEq, Int.reduceAdd, Int.reduceSub, Int.reduceMul, Int.reduceToNat, Int.natCast_one, ne_eq, not_true_eq_false, not_false_eq_true, Bool.false_eq_true, Int.toNat_natCast, areL, h1]) (fun i hi => by first | rfl | simp only [go_sem, ne_add hi, ne_self hi]) (by first | exact Nat.le_refl _ | (simp only [go_sem]; omega)) (by simp [TV.refs, TV0.refs, AV.refs, areL, h1])
  simp only [go_sem, ↓reduceIte, reduceCtorEq, Nat.reduceEqDiff, Nat.reduceAdd, Nat.reduceSub, Nat.reduceMul, Nat.reduceLeDiff, Int.reduceLT, Int.reduceLE, Int.reduceNeg, Int.reduceEq, Int.reduceAdd, Int.reduceSub, Int.reduceMul, Int.reduceToNat, Int.natCast_one, ne_eq, not_true_eq_false, not_false_eq_true, Bool.false_eq_true, Int.toNat_natCast, h1]
  refine callG_intro (isLine_ok f _ _ _ hr1 hl1) ?_
  rcases (isLn f).eq_false_or_eq_true with h2 | h2
  case inr =>
    simp only [go_sem, ↓reduceIte, reduceCtorEq, Nat.reduceEqDiff, Nat.reduceAdd, Nat.reduceSub, Nat.reduceMul, Nat.reduceLeDiff, Int.reduceLT, Int.reduceLE, Int.reduceNeg, Int.reduceEq, Int.reduceAdd, Int.reduceSub, Int.reduceMul, Int.reduceToNat, Int.natCast_one, ne_eq, not_true_eq_false, not_false_eq_true, Bool.false_eq_true, Int.toNat_natCast, h2]
    exact Ab.Ends.same (by simp only [resultOf, Try.f41, go_sem, ↓reduceIte, reduceCtorEq, Nat.reduceEqDiff, Nat.reduceAdd, Nat.reduceSub, Nat.reduceMul, Nat.reduceLeDiff, Int.reduceLT, Int.reduceLE, Int.reduceNeg, Int.reduceEq, Int.reduceAdd, Int.reduceSub, Int.reduceMul, Int.reduceToNat, Int.natCast_one, ne_eq, not_true_eq_false, not_false_eq_true, Bool.false_eq_true, Int.toNat_natCast, areL, h1, h2]) (fun i hi => by first | rfl | simp only [go_sem, ne_add hi, ne_self hi]) (by first | exact Nat.le_refl _ | (simp only [go_sem]; omega)) (by simp [TV.refs, TV0.refs, AV.refs, areL, h1, h2])
  by_cases h3 : (u.length : Int) = (f.length : Int)
  case neg =>
    have h4 : ¬ u.length = f.length := by omega
    simp only [go_sem, ↓reduceIte, reduceCtorEq, Nat.reduceEqDiff, Nat.reduceAdd, Nat.reduceSub, Nat.reduceMul, Nat.reduceLeDiff, Int.reduceLT, Int.reduceLE, Int.reduceNeg, Int.reduceEq, Int.reduceAdd, Int.reduceSub, Int.reduceMul, Int.reduceToNat, Int.natCast_one, ne_eq, not_true_eq_false, not_false_eq_true, Bool.false_eq_true, Int.toNat_natCast, h2, h3]
    exact Ab.Ends.same (by simp only [resultOf, Try.f41, go_sem, ↓reduceIte, reduceCtorEq, Nat.reduceEqDiff, Nat.reduceAdd, Nat.reduceSub, Nat.reduceMul, Nat.reduceLeDiff, Int.reduceLT, Int.reduceLE, Int.reduceNeg, Int.reduceEq, Int.reduceAdd, Int.reduceSub, Int.reduceMul, Int.reduceToNat, Int.natCast_one, ne_eq, not_true_eq_false, not_false_eq_true, Bool.false_eq_true, Int.toNat_natCast, areL, h1, h2, h4]) (fun i hi => by first | rfl | simp only [go_sem, ne_add hi, ne_self hi]) (by first | exact Nat.le_refl _ | (simp only [go_sem]; omega)) (by simp [TV.refs, TV0.refs, AV.refs, areL, h1, h2, h4])
  have h4 : u.length = f.length := by omega
  simp only [go_sem, ↓reduceIte, reduceCtorEq, Nat.reduceEqDiff, Nat.reduceAdd, Nat.reduceSub, Nat.reduceMul, Nat.reduceLeDiff, Int.reduceLT, Int.reduceLE, Int.reduceNeg, Int.reduceEq, Int.reduceAdd, Int.reduceSub, Int.reduceMul, Int.reduceToNat, Int.natCast_one, ne_eq, not_true_eq_false, not_false_eq_true, Bool.false_eq_true, Int.toNat_natCast, h2, h3]
  refine callG_intro (isOver_ok _ _) ?_
  simp only [go_sem, ↓reduceIte, reduceCtorEq, Nat.reduceEqDiff, Nat.reduceAdd, Nat.reduceSub, Nat.reduceMul, Nat.reduceLeDiff, Int.reduceLT, Int.reduceLE, Int.reduceNeg, Int.reduceEq, Int.reduceAdd, Int.reduceSub, Int.reduceMul, Int.reduceToNat, Int.natCast_one, ne_eq, not_true_eq_false, not_false_eq_true, Bool.false_eq_true, Int.toNat_natCast]
  exact Ab.Ends.same (by simp only [resultOf, Try.f41, go_sem, ↓reduceIte, reduceCtorEq, Nat.reduceEqDiff, Nat.reduceAdd, Nat.reduceSub, Nat.reduceMul, Nat.reduceLeDiff, Int.reduceLT, Int.reduceLE, Int.reduceNeg, Int.reduceEq, Int.reduceAdd, Int.reduceSub, Int.reduceMul, Int.reduceToNat, Int.natCast_one, ne_eq, not_true_eq_false, not_false_eq_true, Bool.false_eq_true, Int.toNat_natCast, areL, h1, h2, h4]) (fun i hi => by first | rfl | simp only [go_sem, ne_add hi, ne_self hi]) (by first | exact Nat.le_refl _ | (simp only [go_sem]; omega)) (by simp [TV.refs, TV0.refs, AV.refs, areL, h1, h2, h4])
theorem l07Can_ok (u f : List Nat) (x : Nat) (i0 o0 i1 o1 : Nat) (H : Heap) (hr : Ab.Row H i0 o0 (eF u)) (hr1 : Ab.Row H i1 o1 (eF f)) (hl : u.length ≤ 2 ^ 20) (hl1 : f.length ≤ 2 ^ 20) :
    Ok Try.prog 39 [.v (.sl i0 o0 u.length 1), .v (.sl i1 o1 f.length 1), .v (.flt .f32 x)] H (.v (.bool (areL u f x))) H := by
  refine Ok.of_fin (fn := Try.f39) (c := _) F.hm Try.func39 rfl Try.call39 (by kernel_rfl) (by simp) ?_
  show Ab.Fin _ _ _ _ (Ab.Ends Try.prog Try.f39 _ _ _)
  simp only [go_sem, ↓reduceIte, reduceCtorEq, Nat.reduceEqDiff, Nat.reduceAdd, Nat.reduceSub, Nat.reduceMul, Nat.reduceLeDiff, Int.reduceLT, Int.reduceLE, Int.reduceNeg, Int.reduceEq, Int.reduceAdd, Int.reduceSub, Int.reduceMul, Int.reduceToNat, Int.natCast_one, ne_eq, not_true_eq_false, not_false_eq_true, Bool.false_eq_true, Int.toNat_natCast]
  refine callG_intro (l07Line_ok u _ _ _ hr hl) ?_
  rcases (isLn u).eq_false_or_eq_true with h1 | h1
  case inr =>
    simp only [go_sem, ↓reduceIte, reduceCtorEq, Nat.reduceEqDiff, Nat.reduceAdd, Nat.reduceSub, Nat.reduceMul, Nat.reduceLeDiff, Int.reduceLT, Int.reduceLE, Int.reduceNeg, Int.reduceEq, Int.reduceAdd, Int.reduceSub, Int.reduceMul, Int.reduceToNat, Int.natCast_one, ne_eq, not_true_eq_false, not_false_eq_true, Bool.false_eq_true, Int.toNat_natCast, h1]
    exact Ab.Ends.same (by simp only [resultOf, Try.f39, go_sem, ↓reduceIte, reduceCtorEq, Nat.reduceEqDiff, Nat.reduceAdd, Nat.reduceSub, Nat.reduceMul, Nat.reduceLeDiff, Int.reduceLT, Int.reduceLE, Int.reduceNeg, Int.reduceEq, Int.reduceAdd, Int.reduceSub, Int.reduceMul, Int.reduceToNat, Int.natCast_one, ne_eq, not_true_eq_false, not_false_eq_true, Bool.false_eq_true, Int.toNat_natCast, areL, h1]) (fun i hi => by first | rfl | simp only [go_sem, ne_add hi, ne_self hi]) (by first | exact Nat.le_refl _ | (simp only [go_sem]; omega)) (by simp [TV.refs, TV0.refs, AV.refs, areL, h1])
  simp only [go_sem, ↓reduceIte, reduceCtorEq, Nat.reduceEqDiff, Nat.reduceAdd, Nat.reduceSub, Nat.reduceMul, Nat.reduceLeDiff, Int.reduceLT, Int.reduceLE, Int.reduceNeg, Int.reduceEq, Int.reduceAdd, Int.reduceSub, Int.reduceMul, Int.reduceToNat, Int.natCast_one, ne_eq, not_true_eq_false, not_false_eq_true, Bool.false_eq_true, Int.toNat_natCast, h1]
  refine callG_intro (l07Line_ok f _ _ _ hr1 hl1) ?_
  rcases (isLn f).eq_false_or_eq_true with h2 | h2
  case inr =>
    simp only [go_sem, ↓reduceIte, reduceCtorEq, Nat.reduceEqDiff, Nat.reduceAdd, Nat.reduceSub, Nat.reduceMul, Nat.reduceLeDiff, Int.reduceLT, Int.reduceLE, Int.reduceNeg, Int.reduceEq, Int.reduceAdd, Int.reduceSub, Int.reduceMul, Int.reduceToNat, Int.natCast_one, ne_eq, not_true_eq_false, not_false_eq_true, Bool.false_eq_true, Int.toNat_natCast, h2]
    exact Ab.Ends.same (by simp only [resultOf, Try.f39, go_sem, ↓reduceIte, reduceCtorEq, Nat.reduceEqDiff, Nat.reduceAdd, Nat.reduceSub, Nat.reduceMul, Nat.reduceLeDiff, Int.reduceLT, Int.reduceLE, Int.reduceNeg, Int.reduceEq, Int.reduceAdd, Int.reduceSub, Int.reduceMul, Int.reduceToNat, Int.natCast_one, ne_eq, not_true_eq_false, not_false_eq_true, Bool.false_eq_true, Int.toNat_natCast, areL, h1, h2]) (fun i hi => by first | rfl | simp only [go_sem, ne_add hi, ne_self hi]) (by first | exact Nat.le_refl _ | (simp only [go_sem]; omega)) (by simp [TV.refs, TV0.refs, AV.refs, areL, h1, h2])
  by_cases h3 : (u.length : Int) = (f.length : Int)
  case neg =>
    have h4 : ¬ u.length = f.length := by omega
    simp only [go_sem, ↓reduceIte, reduceCtorEq, Nat.reduceEqDiff, Nat.reduceAdd, Nat.reduceSub, Nat.reduceMul, Nat.reduceLeDiff, Int.reduceLT, Int.reduceLE, Int.reduceNeg, Int.reduceEq, Int.reduceAdd, Int.reduceSub, Int.reduceMul, Int.reduceToNat, Int.natCast_one, ne_eq, not_true_eq_false, not_false_eq_true, Bool.false_eq_true, Int.toNat_natCast, h2, h3]
    exact Ab.Ends.same (by simp only [resultOf, Try.f39, go_sem, ↓reduceIte, reduceCtorEq, Nat.reduceEqDiff, Nat.reduceAdd, Nat.reduceSub, Nat.reduceMul, Nat.reduceLeDiff, Int.reduceLT, Int.reduceLE, Int.reduceNeg, Int.reduceEq, Int.reduceAdd, Int.reduceSub, Int.reduceMul, Int.reduceToNat, Int.natCast_one, ne_eq, not_true_eq_false, not_false_eq_true, Bool.false_eq_true, Int.toNat_natCast, areL, h1, h2, h4]) (fun i hi => by first | rfl | simp only [go_sem, ne_add hi, ne_self hi]) (by first | exact Nat.le_refl _ | (simp only [go_sem]; omega)) (by simp [TV.refs, TV0.refs, AV.refs, areL, h1, h2, h4])
  have h4 : u.length = f.length := by omega
  simp only [go_sem, ↓reduceIte, reduceCtorEq, Nat.reduceEqDiff, Nat.reduceAdd, Nat.reduceSub, Nat.reduceMul, Nat.reduceLeDiff, Int.reduceLT, Int.reduceLE, Int.reduceNeg, Int.reduceEq, Int.reduceAdd, Int.reduceSub, Int.reduceMul, Int.reduceToNat, Int.natCast_one, ne_eq, not_true_eq_false, not_false_eq_true, Bool.false_eq_true, Int.toNat_natCast, h2, h3]
  refine callG_intro (l02Above_ok _ _) ?_
  simp only [go_sem, ↓reduceIte, reduceCtorEq, Nat.reduceEqDiff, Nat.reduceAdd, Nat.reduceSub, Nat.reduceMul, Nat.reduceLeDiff, Int.reduceLT, Int.reduceLE, Int.reduceNeg, Int.reduceEq, Int.reduceAdd, Int.reduceSub, Int.reduceMul, Int.reduceToNat, Int.natCast_one, ne_eq, not_true_eq_false, not_false_eq_true, Bool.false_eq_true, Int.toNat_natCast]
  exact Ab.Ends.same (by simp only [resultOf, Try.f39, go_sem, ↓reduceIte, reduceCtorEq, Nat.reduceEqDiff, Nat.reduceAdd, Nat.reduceSub, Nat.reduceMul, Nat.reduceLeDiff, Int.reduceLT, Int.reduceLE, Int.reduceNeg, Int.reduceEq, Int.reduceAdd, Int.reduceSub, Int.reduceMul, Int.reduceToNat, Int.natCast_one, ne_eq, not_true_eq_false, not_false_eq_true, Bool.false_eq_true, Int.toNat_natCast, areL, h1, h2, h4]) (fun i hi => by first | rfl | simp only [go_sem, ne_add hi, ne_self hi]) (by first | exact Nat.le_refl _ | (simp only [go_sem]; omega)) (by simp [TV.refs, TV0.refs, AV.refs, areL, h1, h2, h4])
def resAt (u f : List Nat) (x i : Nat) : Nat := fop .sub .f32 (f.getD i 0) (fop .quo .f32 (fop .sub .f32 (fop .sub .f32 (fop .mul .f32 1073741824 (u.getD i 0)) (atL u ((i : Int) - 1))) (atL u ((i + 1 : Nat) : Int))) (fop .mul .f32 x x))
def resP (u f : List Nat) (x : Nat) : Nat → List Nat
  | 0 => []
  | k + 1 => resP u f x k ++ [resAt u f x k]
theorem resP_len (u f : List Nat) (x k : Nat) : (resP u f x k).length = k := by
  induction k with
  | zero => rfl
  | succ k ih => simp [resP, ih]
def residF (u f : List Nat) (x : Nat) : Option (List Nat) := if areL u f x = true ∧ allFin (resP u f x u.length) = true then some (resP u f x u.length) else none

theorem l07Residual_ok (u f : List Nat) (x i0 o0 i1 o1 : Nat) (H : Heap) (hr0 : Ab.Row H i0 o0 (eF u)) (hr1 : Ab.Row H i1 o1 (eF f)) (hl : u.length ≤ 2 ^ 20) (hfl : u.length = f.length) :
    Ok Try.prog 40 [.v (.sl i0 o0 u.length 1), .v (.sl i1 o1 f.length 1), .v (.flt .f32 x)] H (.v (.sl H.n 0 u.length 1)) (H.alloc (.own (eF (resP u f x u.length)))) := by
  refine Ok.of_fin (fn := Try.f40) (c := _) F.hm Try.func40 rfl Try.call40 (by kernel_rfl) (by simp) ?_
  show Ab.Fin _ _ _ _ (Ab.Ends Try.prog Try.f40 _ _ _)
  simp only [go_sem, ↓reduceIte, reduceCtorEq, Nat.reduceEqDiff, Nat.reduceAdd, Nat.reduceSub, Nat.reduceMul, Nat.reduceLeDiff, Int.reduceLT, Int.reduceLE, Int.reduceNeg, Int.reduceEq, Int.reduceAdd, Int.reduceSub, Int.reduceMul, Int.reduceToNat, Int.natCast_one, ne_eq, not_true_eq_false, not_false_eq_true, Bool.false_eq_true, Int.toNat_natCast]
  rw [Fin_loop]
  refine Fin_rule (fun m s H' => ∃ j N, m + j = u.length ∧ s 0 = .v (.sl i0 o0 u.length 1) ∧ s 1 = .v (.sl i1 o1 f.length 1) ∧ s 2 = .v (.flt .f32 x) ∧ s 7 = .v (.sl N 0 j 1) ∧ s 12 = .v (.int .i64 u.length) ∧ s 13 = .v (.int .i64 j) ∧ H.n ≤ N ∧ N < H'.n ∧ H'.f N = .own (eF (resP u f x j)) ∧ ∀ i, i < H.n → H'.f i = H.f i)
    u.length ⟨0, H.n, rfl, by simp only [go_sem, ↓reduceIte, reduceCtorEq, Nat.reduceEqDiff], by simp only [go_sem, ↓reduceIte, reduceCtorEq, Nat.reduceEqDiff], by simp only [go_sem, ↓reduceIte, reduceCtorEq, Nat.reduceEqDiff], by simp only [go_sem, ↓reduceIte, reduceCtorEq, Nat.reduceEqDiff], by simp only [go_sem, ↓reduceIte, reduceCtorEq, Nat.reduceEqDiff], by simp only [go_sem, ↓reduceIte, reduceCtorEq, Nat.reduceEqDiff, Int.natCast_zero], Nat.le_refl _, Nat.lt_succ_self _, by simp only [go_sem, ↓reduceIte]; rfl, fun i hi => by simp only [go_sem, ↓reduceIte, ne_self hi]⟩ ?_
  rintro m s H' ⟨j, N, him, s0, s1, s2, s7, s12, s13, hN, hN2, hf, hx⟩ next
  have hr := hr0.mono (by omega) (hx i0 hr0.lt)
  have hr2 := hr1.mono (by omega) (hx i1 hr1.lt)
  by_cases hi : (j : Int) < (u.length : Int)
  · have b5 : (0 : Int) ≤ (j : Int) := by omega
    have b6 : (j : Int) < (f.length : Int) := by omega
    have hju : j < u.length := by omega
    have hjf : j < f.length := by omega
    have c1 := hr.atF hju
    have c2 := hr2.atF hjf
    have a3 := @wrap_succ j (by omega)
    have d4 : IntKind.i64.wrap ((j : Int) - 1) = (j : Int) - 1 := wrap_i64 (by omega) (by omega)
    have hap := app1F hN2 hf (by rw [resP_len]; omega)
    rw [resP_len] at hap
    have hlt : ∀ i, i < H.n → i < H'.n := fun i h => Nat.lt_of_lt_of_le h (Nat.le_trans hN (Nat.le_of_lt hN2))
    have hE : fop .sub .f32 f[j] (fop .quo .f32 (fop .sub .f32 (fop .sub .f32 (fop .mul .f32 1073741824 u[j]) (atL u ((j : Int) - 1))) (atL u ((j + 1 : Nat) : Int))) (fop .mul .f32 x x)) = resAt u f x j := by
      rw [resAt, getD_in0 u hju, getD_in0 f hjf]
    simp only [go_sem, ↓reduceIte, reduceCtorEq, Nat.reduceEqDiff, Nat.reduceAdd, Nat.reduceSub, Nat.reduceMul, Nat.reduceLeDiff, Int.reduceLT, Int.reduceLE, Int.reduceNeg, Int.reduceEq, Int.reduceAdd, Int.reduceSub, Int.reduceMul, Int.reduceToNat, Int.natCast_one, ne_eq, not_true_eq_false, not_false_eq_true, Bool.false_eq_true, Int.toNat_natCast, s0, s1, s2, s7, s12, s13, hi, b5, c1, d4, a3, Nat.mul_one, cz_two]
    refine callG_intro (l07At_ok u _ _ _ _ hr) ?_
    simp only [go_sem, ↓reduceIte, reduceCtorEq, Nat.reduceEqDiff, Nat.reduceAdd, Nat.reduceSub, Nat.reduceMul, Nat.reduceLeDiff, Int.reduceLT, Int.reduceLE, Int.reduceNeg, Int.reduceEq, Int.reduceAdd, Int.reduceSub, Int.reduceMul, Int.reduceToNat, Int.natCast_one, ne_eq, not_true_eq_false, not_false_eq_true, Bool.false_eq_true, Int.toNat_natCast, s0, s1, s2, s7, s12, s13, a3]
    refine callG_intro (l07At_ok u _ _ _ _ hr) ?_
    simp only [go_sem, ↓reduceIte, reduceCtorEq, Nat.reduceEqDiff, Nat.reduceAdd, Nat.reduceSub, Nat.reduceMul, Nat.reduceLeDiff, Int.reduceLT, Int.reduceLE, Int.reduceNeg, Int.reduceEq, Int.reduceAdd, Int.reduceSub, Int.reduceMul, Int.reduceToNat, Int.natCast_one, ne_eq, not_true_eq_false, not_false_eq_true, Bool.false_eq_true, Int.toNat_natCast, s0, s1, s2, s7, s12, s13, b5, b6, c2, Nat.mul_one, hE, hap, a3]
    refine next (m - 1) _ _ (by omega) ⟨j + 1, H'.n + 1, by omega, ?_, ?_, ?_, ?_, ?_, ?_, by omega, ?_, ?_, fun i hi => ?_⟩
    · simp only [go_sem, ↓reduceIte, reduceCtorEq, Nat.reduceEqDiff, s0]
    · simp only [go_sem, ↓reduceIte, reduceCtorEq, Nat.reduceEqDiff, s1]
    · simp only [go_sem, ↓reduceIte, reduceCtorEq, Nat.reduceEqDiff, s2]
    · simp only [go_sem, ↓reduceIte, reduceCtorEq, Nat.reduceEqDiff]
    · simp only [go_sem, ↓reduceIte, reduceCtorEq, Nat.reduceEqDiff, s12]
    · simp only [go_sem, ↓reduceIte, reduceCtorEq, Nat.reduceEqDiff]
    · simp only [go_sem]; omega
    · simp only [go_sem, ↓reduceIte]; rfl
    · have h1 : i ≠ N := by omega
      simp only [go_sem, ↓reduceIte, ne_add (hlt i hi), ne_self (hlt i hi), h1, hx i hi]
  · obtain rfl : j = u.length := by omega
    simp only [go_sem, ↓reduceIte, reduceCtorEq, Nat.reduceEqDiff, Nat.reduceAdd, Nat.reduceSub, Nat.reduceMul, Nat.reduceLeDiff, Int.reduceLT, Int.reduceLE, Int.reduceNeg, Int.reduceEq, Int.reduceAdd, Int.reduceSub, Int.reduceMul, Int.reduceToNat, Int.natCast_one, ne_eq, not_true_eq_false, not_false_eq_true, Bool.false_eq_true, Int.toNat_natCast, s0, s7, s12, s13, hi]
    refine Ab.Ends.one (N := N) ?_ hN hN2 hf hx (eF_plain _) (by simp [TV.refs, AV.refs])
    simp only [resultOf, Try.f40, go_sem, ↓reduceIte, reduceCtorEq, Nat.reduceEqDiff, Nat.reduceAdd, Nat.reduceSub, Nat.reduceMul, Nat.reduceLeDiff, Int.reduceLT, Int.reduceLE, Int.reduceNeg, Int.reduceEq, Int.reduceAdd, Int.reduceSub, Int.reduceMul, Int.reduceToNat, Int.natCast_one, ne_eq, not_true_eq_false, not_false_eq_true, Bool.false_eq_true, Int.toNat_natCast, TV.ren, AV.ren, Nat.lt_irrefl]
theorem sResidualOf_ok (u f : List Nat) (x i0 o0 i1 o1 : Nat) (H : Heap) (hr : Ab.Row H i0 o0 (eF u)) (hr1 : Ab.Row H i1 o1 (eF f)) (hl : u.length ≤ 2 ^ 20) (hl1 : f.length ≤ 2 ^ 20) :
    Ok Try.prog 15 [.v (.sl i0 o0 u.length 1), .v (.sl i1 o1 f.length 1), .v (.flt .f32 x)] H (optTV H.n (residF u f x)) (optH H (residF u f x)) := by
  refine Ok.of_fin (fn := Try.f15) (c := _) F.hm Try.func15 rfl Try.call15 (by kernel_rfl) (by simp) ?_
  show Ab.Fin _ _ _ _ (Ab.Ends Try.prog Try.f15 _ _ _)
  simp only [go_sem, ↓reduceIte, reduceCtorEq, Nat.reduceEqDiff, Nat.reduceAdd, Nat.reduceSub, Nat.reduceMul, Nat.reduceLeDiff, Int.reduceLT, Int.reduceLE, Int.reduceNeg, Int.reduceEq, Int.reduceAdd, Int.reduceSub, Int.reduceMul, Int.reduceToNat, Int.natCast_one, ne_eq, not_true_eq_false, not_false_eq_true, Bool.false_eq_true, Int.toNat_natCast]
  refine callG_intro (l07Can_ok u f x _ _ _ _ _ hr hr1 hl hl1) ?_
  rcases (areL u f x).eq_false_or_eq_true with h1 | h1
  case inr =>
    have hf : residF u f x = none := by simp [residF, h1]
    simp only [go_sem, ↓reduceIte, reduceCtorEq, Nat.reduceEqDiff, Nat.reduceAdd, Nat.reduceSub, Nat.reduceMul, Nat.reduceLeDiff, Int.reduceLT, Int.reduceLE, Int.reduceNeg, Int.reduceEq, Int.reduceAdd, Int.reduceSub, Int.reduceMul, Int.reduceToNat, Int.natCast_one, ne_eq, not_true_eq_false, not_false_eq_true, Bool.false_eq_true, Int.toNat_natCast, h1, hf, optH]
    exact Ab.Ends.same (by simp only [resultOf, Try.f15, go_sem, ↓reduceIte, reduceCtorEq, Nat.reduceEqDiff, Nat.reduceAdd, Nat.reduceSub, Nat.reduceMul, Nat.reduceLeDiff, Int.reduceLT, Int.reduceLE, Int.reduceNeg, Int.reduceEq, Int.reduceAdd, Int.reduceSub, Int.reduceMul, Int.reduceToNat, Int.natCast_one, ne_eq, not_true_eq_false, not_false_eq_true, Bool.false_eq_true, Int.toNat_natCast, hf, optTV, downAll, TV.down]) (fun i hi => by first | rfl | simp only [go_sem, ne_add hi, ne_self hi]) (by first | exact Nat.le_refl _ | (simp only [go_sem]; omega)) (by simp [TV.refs, TV0.refs, AV.refs, hf, optTV, downAll, TV.down])
  have hfl : u.length = f.length := by simp [areL] at h1; exact h1.1.2
  simp only [go_sem, ↓reduceIte, reduceCtorEq, Nat.reduceEqDiff, Nat.reduceAdd, Nat.reduceSub, Nat.reduceMul, Nat.reduceLeDiff, Int.reduceLT, Int.reduceLE, Int.reduceNeg, Int.reduceEq, Int.reduceAdd, Int.reduceSub, Int.reduceMul, Int.reduceToNat, Int.natCast_one, ne_eq, not_true_eq_false, not_false_eq_true, Bool.false_eq_true, Int.toNat_natCast, h1]
  refine callG_intro (l07Residual_ok u f x _ _ _ _ _ hr hr1 hl hfl) ?_
  simp only [go_sem, ↓reduceIte, reduceCtorEq, Nat.reduceEqDiff, Nat.reduceAdd, Nat.reduceSub, Nat.reduceMul, Nat.reduceLeDiff, Int.reduceLT, Int.reduceLE, Int.reduceNeg, Int.reduceEq, Int.reduceAdd, Int.reduceSub, Int.reduceMul, Int.reduceToNat, Int.natCast_one, ne_eq, not_true_eq_false, not_false_eq_true, Bool.false_eq_true, Int.toNat_natCast]
  have hcl := resP_len u f x u.length
  have q1 : Ab.Row (H.alloc (.own (eF (resP u f x u.length)))) H.n 0 (eF (resP u f x u.length)) := Ab.Row.of_f (Nat.lt_succ_self _) (by simp only [go_sem, ↓reduceIte])
  have hfin := l02Finite_ok (resP u f x u.length) _ _ _ q1 (by rw [hcl]; omega)
  rw [hcl] at hfin
  refine callG_intro hfin ?_
  rcases (allFin (resP u f x u.length)).eq_false_or_eq_true with h3 | h3
  · have hf : residF u f x = some (resP u f x u.length) := by rw [residF, if_pos ⟨h1, h3⟩]
    simp only [go_sem, ↓reduceIte, reduceCtorEq, Nat.reduceEqDiff, Nat.reduceAdd, Nat.reduceSub, Nat.reduceMul, Nat.reduceLeDiff, Int.reduceLT, Int.reduceLE, Int.reduceNeg, Int.reduceEq, Int.reduceAdd, Int.reduceSub, Int.reduceMul, Int.reduceToNat, Int.natCast_one, ne_eq, not_true_eq_false, not_false_eq_true, Bool.false_eq_true, Int.toNat_natCast, h3, hf, optH]
    refine Ab.Ends.fresh ?_ (eF_plain _) (by simp [hf, optTV, TV.refs, TV0.refs, AV.refs])
    simp only [resultOf, Try.f15, go_sem, ↓reduceIte, reduceCtorEq, Nat.reduceEqDiff, Nat.reduceAdd, Nat.reduceSub, Nat.reduceMul, Nat.reduceLeDiff, Int.reduceLT, Int.reduceLE, Int.reduceNeg, Int.reduceEq, Int.reduceAdd, Int.reduceSub, Int.reduceMul, Int.reduceToNat, Int.natCast_one, ne_eq, not_true_eq_false, not_false_eq_true, Bool.false_eq_true, Int.toNat_natCast, hf, optTV, hcl, downAll, TV.down]
  · have hf : residF u f x = none := by simp [residF, h3]
    simp only [go_sem, ↓reduceIte, reduceCtorEq, Nat.reduceEqDiff, Nat.reduceAdd, Nat.reduceSub, Nat.reduceMul, Nat.reduceLeDiff, Int.reduceLT, Int.reduceLE, Int.reduceNeg, Int.reduceEq, Int.reduceAdd, Int.reduceSub, Int.reduceMul, Int.reduceToNat, Int.natCast_one, ne_eq, not_true_eq_false, not_false_eq_true, Bool.false_eq_true, Int.toNat_natCast, h3, hf, optH]
    exact Ab.Ends.same (by simp only [resultOf, Try.f15, go_sem, ↓reduceIte, reduceCtorEq, Nat.reduceEqDiff, Nat.reduceAdd, Nat.reduceSub, Nat.reduceMul, Nat.reduceLeDiff, Int.reduceLT, Int.reduceLE, Int.reduceNeg, Int.reduceEq, Int.reduceAdd, Int.reduceSub, Int.reduceMul, Int.reduceToNat, Int.natCast_one, ne_eq, not_true_eq_false, not_false_eq_true, Bool.false_eq_true, Int.toNat_natCast, hf, optTV, downAll, TV.down]) (fun i hi => by first | rfl | simp only [go_sem, ne_add hi, ne_self hi]) (by first | exact Nat.le_refl _ | (simp only [go_sem]; omega)) (by simp [TV.refs, TV0.refs, AV.refs, hf, optTV, downAll, TV.down])
theorem iResidualOf_ok (u f : List Nat) (x i0 o0 i1 o1 : Nat) (H : Heap) (hr0 : Ab.Row H i0 o0 (eF u)) (hr1 : Ab.Row H i1 o1 (eF f)) (hl : u.length ≤ 2 ^ 20) (hl1 : f.length ≤ 2 ^ 20) :
    Ok Try.prog 16 [.v (.sl i0 o0 u.length 1), .v (.sl i1 o1 f.length 1), .v (.flt .f32 x)] H (optTV H.n (residF u f x)) (optH H (residF u f x)) := by
  refine Ok.of_fin (fn := Try.f16) (c := _) F.hm Try.func16 rfl Try.call16 (by kernel_rfl) (by simp) ?_
  show Ab.Fin _ _ _ _ (Ab.Ends Try.prog Try.f16 _ _ _)
  simp only [go_sem, ↓reduceIte, reduceCtorEq, Nat.reduceEqDiff, Nat.reduceAdd, Nat.reduceSub, Nat.reduceMul, Nat.reduceLeDiff, Int.reduceLT, Int.reduceLE, Int.reduceNeg, Int.reduceEq, Int.reduceAdd, Int.reduceSub, Int.reduceMul, Int.reduceToNat, Int.natCast_one, ne_eq, not_true_eq_false, not_false_eq_true, Bool.false_eq_true, Int.toNat_natCast]
  refine callG_intro (areLines_ok u f x _ _ _ _ _ hr0 hr1 hl hl1) ?_
  rcases (areL u f x).eq_false_or_eq_true with h1 | h1
  case inr =>
    have hf : residF u f x = none := by simp [residF, h1]
    simp only [go_sem, ↓reduceIte, reduceCtorEq, Nat.reduceEqDiff, Nat.reduceAdd, Nat.reduceSub, Nat.reduceMul, Nat.reduceLeDiff, Int.reduceLT, Int.reduceLE, Int.reduceNeg, Int.reduceEq, Int.reduceAdd, Int.reduceSub, Int.reduceMul, Int.reduceToNat, Int.natCast_one, ne_eq, not_true_eq_false, not_false_eq_true, Bool.false_eq_true, Int.toNat_natCast, h1, hf, optH]
    exact Ab.Ends.same (by simp only [resultOf, Try.f16, go_sem, ↓reduceIte, reduceCtorEq, Nat.reduceEqDiff, Nat.reduceAdd, Nat.reduceSub, Nat.reduceMul, Nat.reduceLeDiff, Int.reduceLT, Int.reduceLE, Int.reduceNeg, Int.reduceEq, Int.reduceAdd, Int.reduceSub, Int.reduceMul, Int.reduceToNat, Int.natCast_one, ne_eq, not_true_eq_false, not_false_eq_true, Bool.false_eq_true, Int.toNat_natCast, hf, optTV, downAll, TV.down]) (fun i hi => by first | rfl | simp only [go_sem, ne_add hi, ne_self hi]) (by first | exact Nat.le_refl _ | (simp only [go_sem]; omega)) (by simp [TV.refs, TV0.refs, AV.refs, hf, optTV, downAll, TV.down])
  have hfl : u.length = f.length := by simp [areL] at h1; exact h1.1.2
  simp only [go_sem, ↓reduceIte, reduceCtorEq, Nat.reduceEqDiff, Nat.reduceAdd, Nat.reduceSub, Nat.reduceMul, Nat.reduceLeDiff, Int.reduceLT, Int.reduceLE, Int.reduceNeg, Int.reduceEq, Int.reduceAdd, Int.reduceSub, Int.reduceMul, Int.reduceToNat, Int.natCast_one, ne_eq, not_true_eq_false, not_false_eq_true, Bool.false_eq_true, Int.toNat_natCast, h1]
  rw [Fin_loop]
  refine Fin_rule (fun m s H' => ∃ j N, m + j = u.length ∧ s 0 = .v (.sl i0 o0 u.length 1) ∧ s 1 = .v (.sl i1 o1 f.length 1) ∧ s 2 = .v (.flt .f32 x) ∧ s 8 = .v (.sl N 0 j 1) ∧ s 18 = .v (.sl i0 o0 u.length 1) ∧ s 19 = .v (.int .i64 u.length) ∧ s 20 = .v (.int .i64 j) ∧ H.n ≤ N ∧ N < H'.n ∧ H'.f N = .own (eF (resP u f x j)) ∧ ∀ i, i < H.n → H'.f i = H.f i)
    u.length ⟨0, H.n, rfl, by simp only [go_sem, ↓reduceIte, reduceCtorEq, Nat.reduceEqDiff], by simp only [go_sem, ↓reduceIte, reduceCtorEq, Nat.reduceEqDiff], by simp only [go_sem, ↓reduceIte, reduceCtorEq, Nat.reduceEqDiff], by simp only [go_sem, ↓reduceIte, reduceCtorEq, Nat.reduceEqDiff], by simp only [go_sem, ↓reduceIte, reduceCtorEq, Nat.reduceEqDiff], by simp only [go_sem, ↓reduceIte, reduceCtorEq, Nat.reduceEqDiff], by simp only [go_sem, ↓reduceIte, reduceCtorEq, Nat.reduceEqDiff, Int.natCast_zero], Nat.le_refl _, Nat.lt_succ_self _, by simp only [go_sem, ↓reduceIte]; rfl, fun i hi => by simp only [go_sem, ↓reduceIte, ne_self hi]⟩ ?_
  rintro m s H' ⟨j, N, him, s0, s1, s2, s8, s18, s19, s20, hN, hN2, hf, hx⟩ next
  have hr := hr0.mono (by omega) (hx i0 hr0.lt)
  have hr2 := hr1.mono (by omega) (hx i1 hr1.lt)
  by_cases hi : (j : Int) < (u.length : Int)
  · have b5 : (0 : Int) ≤ (j : Int) := by omega
    have b6 : (j : Int) < (f.length : Int) := by omega
    have hju : j < u.length := by omega
    have hjf : j < f.length := by omega
    have c1 := hr.atF hju
    have c2 := hr2.atF hjf
    have a3 := @wrap_succ j (by omega)
    have d4 : IntKind.i64.wrap ((j : Int) - 1) = (j : Int) - 1 := wrap_i64 (by omega) (by omega)
    have hap := app1F hN2 hf (by rw [resP_len]; omega)
    rw [resP_len] at hap
    have hlt : ∀ i, i < H.n → i < H'.n := fun i h => Nat.lt_of_lt_of_le h (Nat.le_trans hN (Nat.le_of_lt hN2))
    have hE : fop .sub .f32 f[j] (fop .quo .f32 (fop .sub .f32 (fop .sub .f32 (fop .mul .f32 1073741824 u[j]) (atL u ((j : Int) - 1))) (atL u ((j + 1 : Nat) : Int))) (fop .mul .f32 x x)) = resAt u f x j := by
      rw [resAt, getD_in0 u hju, getD_in0 f hjf]
    simp only [go_sem, ↓reduceIte, reduceCtorEq, Nat.reduceEqDiff, Nat.reduceAdd, Nat.reduceSub, Nat.reduceMul, Nat.reduceLeDiff, Int.reduceLT, Int.reduceLE, Int.reduceNeg, Int.reduceEq, Int.reduceAdd, Int.reduceSub, Int.reduceMul, Int.reduceToNat, Int.natCast_one, ne_eq, not_true_eq_false, not_false_eq_true, Bool.false_eq_true, Int.toNat_natCast, s0, s1, s2, s8, s18, s19, s20, hi, b5, c1, d4, a3, Nat.mul_one, cz_two]
    refine callG_intro (lineAt_ok u _ _ _ _ hr) ?_
    simp only [go_sem, ↓reduceIte, reduceCtorEq, Nat.reduceEqDiff, Nat.reduceAdd, Nat.reduceSub, Nat.reduceMul, Nat.reduceLeDiff, Int.reduceLT, Int.reduceLE, Int.reduceNeg, Int.reduceEq, Int.reduceAdd, Int.reduceSub, Int.reduceMul, Int.reduceToNat, Int.natCast_one, ne_eq, not_true_eq_false, not_false_eq_true, Bool.false_eq_true, Int.toNat_natCast, s0, s1, s2, s8, s18, s19, s20, a3]
    refine callG_intro (lineAt_ok u _ _ _ _ hr) ?_
    simp only [go_sem, ↓reduceIte, reduceCtorEq, Nat.reduceEqDiff, Nat.reduceAdd, Nat.reduceSub, Nat.reduceMul, Nat.reduceLeDiff, Int.reduceLT, Int.reduceLE, Int.reduceNeg, Int.reduceEq, Int.reduceAdd, Int.reduceSub, Int.reduceMul, Int.reduceToNat, Int.natCast_one, ne_eq, not_true_eq_false, not_false_eq_true, Bool.false_eq_true, Int.toNat_natCast, s0, s1, s2, s8, s18, s19, s20, b5, b6, c2, Nat.mul_one, hE, hap, a3]
    refine next (m - 1) _ _ (by omega) ⟨j + 1, H'.n + 1, by omega, ?_, ?_, ?_, ?_, ?_, ?_, ?_, by omega, ?_, ?_, fun i hi => ?_⟩
    · simp only [go_sem, ↓reduceIte, reduceCtorEq, Nat.reduceEqDiff, s0]
    · simp only [go_sem, ↓reduceIte, reduceCtorEq, Nat.reduceEqDiff, s1]
    · simp only [go_sem, ↓reduceIte, reduceCtorEq, Nat.reduceEqDiff, s2]
    · simp only [go_sem, ↓reduceIte, reduceCtorEq, Nat.reduceEqDiff]
    · simp only [go_sem, ↓reduceIte, reduceCtorEq, Nat.reduceEqDiff, s18]
    · simp only [go_sem, ↓reduceIte, reduceCtorEq, Nat.reduceEqDiff, s19]
    · simp only [go_sem, ↓reduceIte, reduceCtorEq, Nat.reduceEqDiff]
    · simp only [go_sem]; omega
    · simp only [go_sem, ↓reduceIte]; rfl
    · have h1 : i ≠ N := by omega
      simp only [go_sem, ↓reduceIte, ne_add (hlt i hi), ne_self (hlt i hi), h1, hx i hi]
  · obtain rfl : j = u.length := by omega
    have hcl := resP_len u f x u.length
    have hq : Ab.Row H' N 0 (eF (resP u f x u.length)) := Ab.Row.of_f hN2 (by rw [hf]; rfl)
    have hfin := finiteList_ok (resP u f x u.length) N 0 H' hq (by rw [hcl]; omega)
    rw [hcl] at hfin
    simp only [go_sem, ↓reduceIte, reduceCtorEq, Nat.reduceEqDiff, Nat.reduceAdd, Nat.reduceSub, Nat.reduceMul, Nat.reduceLeDiff, Int.reduceLT, Int.reduceLE, Int.reduceNeg, Int.reduceEq, Int.reduceAdd, Int.reduceSub, Int.reduceMul, Int.reduceToNat, Int.natCast_one, ne_eq, not_true_eq_false, not_false_eq_true, Bool.false_eq_true, Int.toNat_natCast, s0, s8, s18, s19, s20, hi]
    refine callG_intro hfin ?_
    rcases (allFin (resP u f x u.length)).eq_false_or_eq_true with h3 | h3
    · have hF : residF u f x = some (resP u f x u.length) := by rw [residF, if_pos ⟨h1, h3⟩]
      simp only [go_sem, ↓reduceIte, reduceCtorEq, Nat.reduceEqDiff, Nat.reduceAdd, Nat.reduceSub, Nat.reduceMul, Nat.reduceLeDiff, Int.reduceLT, Int.reduceLE, Int.reduceNeg, Int.reduceEq, Int.reduceAdd, Int.reduceSub, Int.reduceMul, Int.reduceToNat, Int.natCast_one, ne_eq, not_true_eq_false, not_false_eq_true, Bool.false_eq_true, Int.toNat_natCast, h3, hF, optH, finTV]
      refine Ab.Ends.one (N := N) ?_ hN hN2 hf hx (eF_plain _) (by simp [hF, optTV, TV.refs, TV0.refs, AV.refs])
      simp only [resultOf, Try.f16, go_sem, ↓reduceIte, reduceCtorEq, Nat.reduceEqDiff, Nat.reduceAdd, Nat.reduceSub, Nat.reduceMul, Nat.reduceLeDiff, Int.reduceLT, Int.reduceLE, Int.reduceNeg, Int.reduceEq, Int.reduceAdd, Int.reduceSub, Int.reduceMul, Int.reduceToNat, Int.natCast_one, ne_eq, not_true_eq_false, not_false_eq_true, Bool.false_eq_true, Int.toNat_natCast, hF, optTV, hcl, downAll, TV.down, TV.ren, TV0.ren, AV.ren, Nat.lt_irrefl]
    · have hF : residF u f x = none := by simp [residF, h3]
      have hle : H.n ≤ H'.n := by omega
      simp only [go_sem, ↓reduceIte, reduceCtorEq, Nat.reduceEqDiff, Nat.reduceAdd, Nat.reduceSub, Nat.reduceMul, Nat.reduceLeDiff, Int.reduceLT, Int.reduceLE, Int.reduceNeg, Int.reduceEq, Int.reduceAdd, Int.reduceSub, Int.reduceMul, Int.reduceToNat, Int.natCast_one, ne_eq, not_true_eq_false, not_false_eq_true, Bool.false_eq_true, Int.toNat_natCast, h3, hF, optH, finTV]
      exact Ab.Ends.same (by simp only [resultOf, Try.f16, go_sem, ↓reduceIte, reduceCtorEq, Nat.reduceEqDiff, Nat.reduceAdd, Nat.reduceSub, Nat.reduceMul, Nat.reduceLeDiff, Int.reduceLT, Int.reduceLE, Int.reduceNeg, Int.reduceEq, Int.reduceAdd, Int.reduceSub, Int.reduceMul, Int.reduceToNat, Int.natCast_one, ne_eq, not_true_eq_false, not_false_eq_true, Bool.false_eq_true, Int.toNat_natCast, hF, optTV, downAll, TV.down]) (fun i hi => by simp only [go_sem, ↓reduceIte, ne_add (Nat.lt_of_lt_of_le hi hle), ne_self (Nat.lt_of_lt_of_le hi hle), hx i hi]) (by first | omega | (simp only [go_sem]; omega)) (by simp [TV.refs, TV0.refs, AV.refs, hF, optTV, downAll, TV.down])
end Go.Proofs.Ytdfihkbkldcecab.W
