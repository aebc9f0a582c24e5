/- The law FnExactRefineLine answers true for all arguments, and leaves what was there. No conditions. -/
import Derived.Test.YtdfihkbkldcecabRefine
import Derived.Test.YtdfihkbkldcecabAbM
import Derived.Test.YtdfihkbkldcecabRows
import Derived.Test.YtdfihkbkldcecabChecked
import Derived.WalkKit
import Derived.ProofKit
import Derived.OpenShut
import Derived.ShutString
import Derived.ChangeOld
import Derived.Below
import Derived.SizedLaws
namespace Go.Proofs.Ytdfihkbkldcecab.W
open Go Go.Ab Go.Proofs Go.Proofs.Ytdfihkbkldcecab
set_option maxRecDepth 100000
set_option linter.unusedSimpArgs false
set_option linter.unusedVariables false
set_option maxHeartbeats 4000000

/-- One list of numbers in, a list and a truth out. -/
theorem lawRefineLine (l : List Nat) (hlen : l.length ≤ maxLen) (id : Nat) (H : Heap) (hr : Ab.Row H id 0 (eF l)) : ∃ H2, Ok Try.prog 3 [.v (.sl id 0 l.length 1)] H (.v (.bool true)) H2 := by
  refine ⟨H, ?_⟩
  refine Ok.of_fin (fn := Try.f3) (c := _) F.hm Try.func3 rfl Try.call3 (by kernel_rfl) (by simp) ?_
  show Ab.Fin _ _ _ _ (Ab.Ends Try.prog Try.f3 _ _ _)
  by_cases hb : (1048576 : Int) < (l.length : Int)
  · simp only [go_sem, ↓reduceIte, reduceCtorEq, Nat.reduceEqDiff, Nat.reduceAdd, Nat.reduceSub, Nat.reduceMul, Nat.reduceLeDiff, Int.reduceLT, Int.reduceLE, Int.reduceNeg, Int.reduceEq, Int.reduceAdd, Int.reduceSub, Int.reduceMul, Int.reduceToNat, Int.natCast_one, ne_eq, not_true_eq_false, not_false_eq_true, Bool.false_eq_true, Int.toNat_natCast, hb]
    exact Ab.Ends.same (by simp only [resultOf, Try.f3, go_sem, ↓reduceIte, reduceCtorEq, Nat.reduceEqDiff, Nat.reduceAdd, Nat.reduceSub, Nat.reduceMul, Nat.reduceLeDiff, Int.reduceLT, Int.reduceLE, Int.reduceNeg, Int.reduceEq, Int.reduceAdd, Int.reduceSub, Int.reduceMul, Int.reduceToNat, Int.natCast_one, ne_eq, not_true_eq_false, not_false_eq_true, Bool.false_eq_true, Int.toNat_natCast]) (fun i hi => by first | rfl | simp only [go_sem, ne_add hi, ne_self hi]) (by first | exact Nat.le_refl _ | (simp only [go_sem]; omega)) (by simp [TV.refs, TV0.refs, AV.refs])
  have hl : l.length ≤ 2 ^ 20 := by omega
  have n0 := ne_self hr.lt
  have n1 := fun k => ne_add hr.lt k
  cases hR : refF l with
  | none =>
    have hs : ∀ id off H, Ab.Row H id off (eF l) → Ok Try.prog 9 [.v (.sl id off l.length 1)] H (.t [.v .nilsl, .v (.bool false)]) H := fun id off H hr => by have := sRefineLine_ok l id off H hr hl; rw [hR] at this; exact this
    have hi : ∀ id off H, Ab.Row H id off (eF l) → Ok Try.prog 11 [.v (.sl id off l.length 1)] H (.t [.v .nilsl, .v (.bool false)]) H := fun id off H hr => by have := iRefineLine_ok l id off H hr hl; rw [hR] at this; exact this
    simp only [go_sem, ↓reduceIte, reduceCtorEq, Nat.reduceEqDiff, Nat.reduceAdd, Nat.reduceSub, Nat.reduceMul, Nat.reduceLeDiff, Int.reduceLT, Int.reduceLE, Int.reduceNeg, Int.reduceEq, Int.reduceAdd, Int.reduceSub, Int.reduceMul, Int.reduceToNat, Int.natCast_one, ne_eq, not_true_eq_false, not_false_eq_true, Bool.false_eq_true, Int.toNat_natCast, hb]
    refine callG_intro (toFloat32S_ok l _ _ _ hr hl) ?_
    simp only [go_sem, ↓reduceIte, reduceCtorEq, Nat.reduceEqDiff, Nat.reduceAdd, Nat.reduceSub, Nat.reduceMul, Nat.reduceLeDiff, Int.reduceLT, Int.reduceLE, Int.reduceNeg, Int.reduceEq, Int.reduceAdd, Int.reduceSub, Int.reduceMul, Int.reduceToNat, Int.natCast_one, ne_eq, not_true_eq_false, not_false_eq_true, Bool.false_eq_true, Int.toNat_natCast]
    refine callG_intro (hs _ _ _ ?_) ?_
    · exact Ab.Row.of_f (by simp only [go_sem]; omega) (by simp only [go_sem, ↓reduceIte, reduceCtorEq, Nat.reduceEqDiff, Nat.reduceAdd, Nat.reduceSub, Nat.reduceMul, Nat.reduceLeDiff, Int.reduceLT, Int.reduceLE, Int.reduceNeg, Int.reduceEq, Int.reduceAdd, Int.reduceSub, Int.reduceMul, Int.reduceToNat, Int.natCast_one, ne_eq, not_true_eq_false, not_false_eq_true, Bool.false_eq_true, Int.toNat_natCast])
    simp only [go_sem, ↓reduceIte, reduceCtorEq, Nat.reduceEqDiff, Nat.reduceAdd, Nat.reduceSub, Nat.reduceMul, Nat.reduceLeDiff, Int.reduceLT, Int.reduceLE, Int.reduceNeg, Int.reduceEq, Int.reduceAdd, Int.reduceSub, Int.reduceMul, Int.reduceToNat, Int.natCast_one, ne_eq, not_true_eq_false, not_false_eq_true, Bool.false_eq_true, Int.toNat_natCast]
    refine callG_intro (toFloat32S_ok l _ _ _ ?_ hl) ?_
    · exact hr.mono (by simp only [go_sem]; omega) (by simp only [go_sem, ↓reduceIte, reduceCtorEq, Nat.reduceEqDiff, Nat.reduceAdd, Nat.reduceSub, Nat.reduceMul, Nat.reduceLeDiff, Int.reduceLT, Int.reduceLE, Int.reduceNeg, Int.reduceEq, Int.reduceAdd, Int.reduceSub, Int.reduceMul, Int.reduceToNat, Int.natCast_one, ne_eq, not_true_eq_false, not_false_eq_true, Bool.false_eq_true, Int.toNat_natCast, ne_self hr.lt, fun k => ne_add hr.lt k])
    simp only [go_sem, ↓reduceIte, reduceCtorEq, Nat.reduceEqDiff, Nat.reduceAdd, Nat.reduceSub, Nat.reduceMul, Nat.reduceLeDiff, Int.reduceLT, Int.reduceLE, Int.reduceNeg, Int.reduceEq, Int.reduceAdd, Int.reduceSub, Int.reduceMul, Int.reduceToNat, Int.natCast_one, ne_eq, not_true_eq_false, not_false_eq_true, Bool.false_eq_true, Int.toNat_natCast]
    refine callG_intro (hi _ _ _ ?_) ?_
    · exact Ab.Row.of_f (by simp only [go_sem]; omega) (by simp only [go_sem, ↓reduceIte, reduceCtorEq, Nat.reduceEqDiff, Nat.reduceAdd, Nat.reduceSub, Nat.reduceMul, Nat.reduceLeDiff, Int.reduceLT, Int.reduceLE, Int.reduceNeg, Int.reduceEq, Int.reduceAdd, Int.reduceSub, Int.reduceMul, Int.reduceToNat, Int.natCast_one, ne_eq, not_true_eq_false, not_false_eq_true, Bool.false_eq_true, Int.toNat_natCast])
    simp only [go_sem, ↓reduceIte, reduceCtorEq, Nat.reduceEqDiff, Nat.reduceAdd, Nat.reduceSub, Nat.reduceMul, Nat.reduceLeDiff, Int.reduceLT, Int.reduceLE, Int.reduceNeg, Int.reduceEq, Int.reduceAdd, Int.reduceSub, Int.reduceMul, Int.reduceToNat, Int.natCast_one, ne_eq, not_true_eq_false, not_false_eq_true, Bool.false_eq_true, Int.toNat_natCast]
    refine callG_intro (eqFloat32S_nil _) ?_
    simp only [go_sem, ↓reduceIte, reduceCtorEq, Nat.reduceEqDiff, Nat.reduceAdd, Nat.reduceSub, Nat.reduceMul, Nat.reduceLeDiff, Int.reduceLT, Int.reduceLE, Int.reduceNeg, Int.reduceEq, Int.reduceAdd, Int.reduceSub, Int.reduceMul, Int.reduceToNat, Int.natCast_one, ne_eq, not_true_eq_false, not_false_eq_true, Bool.false_eq_true, Int.toNat_natCast]
    refine callG_intro (toFloat32S_ok l _ _ _ ?_ hl) ?_
    · exact hr.mono (by simp only [go_sem]; omega) (by simp only [go_sem, ↓reduceIte, reduceCtorEq, Nat.reduceEqDiff, Nat.reduceAdd, Nat.reduceSub, Nat.reduceMul, Nat.reduceLeDiff, Int.reduceLT, Int.reduceLE, Int.reduceNeg, Int.reduceEq, Int.reduceAdd, Int.reduceSub, Int.reduceMul, Int.reduceToNat, Int.natCast_one, ne_eq, not_true_eq_false, not_false_eq_true, Bool.false_eq_true, Int.toNat_natCast, ne_self hr.lt, fun k => ne_add hr.lt k])
    simp only [go_sem, ↓reduceIte, reduceCtorEq, Nat.reduceEqDiff, Nat.reduceAdd, Nat.reduceSub, Nat.reduceMul, Nat.reduceLeDiff, Int.reduceLT, Int.reduceLE, Int.reduceNeg, Int.reduceEq, Int.reduceAdd, Int.reduceSub, Int.reduceMul, Int.reduceToNat, Int.natCast_one, ne_eq, not_true_eq_false, not_false_eq_true, Bool.false_eq_true, Int.toNat_natCast]
    refine callG_intro (eqFloat32S_ok l _ _ _ _ _ ?_ ?_ hl) ?_
    · exact Ab.Row.of_f (by simp only [go_sem]; omega) (by simp only [go_sem, ↓reduceIte, reduceCtorEq, Nat.reduceEqDiff, Nat.reduceAdd, Nat.reduceSub, Nat.reduceMul, Nat.reduceLeDiff, Int.reduceLT, Int.reduceLE, Int.reduceNeg, Int.reduceEq, Int.reduceAdd, Int.reduceSub, Int.reduceMul, Int.reduceToNat, Int.natCast_one, ne_eq, not_true_eq_false, not_false_eq_true, Bool.false_eq_true, Int.toNat_natCast])
    · exact Ab.Row.of_f (by simp only [go_sem]; omega) (by simp only [go_sem, ↓reduceIte, reduceCtorEq, Nat.reduceEqDiff, Nat.reduceAdd, Nat.reduceSub, Nat.reduceMul, Nat.reduceLeDiff, Int.reduceLT, Int.reduceLE, Int.reduceNeg, Int.reduceEq, Int.reduceAdd, Int.reduceSub, Int.reduceMul, Int.reduceToNat, Int.natCast_one, ne_eq, not_true_eq_false, not_false_eq_true, Bool.false_eq_true, Int.toNat_natCast])
    simp only [go_sem, ↓reduceIte, reduceCtorEq, Nat.reduceEqDiff, Nat.reduceAdd, Nat.reduceSub, Nat.reduceMul, Nat.reduceLeDiff, Int.reduceLT, Int.reduceLE, Int.reduceNeg, Int.reduceEq, Int.reduceAdd, Int.reduceSub, Int.reduceMul, Int.reduceToNat, Int.natCast_one, ne_eq, not_true_eq_false, not_false_eq_true, Bool.false_eq_true, Int.toNat_natCast]
    refine callG_intro (markFloat32S_ok l _ 1 _ ?_ ?_ hl (by decide)) ?_
    · (simp only [go_sem]; omega)
    · simp only [go_sem, ↓reduceIte, reduceCtorEq, Nat.reduceEqDiff, Nat.reduceAdd, Nat.reduceSub, Nat.reduceMul, Nat.reduceLeDiff, Int.reduceLT, Int.reduceLE, Int.reduceNeg, Int.reduceEq, Int.reduceAdd, Int.reduceSub, Int.reduceMul, Int.reduceToNat, Int.natCast_one, ne_eq, not_true_eq_false, not_false_eq_true, Bool.false_eq_true, Int.toNat_natCast]
    have p1 : ¬ ((1 + l.length : Nat) : Int) < 0 := by omega
    simp only [go_sem, ↓reduceIte, reduceCtorEq, Nat.reduceEqDiff, Nat.reduceAdd, Nat.reduceSub, Nat.reduceMul, Nat.reduceLeDiff, Int.reduceLT, Int.reduceLE, Int.reduceNeg, Int.reduceEq, Int.reduceAdd, Int.reduceSub, Int.reduceMul, Int.reduceToNat, Int.natCast_one, ne_eq, not_true_eq_false, not_false_eq_true, Bool.false_eq_true, Int.toNat_natCast, p1]
    refine callG_intro (eqFloat32S_nil _) ?_
    simp only [go_sem, ↓reduceIte, reduceCtorEq, Nat.reduceEqDiff, Nat.reduceAdd, Nat.reduceSub, Nat.reduceMul, Nat.reduceLeDiff, Int.reduceLT, Int.reduceLE, Int.reduceNeg, Int.reduceEq, Int.reduceAdd, Int.reduceSub, Int.reduceMul, Int.reduceToNat, Int.natCast_one, ne_eq, not_true_eq_false, not_false_eq_true, Bool.false_eq_true, Int.toNat_natCast]
    refine callG_intro (markFloat32S_nil 1 _) ?_
    simp only [go_sem, ↓reduceIte, reduceCtorEq, Nat.reduceEqDiff, Nat.reduceAdd, Nat.reduceSub, Nat.reduceMul, Nat.reduceLeDiff, Int.reduceLT, Int.reduceLE, Int.reduceNeg, Int.reduceEq, Int.reduceAdd, Int.reduceSub, Int.reduceMul, Int.reduceToNat, Int.natCast_one, ne_eq, not_true_eq_false, not_false_eq_true, Bool.false_eq_true, Int.toNat_natCast]
    refine callG_intro (heldFloat32S_nil 1 _) ?_
    simp only [go_sem, ↓reduceIte, reduceCtorEq, Nat.reduceEqDiff, Nat.reduceAdd, Nat.reduceSub, Nat.reduceMul, Nat.reduceLeDiff, Int.reduceLT, Int.reduceLE, Int.reduceNeg, Int.reduceEq, Int.reduceAdd, Int.reduceSub, Int.reduceMul, Int.reduceToNat, Int.natCast_one, ne_eq, not_true_eq_false, not_false_eq_true, Bool.false_eq_true, Int.toNat_natCast]
    refine callG_intro (toFloat32S_ok l _ _ _ ?_ hl) ?_
    · exact hr.mono (by simp only [go_sem]; omega) (by simp only [go_sem, ↓reduceIte, reduceCtorEq, Nat.reduceEqDiff, Nat.reduceAdd, Nat.reduceSub, Nat.reduceMul, Nat.reduceLeDiff, Int.reduceLT, Int.reduceLE, Int.reduceNeg, Int.reduceEq, Int.reduceAdd, Int.reduceSub, Int.reduceMul, Int.reduceToNat, Int.natCast_one, ne_eq, not_true_eq_false, not_false_eq_true, Bool.false_eq_true, Int.toNat_natCast, ne_self hr.lt, fun k => ne_add hr.lt k])
    simp only [go_sem, ↓reduceIte, reduceCtorEq, Nat.reduceEqDiff, Nat.reduceAdd, Nat.reduceSub, Nat.reduceMul, Nat.reduceLeDiff, Int.reduceLT, Int.reduceLE, Int.reduceNeg, Int.reduceEq, Int.reduceAdd, Int.reduceSub, Int.reduceMul, Int.reduceToNat, Int.natCast_one, ne_eq, not_true_eq_false, not_false_eq_true, Bool.false_eq_true, Int.toNat_natCast]
    refine callG_intro (hi _ _ _ ?_) ?_
    · exact Ab.Row.of_f (by simp only [go_sem]; omega) (by simp only [go_sem, ↓reduceIte, reduceCtorEq, Nat.reduceEqDiff, Nat.reduceAdd, Nat.reduceSub, Nat.reduceMul, Nat.reduceLeDiff, Int.reduceLT, Int.reduceLE, Int.reduceNeg, Int.reduceEq, Int.reduceAdd, Int.reduceSub, Int.reduceMul, Int.reduceToNat, Int.natCast_one, ne_eq, not_true_eq_false, not_false_eq_true, Bool.false_eq_true, Int.toNat_natCast])
    simp only [go_sem, ↓reduceIte, reduceCtorEq, Nat.reduceEqDiff, Nat.reduceAdd, Nat.reduceSub, Nat.reduceMul, Nat.reduceLeDiff, Int.reduceLT, Int.reduceLE, Int.reduceNeg, Int.reduceEq, Int.reduceAdd, Int.reduceSub, Int.reduceMul, Int.reduceToNat, Int.natCast_one, ne_eq, not_true_eq_false, not_false_eq_true, Bool.false_eq_true, Int.toNat_natCast]
    refine callG_intro (eqFloat32S_nil _) ?_
    simp only [go_sem, ↓reduceIte, reduceCtorEq, Nat.reduceEqDiff, Nat.reduceAdd, Nat.reduceSub, Nat.reduceMul, Nat.reduceLeDiff, Int.reduceLT, Int.reduceLE, Int.reduceNeg, Int.reduceEq, Int.reduceAdd, Int.reduceSub, Int.reduceMul, Int.reduceToNat, Int.natCast_one, ne_eq, not_true_eq_false, not_false_eq_true, Bool.false_eq_true, Int.toNat_natCast]
    refine callG_intro (heldFloat32S_nil 1 _) ?_
    simp only [go_sem, ↓reduceIte, reduceCtorEq, Nat.reduceEqDiff, Nat.reduceAdd, Nat.reduceSub, Nat.reduceMul, Nat.reduceLeDiff, Int.reduceLT, Int.reduceLE, Int.reduceNeg, Int.reduceEq, Int.reduceAdd, Int.reduceSub, Int.reduceMul, Int.reduceToNat, Int.natCast_one, ne_eq, not_true_eq_false, not_false_eq_true, Bool.false_eq_true, Int.toNat_natCast]
    exact Ab.Ends.same (by simp only [resultOf, Try.f3, go_sem, ↓reduceIte, reduceCtorEq, Nat.reduceEqDiff, Nat.reduceAdd, Nat.reduceSub, Nat.reduceMul, Nat.reduceLeDiff, Int.reduceLT, Int.reduceLE, Int.reduceNeg, Int.reduceEq, Int.reduceAdd, Int.reduceSub, Int.reduceMul, Int.reduceToNat, Int.natCast_one, ne_eq, not_true_eq_false, not_false_eq_true, Bool.false_eq_true, Int.toNat_natCast]) (fun i hi => by first | rfl | simp only [go_sem, ne_add hi, ne_self hi]) (by first | exact Nat.le_refl _ | (simp only [go_sem]; omega)) (by simp [TV.refs, TV0.refs, AV.refs])
  | some out =>
    have ho : out.length ≤ 2 ^ 20 := (by simp only [refF] at hR; split at hR <;> cases hR; rw [refL_len]; omega)
    have hs : ∀ id off H, Ab.Row H id off (eF l) → Ok Try.prog 9 [.v (.sl id off l.length 1)] H (.t [.v (.sl H.n 0 out.length 1), .v (.bool true)]) (H.alloc (.own (eF out))) := fun id off H hr => by have := sRefineLine_ok l id off H hr hl; rw [hR] at this; exact this
    have hi : ∀ id off H, Ab.Row H id off (eF l) → Ok Try.prog 11 [.v (.sl id off l.length 1)] H (.t [.v (.sl H.n 0 out.length 1), .v (.bool true)]) (H.alloc (.own (eF out))) := fun id off H hr => by have := iRefineLine_ok l id off H hr hl; rw [hR] at this; exact this
    simp only [go_sem, ↓reduceIte, reduceCtorEq, Nat.reduceEqDiff, Nat.reduceAdd, Nat.reduceSub, Nat.reduceMul, Nat.reduceLeDiff, Int.reduceLT, Int.reduceLE, Int.reduceNeg, Int.reduceEq, Int.reduceAdd, Int.reduceSub, Int.reduceMul, Int.reduceToNat, Int.natCast_one, ne_eq, not_true_eq_false, not_false_eq_true, Bool.false_eq_true, Int.toNat_natCast, hb]
    refine callG_intro (toFloat32S_ok l _ _ _ hr hl) ?_
    simp only [go_sem, ↓reduceIte, reduceCtorEq, Nat.reduceEqDiff, Nat.reduceAdd, Nat.reduceSub, Nat.reduceMul, Nat.reduceLeDiff, Int.reduceLT, Int.reduceLE, Int.reduceNeg, Int.reduceEq, Int.reduceAdd, Int.reduceSub, Int.reduceMul, Int.reduceToNat, Int.natCast_one, ne_eq, not_true_eq_false, not_false_eq_true, Bool.false_eq_true, Int.toNat_natCast]
    refine callG_intro (hs _ _ _ ?_) ?_
    · exact Ab.Row.of_f (by simp only [go_sem]; omega) (by simp only [go_sem, ↓reduceIte, reduceCtorEq, Nat.reduceEqDiff, Nat.reduceAdd, Nat.reduceSub, Nat.reduceMul, Nat.reduceLeDiff, Int.reduceLT, Int.reduceLE, Int.reduceNeg, Int.reduceEq, Int.reduceAdd, Int.reduceSub, Int.reduceMul, Int.reduceToNat, Int.natCast_one, ne_eq, not_true_eq_false, not_false_eq_true, Bool.false_eq_true, Int.toNat_natCast])
    simp only [go_sem, ↓reduceIte, reduceCtorEq, Nat.reduceEqDiff, Nat.reduceAdd, Nat.reduceSub, Nat.reduceMul, Nat.reduceLeDiff, Int.reduceLT, Int.reduceLE, Int.reduceNeg, Int.reduceEq, Int.reduceAdd, Int.reduceSub, Int.reduceMul, Int.reduceToNat, Int.natCast_one, ne_eq, not_true_eq_false, not_false_eq_true, Bool.false_eq_true, Int.toNat_natCast]
    refine callG_intro (toFloat32S_ok l _ _ _ ?_ hl) ?_
    · exact hr.mono (by simp only [go_sem]; omega) (by simp only [go_sem, ↓reduceIte, reduceCtorEq, Nat.reduceEqDiff, Nat.reduceAdd, Nat.reduceSub, Nat.reduceMul, Nat.reduceLeDiff, Int.reduceLT, Int.reduceLE, Int.reduceNeg, Int.reduceEq, Int.reduceAdd, Int.reduceSub, Int.reduceMul, Int.reduceToNat, Int.natCast_one, ne_eq, not_true_eq_false, not_false_eq_true, Bool.false_eq_true, Int.toNat_natCast, ne_self hr.lt, fun k => ne_add hr.lt k])
    simp only [go_sem, ↓reduceIte, reduceCtorEq, Nat.reduceEqDiff, Nat.reduceAdd, Nat.reduceSub, Nat.reduceMul, Nat.reduceLeDiff, Int.reduceLT, Int.reduceLE, Int.reduceNeg, Int.reduceEq, Int.reduceAdd, Int.reduceSub, Int.reduceMul, Int.reduceToNat, Int.natCast_one, ne_eq, not_true_eq_false, not_false_eq_true, Bool.false_eq_true, Int.toNat_natCast]
    refine callG_intro (hi _ _ _ ?_) ?_
    · exact Ab.Row.of_f (by simp only [go_sem]; omega) (by simp only [go_sem, ↓reduceIte, reduceCtorEq, Nat.reduceEqDiff, Nat.reduceAdd, Nat.reduceSub, Nat.reduceMul, Nat.reduceLeDiff, Int.reduceLT, Int.reduceLE, Int.reduceNeg, Int.reduceEq, Int.reduceAdd, Int.reduceSub, Int.reduceMul, Int.reduceToNat, Int.natCast_one, ne_eq, not_true_eq_false, not_false_eq_true, Bool.false_eq_true, Int.toNat_natCast])
    simp only [go_sem, ↓reduceIte, reduceCtorEq, Nat.reduceEqDiff, Nat.reduceAdd, Nat.reduceSub, Nat.reduceMul, Nat.reduceLeDiff, Int.reduceLT, Int.reduceLE, Int.reduceNeg, Int.reduceEq, Int.reduceAdd, Int.reduceSub, Int.reduceMul, Int.reduceToNat, Int.natCast_one, ne_eq, not_true_eq_false, not_false_eq_true, Bool.false_eq_true, Int.toNat_natCast]
    refine callG_intro (eqFloat32S_ok out _ _ _ _ _ ?_ ?_ ho) ?_
    · exact Ab.Row.of_f (by simp only [go_sem]; omega) (by simp only [go_sem, ↓reduceIte, reduceCtorEq, Nat.reduceEqDiff, Nat.reduceAdd, Nat.reduceSub, Nat.reduceMul, Nat.reduceLeDiff, Int.reduceLT, Int.reduceLE, Int.reduceNeg, Int.reduceEq, Int.reduceAdd, Int.reduceSub, Int.reduceMul, Int.reduceToNat, Int.natCast_one, ne_eq, not_true_eq_false, not_false_eq_true, Bool.false_eq_true, Int.toNat_natCast])
    · exact Ab.Row.of_f (by simp only [go_sem]; omega) (by simp only [go_sem, ↓reduceIte, reduceCtorEq, Nat.reduceEqDiff, Nat.reduceAdd, Nat.reduceSub, Nat.reduceMul, Nat.reduceLeDiff, Int.reduceLT, Int.reduceLE, Int.reduceNeg, Int.reduceEq, Int.reduceAdd, Int.reduceSub, Int.reduceMul, Int.reduceToNat, Int.natCast_one, ne_eq, not_true_eq_false, not_false_eq_true, Bool.false_eq_true, Int.toNat_natCast])
    simp only [go_sem, ↓reduceIte, reduceCtorEq, Nat.reduceEqDiff, Nat.reduceAdd, Nat.reduceSub, Nat.reduceMul, Nat.reduceLeDiff, Int.reduceLT, Int.reduceLE, Int.reduceNeg, Int.reduceEq, Int.reduceAdd, Int.reduceSub, Int.reduceMul, Int.reduceToNat, Int.natCast_one, ne_eq, not_true_eq_false, not_false_eq_true, Bool.false_eq_true, Int.toNat_natCast]
    refine callG_intro (toFloat32S_ok l _ _ _ ?_ hl) ?_
    · exact hr.mono (by simp only [go_sem]; omega) (by simp only [go_sem, ↓reduceIte, reduceCtorEq, Nat.reduceEqDiff, Nat.reduceAdd, Nat.reduceSub, Nat.reduceMul, Nat.reduceLeDiff, Int.reduceLT, Int.reduceLE, Int.reduceNeg, Int.reduceEq, Int.reduceAdd, Int.reduceSub, Int.reduceMul, Int.reduceToNat, Int.natCast_one, ne_eq, not_true_eq_false, not_false_eq_true, Bool.false_eq_true, Int.toNat_natCast, ne_self hr.lt, fun k => ne_add hr.lt k])
    simp only [go_sem, ↓reduceIte, reduceCtorEq, Nat.reduceEqDiff, Nat.reduceAdd, Nat.reduceSub, Nat.reduceMul, Nat.reduceLeDiff, Int.reduceLT, Int.reduceLE, Int.reduceNeg, Int.reduceEq, Int.reduceAdd, Int.reduceSub, Int.reduceMul, Int.reduceToNat, Int.natCast_one, ne_eq, not_true_eq_false, not_false_eq_true, Bool.false_eq_true, Int.toNat_natCast]
    refine callG_intro (eqFloat32S_ok l _ _ _ _ _ ?_ ?_ hl) ?_
    · exact Ab.Row.of_f (by simp only [go_sem]; omega) (by simp only [go_sem, ↓reduceIte, reduceCtorEq, Nat.reduceEqDiff, Nat.reduceAdd, Nat.reduceSub, Nat.reduceMul, Nat.reduceLeDiff, Int.reduceLT, Int.reduceLE, Int.reduceNeg, Int.reduceEq, Int.reduceAdd, Int.reduceSub, Int.reduceMul, Int.reduceToNat, Int.natCast_one, ne_eq, not_true_eq_false, not_false_eq_true, Bool.false_eq_true, Int.toNat_natCast])
    · exact Ab.Row.of_f (by simp only [go_sem]; omega) (by simp only [go_sem, ↓reduceIte, reduceCtorEq, Nat.reduceEqDiff, Nat.reduceAdd, Nat.reduceSub, Nat.reduceMul, Nat.reduceLeDiff, Int.reduceLT, Int.reduceLE, Int.reduceNeg, Int.reduceEq, Int.reduceAdd, Int.reduceSub, Int.reduceMul, Int.reduceToNat, Int.natCast_one, ne_eq, not_true_eq_false, not_false_eq_true, Bool.false_eq_true, Int.toNat_natCast])
    simp only [go_sem, ↓reduceIte, reduceCtorEq, Nat.reduceEqDiff, Nat.reduceAdd, Nat.reduceSub, Nat.reduceMul, Nat.reduceLeDiff, Int.reduceLT, Int.reduceLE, Int.reduceNeg, Int.reduceEq, Int.reduceAdd, Int.reduceSub, Int.reduceMul, Int.reduceToNat, Int.natCast_one, ne_eq, not_true_eq_false, not_false_eq_true, Bool.false_eq_true, Int.toNat_natCast]
    refine callG_intro (markFloat32S_ok l _ 1 _ ?_ ?_ hl (by decide)) ?_
    · (simp only [go_sem]; omega)
    · simp only [go_sem, ↓reduceIte, reduceCtorEq, Nat.reduceEqDiff, Nat.reduceAdd, Nat.reduceSub, Nat.reduceMul, Nat.reduceLeDiff, Int.reduceLT, Int.reduceLE, Int.reduceNeg, Int.reduceEq, Int.reduceAdd, Int.reduceSub, Int.reduceMul, Int.reduceToNat, Int.natCast_one, ne_eq, not_true_eq_false, not_false_eq_true, Bool.false_eq_true, Int.toNat_natCast]
    have p1 : ¬ ((1 + l.length : Nat) : Int) < 0 := by omega
    have p2 : ¬ ((1 + out.length : Nat) : Int) < 0 := by omega
    have p3 : decide (((1 + out.length : Nat) : Int) ≠ ((1 + out.length : Nat) : Int)) = false := by simp
    simp only [go_sem, ↓reduceIte, reduceCtorEq, Nat.reduceEqDiff, Nat.reduceAdd, Nat.reduceSub, Nat.reduceMul, Nat.reduceLeDiff, Int.reduceLT, Int.reduceLE, Int.reduceNeg, Int.reduceEq, Int.reduceAdd, Int.reduceSub, Int.reduceMul, Int.reduceToNat, Int.natCast_one, ne_eq, not_true_eq_false, not_false_eq_true, Bool.false_eq_true, Int.toNat_natCast, p1]
    refine callG_intro (eqFloat32S_ok out _ _ _ _ _ ?_ ?_ ho) ?_
    · exact Ab.Row.of_f (by simp only [go_sem]; omega) (by simp only [go_sem, ↓reduceIte, reduceCtorEq, Nat.reduceEqDiff, Nat.reduceAdd, Nat.reduceSub, Nat.reduceMul, Nat.reduceLeDiff, Int.reduceLT, Int.reduceLE, Int.reduceNeg, Int.reduceEq, Int.reduceAdd, Int.reduceSub, Int.reduceMul, Int.reduceToNat, Int.natCast_one, ne_eq, not_true_eq_false, not_false_eq_true, Bool.false_eq_true, Int.toNat_natCast])
    · exact Ab.Row.of_f (by simp only [go_sem]; omega) (by simp only [go_sem, ↓reduceIte, reduceCtorEq, Nat.reduceEqDiff, Nat.reduceAdd, Nat.reduceSub, Nat.reduceMul, Nat.reduceLeDiff, Int.reduceLT, Int.reduceLE, Int.reduceNeg, Int.reduceEq, Int.reduceAdd, Int.reduceSub, Int.reduceMul, Int.reduceToNat, Int.natCast_one, ne_eq, not_true_eq_false, not_false_eq_true, Bool.false_eq_true, Int.toNat_natCast])
    simp only [go_sem, ↓reduceIte, reduceCtorEq, Nat.reduceEqDiff, Nat.reduceAdd, Nat.reduceSub, Nat.reduceMul, Nat.reduceLeDiff, Int.reduceLT, Int.reduceLE, Int.reduceNeg, Int.reduceEq, Int.reduceAdd, Int.reduceSub, Int.reduceMul, Int.reduceToNat, Int.natCast_one, ne_eq, not_true_eq_false, not_false_eq_true, Bool.false_eq_true, Int.toNat_natCast]
    refine callG_intro (markFloat32S_ok out _ 1 _ ?_ ?_ ho (by decide)) ?_
    · (simp only [go_sem]; omega)
    · simp only [go_sem, ↓reduceIte, reduceCtorEq, Nat.reduceEqDiff, Nat.reduceAdd, Nat.reduceSub, Nat.reduceMul, Nat.reduceLeDiff, Int.reduceLT, Int.reduceLE, Int.reduceNeg, Int.reduceEq, Int.reduceAdd, Int.reduceSub, Int.reduceMul, Int.reduceToNat, Int.natCast_one, ne_eq, not_true_eq_false, not_false_eq_true, Bool.false_eq_true, Int.toNat_natCast]
    simp only [go_sem, ↓reduceIte, reduceCtorEq, Nat.reduceEqDiff, Nat.reduceAdd, Nat.reduceSub, Nat.reduceMul, Nat.reduceLeDiff, Int.reduceLT, Int.reduceLE, Int.reduceNeg, Int.reduceEq, Int.reduceAdd, Int.reduceSub, Int.reduceMul, Int.reduceToNat, Int.natCast_one, ne_eq, not_true_eq_false, not_false_eq_true, Bool.false_eq_true, Int.toNat_natCast]
    refine callG_intro (heldFloat32S_ok out.length _ 1 _ ?_ ho (by decide)) ?_
    · exact Ab.Row.of_f (by simp only [go_sem]; omega) (by simp only [go_sem, ↓reduceIte, reduceCtorEq, Nat.reduceEqDiff, Nat.reduceAdd, Nat.reduceSub, Nat.reduceMul, Nat.reduceLeDiff, Int.reduceLT, Int.reduceLE, Int.reduceNeg, Int.reduceEq, Int.reduceAdd, Int.reduceSub, Int.reduceMul, Int.reduceToNat, Int.natCast_one, ne_eq, not_true_eq_false, not_false_eq_true, Bool.false_eq_true, Int.toNat_natCast])
    simp only [go_sem, ↓reduceIte, reduceCtorEq, Nat.reduceEqDiff, Nat.reduceAdd, Nat.reduceSub, Nat.reduceMul, Nat.reduceLeDiff, Int.reduceLT, Int.reduceLE, Int.reduceNeg, Int.reduceEq, Int.reduceAdd, Int.reduceSub, Int.reduceMul, Int.reduceToNat, Int.natCast_one, ne_eq, not_true_eq_false, not_false_eq_true, Bool.false_eq_true, Int.toNat_natCast, p2, p3]
    refine callG_intro (toFloat32S_ok l _ _ _ ?_ hl) ?_
    · exact hr.mono (by simp only [go_sem]; omega) (by simp only [go_sem, ↓reduceIte, reduceCtorEq, Nat.reduceEqDiff, Nat.reduceAdd, Nat.reduceSub, Nat.reduceMul, Nat.reduceLeDiff, Int.reduceLT, Int.reduceLE, Int.reduceNeg, Int.reduceEq, Int.reduceAdd, Int.reduceSub, Int.reduceMul, Int.reduceToNat, Int.natCast_one, ne_eq, not_true_eq_false, not_false_eq_true, Bool.false_eq_true, Int.toNat_natCast, ne_self hr.lt, fun k => ne_add hr.lt k])
    simp only [go_sem, ↓reduceIte, reduceCtorEq, Nat.reduceEqDiff, Nat.reduceAdd, Nat.reduceSub, Nat.reduceMul, Nat.reduceLeDiff, Int.reduceLT, Int.reduceLE, Int.reduceNeg, Int.reduceEq, Int.reduceAdd, Int.reduceSub, Int.reduceMul, Int.reduceToNat, Int.natCast_one, ne_eq, not_true_eq_false, not_false_eq_true, Bool.false_eq_true, Int.toNat_natCast]
    refine callG_intro (hi _ _ _ ?_) ?_
    · exact Ab.Row.of_f (by simp only [go_sem]; omega) (by simp only [go_sem, ↓reduceIte, reduceCtorEq, Nat.reduceEqDiff, Nat.reduceAdd, Nat.reduceSub, Nat.reduceMul, Nat.reduceLeDiff, Int.reduceLT, Int.reduceLE, Int.reduceNeg, Int.reduceEq, Int.reduceAdd, Int.reduceSub, Int.reduceMul, Int.reduceToNat, Int.natCast_one, ne_eq, not_true_eq_false, not_false_eq_true, Bool.false_eq_true, Int.toNat_natCast])
    simp only [go_sem, ↓reduceIte, reduceCtorEq, Nat.reduceEqDiff, Nat.reduceAdd, Nat.reduceSub, Nat.reduceMul, Nat.reduceLeDiff, Int.reduceLT, Int.reduceLE, Int.reduceNeg, Int.reduceEq, Int.reduceAdd, Int.reduceSub, Int.reduceMul, Int.reduceToNat, Int.natCast_one, ne_eq, not_true_eq_false, not_false_eq_true, Bool.false_eq_true, Int.toNat_natCast]
    refine callG_intro (eqFloat32S_ok out _ _ _ _ _ ?_ ?_ ho) ?_
    · exact Ab.Row.of_f (by simp only [go_sem]; omega) (by simp only [go_sem, ↓reduceIte, reduceCtorEq, Nat.reduceEqDiff, Nat.reduceAdd, Nat.reduceSub, Nat.reduceMul, Nat.reduceLeDiff, Int.reduceLT, Int.reduceLE, Int.reduceNeg, Int.reduceEq, Int.reduceAdd, Int.reduceSub, Int.reduceMul, Int.reduceToNat, Int.natCast_one, ne_eq, not_true_eq_false, not_false_eq_true, Bool.false_eq_true, Int.toNat_natCast])
    · exact Ab.Row.of_f (by simp only [go_sem]; omega) (by simp only [go_sem, ↓reduceIte, reduceCtorEq, Nat.reduceEqDiff, Nat.reduceAdd, Nat.reduceSub, Nat.reduceMul, Nat.reduceLeDiff, Int.reduceLT, Int.reduceLE, Int.reduceNeg, Int.reduceEq, Int.reduceAdd, Int.reduceSub, Int.reduceMul, Int.reduceToNat, Int.natCast_one, ne_eq, not_true_eq_false, not_false_eq_true, Bool.false_eq_true, Int.toNat_natCast])
    simp only [go_sem, ↓reduceIte, reduceCtorEq, Nat.reduceEqDiff, Nat.reduceAdd, Nat.reduceSub, Nat.reduceMul, Nat.reduceLeDiff, Int.reduceLT, Int.reduceLE, Int.reduceNeg, Int.reduceEq, Int.reduceAdd, Int.reduceSub, Int.reduceMul, Int.reduceToNat, Int.natCast_one, ne_eq, not_true_eq_false, not_false_eq_true, Bool.false_eq_true, Int.toNat_natCast]
    refine callG_intro (heldFloat32S_ok out.length _ 1 _ ?_ ho (by decide)) ?_
    · exact Ab.Row.of_f (by simp only [go_sem]; omega) (by simp only [go_sem, ↓reduceIte, reduceCtorEq, Nat.reduceEqDiff, Nat.reduceAdd, Nat.reduceSub, Nat.reduceMul, Nat.reduceLeDiff, Int.reduceLT, Int.reduceLE, Int.reduceNeg, Int.reduceEq, Int.reduceAdd, Int.reduceSub, Int.reduceMul, Int.reduceToNat, Int.natCast_one, ne_eq, not_true_eq_false, not_false_eq_true, Bool.false_eq_true, Int.toNat_natCast])
    simp only [go_sem, ↓reduceIte, reduceCtorEq, Nat.reduceEqDiff, Nat.reduceAdd, Nat.reduceSub, Nat.reduceMul, Nat.reduceLeDiff, Int.reduceLT, Int.reduceLE, Int.reduceNeg, Int.reduceEq, Int.reduceAdd, Int.reduceSub, Int.reduceMul, Int.reduceToNat, Int.natCast_one, ne_eq, not_true_eq_false, not_false_eq_true, Bool.false_eq_true, Int.toNat_natCast, p2, p3]
    exact Ab.Ends.same (by simp only [resultOf, Try.f3, go_sem, ↓reduceIte, reduceCtorEq, Nat.reduceEqDiff, Nat.reduceAdd, Nat.reduceSub, Nat.reduceMul, Nat.reduceLeDiff, Int.reduceLT, Int.reduceLE, Int.reduceNeg, Int.reduceEq, Int.reduceAdd, Int.reduceSub, Int.reduceMul, Int.reduceToNat, Int.natCast_one, ne_eq, not_true_eq_false, not_false_eq_true, Bool.false_eq_true, Int.toNat_natCast]) (fun i hi => by first | rfl | simp only [go_sem, ne_add hi, ne_self hi]) (by first | exact Nat.le_refl _ | (simp only [go_sem]; omega)) (by simp [TV.refs, TV0.refs, AV.refs])

def shapesExactRefineLine : List Sh := [.sl (.flt .f32)]
theorem argsExactRefineLine (H : Heap) (x : (argSh shapesExactRefineLine).T) (vs : List TV) (h : LiesArgs H shapesExactRefineLine x vs) : ∃ H2, Ok Try.prog 3 vs H (.v (.bool true)) H2 := by
  obtain ⟨cs, rest, rfl, h1, h2⟩ := h
  obtain rfl : rest = [] := h2
  obtain ⟨id, rfl, hr, hm⟩ := Lies.row (e := .flt .f32) (f := fun x : Nat => [.flt .f32 x]) (fun x c hx => hx.1) h1
  have e : enc (fun x : Nat => [AV.flt .f32 x]) x.1 = eF x.1 := enc_one _ _
  exact lawRefineLine x.1 hm id H (Eq.mp (congrArg (Ab.Row H id 0) e) hr)
end Go.Proofs.Ytdfihkbkldcecab.W


namespace Go.Proofs.Ytdfihkbkldcecab.fnExactRefineLine
open Go.ChangeShapes Go.WideShapes Go.ChangeAt Go.RowKit Go.Proofs.Ytdfihkbkldcecab
theorem own : ownKnob Try.prog.godebug = none := by kernel_rfl
theorem laidOut : laidOutB Try.prog = true := by kernel_rfl
set_option maxRecDepth 100000 in
theorem lifted (os : Os) (started : os.Started) (H : Type) (enc : TypeId × Value → H) :
    ReturnsInHanded {} Try.checked os 3 .any (Rows.fnExactRefineLineSpec.pre6 enc Try.prog Try.f3 Rows.fnExactRefineLineRow.domain false) (Rows.fnExactRefineLineSpec.post enc Try.prog Try.f3 false true false false) := by
  refine returnsInHanded_of_change_sized (C := Try.checked) own started (by kernel_rfl) Try.func3
    (ChangeSpec.witness6 (enc := enc) (C := Try.checked) false ⟨#[], #[.slice none 0 0], []⟩ 8 (by kernel_rfl) (by kernel_rfl) (by kernel_rfl) (by kernel_rfl)) ?_
  intro w0 base args ds gs before hval hW hcnd hsz0 _
  have hW' := hW
  obtain ⟨p, q, hA0, hV, rfl, hfz, hnd⟩ := hW
  have hA : DataW.TrodAll enc Try.prog w0 0 (fun _ => true) true Try.f3.params.toList args.toList ds p := hA0
  rw [Try.params3] at hA
  have hA1 := hA
  obtain ⟨v0, vs0, d0, ds0, p0, q0, hargs, rfl, rfl, h0, r0⟩ := trodAll_cons hA
  obtain ⟨rfl, rfl, rfl⟩ := trodAll_nil r0
  obtain ⟨rfl, rfl⟩ := trodVars_none hV
  refine (Ab.law_calls (ss := W.shapesExactRefineLine) (d := 8) Try.call3 (by kernel_rfl) (fun H x vs _ h => W.argsExactRefineLine H x vs h) hA1 (fun j t v h1 h2 => hval j t v (by rw [← Array.getElem?_toList, Try.params3]; exact h1) h2)).mono fun e W' ⟨he, bel⟩ => ?_
  subst he
  exact ⟨_, rfl, _, _, _, [], _, [], hW', trodAll_mk1 (shut_bool Try.underlying4 _), Ab.trodAll_stays laidOut bel _ _ _ _ (of_decide_eq_true (by kernel_rfl)) hA1, rfl, bel.frame _, fun h => by cases h⟩
theorem over : Rows.fnExactRefineLineRow.holds Try.pinned (OpenSpec.ofChange Rows.fnExactRefineLineSpec) :=
  OpenClaim.holds_of_wide 3 Try.f3 rfl rfl rfl rfl rfl rfl rfl ⟨rfl, rfl, rfl, rfl, rfl⟩ rfl rfl rfl rfl rfl (by kernel_rfl) Try.func3 (by kernel_rfl)
    (of_decide_eq_true (by kernel_rfl)) (by unfold Func.isWrapper; first | (rw [if_pos (by decide +kernel)]; kernel_rfl) | (rw [if_neg (by decide +kernel)]; exact ⟨rfl, rfl⟩))
    (fun os started H enc _ => lifted os started H enc)
theorem proved : Rows.FnExactRefineLineSaid := over
#print axioms proved
end Go.Proofs.Ytdfihkbkldcecab.fnExactRefineLine
namespace Go.Proofs.Ytdfihkbkldcecab
/-- The row, under a short name, for the claim. -/
theorem fnExactRefineLine_holds : Rows.FnExactRefineLineSaid := fnExactRefineLine.proved
end Go.Proofs.Ytdfihkbkldcecab

