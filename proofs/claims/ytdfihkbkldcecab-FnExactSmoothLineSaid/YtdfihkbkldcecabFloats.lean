/-
  Lists of numbers: the laws' own copies, sizes, comparisons and marks, and both packages' tests, as contracts. By an AI agent; nothing here is trusted.
-/
import Derived.Test.YtdfihkbkldcecabBase
namespace Go.Proofs.Ytdfihkbkldcecab.W
open Go Go.Ab Go.Proofs Go.Proofs.Ytdfihkbkldcecab
set_option maxRecDepth 100000
set_option linter.unusedSimpArgs false
set_option linter.unusedVariables false
set_option maxHeartbeats 4000000

theorem toFloat32S_ok (l : List Nat) (id off : Nat) (H : Heap) (hr : Ab.Row H id off (eF l)) (hl : l.length ≤ 2 ^ 20) :
    Ok Try.prog 10 [.v (.sl id off l.length 1)] H (.v (.sl H.n 0 l.length 1)) (H.alloc (.own (eF l))) := by
  refine Ok.of_fin (fn := Try.f10) (c := _) F.hm Try.func10 rfl Try.call10 (by kernel_rfl) (by simp) ?_
  show Ab.Fin _ _ _ _ (Ab.Ends Try.prog Try.f10 _ _ _)
  have hmk := F.mk22 H l.length (by omega) (by omega)
  simp only [go_sem, ↓reduceIte, reduceCtorEq, Nat.reduceEqDiff, Nat.reduceAdd, Nat.reduceSub, Nat.reduceMul, Nat.reduceLeDiff, Int.reduceLT, Int.reduceLE, Int.reduceNeg, Int.reduceEq, Int.reduceAdd, Int.reduceSub, Int.reduceMul, Int.reduceToNat, Int.natCast_one, ne_eq, not_true_eq_false, not_false_eq_true, Bool.false_eq_true, Int.toNat_natCast, hmk, zerosF]
  rw [Fin_loop]
  refine Fin_rule (fun m s H' => ∃ i, i + m = l.length ∧ s 0 = .v (.sl id off l.length 1) ∧ s 3 = .v (.sl H.n 0 l.length 1) ∧ s 4 = .v (.int .i64 i) ∧ H' = H.alloc (.own (eF (l.take i ++ List.replicate m 0))))
    l.length ⟨0, by omega, by simp only [go_sem, reduceCtorEq, Nat.reduceEqDiff], by simp only [go_sem, reduceCtorEq, Nat.reduceEqDiff], by simp only [go_sem, reduceCtorEq, Nat.reduceEqDiff, Int.natCast_zero], by simp⟩ ?_
  rintro m s H' ⟨i, him, s0, s3, s4, rfl⟩ next
  have hL : (l.take i ++ List.replicate m 0).length = l.length := by rw [List.length_append, List.length_take, List.length_replicate]; omega
  by_cases hi : i < l.length
  · have hi' : (i : Int) < (l.length : Int) := by omega
    have hi0 : (0 : Int) ≤ (i : Int) := by omega
    have e3 := hr.atF hi
    have e4 := fun H' id x => @wrF H' id i x (l.take i ++ List.replicate m 0) (by omega)
    have e5 := set_fill 0 him hi
    have e6 := @wrap_succ i (by omega)
    simp only [go_sem, ↓reduceIte, reduceCtorEq, Nat.reduceEqDiff, Nat.reduceAdd, Nat.reduceSub, Nat.reduceMul, Nat.reduceLeDiff, Int.reduceLT, Int.reduceLE, Int.reduceNeg, Int.reduceEq, Int.reduceAdd, Int.reduceSub, Int.reduceMul, Int.reduceToNat, Int.natCast_one, ne_eq, not_true_eq_false, not_false_eq_true, Bool.false_eq_true, Int.toNat_natCast, s0, s3, s4, hi', hi0, e3, ne_self hr.lt, Nat.mul_one, e4, e5, e6, alloc_put]
    refine next (m - 1) _ _ (by omega) ⟨i + 1, by omega, ?_, ?_, ?_, rfl⟩ <;> simp only [go_sem, reduceCtorEq, Nat.reduceEqDiff, s0, s3]
  · have hi' : ¬ (i : Int) < (l.length : Int) := by omega
    obtain rfl : i = l.length := by omega
    obtain rfl : m = 0 := by omega
    simp only [go_sem, ↓reduceIte, reduceCtorEq, Nat.reduceEqDiff, Nat.reduceAdd, Nat.reduceSub, Nat.reduceMul, Nat.reduceLeDiff, Int.reduceLT, Int.reduceLE, Int.reduceNeg, Int.reduceEq, Int.reduceAdd, Int.reduceSub, Int.reduceMul, Int.reduceToNat, Int.natCast_one, ne_eq, not_true_eq_false, not_false_eq_true, Bool.false_eq_true, Int.toNat_natCast, s0, s3, s4, hi']
    rw [List.take_length, List.replicate_zero, List.append_nil]
    refine Ab.Ends.fresh ?_ (eF_plain l) (by simp [TV.refs, AV.refs])
    simp only [resultOf, Try.f10, go_sem, ↓reduceIte, reduceCtorEq, Nat.reduceEqDiff, Nat.reduceAdd, Nat.reduceSub, Nat.reduceMul, Nat.reduceLeDiff, Int.reduceLT, Int.reduceLE, Int.reduceNeg, Int.reduceEq, Int.reduceAdd, Int.reduceSub, Int.reduceMul, Int.reduceToNat, Int.natCast_one, ne_eq, not_true_eq_false, not_false_eq_true, Bool.false_eq_true, Int.toNat_natCast]
theorem eqFloat32S_ok (l : List Nat) (id off id2 off2 : Nat) (H : Heap) (hr : Ab.Row H id off (eF l)) (hr2 : Ab.Row H id2 off2 (eF l)) (hl : l.length ≤ 2 ^ 20) :
    Ok Try.prog 12 [.v (.sl id off l.length 1), .v (.sl id2 off2 l.length 1)] H (.v (.bool true)) H := by
  refine Ok.of_fin (fn := Try.f12) (c := _) F.hm Try.func12 rfl Try.call12 (by kernel_rfl) (by simp) ?_
  show Ab.Fin _ _ _ _ (Ab.Ends Try.prog Try.f12 _ _ _)
  have h1 : decide ((l.length : Int) ≠ (l.length : Int)) = false := by simp
  simp only [go_sem, ↓reduceIte, reduceCtorEq, Nat.reduceEqDiff, Nat.reduceAdd, Nat.reduceSub, Nat.reduceMul, Nat.reduceLeDiff, Int.reduceLT, Int.reduceLE, Int.reduceNeg, Int.reduceEq, Int.reduceAdd, Int.reduceSub, Int.reduceMul, Int.reduceToNat, Int.natCast_one, ne_eq, not_true_eq_false, not_false_eq_true, Bool.false_eq_true, Int.toNat_natCast, h1]
  rw [Fin_loop]
  refine Fin_rule (fun m s H' => ∃ i, i + m = l.length ∧ s 0 = .v (.sl id off l.length 1) ∧ s 1 = .v (.sl id2 off2 l.length 1) ∧ s 5 = .v (.int .i64 i) ∧ H' = H)
    l.length ⟨0, by omega, by simp only [go_sem, reduceCtorEq, Nat.reduceEqDiff], by simp only [go_sem, reduceCtorEq, Nat.reduceEqDiff], by simp only [go_sem, reduceCtorEq, Nat.reduceEqDiff, Int.natCast_zero], rfl⟩ ?_
  rintro m s H' ⟨i, him, s0, s1, s5, rfl⟩ next
  by_cases hi : i < l.length
  · have hi' : (i : Int) < (l.length : Int) := by omega
    have hi0 : (0 : Int) ≤ (i : Int) := by omega
    have e3 := hr.atF hi
    have e4 := hr2.atF hi
    have e6 := @wrap_succ i (by omega)
    simp only [go_sem, ↓reduceIte, reduceCtorEq, Nat.reduceEqDiff, Nat.reduceAdd, Nat.reduceSub, Nat.reduceMul, Nat.reduceLeDiff, Int.reduceLT, Int.reduceLE, Int.reduceNeg, Int.reduceEq, Int.reduceAdd, Int.reduceSub, Int.reduceMul, Int.reduceToNat, Int.natCast_one, ne_eq, not_true_eq_false, not_false_eq_true, Bool.false_eq_true, Int.toNat_natCast, s0, s1, s5, hi', hi0, e3, e4, Nat.mul_one]
    refine callG_intro (sameFloat_ok _ _) ?_
    simp only [go_sem, ↓reduceIte, reduceCtorEq, Nat.reduceEqDiff, Nat.reduceAdd, Nat.reduceSub, Nat.reduceMul, Nat.reduceLeDiff, Int.reduceLT, Int.reduceLE, Int.reduceNeg, Int.reduceEq, Int.reduceAdd, Int.reduceSub, Int.reduceMul, Int.reduceToNat, Int.natCast_one, ne_eq, not_true_eq_false, not_false_eq_true, Bool.false_eq_true, Int.toNat_natCast, s0, s1, s5, hi', hi0, e6]
    refine next (m - 1) _ _ (by omega) ⟨i + 1, by omega, ?_, ?_, ?_, rfl⟩ <;> simp only [go_sem, reduceCtorEq, Nat.reduceEqDiff, s0, s1]
  · have hi' : ¬ (i : Int) < (l.length : Int) := by omega
    simp only [go_sem, ↓reduceIte, reduceCtorEq, Nat.reduceEqDiff, Nat.reduceAdd, Nat.reduceSub, Nat.reduceMul, Nat.reduceLeDiff, Int.reduceLT, Int.reduceLE, Int.reduceNeg, Int.reduceEq, Int.reduceAdd, Int.reduceSub, Int.reduceMul, Int.reduceToNat, Int.natCast_one, ne_eq, not_true_eq_false, not_false_eq_true, Bool.false_eq_true, Int.toNat_natCast, s0, s1, s5, hi']
    exact Ab.Ends.same (by simp only [resultOf, Try.f12, go_sem, ↓reduceIte, reduceCtorEq, Nat.reduceEqDiff, Nat.reduceAdd, Nat.reduceSub, Nat.reduceMul, Nat.reduceLeDiff, Int.reduceLT, Int.reduceLE, Int.reduceNeg, Int.reduceEq, Int.reduceAdd, Int.reduceSub, Int.reduceMul, Int.reduceToNat, Int.natCast_one, ne_eq, not_true_eq_false, not_false_eq_true, Bool.false_eq_true, Int.toNat_natCast]) (fun i hi => by first | rfl | simp only [go_sem, ne_add hi, ne_self hi]) (by first | exact Nat.le_refl _ | (simp only [go_sem]; omega)) (by simp [TV.refs, TV0.refs, AV.refs])
theorem eqFloat32S_nil (H : Heap) : Ok Try.prog 12 [.v .nilsl, .v .nilsl] H (.v (.bool true)) H := by
  refine Ok.of_fin (fn := Try.f12) (c := _) F.hm Try.func12 rfl Try.call12 (by kernel_rfl) (by simp) ?_
  show Ab.Fin _ _ _ _ (Ab.Ends Try.prog Try.f12 _ _ _)
  have h1 : decide ((0 : Int) ≠ 0) = false := by simp
  simp only [go_sem, ↓reduceIte, reduceCtorEq, Nat.reduceEqDiff, Nat.reduceAdd, Nat.reduceSub, Nat.reduceMul, Nat.reduceLeDiff, Int.reduceLT, Int.reduceLE, Int.reduceNeg, Int.reduceEq, Int.reduceAdd, Int.reduceSub, Int.reduceMul, Int.reduceToNat, Int.natCast_one, ne_eq, not_true_eq_false, not_false_eq_true, Bool.false_eq_true, Int.toNat_natCast, h1]
  rw [Fin_loop, Fin_inLoop]
  simp only [go_sem, ↓reduceIte, reduceCtorEq, Nat.reduceEqDiff, Nat.reduceAdd, Nat.reduceSub, Nat.reduceMul, Nat.reduceLeDiff, Int.reduceLT, Int.reduceLE, Int.reduceNeg, Int.reduceEq, Int.reduceAdd, Int.reduceSub, Int.reduceMul, Int.reduceToNat, Int.natCast_one, ne_eq, not_true_eq_false, not_false_eq_true, Bool.false_eq_true, Int.toNat_natCast]
  exact Ab.Ends.same (by simp only [resultOf, Try.f12, go_sem, ↓reduceIte, reduceCtorEq, Nat.reduceEqDiff, Nat.reduceAdd, Nat.reduceSub, Nat.reduceMul, Nat.reduceLeDiff, Int.reduceLT, Int.reduceLE, Int.reduceNeg, Int.reduceEq, Int.reduceAdd, Int.reduceSub, Int.reduceMul, Int.reduceToNat, Int.natCast_one, ne_eq, not_true_eq_false, not_false_eq_true, Bool.false_eq_true, Int.toNat_natCast]) (fun i hi => by first | rfl | simp only [go_sem, ne_add hi, ne_self hi]) (by first | exact Nat.le_refl _ | (simp only [go_sem]; omega)) (by simp [TV.refs, TV0.refs, AV.refs])
theorem markFloat32S_ok (l : List Nat) (id : Nat) (k : Nat) (H : Heap) (hid : id < H.n) (hr : H.f id = .own (eF l)) (hl : l.length ≤ 2 ^ 20) (hk : k ≤ 2 ^ 30) :
    Ok Try.prog 13 [.v (.sl id 0 l.length 1), .v (.int .i64 k)] H (.v (.int .i64 ((k + l.length : Nat) : Int))) (H.put id (.own (eF (marks k l.length)))) := by
  refine Ok.of_fin (fn := Try.f13) (c := _) F.hm Try.func13 rfl Try.call13 (by kernel_rfl) (by simp) ?_
  show Ab.Fin _ _ _ _ (Ab.Ends Try.prog Try.f13 _ _ _)
  simp only [go_sem, ↓reduceIte, reduceCtorEq, Nat.reduceEqDiff, Nat.reduceAdd, Nat.reduceSub, Nat.reduceMul, Nat.reduceLeDiff, Int.reduceLT, Int.reduceLE, Int.reduceNeg, Int.reduceEq, Int.reduceAdd, Int.reduceSub, Int.reduceMul, Int.reduceToNat, Int.natCast_one, ne_eq, not_true_eq_false, not_false_eq_true, Bool.false_eq_true, Int.toNat_natCast]
  rw [Fin_loop]
  refine Fin_rule (fun m s H' => ∃ i, i + m = l.length ∧ s 0 = .v (.sl id 0 l.length 1) ∧ s 1 = .v (.int .i64 ((k + i : Nat) : Int)) ∧ s 5 = .v (.int .i64 i) ∧ H' = H.put id (.own (eF (marks k i ++ l.drop i))))
    l.length ⟨0, by omega, by simp only [go_sem, reduceCtorEq, Nat.reduceEqDiff], by simp only [go_sem, reduceCtorEq, Nat.reduceEqDiff], by simp only [go_sem, reduceCtorEq, Nat.reduceEqDiff, Int.natCast_zero], ?_⟩ ?_
  · have : H.put id (.own (eF l)) = H := by
      cases H with
      | mk n f =>
        simp only [Heap.put, Heap.mk.injEq, true_and]
        funext j
        simp only [upd]
        split
        · rename_i h; subst h; exact hr.symm
        · rfl
    simp only [marks, List.nil_append, List.drop_zero]
    exact this.symm
  rintro m s H' ⟨i, him, s0, s1, s5, rfl⟩ next
  by_cases hi : i < l.length
  · have hi' : (i : Int) < (l.length : Int) := by omega
    have hi0 : (0 : Int) ≤ (i : Int) := by omega
    have e4 := fun H' id x => @wrF H' id i x (marks k i ++ l.drop i) (by rw [List.length_append, marks_length, List.length_drop]; omega)
    have e5 := marks_step (k : Int) him hi
    have e6 := @wrap_succ i (by omega)
    have e7 := @wrap_succ (k + i) (by omega)
    have e8 : cz .f32 (floatOfInt .f32 (((k + i : Nat) : Int))) = fl ((k : Int) + (i : Int)) := by rw [← Int.natCast_add]; rfl
    simp only [go_sem, ↓reduceIte, reduceCtorEq, Nat.reduceEqDiff, Nat.reduceAdd, Nat.reduceSub, Nat.reduceMul, Nat.reduceLeDiff, Int.reduceLT, Int.reduceLE, Int.reduceNeg, Int.reduceEq, Int.reduceAdd, Int.reduceSub, Int.reduceMul, Int.reduceToNat, Int.natCast_one, ne_eq, not_true_eq_false, not_false_eq_true, Bool.false_eq_true, Int.toNat_natCast, s0, s1, s5, hi', hi0, Nat.mul_one, e8, e4, e5, e6, e7, put_put]
    refine next (m - 1) _ _ (by omega) ⟨i + 1, by omega, ?_, ?_, ?_, rfl⟩ <;> simp only [go_sem, reduceCtorEq, Nat.reduceEqDiff, s0]
  · have hi' : ¬ (i : Int) < (l.length : Int) := by omega
    obtain rfl : i = l.length := by omega
    simp only [go_sem, ↓reduceIte, reduceCtorEq, Nat.reduceEqDiff, Nat.reduceAdd, Nat.reduceSub, Nat.reduceMul, Nat.reduceLeDiff, Int.reduceLT, Int.reduceLE, Int.reduceNeg, Int.reduceEq, Int.reduceAdd, Int.reduceSub, Int.reduceMul, Int.reduceToNat, Int.natCast_one, ne_eq, not_true_eq_false, not_false_eq_true, Bool.false_eq_true, Int.toNat_natCast, s0, s1, s5, hi']
    rw [List.drop_length, List.append_nil]
    refine Ab.Ends.view ?_ (Nat.le_refl _) (Nat.le_refl _) (fun _ _ => rfl) (fun i h => ?_) (fun i h1 h2 => absurd h2 (by simp only [go_sem]; omega)) (by simp [TV.refs, AV.refs])
    · simp only [resultOf, Try.f13, go_sem, ↓reduceIte, reduceCtorEq, Nat.reduceEqDiff, Nat.reduceAdd, Nat.reduceSub, Nat.reduceMul, Nat.reduceLeDiff, Int.reduceLT, Int.reduceLE, Int.reduceNeg, Int.reduceEq, Int.reduceAdd, Int.reduceSub, Int.reduceMul, Int.reduceToNat, Int.natCast_one, ne_eq, not_true_eq_false, not_false_eq_true, Bool.false_eq_true, Int.toNat_natCast]
    · by_cases he : i = id
      · right
        subst he
        rw [put_f, if_pos rfl]
        intro d hd
        simp only [Blk.refs, cs_own, List.mem_flatMap] at hd
        obtain ⟨c, hc, hd⟩ := hd
        rw [eF_plain _ c hc] at hd
        cases hd
      · left; rw [put_f, if_neg he]
theorem markFloat32S_nil (k : Nat) (H : Heap) : Ok Try.prog 13 [.v .nilsl, .v (.int .i64 k)] H (.v (.int .i64 k)) H := by
  refine Ok.of_fin (fn := Try.f13) (c := _) F.hm Try.func13 rfl Try.call13 (by kernel_rfl) (by simp) ?_
  show Ab.Fin _ _ _ _ (Ab.Ends Try.prog Try.f13 _ _ _)
  simp only [go_sem, ↓reduceIte, reduceCtorEq, Nat.reduceEqDiff, Nat.reduceAdd, Nat.reduceSub, Nat.reduceMul, Nat.reduceLeDiff, Int.reduceLT, Int.reduceLE, Int.reduceNeg, Int.reduceEq, Int.reduceAdd, Int.reduceSub, Int.reduceMul, Int.reduceToNat, Int.natCast_one, ne_eq, not_true_eq_false, not_false_eq_true, Bool.false_eq_true, Int.toNat_natCast]
  rw [Fin_loop, Fin_inLoop]
  simp only [go_sem, ↓reduceIte, reduceCtorEq, Nat.reduceEqDiff, Nat.reduceAdd, Nat.reduceSub, Nat.reduceMul, Nat.reduceLeDiff, Int.reduceLT, Int.reduceLE, Int.reduceNeg, Int.reduceEq, Int.reduceAdd, Int.reduceSub, Int.reduceMul, Int.reduceToNat, Int.natCast_one, ne_eq, not_true_eq_false, not_false_eq_true, Bool.false_eq_true, Int.toNat_natCast]
  exact Ab.Ends.same (by simp only [resultOf, Try.f13, go_sem, ↓reduceIte, reduceCtorEq, Nat.reduceEqDiff, Nat.reduceAdd, Nat.reduceSub, Nat.reduceMul, Nat.reduceLeDiff, Int.reduceLT, Int.reduceLE, Int.reduceNeg, Int.reduceEq, Int.reduceAdd, Int.reduceSub, Int.reduceMul, Int.reduceToNat, Int.natCast_one, ne_eq, not_true_eq_false, not_false_eq_true, Bool.false_eq_true, Int.toNat_natCast]) (fun i hi => by first | rfl | simp only [go_sem, ne_add hi, ne_self hi]) (by first | exact Nat.le_refl _ | (simp only [go_sem]; omega)) (by simp [TV.refs, TV0.refs, AV.refs])
theorem heldFloat32S_ok (n id : Nat) (k : Nat) (H : Heap) (hr : Ab.Row H id 0 (eF (marks k n))) (hl : n ≤ 2 ^ 20) (hk : k ≤ 2 ^ 30) :
    Ok Try.prog 14 [.v (.sl id 0 n 1), .v (.int .i64 k)] H (.v (.int .i64 ((k + n : Nat) : Int))) H := by
  refine Ok.of_fin (fn := Try.f14) (c := _) F.hm Try.func14 rfl Try.call14 (by kernel_rfl) (by simp) ?_
  show Ab.Fin _ _ _ _ (Ab.Ends Try.prog Try.f14 _ _ _)
  simp only [go_sem, ↓reduceIte, reduceCtorEq, Nat.reduceEqDiff, Nat.reduceAdd, Nat.reduceSub, Nat.reduceMul, Nat.reduceLeDiff, Int.reduceLT, Int.reduceLE, Int.reduceNeg, Int.reduceEq, Int.reduceAdd, Int.reduceSub, Int.reduceMul, Int.reduceToNat, Int.natCast_one, ne_eq, not_true_eq_false, not_false_eq_true, Bool.false_eq_true, Int.toNat_natCast]
  rw [Fin_loop]
  refine Fin_rule (fun m s H' => ∃ i, i + m = n ∧ s 0 = .v (.sl id 0 n 1) ∧ s 1 = .v (.int .i64 ((k + i : Nat) : Int)) ∧ s 5 = .v (.int .i64 i) ∧ H' = H)
    n ⟨0, by omega, by simp only [go_sem, reduceCtorEq, Nat.reduceEqDiff], by simp only [go_sem, reduceCtorEq, Nat.reduceEqDiff], by simp only [go_sem, reduceCtorEq, Nat.reduceEqDiff, Int.natCast_zero], rfl⟩ ?_
  rintro m s H' ⟨i, him, s0, s1, s5, rfl⟩ next
  by_cases hi : i < n
  · have hi' : (i : Int) < (n : Int) := by omega
    have hi0 : (0 : Int) ≤ (i : Int) := by omega
    have e3 := hr.atF (i := i) (by rw [marks_length]; exact hi)
    rw [marks_at, Nat.zero_add] at e3
    have e6 := @wrap_succ i (by omega)
    have e7 := @wrap_succ (k + i) (by omega)
    have e8 : cz .f32 (floatOfInt .f32 (((k + i : Nat) : Int))) = fl ((k : Int) + (i : Int)) := by rw [← Int.natCast_add]; rfl
    simp only [go_sem, ↓reduceIte, reduceCtorEq, Nat.reduceEqDiff, Nat.reduceAdd, Nat.reduceSub, Nat.reduceMul, Nat.reduceLeDiff, Int.reduceLT, Int.reduceLE, Int.reduceNeg, Int.reduceEq, Int.reduceAdd, Int.reduceSub, Int.reduceMul, Int.reduceToNat, Int.natCast_one, ne_eq, not_true_eq_false, not_false_eq_true, Bool.false_eq_true, Int.toNat_natCast, s0, s1, s5, hi', hi0, Nat.mul_one, e3, e8, fl_neq, e6, e7]
    refine next (m - 1) _ _ (by omega) ⟨i + 1, by omega, ?_, ?_, ?_, rfl⟩ <;> simp only [go_sem, reduceCtorEq, Nat.reduceEqDiff, s0]
  · have hi' : ¬ (i : Int) < (n : Int) := by omega
    obtain rfl : i = n := by omega
    simp only [go_sem, ↓reduceIte, reduceCtorEq, Nat.reduceEqDiff, Nat.reduceAdd, Nat.reduceSub, Nat.reduceMul, Nat.reduceLeDiff, Int.reduceLT, Int.reduceLE, Int.reduceNeg, Int.reduceEq, Int.reduceAdd, Int.reduceSub, Int.reduceMul, Int.reduceToNat, Int.natCast_one, ne_eq, not_true_eq_false, not_false_eq_true, Bool.false_eq_true, Int.toNat_natCast, s0, s1, s5, hi']
    exact Ab.Ends.same (by simp only [resultOf, Try.f14, go_sem, ↓reduceIte, reduceCtorEq, Nat.reduceEqDiff, Nat.reduceAdd, Nat.reduceSub, Nat.reduceMul, Nat.reduceLeDiff, Int.reduceLT, Int.reduceLE, Int.reduceNeg, Int.reduceEq, Int.reduceAdd, Int.reduceSub, Int.reduceMul, Int.reduceToNat, Int.natCast_one, ne_eq, not_true_eq_false, not_false_eq_true, Bool.false_eq_true, Int.toNat_natCast]) (fun i hi => by first | rfl | simp only [go_sem, ne_add hi, ne_self hi]) (by first | exact Nat.le_refl _ | (simp only [go_sem]; omega)) (by simp [TV.refs, TV0.refs, AV.refs])
theorem heldFloat32S_nil (k : Nat) (H : Heap) : Ok Try.prog 14 [.v .nilsl, .v (.int .i64 k)] H (.v (.int .i64 k)) H := by
  refine Ok.of_fin (fn := Try.f14) (c := _) F.hm Try.func14 rfl Try.call14 (by kernel_rfl) (by simp) ?_
  show Ab.Fin _ _ _ _ (Ab.Ends Try.prog Try.f14 _ _ _)
  simp only [go_sem, ↓reduceIte, reduceCtorEq, Nat.reduceEqDiff, Nat.reduceAdd, Nat.reduceSub, Nat.reduceMul, Nat.reduceLeDiff, Int.reduceLT, Int.reduceLE, Int.reduceNeg, Int.reduceEq, Int.reduceAdd, Int.reduceSub, Int.reduceMul, Int.reduceToNat, Int.natCast_one, ne_eq, not_true_eq_false, not_false_eq_true, Bool.false_eq_true, Int.toNat_natCast]
  rw [Fin_loop, Fin_inLoop]
  simp only [go_sem, ↓reduceIte, reduceCtorEq, Nat.reduceEqDiff, Nat.reduceAdd, Nat.reduceSub, Nat.reduceMul, Nat.reduceLeDiff, Int.reduceLT, Int.reduceLE, Int.reduceNeg, Int.reduceEq, Int.reduceAdd, Int.reduceSub, Int.reduceMul, Int.reduceToNat, Int.natCast_one, ne_eq, not_true_eq_false, not_false_eq_true, Bool.false_eq_true, Int.toNat_natCast]
  exact Ab.Ends.same (by simp only [resultOf, Try.f14, go_sem, ↓reduceIte, reduceCtorEq, Nat.reduceEqDiff, Nat.reduceAdd, Nat.reduceSub, Nat.reduceMul, Nat.reduceLeDiff, Int.reduceLT, Int.reduceLE, Int.reduceNeg, Int.reduceEq, Int.reduceAdd, Int.reduceSub, Int.reduceMul, Int.reduceToNat, Int.natCast_one, ne_eq, not_true_eq_false, not_false_eq_true, Bool.false_eq_true, Int.toNat_natCast]) (fun i hi => by first | rfl | simp only [go_sem, ne_add hi, ne_self hi]) (by first | exact Nat.le_refl _ | (simp only [go_sem]; omega)) (by simp [TV.refs, TV0.refs, AV.refs])
end Go.Proofs.Ytdfihkbkldcecab.W
