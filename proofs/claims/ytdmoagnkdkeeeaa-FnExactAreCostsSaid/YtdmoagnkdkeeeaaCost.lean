/-
  Costs: their copies, sizes and comparisons, and whether they are a block, as contracts. By an AI agent; nothing here is trusted.
-/
import Derived.Test.YtdmoagnkdkeeeaaBase
namespace Go.Proofs.Ytdmoagnkdkeeeaa.W
open Go Go.Ab Go.Proofs Go.Proofs.Ytdmoagnkdkeeeaa
set_option maxRecDepth 100000
set_option linter.unusedSimpArgs false
set_option linter.unusedVariables false

def eCost (x : Int × Nat) : List AV := [.int .i64 x.1, .flt .f32 x.2]
theorem eCost_len (x : Int × Nat) : (eCost x).length = 2 := by simp [eCost]
theorem eCost_stor (x : Int × Nat) : (eCost x).all AV.stor = true := by simp [eCost, AV.stor]
theorem eCost_plain (x : Int × Nat) : ∀ c ∈ eCost x, c.refs = [] := by intro c h; simp [eCost] at h; rcases h with rfl | rfl <;> rfl
theorem eCost_0 (x : Int × Nat) : (eCost x)[0]? = some (.int .i64 x.1) := rfl
theorem eCost_1 (x : Int × Nat) : (eCost x)[1]? = some (.flt .f32 x.2) := rfl

theorem toCost_ok (x : Int × Nat) (H : Heap) : Ok Try.prog 19 [.g (eCost x)] H (.g (eCost x)) H := by
  obtain ⟨b, m⟩ := x
  simp only [eCost]
  refine Ok.of_fin (fn := Try.f19) (c := _) F.hm Try.func19 rfl Try.call19 (by kernel_rfl) (by simp) ?_
  show Ab.Fin _ _ _ _ (Ab.Ends Try.prog Try.f19 _ _ _)
  simp only [go_sem, ↓reduceIte, reduceCtorEq, Nat.reduceEqDiff, Nat.reduceAdd, Nat.reduceSub, Nat.reduceMul, Nat.reduceLeDiff, Int.reduceLT, Int.reduceLE, Int.reduceNeg, Bool.false_eq_true, Int.toNat_natCast]
  exact Ab.Ends.same (by simp only [resultOf, Try.f19, go_sem, ↓reduceIte, reduceCtorEq, Nat.reduceEqDiff, Nat.reduceAdd, Nat.reduceSub, Nat.reduceMul, Nat.reduceLeDiff, Int.reduceLT, Int.reduceLE, Int.reduceNeg, Bool.false_eq_true, Int.toNat_natCast]) (fun i hi => by first | rfl | simp only [go_sem, ne_add hi, ne_self hi]) (by first | exact Nat.le_refl _ | (simp only [go_sem]; omega)) (by simp [TV.refs, AV.refs])
theorem toCostS_ok (l : List (Int × Nat)) (id off : Nat) (H : Heap) (hr : Ab.Row H id off (enc eCost l)) (hl : l.length ≤ 2 ^ 20) :
    Ok Try.prog 7 [.v (.sl id off l.length 2)] H (.v (.sl H.n 0 l.length 2)) (H.alloc (.own (enc eCost l))) := by
  refine Ok.of_fin (fn := Try.f7) (c := _) F.hm Try.func7 rfl Try.call7 (by kernel_rfl) (by simp) ?_
  show Ab.Fin _ _ _ _ (Ab.Ends Try.prog Try.f7 _ _ _)
  have hmk := F.mk25 H l.length (by omega) (by omega)
  have hz : zerosOf [.int .i64 0, .flt .f32 0] l.length = enc eCost (List.replicate l.length (0, 0)) := zerosOf_enc eCost (0, 0) l.length
  simp only [go_sem, ↓reduceIte, reduceCtorEq, Nat.reduceEqDiff, Nat.reduceAdd, Nat.reduceSub, Nat.reduceMul, Nat.reduceLeDiff, Int.reduceLT, Int.reduceLE, Int.reduceNeg, Bool.false_eq_true, Int.toNat_natCast, hmk, hz]
  rw [Fin_loop]
  refine Fin_rule (fun m s H' => ∃ i, i + m = l.length ∧ s 0 = .v (.sl id off l.length 2) ∧ s 3 = .v (.sl H.n 0 l.length 2) ∧ s 4 = .v (.int .i64 i) ∧ H' = H.alloc (.own (enc eCost (l.take i ++ List.replicate m (0, 0)))))
    l.length ⟨0, by omega, by simp only [go_sem, reduceCtorEq, Nat.reduceEqDiff], by simp only [go_sem, reduceCtorEq, Nat.reduceEqDiff], by simp only [go_sem, reduceCtorEq, Nat.reduceEqDiff, Int.natCast_zero], by simp⟩ ?_
  rintro m s H' ⟨i, him, h0, h3, h4, rfl⟩ next
  have hL : (l.take i ++ List.replicate m ((0 : Int), (0 : Nat))).length = l.length := by rw [List.length_append, List.length_take, List.length_replicate]; omega
  by_cases hi : i < l.length
  · have hi' : (i : Int) < (l.length : Int) := by omega
    have hi0 : (0 : Int) ≤ (i : Int) := by omega
    have e3 := hr.agg eCost_len hi
    have e4 := fun H' id x => @wrB_enc _ eCost 2 eCost_len eCost_stor H' id (l.take i ++ List.replicate m (0, 0)) i (by omega) x
    have e5 := set_fill ((0 : Int), (0 : Nat)) him hi
    have e6 := @wrap_succ i (by omega)
    simp only [go_sem, ↓reduceIte, reduceCtorEq, Nat.reduceEqDiff, Nat.reduceAdd, Nat.reduceSub, Nat.reduceMul, Nat.reduceLeDiff, Int.reduceLT, Int.reduceLE, Int.reduceNeg, Bool.false_eq_true, Int.toNat_natCast, h0, h3, h4, hi', hi0, e3.1, e3.2, ne_self hr.lt]
    refine callG_intro (toCost_ok _ _) ?_
    simp only [go_sem, ↓reduceIte, reduceCtorEq, Nat.reduceEqDiff, Nat.reduceAdd, Nat.reduceSub, Nat.reduceMul, Nat.reduceLeDiff, Int.reduceLT, Int.reduceLE, Int.reduceNeg, Bool.false_eq_true, Int.toNat_natCast, h0, h3, h4, hi', hi0, e4, e5, e6, alloc_put, eCost_len]
    refine next (m - 1) _ _ (by omega) ⟨i + 1, by omega, ?_, ?_, ?_, rfl⟩ <;> simp only [go_sem, reduceCtorEq, Nat.reduceEqDiff, h0, h3]
  · have hi' : ¬ (i : Int) < (l.length : Int) := by omega
    obtain rfl : i = l.length := by omega
    obtain rfl : m = 0 := by omega
    simp only [go_sem, ↓reduceIte, reduceCtorEq, Nat.reduceEqDiff, Nat.reduceAdd, Nat.reduceSub, Nat.reduceMul, Nat.reduceLeDiff, Int.reduceLT, Int.reduceLE, Int.reduceNeg, Bool.false_eq_true, Int.toNat_natCast, h0, h3, h4, hi']
    rw [List.take_length, List.replicate_zero, List.append_nil]
    refine Ab.Ends.fresh ?_ (enc_refs eCost_plain l) (by simp [TV.refs, AV.refs])
    simp only [resultOf, Try.f7, go_sem, ↓reduceIte, reduceCtorEq, Nat.reduceEqDiff, Nat.reduceAdd, Nat.reduceSub, Nat.reduceMul, Nat.reduceLeDiff, Int.reduceLT, Int.reduceLE, Int.reduceNeg, Bool.false_eq_true, Int.toNat_natCast]
theorem szCostS_ok (n id off : Nat) (left : Int) (H : Heap) (h1 : -9223372036854775808 ≤ left - n) (h2 : left < 9223372036854775808) :
    Ok Try.prog 5 [.v (.sl id off n 2), .v (.int .i64 left)] H (.v (.int .i64 (if left - n < 0 then -1 else left - n))) H := by
  refine Ok.of_fin (fn := Try.f5) (c := _) F.hm Try.func5 rfl Try.call5 (by kernel_rfl) (by simp) ?_
  show Ab.Fin _ _ _ _ (Ab.Ends Try.prog Try.f5 _ _ _)
  have e := @wrap_i64 (left - n) h1 (by omega)
  by_cases h : left - n < 0
  · simp only [go_sem, ↓reduceIte, reduceCtorEq, Nat.reduceEqDiff, Nat.reduceAdd, Nat.reduceSub, Nat.reduceMul, Nat.reduceLeDiff, Int.reduceLT, Int.reduceLE, Int.reduceNeg, Bool.false_eq_true, Int.toNat_natCast, e, h]
    exact Ab.Ends.same (by simp only [resultOf, Try.f5, go_sem, ↓reduceIte, reduceCtorEq, Nat.reduceEqDiff, Nat.reduceAdd, Nat.reduceSub, Nat.reduceMul, Nat.reduceLeDiff, Int.reduceLT, Int.reduceLE, Int.reduceNeg, Bool.false_eq_true, Int.toNat_natCast, h]) (fun i hi => by first | rfl | simp only [go_sem, ne_add hi, ne_self hi]) (by first | exact Nat.le_refl _ | (simp only [go_sem]; omega)) (by simp [TV.refs, AV.refs])
  · simp only [go_sem, ↓reduceIte, reduceCtorEq, Nat.reduceEqDiff, Nat.reduceAdd, Nat.reduceSub, Nat.reduceMul, Nat.reduceLeDiff, Int.reduceLT, Int.reduceLE, Int.reduceNeg, Bool.false_eq_true, Int.toNat_natCast, e, h]
    exact Ab.Ends.same (by simp only [resultOf, Try.f5, go_sem, ↓reduceIte, reduceCtorEq, Nat.reduceEqDiff, Nat.reduceAdd, Nat.reduceSub, Nat.reduceMul, Nat.reduceLeDiff, Int.reduceLT, Int.reduceLE, Int.reduceNeg, Bool.false_eq_true, Int.toNat_natCast, h]) (fun i hi => by first | rfl | simp only [go_sem, ne_add hi, ne_self hi]) (by first | exact Nat.le_refl _ | (simp only [go_sem]; omega)) (by simp [TV.refs, AV.refs])
theorem eqCost_ok (x : Int × Nat) (H : Heap) : Ok Try.prog 22 [.g (eCost x), .g (eCost x)] H (.v (.bool true)) H := by
  obtain ⟨b, m⟩ := x
  simp only [eCost]
  refine Ok.of_fin (fn := Try.f22) (c := _) F.hm Try.func22 rfl Try.call22 (by kernel_rfl) (by simp) ?_
  show Ab.Fin _ _ _ _ (Ab.Ends Try.prog Try.f22 _ _ _)
  have h1 : decide (b ≠ b) = false := by simp
  simp only [go_sem, ↓reduceIte, reduceCtorEq, Nat.reduceEqDiff, Nat.reduceAdd, Nat.reduceSub, Nat.reduceMul, Nat.reduceLeDiff, Int.reduceLT, Int.reduceLE, Int.reduceNeg, Bool.false_eq_true, Int.toNat_natCast, h1]
  refine callG_intro (sameFloat_ok _ _) ?_
  simp only [go_sem, ↓reduceIte, reduceCtorEq, Nat.reduceEqDiff, Nat.reduceAdd, Nat.reduceSub, Nat.reduceMul, Nat.reduceLeDiff, Int.reduceLT, Int.reduceLE, Int.reduceNeg, Bool.false_eq_true, Int.toNat_natCast]
  exact Ab.Ends.same (by simp only [resultOf, Try.f22, go_sem, ↓reduceIte, reduceCtorEq, Nat.reduceEqDiff, Nat.reduceAdd, Nat.reduceSub, Nat.reduceMul, Nat.reduceLeDiff, Int.reduceLT, Int.reduceLE, Int.reduceNeg, Bool.false_eq_true, Int.toNat_natCast]) (fun i hi => by first | rfl | simp only [go_sem, ne_add hi, ne_self hi]) (by first | exact Nat.le_refl _ | (simp only [go_sem]; omega)) (by simp [TV.refs, AV.refs])
theorem eqCostS_ok (l : List (Int × Nat)) (id off id2 off2 : Nat) (H : Heap) (hr : Ab.Row H id off (enc eCost l)) (hr2 : Ab.Row H id2 off2 (enc eCost l)) (hl : l.length ≤ 2 ^ 20) :
    Ok Try.prog 9 [.v (.sl id off l.length 2), .v (.sl id2 off2 l.length 2)] H (.v (.bool true)) H := by
  refine Ok.of_fin (fn := Try.f9) (c := _) F.hm Try.func9 rfl Try.call9 (by kernel_rfl) (by simp) ?_
  show Ab.Fin _ _ _ _ (Ab.Ends Try.prog Try.f9 _ _ _)
  have h1 : decide ((l.length : Int) ≠ (l.length : Int)) = false := by simp
  simp only [go_sem, ↓reduceIte, reduceCtorEq, Nat.reduceEqDiff, Nat.reduceAdd, Nat.reduceSub, Nat.reduceMul, Nat.reduceLeDiff, Int.reduceLT, Int.reduceLE, Int.reduceNeg, Bool.false_eq_true, Int.toNat_natCast, h1]
  rw [Fin_loop]
  refine Fin_rule (fun m s H' => ∃ i, i + m = l.length ∧ s 0 = .v (.sl id off l.length 2) ∧ s 1 = .v (.sl id2 off2 l.length 2) ∧ s 5 = .v (.int .i64 i) ∧ H' = H)
    l.length ⟨0, by omega, by simp only [go_sem, reduceCtorEq, Nat.reduceEqDiff], by simp only [go_sem, reduceCtorEq, Nat.reduceEqDiff], by simp only [go_sem, reduceCtorEq, Nat.reduceEqDiff, Int.natCast_zero], rfl⟩ ?_
  rintro m s H' ⟨i, him, h0, h3, h4, rfl⟩ next
  by_cases hi : i < l.length
  · have hi' : (i : Int) < (l.length : Int) := by omega
    have hi0 : (0 : Int) ≤ (i : Int) := by omega
    have e3 := hr.agg eCost_len hi
    have e4 := hr2.agg eCost_len hi
    have e6 := @wrap_succ i (by omega)
    simp only [go_sem, ↓reduceIte, reduceCtorEq, Nat.reduceEqDiff, Nat.reduceAdd, Nat.reduceSub, Nat.reduceMul, Nat.reduceLeDiff, Int.reduceLT, Int.reduceLE, Int.reduceNeg, Bool.false_eq_true, Int.toNat_natCast, h0, h3, h4, hi', hi0, e3.1, e3.2, e4.1, e4.2]
    refine callG_intro (eqCost_ok _ _) ?_
    simp only [go_sem, ↓reduceIte, reduceCtorEq, Nat.reduceEqDiff, Nat.reduceAdd, Nat.reduceSub, Nat.reduceMul, Nat.reduceLeDiff, Int.reduceLT, Int.reduceLE, Int.reduceNeg, Bool.false_eq_true, Int.toNat_natCast, h0, h3, h4, hi', hi0, e6]
    refine next (m - 1) _ _ (by omega) ⟨i + 1, by omega, ?_, ?_, ?_, rfl⟩ <;> simp only [go_sem, reduceCtorEq, Nat.reduceEqDiff, h0, h3]
  · have hi' : ¬ (i : Int) < (l.length : Int) := by omega
    simp only [go_sem, ↓reduceIte, reduceCtorEq, Nat.reduceEqDiff, Nat.reduceAdd, Nat.reduceSub, Nat.reduceMul, Nat.reduceLeDiff, Int.reduceLT, Int.reduceLE, Int.reduceNeg, Bool.false_eq_true, Int.toNat_natCast, h0, h3, h4, hi']
    exact Ab.Ends.same (by simp only [resultOf, Try.f9, go_sem, ↓reduceIte, reduceCtorEq, Nat.reduceEqDiff, Nat.reduceAdd, Nat.reduceSub, Nat.reduceMul, Nat.reduceLeDiff, Int.reduceLT, Int.reduceLE, Int.reduceNeg, Bool.false_eq_true, Int.toNat_natCast]) (fun i hi => by first | rfl | simp only [go_sem, ne_add hi, ne_self hi]) (by first | exact Nat.le_refl _ | (simp only [go_sem]; omega)) (by simp [TV.refs, AV.refs])
end Go.Proofs.Ytdmoagnkdkeeeaa.W
