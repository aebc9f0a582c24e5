/-
  CoarsenLine in both packages, as contracts. By an AI agent; nothing here is trusted.
-/
import Derived.Test.YtdfihkbkldcecaaLines
namespace Go.Proofs.Ytdfihkbkldcecaa.W
open Go Go.Ab Go.Proofs Go.Proofs.Ytdfihkbkldcecaa
set_option maxRecDepth 100000
set_option linter.unusedSimpArgs false
set_option linter.unusedVariables false
set_option maxHeartbeats 4000000

def coarAt (l : List Nat) (i : Nat) : Nat := fop .add .f32 (fop .add .f32 (fop .mul .f32 1048576000 (l.getD (i - 1) 0)) (fop .mul .f32 1056964608 (l.getD i 0))) (fop .mul .f32 1048576000 (l.getD (i + 1) 0))
def coars (l : List Nat) : Nat → List Nat
  | 0 => []
  | k + 1 => coars l k ++ [coarAt l (2 * k + 1)]
theorem coars_len (l : List Nat) (k : Nat) : (coars l k).length = k := by
  induction k with
  | zero => rfl
  | succ k ih => simp [coars, ih]
theorem cz_q : cz .f32 1048576000 = 1048576000 := by decide +kernel
theorem cz_h : cz .f32 1056964608 = 1056964608 := by decide +kernel
theorem getD_in (l : List Nat) {i : Nat} (hi : i < l.length) : l.getD i 0 = l[i] := by simp [List.getD, List.getElem?_eq_getElem hi]
theorem coarAt_eq {l : List Nat} {j : Nat} (h : 2 * j + 2 < l.length) : coarAt l (2 * j + 1) = fop .add .f32 (fop .add .f32 (fop .mul .f32 1048576000 l[2 * j]) (fop .mul .f32 1056964608 l[2 * j + 1])) (fop .mul .f32 1048576000 l[2 * j + 2]) := by
  rw [coarAt, getD_in l (i := 2 * j + 1 - 1) (by omega), getD_in l (i := 2 * j + 1) (by omega), getD_in l (i := 2 * j + 1 + 1) (by omega)]
  simp only [Nat.add_sub_cancel]

theorem l07Coarsen_ok (l : List Nat) (k id off : Nat) (H : Heap) (hr0 : Ab.Row H id off (eF l)) (hk : l.length = 2 * k + 1) (hl : l.length ≤ 2 ^ 20) :
    Ok Try.prog 44 [.v (.sl id off l.length 1)] H (.v (.sl H.n 0 k 1)) (H.alloc (.own (eF (coars l k)))) := by
  refine Ok.of_fin (fn := Try.f44) (c := _) F.hm Try.func44 rfl Try.call44 (by kernel_rfl) (by simp) ?_
  show Ab.Fin _ _ _ _ (Ab.Ends Try.prog Try.f44 _ _ _)
  simp only [go_sem, ↓reduceIte, reduceCtorEq, Nat.reduceEqDiff, Nat.reduceAdd, Nat.reduceSub, Nat.reduceMul, Nat.reduceLeDiff, Int.reduceLT, Int.reduceLE, Int.reduceNeg, Int.reduceEq, Int.reduceAdd, Int.reduceSub, Int.reduceMul, Int.reduceToNat, Int.natCast_one, ne_eq, not_true_eq_false, not_false_eq_true, Bool.false_eq_true, Int.toNat_natCast]
  rw [Fin_loop]
  refine Fin_rule (fun m s H' => ∃ j N, j + m = k ∧ s 0 = .v (.sl id off l.length 1) ∧ s 3 = .v (.sl N 0 j 1) ∧ s 4 = .v (.int .i64 ((2 * j + 1 : Nat) : Int)) ∧ H.n ≤ N ∧ N < H'.n ∧ H'.f N = .own (eF (coars l j)) ∧ ∀ i, i < H.n → H'.f i = H.f i)
    k ⟨0, H.n, by omega, by simp only [go_sem, ↓reduceIte, reduceCtorEq, Nat.reduceEqDiff], by simp only [go_sem, ↓reduceIte, reduceCtorEq, Nat.reduceEqDiff], by simp only [go_sem, ↓reduceIte, reduceCtorEq, Nat.reduceEqDiff]; rfl, Nat.le_refl _, Nat.lt_succ_self _, by simp only [go_sem, ↓reduceIte]; rfl, fun i hi => by simp only [go_sem, ↓reduceIte, ne_self hi]⟩ ?_
  rintro m s H' ⟨j, N, hjm, s0, s3, s4, hN, hN2, hf, hx⟩ next
  have hr := hr0.mono (by omega) (hx id hr0.lt)
  by_cases hi : j < k
  · have hi' : ((2 * j + 1 : Nat) : Int) < (l.length : Int) := by omega
    have hi0 : (0 : Int) ≤ ((2 * j + 1 : Nat) : Int) := by omega
    have a1 : IntKind.i64.wrap (((2 * j + 1 : Nat) : Int) - 1) = ((2 * j : Nat) : Int) := by rw [wrap_i64 (by omega) (by omega)]; omega
    have a2 : IntKind.i64.wrap (((2 * j + 1 : Nat) : Int) + 1) = ((2 * j + 2 : Nat) : Int) := by rw [wrap_i64 (by omega) (by omega)]; omega
    have a3 : IntKind.i64.wrap (((2 * j + 1 : Nat) : Int) + 2) = ((2 * (j + 1) + 1 : Nat) : Int) := by rw [wrap_i64 (by omega) (by omega)]; omega
    have b1 : (0 : Int) ≤ ((2 * j : Nat) : Int) := by omega
    have b2 : ((2 * j : Nat) : Int) < (l.length : Int) := by omega
    have b3 : (0 : Int) ≤ ((2 * j + 2 : Nat) : Int) := by omega
    have b4 : ((2 * j + 2 : Nat) : Int) < (l.length : Int) := by omega
    have c1 := hr.atF (i := 2 * j) (by omega)
    have c2 := hr.atF (i := 2 * j + 1) (by omega)
    have c3 := hr.atF (i := 2 * j + 2) (by omega)
    have hap := app1F hN2 hf (by rw [coars_len]; omega)
    rw [coars_len] at hap
    have hc := coarAt_eq (l := l) (j := j) (by omega)
    simp only [go_sem, ↓reduceIte, reduceCtorEq, Nat.reduceEqDiff, Nat.reduceAdd, Nat.reduceSub, Nat.reduceMul, Nat.reduceLeDiff, Int.reduceLT, Int.reduceLE, Int.reduceNeg, Int.reduceEq, Int.reduceAdd, Int.reduceSub, Int.reduceMul, Int.reduceToNat, Int.natCast_one, ne_eq, not_true_eq_false, not_false_eq_true, Bool.false_eq_true, Int.toNat_natCast, s0, s3, s4, hi', hi0, a1, a2, b1, b2, b3, b4, c1, c2, c3, Nat.mul_one, cz_q, cz_h]
    rw [stepTo_bar (by kernel_rfl)]
    simp only [go_sem, ↓reduceIte, reduceCtorEq, Nat.reduceEqDiff, Nat.reduceAdd, Nat.reduceSub, Nat.reduceMul, Nat.reduceLeDiff, Int.reduceLT, Int.reduceLE, Int.reduceNeg, Int.reduceEq, Int.reduceAdd, Int.reduceSub, Int.reduceMul, Int.reduceToNat, Int.natCast_one, ne_eq, not_true_eq_false, not_false_eq_true, Bool.false_eq_true, Int.toNat_natCast, hap]
    rw [stepTo_bar (by kernel_rfl)]
    simp only [go_sem, ↓reduceIte, reduceCtorEq, Nat.reduceEqDiff, Nat.reduceAdd, Nat.reduceSub, Nat.reduceMul, Nat.reduceLeDiff, Int.reduceLT, Int.reduceLE, Int.reduceNeg, Int.reduceEq, Int.reduceAdd, Int.reduceSub, Int.reduceMul, Int.reduceToNat, Int.natCast_one, ne_eq, not_true_eq_false, not_false_eq_true, Bool.false_eq_true, Int.toNat_natCast, a3, s4, ← hc]
    refine next (m - 1) _ _ (by omega) ⟨j + 1, H'.n + 1, by omega, ?_, ?_, ?_, by omega, ?_, ?_, fun i hi => ?_⟩
    · simp only [go_sem, ↓reduceIte, reduceCtorEq, Nat.reduceEqDiff, s0]
    · simp only [go_sem, ↓reduceIte, reduceCtorEq, Nat.reduceEqDiff]
    · simp only [go_sem, ↓reduceIte, reduceCtorEq, Nat.reduceEqDiff]
    · simp only [go_sem]; omega
    · simp only [go_sem, ↓reduceIte]; rfl
    · have h1 : i ≠ N := by omega
      simp only [go_sem, ↓reduceIte, ne_add (Nat.lt_of_lt_of_le hi (Nat.le_trans hN (Nat.le_of_lt hN2))), ne_self (Nat.lt_of_lt_of_le hi (Nat.le_trans hN (Nat.le_of_lt hN2))), h1, hx i hi]
  · have hi' : ¬ ((2 * j + 1 : Nat) : Int) < (l.length : Int) := by omega
    obtain rfl : j = k := by omega
    simp only [go_sem, ↓reduceIte, reduceCtorEq, Nat.reduceEqDiff, Nat.reduceAdd, Nat.reduceSub, Nat.reduceMul, Nat.reduceLeDiff, Int.reduceLT, Int.reduceLE, Int.reduceNeg, Int.reduceEq, Int.reduceAdd, Int.reduceSub, Int.reduceMul, Int.reduceToNat, Int.natCast_one, ne_eq, not_true_eq_false, not_false_eq_true, Bool.false_eq_true, Int.toNat_natCast, s0, s3, s4, hi']
    refine Ab.Ends.one (N := N) ?_ hN hN2 hf hx (eF_plain _) (by simp [TV.refs, AV.refs])
    simp only [resultOf, Try.f44, go_sem, ↓reduceIte, reduceCtorEq, Nat.reduceEqDiff, Nat.reduceAdd, Nat.reduceSub, Nat.reduceMul, Nat.reduceLeDiff, Int.reduceLT, Int.reduceLE, Int.reduceNeg, Int.reduceEq, Int.reduceAdd, Int.reduceSub, Int.reduceMul, Int.reduceToNat, Int.natCast_one, ne_eq, not_true_eq_false, not_false_eq_true, Bool.false_eq_true, Int.toNat_natCast, TV.ren, AV.ren, Nat.lt_irrefl]
def coarsenF (l : List Nat) : Option (List Nat) := if isLn l = true ∧ 3 ≤ l.length ∧ allFin (coars l (l.length / 2)) = true then some (coars l (l.length / 2)) else none
theorem sCoarsenLine_ok (l : List Nat) (id off : Nat) (H : Heap) (hr : Ab.Row H id off (eF l)) (hl : l.length ≤ 2 ^ 20) :
    Ok Try.prog 23 [.v (.sl id off l.length 1)] H (optTV H.n (coarsenF l)) (optH H (coarsenF l)) := by
  refine Ok.of_fin (fn := Try.f23) (c := _) F.hm Try.func23 rfl Try.call23 (by kernel_rfl) (by simp) ?_
  show Ab.Fin _ _ _ _ (Ab.Ends Try.prog Try.f23 _ _ _)
  simp only [go_sem, ↓reduceIte, reduceCtorEq, Nat.reduceEqDiff, Nat.reduceAdd, Nat.reduceSub, Nat.reduceMul, Nat.reduceLeDiff, Int.reduceLT, Int.reduceLE, Int.reduceNeg, Int.reduceEq, Int.reduceAdd, Int.reduceSub, Int.reduceMul, Int.reduceToNat, Int.natCast_one, ne_eq, not_true_eq_false, not_false_eq_true, Bool.false_eq_true, Int.toNat_natCast]
  refine callG_intro (l07Line_ok l _ _ _ hr hl) ?_
  rcases (isLn l).eq_false_or_eq_true with h1 | h1
  case inr =>
    have hf : coarsenF l = none := by simp [coarsenF, h1]
    simp only [go_sem, ↓reduceIte, reduceCtorEq, Nat.reduceEqDiff, Nat.reduceAdd, Nat.reduceSub, Nat.reduceMul, Nat.reduceLeDiff, Int.reduceLT, Int.reduceLE, Int.reduceNeg, Int.reduceEq, Int.reduceAdd, Int.reduceSub, Int.reduceMul, Int.reduceToNat, Int.natCast_one, ne_eq, not_true_eq_false, not_false_eq_true, Bool.false_eq_true, Int.toNat_natCast, h1, hf, optH]
    exact Ab.Ends.same (by simp only [resultOf, Try.f23, go_sem, ↓reduceIte, reduceCtorEq, Nat.reduceEqDiff, Nat.reduceAdd, Nat.reduceSub, Nat.reduceMul, Nat.reduceLeDiff, Int.reduceLT, Int.reduceLE, Int.reduceNeg, Int.reduceEq, Int.reduceAdd, Int.reduceSub, Int.reduceMul, Int.reduceToNat, Int.natCast_one, ne_eq, not_true_eq_false, not_false_eq_true, Bool.false_eq_true, Int.toNat_natCast, hf, optTV, downAll, TV.down]) (fun i hi => by first | rfl | simp only [go_sem, ne_add hi, ne_self hi]) (by first | exact Nat.le_refl _ | (simp only [go_sem]; omega)) (by simp [TV.refs, TV0.refs, AV.refs, hf, optTV, downAll, TV.down])
  by_cases h2 : (l.length : Int) < 3
  case pos =>
    have hf : coarsenF l = none := by simp [coarsenF]; intros; omega
    simp only [go_sem, ↓reduceIte, reduceCtorEq, Nat.reduceEqDiff, Nat.reduceAdd, Nat.reduceSub, Nat.reduceMul, Nat.reduceLeDiff, Int.reduceLT, Int.reduceLE, Int.reduceNeg, Int.reduceEq, Int.reduceAdd, Int.reduceSub, Int.reduceMul, Int.reduceToNat, Int.natCast_one, ne_eq, not_true_eq_false, not_false_eq_true, Bool.false_eq_true, Int.toNat_natCast, h1, h2, hf, optH]
    exact Ab.Ends.same (by simp only [resultOf, Try.f23, go_sem, ↓reduceIte, reduceCtorEq, Nat.reduceEqDiff, Nat.reduceAdd, Nat.reduceSub, Nat.reduceMul, Nat.reduceLeDiff, Int.reduceLT, Int.reduceLE, Int.reduceNeg, Int.reduceEq, Int.reduceAdd, Int.reduceSub, Int.reduceMul, Int.reduceToNat, Int.natCast_one, ne_eq, not_true_eq_false, not_false_eq_true, Bool.false_eq_true, Int.toNat_natCast, hf, optTV, downAll, TV.down]) (fun i hi => by first | rfl | simp only [go_sem, ne_add hi, ne_self hi]) (by first | exact Nat.le_refl _ | (simp only [go_sem]; omega)) (by simp [TV.refs, TV0.refs, AV.refs, hf, optTV, downAll, TV.down])
  have hs : lineLen l.length = true := by simp [isLn] at h1; exact h1.1
  have hs := line_small hs
  simp only [go_sem, ↓reduceIte, reduceCtorEq, Nat.reduceEqDiff, Nat.reduceAdd, Nat.reduceSub, Nat.reduceMul, Nat.reduceLeDiff, Int.reduceLT, Int.reduceLE, Int.reduceNeg, Int.reduceEq, Int.reduceAdd, Int.reduceSub, Int.reduceMul, Int.reduceToNat, Int.natCast_one, ne_eq, not_true_eq_false, not_false_eq_true, Bool.false_eq_true, Int.toNat_natCast, h1, h2]
  refine callG_intro (l07Coarsen_ok l (l.length / 2) _ _ _ hr (by omega) hl) ?_
  simp only [go_sem, ↓reduceIte, reduceCtorEq, Nat.reduceEqDiff, Nat.reduceAdd, Nat.reduceSub, Nat.reduceMul, Nat.reduceLeDiff, Int.reduceLT, Int.reduceLE, Int.reduceNeg, Int.reduceEq, Int.reduceAdd, Int.reduceSub, Int.reduceMul, Int.reduceToNat, Int.natCast_one, ne_eq, not_true_eq_false, not_false_eq_true, Bool.false_eq_true, Int.toNat_natCast]
  have q1 : Ab.Row (H.alloc (.own (eF (coars l (l.length / 2))))) H.n 0 (eF (coars l (l.length / 2))) := Ab.Row.of_f (Nat.lt_succ_self _) (by simp only [go_sem, ↓reduceIte])
  have hcl := coars_len l (l.length / 2)
  have hfin := l02Finite_ok (coars l (l.length / 2)) _ _ _ q1 (by rw [hcl]; omega)
  rw [hcl] at hfin
  refine callG_intro hfin ?_
  rcases (allFin (coars l (l.length / 2))).eq_false_or_eq_true with h3 | h3
  · have hf : coarsenF l = some (coars l (l.length / 2)) := by rw [coarsenF, if_pos ⟨h1, by omega, h3⟩]
    simp only [go_sem, ↓reduceIte, reduceCtorEq, Nat.reduceEqDiff, Nat.reduceAdd, Nat.reduceSub, Nat.reduceMul, Nat.reduceLeDiff, Int.reduceLT, Int.reduceLE, Int.reduceNeg, Int.reduceEq, Int.reduceAdd, Int.reduceSub, Int.reduceMul, Int.reduceToNat, Int.natCast_one, ne_eq, not_true_eq_false, not_false_eq_true, Bool.false_eq_true, Int.toNat_natCast, h3, hf, optH]
    refine Ab.Ends.fresh ?_ (eF_plain _) (by simp [hf, optTV, TV.refs, TV0.refs, AV.refs])
    simp only [resultOf, Try.f23, go_sem, ↓reduceIte, reduceCtorEq, Nat.reduceEqDiff, Nat.reduceAdd, Nat.reduceSub, Nat.reduceMul, Nat.reduceLeDiff, Int.reduceLT, Int.reduceLE, Int.reduceNeg, Int.reduceEq, Int.reduceAdd, Int.reduceSub, Int.reduceMul, Int.reduceToNat, Int.natCast_one, ne_eq, not_true_eq_false, not_false_eq_true, Bool.false_eq_true, Int.toNat_natCast, hf, optTV, hcl, downAll, TV.down]
  · have hf : coarsenF l = none := by simp [coarsenF, h3]
    simp only [go_sem, ↓reduceIte, reduceCtorEq, Nat.reduceEqDiff, Nat.reduceAdd, Nat.reduceSub, Nat.reduceMul, Nat.reduceLeDiff, Int.reduceLT, Int.reduceLE, Int.reduceNeg, Int.reduceEq, Int.reduceAdd, Int.reduceSub, Int.reduceMul, Int.reduceToNat, Int.natCast_one, ne_eq, not_true_eq_false, not_false_eq_true, Bool.false_eq_true, Int.toNat_natCast, h3, hf, optH]
    exact Ab.Ends.same (by simp only [resultOf, Try.f23, go_sem, ↓reduceIte, reduceCtorEq, Nat.reduceEqDiff, Nat.reduceAdd, Nat.reduceSub, Nat.reduceMul, Nat.reduceLeDiff, Int.reduceLT, Int.reduceLE, Int.reduceNeg, Int.reduceEq, Int.reduceAdd, Int.reduceSub, Int.reduceMul, Int.reduceToNat, Int.natCast_one, ne_eq, not_true_eq_false, not_false_eq_true, Bool.false_eq_true, Int.toNat_natCast, hf, optTV, downAll, TV.down]) (fun i hi => by first | rfl | simp only [go_sem, ne_add hi, ne_self hi]) (by first | exact Nat.le_refl _ | (simp only [go_sem]; omega)) (by simp [TV.refs, TV0.refs, AV.refs, hf, optTV, downAll, TV.down])
theorem iCoarsenLine_ok (l : List Nat) (id off : Nat) (H : Heap) (hr0 : Ab.Row H id off (eF l)) (hl : l.length ≤ 2 ^ 20) :
    Ok Try.prog 24 [.v (.sl id off l.length 1)] H (optTV H.n (coarsenF l)) (optH H (coarsenF l)) := by
  refine Ok.of_fin (fn := Try.f24) (c := _) F.hm Try.func24 rfl Try.call24 (by kernel_rfl) (by simp) ?_
  show Ab.Fin _ _ _ _ (Ab.Ends Try.prog Try.f24 _ _ _)
  simp only [go_sem, ↓reduceIte, reduceCtorEq, Nat.reduceEqDiff, Nat.reduceAdd, Nat.reduceSub, Nat.reduceMul, Nat.reduceLeDiff, Int.reduceLT, Int.reduceLE, Int.reduceNeg, Int.reduceEq, Int.reduceAdd, Int.reduceSub, Int.reduceMul, Int.reduceToNat, Int.natCast_one, ne_eq, not_true_eq_false, not_false_eq_true, Bool.false_eq_true, Int.toNat_natCast]
  refine callG_intro (isLine_ok l _ _ _ hr0 hl) ?_
  rcases (isLn l).eq_false_or_eq_true with h1 | h1
  case inr =>
    have hf : coarsenF l = none := by simp [coarsenF, h1]
    simp only [go_sem, ↓reduceIte, reduceCtorEq, Nat.reduceEqDiff, Nat.reduceAdd, Nat.reduceSub, Nat.reduceMul, Nat.reduceLeDiff, Int.reduceLT, Int.reduceLE, Int.reduceNeg, Int.reduceEq, Int.reduceAdd, Int.reduceSub, Int.reduceMul, Int.reduceToNat, Int.natCast_one, ne_eq, not_true_eq_false, not_false_eq_true, Bool.false_eq_true, Int.toNat_natCast, h1, hf, optH]
    exact Ab.Ends.same (by simp only [resultOf, Try.f24, go_sem, ↓reduceIte, reduceCtorEq, Nat.reduceEqDiff, Nat.reduceAdd, Nat.reduceSub, Nat.reduceMul, Nat.reduceLeDiff, Int.reduceLT, Int.reduceLE, Int.reduceNeg, Int.reduceEq, Int.reduceAdd, Int.reduceSub, Int.reduceMul, Int.reduceToNat, Int.natCast_one, ne_eq, not_true_eq_false, not_false_eq_true, Bool.false_eq_true, Int.toNat_natCast, hf, optTV, downAll, TV.down]) (fun i hi => by first | rfl | simp only [go_sem, ne_add hi, ne_self hi]) (by first | exact Nat.le_refl _ | (simp only [go_sem]; omega)) (by simp [TV.refs, TV0.refs, AV.refs, hf, optTV, downAll, TV.down])
  by_cases h2 : (l.length : Int) < 3
  case pos =>
    have hf : coarsenF l = none := by simp [coarsenF]; intros; omega
    simp only [go_sem, ↓reduceIte, reduceCtorEq, Nat.reduceEqDiff, Nat.reduceAdd, Nat.reduceSub, Nat.reduceMul, Nat.reduceLeDiff, Int.reduceLT, Int.reduceLE, Int.reduceNeg, Int.reduceEq, Int.reduceAdd, Int.reduceSub, Int.reduceMul, Int.reduceToNat, Int.natCast_one, ne_eq, not_true_eq_false, not_false_eq_true, Bool.false_eq_true, Int.toNat_natCast, h1, h2, hf, optH]
    exact Ab.Ends.same (by simp only [resultOf, Try.f24, go_sem, ↓reduceIte, reduceCtorEq, Nat.reduceEqDiff, Nat.reduceAdd, Nat.reduceSub, Nat.reduceMul, Nat.reduceLeDiff, Int.reduceLT, Int.reduceLE, Int.reduceNeg, Int.reduceEq, Int.reduceAdd, Int.reduceSub, Int.reduceMul, Int.reduceToNat, Int.natCast_one, ne_eq, not_true_eq_false, not_false_eq_true, Bool.false_eq_true, Int.toNat_natCast, hf, optTV, downAll, TV.down]) (fun i hi => by first | rfl | simp only [go_sem, ne_add hi, ne_self hi]) (by first | exact Nat.le_refl _ | (simp only [go_sem]; omega)) (by simp [TV.refs, TV0.refs, AV.refs, hf, optTV, downAll, TV.down])
  have hs : lineLen l.length = true := by simp [isLn] at h1; exact h1.1
  have hs := line_small hs
  have hcl := coars_len l (l.length / 2)
  generalize hkk : l.length / 2 = k at *
  have hk : l.length = 2 * k + 1 := by omega
  simp only [go_sem, ↓reduceIte, reduceCtorEq, Nat.reduceEqDiff, Nat.reduceAdd, Nat.reduceSub, Nat.reduceMul, Nat.reduceLeDiff, Int.reduceLT, Int.reduceLE, Int.reduceNeg, Int.reduceEq, Int.reduceAdd, Int.reduceSub, Int.reduceMul, Int.reduceToNat, Int.natCast_one, ne_eq, not_true_eq_false, not_false_eq_true, Bool.false_eq_true, Int.toNat_natCast, h1, h2]
  rw [Fin_loop]
  refine Fin_rule (fun m s H' => ∃ j N, j + m = k ∧ s 0 = .v (.sl id off l.length 1) ∧ s 4 = .v (.sl N 0 j 1) ∧ s 5 = .v (.int .i64 ((2 * j + 1 : Nat) : Int)) ∧ H.n ≤ N ∧ N < H'.n ∧ H'.f N = .own (eF (coars l j)) ∧ ∀ i, i < H.n → H'.f i = H.f i)
    k ⟨0, H.n, by omega, by simp only [go_sem, ↓reduceIte, reduceCtorEq, Nat.reduceEqDiff], by simp only [go_sem, ↓reduceIte, reduceCtorEq, Nat.reduceEqDiff], by simp only [go_sem, ↓reduceIte, reduceCtorEq, Nat.reduceEqDiff]; rfl, Nat.le_refl _, Nat.lt_succ_self _, by simp only [go_sem, ↓reduceIte]; rfl, fun i hi => by simp only [go_sem, ↓reduceIte, ne_self hi]⟩ ?_
  rintro m s H' ⟨j, N, hjm, s0, s4, s5, hN, hN2, hf, hx⟩ next
  have hr := hr0.mono (by omega) (hx id hr0.lt)
  by_cases hi : j < k
  · have hi' : ((2 * j + 1 : Nat) : Int) < (l.length : Int) := by omega
    have hi0 : (0 : Int) ≤ ((2 * j + 1 : Nat) : Int) := by omega
    have a1 : IntKind.i64.wrap (((2 * j + 1 : Nat) : Int) - 1) = ((2 * j : Nat) : Int) := by rw [wrap_i64 (by omega) (by omega)]; omega
    have a2 : IntKind.i64.wrap (((2 * j + 1 : Nat) : Int) + 1) = ((2 * j + 2 : Nat) : Int) := by rw [wrap_i64 (by omega) (by omega)]; omega
    have a3 : IntKind.i64.wrap (((2 * j + 1 : Nat) : Int) + 2) = ((2 * (j + 1) + 1 : Nat) : Int) := by rw [wrap_i64 (by omega) (by omega)]; omega
    have b1 : (0 : Int) ≤ ((2 * j : Nat) : Int) := by omega
    have b2 : ((2 * j : Nat) : Int) < (l.length : Int) := by omega
    have b3 : (0 : Int) ≤ ((2 * j + 2 : Nat) : Int) := by omega
    have b4 : ((2 * j + 2 : Nat) : Int) < (l.length : Int) := by omega
    have c1 := hr.atF (i := 2 * j) (by omega)
    have c2 := hr.atF (i := 2 * j + 1) (by omega)
    have c3 := hr.atF (i := 2 * j + 2) (by omega)
    have hap := app1F hN2 hf (by rw [coars_len]; omega)
    rw [coars_len] at hap
    have hc := coarAt_eq (l := l) (j := j) (by omega)
    simp only [go_sem, ↓reduceIte, reduceCtorEq, Nat.reduceEqDiff, Nat.reduceAdd, Nat.reduceSub, Nat.reduceMul, Nat.reduceLeDiff, Int.reduceLT, Int.reduceLE, Int.reduceNeg, Int.reduceEq, Int.reduceAdd, Int.reduceSub, Int.reduceMul, Int.reduceToNat, Int.natCast_one, ne_eq, not_true_eq_false, not_false_eq_true, Bool.false_eq_true, Int.toNat_natCast, s0, s4, s5, hi', hi0, a1, a2, b1, b2, b3, b4, c1, c2, c3, Nat.mul_one, cz_q, cz_h]
    rw [stepTo_bar (by kernel_rfl)]
    simp only [go_sem, ↓reduceIte, reduceCtorEq, Nat.reduceEqDiff, Nat.reduceAdd, Nat.reduceSub, Nat.reduceMul, Nat.reduceLeDiff, Int.reduceLT, Int.reduceLE, Int.reduceNeg, Int.reduceEq, Int.reduceAdd, Int.reduceSub, Int.reduceMul, Int.reduceToNat, Int.natCast_one, ne_eq, not_true_eq_false, not_false_eq_true, Bool.false_eq_true, Int.toNat_natCast, hap]
    rw [stepTo_bar (by kernel_rfl)]
    simp only [go_sem, ↓reduceIte, reduceCtorEq, Nat.reduceEqDiff, Nat.reduceAdd, Nat.reduceSub, Nat.reduceMul, Nat.reduceLeDiff, Int.reduceLT, Int.reduceLE, Int.reduceNeg, Int.reduceEq, Int.reduceAdd, Int.reduceSub, Int.reduceMul, Int.reduceToNat, Int.natCast_one, ne_eq, not_true_eq_false, not_false_eq_true, Bool.false_eq_true, Int.toNat_natCast, a3, s5, ← hc]
    refine next (m - 1) _ _ (by omega) ⟨j + 1, H'.n + 1, by omega, ?_, ?_, ?_, by omega, ?_, ?_, fun i hi => ?_⟩
    · simp only [go_sem, ↓reduceIte, reduceCtorEq, Nat.reduceEqDiff, s0]
    · simp only [go_sem, ↓reduceIte, reduceCtorEq, Nat.reduceEqDiff]
    · simp only [go_sem, ↓reduceIte, reduceCtorEq, Nat.reduceEqDiff]
    · simp only [go_sem]; omega
    · simp only [go_sem, ↓reduceIte]; rfl
    · have h1 : i ≠ N := by omega
      simp only [go_sem, ↓reduceIte, ne_add (Nat.lt_of_lt_of_le hi (Nat.le_trans hN (Nat.le_of_lt hN2))), ne_self (Nat.lt_of_lt_of_le hi (Nat.le_trans hN (Nat.le_of_lt hN2))), h1, hx i hi]
  · have hi' : ¬ ((2 * j + 1 : Nat) : Int) < (l.length : Int) := by omega
    obtain rfl : j = k := by omega
    have hq : Ab.Row H' N 0 (eF (coars l j)) := Ab.Row.of_f hN2 (by rw [hf]; rfl)
    have hfin := finiteList_ok (coars l j) N 0 H' hq (by omega)
    rw [hcl] at hfin
    simp only [go_sem, ↓reduceIte, reduceCtorEq, Nat.reduceEqDiff, Nat.reduceAdd, Nat.reduceSub, Nat.reduceMul, Nat.reduceLeDiff, Int.reduceLT, Int.reduceLE, Int.reduceNeg, Int.reduceEq, Int.reduceAdd, Int.reduceSub, Int.reduceMul, Int.reduceToNat, Int.natCast_one, ne_eq, not_true_eq_false, not_false_eq_true, Bool.false_eq_true, Int.toNat_natCast, s0, s4, s5, hi']
    refine callG_intro hfin ?_
    rcases (allFin (coars l j)).eq_false_or_eq_true with h3 | h3
    · have hF : coarsenF l = some (coars l j) := by rw [coarsenF, hkk, if_pos ⟨h1, by omega, h3⟩]
      simp only [go_sem, ↓reduceIte, reduceCtorEq, Nat.reduceEqDiff, Nat.reduceAdd, Nat.reduceSub, Nat.reduceMul, Nat.reduceLeDiff, Int.reduceLT, Int.reduceLE, Int.reduceNeg, Int.reduceEq, Int.reduceAdd, Int.reduceSub, Int.reduceMul, Int.reduceToNat, Int.natCast_one, ne_eq, not_true_eq_false, not_false_eq_true, Bool.false_eq_true, Int.toNat_natCast, h3, hF, optH, finTV]
      refine Ab.Ends.one (N := N) ?_ hN hN2 hf hx (eF_plain _) (by simp [hF, optTV, TV.refs, TV0.refs, AV.refs])
      simp only [resultOf, Try.f24, go_sem, ↓reduceIte, reduceCtorEq, Nat.reduceEqDiff, Nat.reduceAdd, Nat.reduceSub, Nat.reduceMul, Nat.reduceLeDiff, Int.reduceLT, Int.reduceLE, Int.reduceNeg, Int.reduceEq, Int.reduceAdd, Int.reduceSub, Int.reduceMul, Int.reduceToNat, Int.natCast_one, ne_eq, not_true_eq_false, not_false_eq_true, Bool.false_eq_true, Int.toNat_natCast, hF, optTV, hcl, downAll, TV.down, TV.ren, TV0.ren, AV.ren, Nat.lt_irrefl]
    · have hF : coarsenF l = none := by simp [coarsenF, hkk, h3]
      simp only [go_sem, ↓reduceIte, reduceCtorEq, Nat.reduceEqDiff, Nat.reduceAdd, Nat.reduceSub, Nat.reduceMul, Nat.reduceLeDiff, Int.reduceLT, Int.reduceLE, Int.reduceNeg, Int.reduceEq, Int.reduceAdd, Int.reduceSub, Int.reduceMul, Int.reduceToNat, Int.natCast_one, ne_eq, not_true_eq_false, not_false_eq_true, Bool.false_eq_true, Int.toNat_natCast, h3, hF, optH, finTV]
      have hle : H.n ≤ H'.n := by omega
      exact Ab.Ends.same (by simp only [resultOf, Try.f24, go_sem, ↓reduceIte, reduceCtorEq, Nat.reduceEqDiff, Nat.reduceAdd, Nat.reduceSub, Nat.reduceMul, Nat.reduceLeDiff, Int.reduceLT, Int.reduceLE, Int.reduceNeg, Int.reduceEq, Int.reduceAdd, Int.reduceSub, Int.reduceMul, Int.reduceToNat, Int.natCast_one, ne_eq, not_true_eq_false, not_false_eq_true, Bool.false_eq_true, Int.toNat_natCast, hF, optTV, downAll, TV.down]) (fun i hi => by simp only [go_sem, ↓reduceIte, ne_add (Nat.lt_of_lt_of_le hi hle), ne_self (Nat.lt_of_lt_of_le hi hle), hx i hi]) (by first | omega | (simp only [go_sem]; omega)) (by simp [TV.refs, TV0.refs, AV.refs, hF, optTV, downAll, TV.down])
end Go.Proofs.Ytdfihkbkldcecaa.W
