/-
  RefineLine in both packages, as contracts. By an AI agent; nothing here is trusted.
-/
import Derived.Test.YtdfihkbkldcecabFromSurplus
namespace Go.Proofs.Ytdfihkbkldcecab.W
open Go Go.Ab Go.Proofs Go.Proofs.Ytdfihkbkldcecab
set_option maxRecDepth 100000
set_option linter.unusedSimpArgs false
set_option linter.unusedVariables false
set_option maxHeartbeats 4000000

/-- A number of a line; nothing beyond its ends. -/
def atL (l : List Nat) (i : Int) : Nat := if i < 0 ∨ (l.length : Int) ≤ i then 0 else l.getD i.toNat 0
theorem lineAt_ok (l : List Nat) (id off : Nat) (i : Int) (H : Heap) (hr : Ab.Row H id off (eF l)) : Ok Try.prog 36 [.v (.sl id off l.length 1), .v (.int .i64 i)] H (.v (.flt .f32 (atL l i))) H := by
  refine Ok.of_fin (fn := Try.f36) (c := _) F.hm Try.func36 rfl Try.call36 (by kernel_rfl) (by simp) ?_
  show Ab.Fin _ _ _ _ (Ab.Ends Try.prog Try.f36 _ _ _)
  by_cases h1 : i < 0
  · have hf : atL l i = 0 := by rw [atL, if_pos (.inl h1)]
    simp only [go_sem, ↓reduceIte, reduceCtorEq, Nat.reduceEqDiff, Nat.reduceAdd, Nat.reduceSub, Nat.reduceMul, Nat.reduceLeDiff, Int.reduceLT, Int.reduceLE, Int.reduceNeg, Int.reduceEq, Int.reduceAdd, Int.reduceSub, Int.reduceMul, Int.reduceToNat, Int.natCast_one, ne_eq, not_true_eq_false, not_false_eq_true, Bool.false_eq_true, Int.toNat_natCast, h1, cz_zero32]
    exact Ab.Ends.same (by simp only [resultOf, Try.f36, go_sem, ↓reduceIte, reduceCtorEq, Nat.reduceEqDiff, Nat.reduceAdd, Nat.reduceSub, Nat.reduceMul, Nat.reduceLeDiff, Int.reduceLT, Int.reduceLE, Int.reduceNeg, Int.reduceEq, Int.reduceAdd, Int.reduceSub, Int.reduceMul, Int.reduceToNat, Int.natCast_one, ne_eq, not_true_eq_false, not_false_eq_true, Bool.false_eq_true, Int.toNat_natCast, hf]) (fun i hi => by first | rfl | simp only [go_sem, ne_add hi, ne_self hi]) (by first | exact Nat.le_refl _ | (simp only [go_sem]; omega)) (by simp [TV.refs, TV0.refs, AV.refs, hf])
  by_cases h2 : (l.length : Int) ≤ i
  · have hf : atL l i = 0 := by rw [atL, if_pos (.inr h2)]
    simp only [go_sem, ↓reduceIte, reduceCtorEq, Nat.reduceEqDiff, Nat.reduceAdd, Nat.reduceSub, Nat.reduceMul, Nat.reduceLeDiff, Int.reduceLT, Int.reduceLE, Int.reduceNeg, Int.reduceEq, Int.reduceAdd, Int.reduceSub, Int.reduceMul, Int.reduceToNat, Int.natCast_one, ne_eq, not_true_eq_false, not_false_eq_true, Bool.false_eq_true, Int.toNat_natCast, h1, h2, cz_zero32]
    exact Ab.Ends.same (by simp only [resultOf, Try.f36, go_sem, ↓reduceIte, reduceCtorEq, Nat.reduceEqDiff, Nat.reduceAdd, Nat.reduceSub, Nat.reduceMul, Nat.reduceLeDiff, Int.reduceLT, Int.reduceLE, Int.reduceNeg, Int.reduceEq, Int.reduceAdd, Int.reduceSub, Int.reduceMul, Int.reduceToNat, Int.natCast_one, ne_eq, not_true_eq_false, not_false_eq_true, Bool.false_eq_true, Int.toNat_natCast, hf]) (fun i hi => by first | rfl | simp only [go_sem, ne_add hi, ne_self hi]) (by first | exact Nat.le_refl _ | (simp only [go_sem]; omega)) (by simp [TV.refs, TV0.refs, AV.refs, hf])
  obtain ⟨n, rfl⟩ : ∃ n : Nat, i = n := ⟨i.toNat, by omega⟩
  have b5 : (0 : Int) ≤ (n : Int) := by omega
  have b6 : (n : Int) < (l.length : Int) := by omega
  have hn : n < l.length := by omega
  have c := hr.atF hn
  have hf : atL l n = l[n] := by rw [atL, if_neg (by omega), Int.toNat_natCast, getD_in0 l hn]
  simp only [go_sem, ↓reduceIte, reduceCtorEq, Nat.reduceEqDiff, Nat.reduceAdd, Nat.reduceSub, Nat.reduceMul, Nat.reduceLeDiff, Int.reduceLT, Int.reduceLE, Int.reduceNeg, Int.reduceEq, Int.reduceAdd, Int.reduceSub, Int.reduceMul, Int.reduceToNat, Int.natCast_one, ne_eq, not_true_eq_false, not_false_eq_true, Bool.false_eq_true, Int.toNat_natCast, h1, h2, b5, b6, c, Nat.mul_one, cz_zero32]
  exact Ab.Ends.same (by simp only [resultOf, Try.f36, go_sem, ↓reduceIte, reduceCtorEq, Nat.reduceEqDiff, Nat.reduceAdd, Nat.reduceSub, Nat.reduceMul, Nat.reduceLeDiff, Int.reduceLT, Int.reduceLE, Int.reduceNeg, Int.reduceEq, Int.reduceAdd, Int.reduceSub, Int.reduceMul, Int.reduceToNat, Int.natCast_one, ne_eq, not_true_eq_false, not_false_eq_true, Bool.false_eq_true, Int.toNat_natCast, hf]) (fun i hi => by first | rfl | simp only [go_sem, ne_add hi, ne_self hi]) (by first | exact Nat.le_refl _ | (simp only [go_sem]; omega)) (by simp [TV.refs, TV0.refs, AV.refs, hf])
theorem l07At_ok (l : List Nat) (id off : Nat) (i : Int) (H : Heap) (hr : Ab.Row H id off (eF l)) : Ok Try.prog 57 [.v (.sl id off l.length 1), .v (.int .i64 i)] H (.v (.flt .f32 (atL l i))) H := by
  refine Ok.of_fin (fn := Try.f57) (c := _) F.hm Try.func57 rfl Try.call57 (by kernel_rfl) (by simp) ?_
  show Ab.Fin _ _ _ _ (Ab.Ends Try.prog Try.f57 _ _ _)
  by_cases h1 : i < 0
  · have hf : atL l i = 0 := by rw [atL, if_pos (.inl h1)]
    simp only [go_sem, ↓reduceIte, reduceCtorEq, Nat.reduceEqDiff, Nat.reduceAdd, Nat.reduceSub, Nat.reduceMul, Nat.reduceLeDiff, Int.reduceLT, Int.reduceLE, Int.reduceNeg, Int.reduceEq, Int.reduceAdd, Int.reduceSub, Int.reduceMul, Int.reduceToNat, Int.natCast_one, ne_eq, not_true_eq_false, not_false_eq_true, Bool.false_eq_true, Int.toNat_natCast, h1, cz_zero32]
    exact Ab.Ends.same (by simp only [resultOf, Try.f57, go_sem, ↓reduceIte, reduceCtorEq, Nat.reduceEqDiff, Nat.reduceAdd, Nat.reduceSub, Nat.reduceMul, Nat.reduceLeDiff, Int.reduceLT, Int.reduceLE, Int.reduceNeg, Int.reduceEq, Int.reduceAdd, Int.reduceSub, Int.reduceMul, Int.reduceToNat, Int.natCast_one, ne_eq, not_true_eq_false, not_false_eq_true, Bool.false_eq_true, Int.toNat_natCast, hf]) (fun i hi => by first | rfl | simp only [go_sem, ne_add hi, ne_self hi]) (by first | exact Nat.le_refl _ | (simp only [go_sem]; omega)) (by simp [TV.refs, TV0.refs, AV.refs, hf])
  by_cases h2 : (l.length : Int) ≤ i
  · have hf : atL l i = 0 := by rw [atL, if_pos (.inr h2)]
    simp only [go_sem, ↓reduceIte, reduceCtorEq, Nat.reduceEqDiff, Nat.reduceAdd, Nat.reduceSub, Nat.reduceMul, Nat.reduceLeDiff, Int.reduceLT, Int.reduceLE, Int.reduceNeg, Int.reduceEq, Int.reduceAdd, Int.reduceSub, Int.reduceMul, Int.reduceToNat, Int.natCast_one, ne_eq, not_true_eq_false, not_false_eq_true, Bool.false_eq_true, Int.toNat_natCast, h1, h2, cz_zero32]
    exact Ab.Ends.same (by simp only [resultOf, Try.f57, go_sem, ↓reduceIte, reduceCtorEq, Nat.reduceEqDiff, Nat.reduceAdd, Nat.reduceSub, Nat.reduceMul, Nat.reduceLeDiff, Int.reduceLT, Int.reduceLE, Int.reduceNeg, Int.reduceEq, Int.reduceAdd, Int.reduceSub, Int.reduceMul, Int.reduceToNat, Int.natCast_one, ne_eq, not_true_eq_false, not_false_eq_true, Bool.false_eq_true, Int.toNat_natCast, hf]) (fun i hi => by first | rfl | simp only [go_sem, ne_add hi, ne_self hi]) (by first | exact Nat.le_refl _ | (simp only [go_sem]; omega)) (by simp [TV.refs, TV0.refs, AV.refs, hf])
  obtain ⟨n, rfl⟩ : ∃ n : Nat, i = n := ⟨i.toNat, by omega⟩
  have b5 : (0 : Int) ≤ (n : Int) := by omega
  have b6 : (n : Int) < (l.length : Int) := by omega
  have hn : n < l.length := by omega
  have c := hr.atF hn
  have hf : atL l n = l[n] := by rw [atL, if_neg (by omega), Int.toNat_natCast, getD_in0 l hn]
  simp only [go_sem, ↓reduceIte, reduceCtorEq, Nat.reduceEqDiff, Nat.reduceAdd, Nat.reduceSub, Nat.reduceMul, Nat.reduceLeDiff, Int.reduceLT, Int.reduceLE, Int.reduceNeg, Int.reduceEq, Int.reduceAdd, Int.reduceSub, Int.reduceMul, Int.reduceToNat, Int.natCast_one, ne_eq, not_true_eq_false, not_false_eq_true, Bool.false_eq_true, Int.toNat_natCast, h1, h2, b5, b6, c, Nat.mul_one, cz_zero32]
  exact Ab.Ends.same (by simp only [resultOf, Try.f57, go_sem, ↓reduceIte, reduceCtorEq, Nat.reduceEqDiff, Nat.reduceAdd, Nat.reduceSub, Nat.reduceMul, Nat.reduceLeDiff, Int.reduceLT, Int.reduceLE, Int.reduceNeg, Int.reduceEq, Int.reduceAdd, Int.reduceSub, Int.reduceMul, Int.reduceToNat, Int.natCast_one, ne_eq, not_true_eq_false, not_false_eq_true, Bool.false_eq_true, Int.toNat_natCast, hf]) (fun i hi => by first | rfl | simp only [go_sem, ne_add hi, ne_self hi]) (by first | exact Nat.le_refl _ | (simp only [go_sem]; omega)) (by simp [TV.refs, TV0.refs, AV.refs, hf])
def refE (l : List Nat) (j : Nat) : Nat := half (fop .add .f32 (atL l ((j : Int) - 1)) (atL l j))
def refP (l : List Nat) : Nat → List Nat
  | 0 => []
  | k + 1 => refP l k ++ [refE l k] ++ [l.getD k 0]
def refL (l : List Nat) : List Nat := refP l l.length ++ [refE l l.length]
theorem refP_len (l : List Nat) (k : Nat) : (refP l k).length = 2 * k := by
  induction k with
  | zero => rfl
  | succ k ih => simp [refP, ih]; omega
theorem refL_len (l : List Nat) : (refL l).length = 2 * l.length + 1 := by simp [refL, refP_len]
def refS (l : List Nat) (i : Nat) : List Nat := if i % 2 = 0 then refP l (i / 2) else refP l (i / 2) ++ [refE l (i / 2)]
theorem refS_len (l : List Nat) (i : Nat) : (refS l i).length = i := by
  unfold refS
  split
  · rw [refP_len]; omega
  · rw [List.length_append, refP_len, List.length_singleton]; omega
def refK (l : List Nat) (j : Nat) : List Nat := if j ≤ l.length then refP l j else refL l
def refF (l : List Nat) : Option (List Nat) := if isLn l = true ∧ l.length ≤ 31 ∧ allFin (refL l) = true then some (refL l) else none

theorem l07Refine_ok (l : List Nat) (id off : Nat) (H : Heap) (hr0 : Ab.Row H id off (eF l)) (hl : l.length ≤ 2 ^ 20) :
    Ok Try.prog 33 [.v (.sl id off l.length 1)] H (.v (.sl H.n 0 (2 * l.length + 1) 1)) (H.alloc (.own (eF (refL l)))) := by
  refine Ok.of_fin (fn := Try.f33) (c := _) F.hm Try.func33 rfl Try.call33 (by kernel_rfl) (by simp) ?_
  show Ab.Fin _ _ _ _ (Ab.Ends Try.prog Try.f33 _ _ _)
  simp only [go_sem, ↓reduceIte, reduceCtorEq, Nat.reduceEqDiff, Nat.reduceAdd, Nat.reduceSub, Nat.reduceMul, Nat.reduceLeDiff, Int.reduceLT, Int.reduceLE, Int.reduceNeg, Int.reduceEq, Int.reduceAdd, Int.reduceSub, Int.reduceMul, Int.reduceToNat, Int.natCast_one, ne_eq, not_true_eq_false, not_false_eq_true, Bool.false_eq_true, Int.toNat_natCast]
  have q2 := fun t a => @tbin_quo Try.prog t .i64 a 2 (by decide)
  have r2 := fun t a => @tbin_rem Try.prog t .i64 a 2 (by decide)
  have e1 : IntKind.i64.wrap (2 * (l.length : Int)) = ((2 * l.length : Nat) : Int) := by rw [wrap_i64 (by omega) (by omega)]; omega
  rw [Fin_loop]
  refine Fin_rule (fun m s H' => ∃ i N, m + i = 2 * l.length + 1 ∧ s 0 = .v (.sl id off l.length 1) ∧ s 3 = .v (.sl N 0 i 1) ∧ s 4 = .v (.int .i64 i) ∧ H.n ≤ N ∧ N < H'.n ∧ H'.f N = .own (eF (refS l i)) ∧ ∀ i, i < H.n → H'.f i = H.f i)
    (2 * l.length + 1) ⟨0, H.n, rfl, by simp only [go_sem, ↓reduceIte, reduceCtorEq, Nat.reduceEqDiff], by simp only [go_sem, ↓reduceIte, reduceCtorEq, Nat.reduceEqDiff], by simp only [go_sem, ↓reduceIte, reduceCtorEq, Nat.reduceEqDiff, Int.natCast_zero], Nat.le_refl _, Nat.lt_succ_self _, by simp only [go_sem, ↓reduceIte]; rfl, fun i hi => by simp only [go_sem, ↓reduceIte, ne_self hi]⟩ ?_
  rintro m s H' ⟨i, N, him, s0, s3, s4, hN, hN2, hf, hx⟩ next
  have hr := hr0.mono (by omega) (hx id hr0.lt)
  have hap := app1F hN2 hf (by rw [refS_len]; omega)
  rw [refS_len] at hap
  have d1 : (i : Int).tdiv 2 = ((i / 2 : Nat) : Int) := by rw [Int.tdiv_eq_ediv_of_nonneg (by omega)]; omega
  have d2 : (i : Int).tmod 2 = ((i % 2 : Nat) : Int) := by rw [Int.tmod_eq_emod_of_nonneg (by omega)]; omega
  have d3 : IntKind.i64.wrap ((i / 2 : Nat) : Int) = ((i / 2 : Nat) : Int) := wrap_i64 (by omega) (by omega)
  have d4 : IntKind.i64.wrap (((i / 2 : Nat) : Int) - 1) = ((i / 2 : Nat) : Int) - 1 := wrap_i64 (by omega) (by omega)
  have a3 := @wrap_succ i (by omega)
  by_cases hi : (i : Int) ≤ ((2 * l.length : Nat) : Int)
  · have fin : ∀ x, refS l i ++ [x] = refS l (i + 1) → ∀ (s' : Nat → TV) (H2 : Heap), s' 0 = TV.v (.sl id off l.length 1) → s' 3 = TV.v (.sl (H'.n + 1) 0 (i + 1) 1) → s' 4 = TV.v (.int .i64 ((i + 1 : Nat) : Int)) →
        H2 = ((H'.alloc (.own [.flt .f32 x])).put N .gone).alloc (.own (eF (refS l i ++ [x]))) →
        ∃ i N, (m - 1) + i = 2 * l.length + 1 ∧ s' 0 = TV.v (.sl id off l.length 1) ∧ s' 3 = TV.v (.sl N 0 i 1) ∧ s' 4 = TV.v (.int .i64 i) ∧ H.n ≤ N ∧ N < H2.n ∧ H2.f N = .own (eF (refS l i)) ∧ ∀ i, i < H.n → H2.f i = H.f i := by
      intro x hx' s' H2 t0 t3 t4 hH
      refine ⟨i + 1, H'.n + 1, by omega, t0, t3, t4, by omega, by rw [hH]; simp only [go_sem]; omega, by rw [hH]; simp only [go_sem, ↓reduceIte, hx'], fun j hj => ?_⟩
      have h1 : j ≠ N := by omega
      rw [hH]
      simp only [go_sem, ↓reduceIte, ne_add (Nat.lt_of_lt_of_le hj (Nat.le_trans hN (Nat.le_of_lt hN2))), ne_self (Nat.lt_of_lt_of_le hj (Nat.le_trans hN (Nat.le_of_lt hN2))), h1, hx j hj]
    by_cases ho : ((i % 2 : Nat) : Int) = 1
    · have b5 : (0 : Int) ≤ ((i / 2 : Nat) : Int) := by omega
      have b6 : ((i / 2 : Nat) : Int) < (l.length : Int) := by omega
      have c := hr.atF (i := i / 2) (by omega)
      have hs : refS l i ++ [l[i / 2]'(by omega)] = refS l (i + 1) := by
        rw [refS, if_neg (by omega), refS, if_pos (by omega), show (i + 1) / 2 = i / 2 + 1 by omega, refP, getD_in0 l (by omega)]
      simp only [go_sem, ↓reduceIte, reduceCtorEq, Nat.reduceEqDiff, Nat.reduceAdd, Nat.reduceSub, Nat.reduceMul, Nat.reduceLeDiff, Int.reduceLT, Int.reduceLE, Int.reduceNeg, Int.reduceEq, Int.reduceAdd, Int.reduceSub, Int.reduceMul, Int.reduceToNat, Int.natCast_one, ne_eq, not_true_eq_false, not_false_eq_true, Bool.false_eq_true, Int.toNat_natCast, s0, s3, s4, e1, hi, r2, d2, ho, q2, d1, d3, b5, b6, c, Nat.mul_one, hap]
      simp only [go_sem, ↓reduceIte, reduceCtorEq, Nat.reduceEqDiff, Nat.reduceAdd, Nat.reduceSub, Nat.reduceMul, Nat.reduceLeDiff, Int.reduceLT, Int.reduceLE, Int.reduceNeg, Int.reduceEq, Int.reduceAdd, Int.reduceSub, Int.reduceMul, Int.reduceToNat, Int.natCast_one, ne_eq, not_true_eq_false, not_false_eq_true, Bool.false_eq_true, Int.toNat_natCast, s0, s4, a3]
      refine next (m - 1) _ _ (by omega) (fin _ hs _ _ ?_ ?_ ?_ rfl) <;> simp only [go_sem, ↓reduceIte, reduceCtorEq, Nat.reduceEqDiff, s0]
    · have hs : refS l i ++ [refE l (i / 2)] = refS l (i + 1) := by
        rw [refS, if_pos (by omega), refS, if_neg (by omega), show (i + 1) / 2 = i / 2 by omega]
      simp only [go_sem, ↓reduceIte, reduceCtorEq, Nat.reduceEqDiff, Nat.reduceAdd, Nat.reduceSub, Nat.reduceMul, Nat.reduceLeDiff, Int.reduceLT, Int.reduceLE, Int.reduceNeg, Int.reduceEq, Int.reduceAdd, Int.reduceSub, Int.reduceMul, Int.reduceToNat, Int.natCast_one, ne_eq, not_true_eq_false, not_false_eq_true, Bool.false_eq_true, Int.toNat_natCast, s0, s3, s4, e1, hi, r2, d2, ho, q2, d1, d3, d4]
      refine callG_intro (l07At_ok l _ _ _ _ hr) ?_
      simp only [go_sem, ↓reduceIte, reduceCtorEq, Nat.reduceEqDiff, Nat.reduceAdd, Nat.reduceSub, Nat.reduceMul, Nat.reduceLeDiff, Int.reduceLT, Int.reduceLE, Int.reduceNeg, Int.reduceEq, Int.reduceAdd, Int.reduceSub, Int.reduceMul, Int.reduceToNat, Int.natCast_one, ne_eq, not_true_eq_false, not_false_eq_true, Bool.false_eq_true, Int.toNat_natCast, s0, s3, s4, e1, hi, r2, d2, ho, q2, d1, d3, d4]
      refine callG_intro (l07At_ok l _ _ _ _ hr) ?_
      have hE : fop .mul .f32 1056964608 (fop .add .f32 (atL l (((i / 2 : Nat) : Int) - 1)) (atL l ((i / 2 : Nat) : Int))) = refE l (i / 2) := rfl
      simp only [go_sem, ↓reduceIte, reduceCtorEq, Nat.reduceEqDiff, Nat.reduceAdd, Nat.reduceSub, Nat.reduceMul, Nat.reduceLeDiff, Int.reduceLT, Int.reduceLE, Int.reduceNeg, Int.reduceEq, Int.reduceAdd, Int.reduceSub, Int.reduceMul, Int.reduceToNat, Int.natCast_one, ne_eq, not_true_eq_false, not_false_eq_true, Bool.false_eq_true, Int.toNat_natCast, cz_half, hE, hap]
      simp only [go_sem, ↓reduceIte, reduceCtorEq, Nat.reduceEqDiff, Nat.reduceAdd, Nat.reduceSub, Nat.reduceMul, Nat.reduceLeDiff, Int.reduceLT, Int.reduceLE, Int.reduceNeg, Int.reduceEq, Int.reduceAdd, Int.reduceSub, Int.reduceMul, Int.reduceToNat, Int.natCast_one, ne_eq, not_true_eq_false, not_false_eq_true, Bool.false_eq_true, Int.toNat_natCast, s0, s4, a3]
      refine next (m - 1) _ _ (by omega) (fin _ hs _ _ ?_ ?_ ?_ rfl) <;> simp only [go_sem, ↓reduceIte, reduceCtorEq, Nat.reduceEqDiff, s0]
  · have hi2 : i = 2 * l.length + 1 := by omega
    have hS : refS l i = refL l := by rw [refS, if_neg (by omega), show i / 2 = l.length by omega]; rfl
    rw [hS] at hf
    simp only [go_sem, ↓reduceIte, reduceCtorEq, Nat.reduceEqDiff, Nat.reduceAdd, Nat.reduceSub, Nat.reduceMul, Nat.reduceLeDiff, Int.reduceLT, Int.reduceLE, Int.reduceNeg, Int.reduceEq, Int.reduceAdd, Int.reduceSub, Int.reduceMul, Int.reduceToNat, Int.natCast_one, ne_eq, not_true_eq_false, not_false_eq_true, Bool.false_eq_true, Int.toNat_natCast, s0, s3, s4, e1, hi]
    refine Ab.Ends.one (N := N) ?_ hN hN2 hf hx (eF_plain _) (by simp [TV.refs, AV.refs])
    simp only [resultOf, Try.f33, go_sem, ↓reduceIte, reduceCtorEq, Nat.reduceEqDiff, Nat.reduceAdd, Nat.reduceSub, Nat.reduceMul, Nat.reduceLeDiff, Int.reduceLT, Int.reduceLE, Int.reduceNeg, Int.reduceEq, Int.reduceAdd, Int.reduceSub, Int.reduceMul, Int.reduceToNat, Int.natCast_one, ne_eq, not_true_eq_false, not_false_eq_true, Bool.false_eq_true, Int.toNat_natCast, TV.ren, AV.ren, Nat.lt_irrefl, hi2]
theorem sRefineLine_ok (l : List Nat) (id off : Nat) (H : Heap) (hr : Ab.Row H id off (eF l)) (hl : l.length ≤ 2 ^ 20) :
    Ok Try.prog 9 [.v (.sl id off l.length 1)] H (optTV H.n (refF l)) (optH H (refF l)) := by
  refine Ok.of_fin (fn := Try.f9) (c := _) F.hm Try.func9 rfl Try.call9 (by kernel_rfl) (by simp) ?_
  show Ab.Fin _ _ _ _ (Ab.Ends Try.prog Try.f9 _ _ _)
  simp only [go_sem, ↓reduceIte, reduceCtorEq, Nat.reduceEqDiff, Nat.reduceAdd, Nat.reduceSub, Nat.reduceMul, Nat.reduceLeDiff, Int.reduceLT, Int.reduceLE, Int.reduceNeg, Int.reduceEq, Int.reduceAdd, Int.reduceSub, Int.reduceMul, Int.reduceToNat, Int.natCast_one, ne_eq, not_true_eq_false, not_false_eq_true, Bool.false_eq_true, Int.toNat_natCast]
  refine callG_intro (l07Line_ok l _ _ _ hr hl) ?_
  rcases (isLn l).eq_false_or_eq_true with h1 | h1
  case inr =>
    have hf : refF l = none := by simp [refF, h1]
    simp only [go_sem, ↓reduceIte, reduceCtorEq, Nat.reduceEqDiff, Nat.reduceAdd, Nat.reduceSub, Nat.reduceMul, Nat.reduceLeDiff, Int.reduceLT, Int.reduceLE, Int.reduceNeg, Int.reduceEq, Int.reduceAdd, Int.reduceSub, Int.reduceMul, Int.reduceToNat, Int.natCast_one, ne_eq, not_true_eq_false, not_false_eq_true, Bool.false_eq_true, Int.toNat_natCast, h1, hf, optH]
    exact Ab.Ends.same (by simp only [resultOf, Try.f9, go_sem, ↓reduceIte, reduceCtorEq, Nat.reduceEqDiff, Nat.reduceAdd, Nat.reduceSub, Nat.reduceMul, Nat.reduceLeDiff, Int.reduceLT, Int.reduceLE, Int.reduceNeg, Int.reduceEq, Int.reduceAdd, Int.reduceSub, Int.reduceMul, Int.reduceToNat, Int.natCast_one, ne_eq, not_true_eq_false, not_false_eq_true, Bool.false_eq_true, Int.toNat_natCast, hf, optTV, downAll, TV.down]) (fun i hi => by first | rfl | simp only [go_sem, ne_add hi, ne_self hi]) (by first | exact Nat.le_refl _ | (simp only [go_sem]; omega)) (by simp [TV.refs, TV0.refs, AV.refs, hf, optTV, downAll, TV.down])
  by_cases h2 : 31 < (l.length : Int)
  case pos =>
    have hf : refF l = none := by simp [refF]; intros; omega
    simp only [go_sem, ↓reduceIte, reduceCtorEq, Nat.reduceEqDiff, Nat.reduceAdd, Nat.reduceSub, Nat.reduceMul, Nat.reduceLeDiff, Int.reduceLT, Int.reduceLE, Int.reduceNeg, Int.reduceEq, Int.reduceAdd, Int.reduceSub, Int.reduceMul, Int.reduceToNat, Int.natCast_one, ne_eq, not_true_eq_false, not_false_eq_true, Bool.false_eq_true, Int.toNat_natCast, h1, h2, hf, optH]
    exact Ab.Ends.same (by simp only [resultOf, Try.f9, go_sem, ↓reduceIte, reduceCtorEq, Nat.reduceEqDiff, Nat.reduceAdd, Nat.reduceSub, Nat.reduceMul, Nat.reduceLeDiff, Int.reduceLT, Int.reduceLE, Int.reduceNeg, Int.reduceEq, Int.reduceAdd, Int.reduceSub, Int.reduceMul, Int.reduceToNat, Int.natCast_one, ne_eq, not_true_eq_false, not_false_eq_true, Bool.false_eq_true, Int.toNat_natCast, hf, optTV, downAll, TV.down]) (fun i hi => by first | rfl | simp only [go_sem, ne_add hi, ne_self hi]) (by first | exact Nat.le_refl _ | (simp only [go_sem]; omega)) (by simp [TV.refs, TV0.refs, AV.refs, hf, optTV, downAll, TV.down])
  simp only [go_sem, ↓reduceIte, reduceCtorEq, Nat.reduceEqDiff, Nat.reduceAdd, Nat.reduceSub, Nat.reduceMul, Nat.reduceLeDiff, Int.reduceLT, Int.reduceLE, Int.reduceNeg, Int.reduceEq, Int.reduceAdd, Int.reduceSub, Int.reduceMul, Int.reduceToNat, Int.natCast_one, ne_eq, not_true_eq_false, not_false_eq_true, Bool.false_eq_true, Int.toNat_natCast, h1, h2]
  refine callG_intro (l07Refine_ok l _ _ _ hr hl) ?_
  simp only [go_sem, ↓reduceIte, reduceCtorEq, Nat.reduceEqDiff, Nat.reduceAdd, Nat.reduceSub, Nat.reduceMul, Nat.reduceLeDiff, Int.reduceLT, Int.reduceLE, Int.reduceNeg, Int.reduceEq, Int.reduceAdd, Int.reduceSub, Int.reduceMul, Int.reduceToNat, Int.natCast_one, ne_eq, not_true_eq_false, not_false_eq_true, Bool.false_eq_true, Int.toNat_natCast]
  have hcl := refL_len l
  have q1 : Ab.Row (H.alloc (.own (eF (refL l)))) H.n 0 (eF (refL l)) := Ab.Row.of_f (Nat.lt_succ_self _) (by simp only [go_sem, ↓reduceIte])
  have hfin := l02Finite_ok (refL l) _ _ _ q1 (by rw [hcl]; omega)
  rw [hcl] at hfin
  refine callG_intro hfin ?_
  rcases (allFin (refL l)).eq_false_or_eq_true with h3 | h3
  · have hf : refF l = some (refL l) := by rw [refF, if_pos ⟨h1, by omega, h3⟩]
    simp only [go_sem, ↓reduceIte, reduceCtorEq, Nat.reduceEqDiff, Nat.reduceAdd, Nat.reduceSub, Nat.reduceMul, Nat.reduceLeDiff, Int.reduceLT, Int.reduceLE, Int.reduceNeg, Int.reduceEq, Int.reduceAdd, Int.reduceSub, Int.reduceMul, Int.reduceToNat, Int.natCast_one, ne_eq, not_true_eq_false, not_false_eq_true, Bool.false_eq_true, Int.toNat_natCast, h3, hf, optH]
    refine Ab.Ends.fresh ?_ (eF_plain _) (by simp [hf, optTV, TV.refs, TV0.refs, AV.refs])
    simp only [resultOf, Try.f9, go_sem, ↓reduceIte, reduceCtorEq, Nat.reduceEqDiff, Nat.reduceAdd, Nat.reduceSub, Nat.reduceMul, Nat.reduceLeDiff, Int.reduceLT, Int.reduceLE, Int.reduceNeg, Int.reduceEq, Int.reduceAdd, Int.reduceSub, Int.reduceMul, Int.reduceToNat, Int.natCast_one, ne_eq, not_true_eq_false, not_false_eq_true, Bool.false_eq_true, Int.toNat_natCast, hf, optTV, hcl, downAll, TV.down]
  · have hf : refF l = none := by simp [refF, h3]
    simp only [go_sem, ↓reduceIte, reduceCtorEq, Nat.reduceEqDiff, Nat.reduceAdd, Nat.reduceSub, Nat.reduceMul, Nat.reduceLeDiff, Int.reduceLT, Int.reduceLE, Int.reduceNeg, Int.reduceEq, Int.reduceAdd, Int.reduceSub, Int.reduceMul, Int.reduceToNat, Int.natCast_one, ne_eq, not_true_eq_false, not_false_eq_true, Bool.false_eq_true, Int.toNat_natCast, h3, hf, optH]
    exact Ab.Ends.same (by simp only [resultOf, Try.f9, go_sem, ↓reduceIte, reduceCtorEq, Nat.reduceEqDiff, Nat.reduceAdd, Nat.reduceSub, Nat.reduceMul, Nat.reduceLeDiff, Int.reduceLT, Int.reduceLE, Int.reduceNeg, Int.reduceEq, Int.reduceAdd, Int.reduceSub, Int.reduceMul, Int.reduceToNat, Int.natCast_one, ne_eq, not_true_eq_false, not_false_eq_true, Bool.false_eq_true, Int.toNat_natCast, hf, optTV, downAll, TV.down]) (fun i hi => by first | rfl | simp only [go_sem, ne_add hi, ne_self hi]) (by first | exact Nat.le_refl _ | (simp only [go_sem]; omega)) (by simp [TV.refs, TV0.refs, AV.refs, hf, optTV, downAll, TV.down])
theorem iRefineLine_ok (l : List Nat) (id off : Nat) (H : Heap) (hr0 : Ab.Row H id off (eF l)) (hl : l.length ≤ 2 ^ 20) :
    Ok Try.prog 11 [.v (.sl id off l.length 1)] H (optTV H.n (refF l)) (optH H (refF l)) := by
  refine Ok.of_fin (fn := Try.f11) (c := _) F.hm Try.func11 rfl Try.call11 (by kernel_rfl) (by simp) ?_
  show Ab.Fin _ _ _ _ (Ab.Ends Try.prog Try.f11 _ _ _)
  simp only [go_sem, ↓reduceIte, reduceCtorEq, Nat.reduceEqDiff, Nat.reduceAdd, Nat.reduceSub, Nat.reduceMul, Nat.reduceLeDiff, Int.reduceLT, Int.reduceLE, Int.reduceNeg, Int.reduceEq, Int.reduceAdd, Int.reduceSub, Int.reduceMul, Int.reduceToNat, Int.natCast_one, ne_eq, not_true_eq_false, not_false_eq_true, Bool.false_eq_true, Int.toNat_natCast]
  refine callG_intro (isLine_ok l _ _ _ hr0 hl) ?_
  rcases (isLn l).eq_false_or_eq_true with h1 | h1
  case inr =>
    have hf : refF l = none := by simp [refF, h1]
    simp only [go_sem, ↓reduceIte, reduceCtorEq, Nat.reduceEqDiff, Nat.reduceAdd, Nat.reduceSub, Nat.reduceMul, Nat.reduceLeDiff, Int.reduceLT, Int.reduceLE, Int.reduceNeg, Int.reduceEq, Int.reduceAdd, Int.reduceSub, Int.reduceMul, Int.reduceToNat, Int.natCast_one, ne_eq, not_true_eq_false, not_false_eq_true, Bool.false_eq_true, Int.toNat_natCast, h1, hf, optH]
    exact Ab.Ends.same (by simp only [resultOf, Try.f11, go_sem, ↓reduceIte, reduceCtorEq, Nat.reduceEqDiff, Nat.reduceAdd, Nat.reduceSub, Nat.reduceMul, Nat.reduceLeDiff, Int.reduceLT, Int.reduceLE, Int.reduceNeg, Int.reduceEq, Int.reduceAdd, Int.reduceSub, Int.reduceMul, Int.reduceToNat, Int.natCast_one, ne_eq, not_true_eq_false, not_false_eq_true, Bool.false_eq_true, Int.toNat_natCast, hf, optTV, downAll, TV.down]) (fun i hi => by first | rfl | simp only [go_sem, ne_add hi, ne_self hi]) (by first | exact Nat.le_refl _ | (simp only [go_sem]; omega)) (by simp [TV.refs, TV0.refs, AV.refs, hf, optTV, downAll, TV.down])
  by_cases h2 : 31 < (l.length : Int)
  case pos =>
    have hf : refF l = none := by simp [refF]; intros; omega
    simp only [go_sem, ↓reduceIte, reduceCtorEq, Nat.reduceEqDiff, Nat.reduceAdd, Nat.reduceSub, Nat.reduceMul, Nat.reduceLeDiff, Int.reduceLT, Int.reduceLE, Int.reduceNeg, Int.reduceEq, Int.reduceAdd, Int.reduceSub, Int.reduceMul, Int.reduceToNat, Int.natCast_one, ne_eq, not_true_eq_false, not_false_eq_true, Bool.false_eq_true, Int.toNat_natCast, h1, h2, hf, optH]
    exact Ab.Ends.same (by simp only [resultOf, Try.f11, go_sem, ↓reduceIte, reduceCtorEq, Nat.reduceEqDiff, Nat.reduceAdd, Nat.reduceSub, Nat.reduceMul, Nat.reduceLeDiff, Int.reduceLT, Int.reduceLE, Int.reduceNeg, Int.reduceEq, Int.reduceAdd, Int.reduceSub, Int.reduceMul, Int.reduceToNat, Int.natCast_one, ne_eq, not_true_eq_false, not_false_eq_true, Bool.false_eq_true, Int.toNat_natCast, hf, optTV, downAll, TV.down]) (fun i hi => by first | rfl | simp only [go_sem, ne_add hi, ne_self hi]) (by first | exact Nat.le_refl _ | (simp only [go_sem]; omega)) (by simp [TV.refs, TV0.refs, AV.refs, hf, optTV, downAll, TV.down])
  have e1 := @wrap_succ l.length (by omega)
  simp only [go_sem, ↓reduceIte, reduceCtorEq, Nat.reduceEqDiff, Nat.reduceAdd, Nat.reduceSub, Nat.reduceMul, Nat.reduceLeDiff, Int.reduceLT, Int.reduceLE, Int.reduceNeg, Int.reduceEq, Int.reduceAdd, Int.reduceSub, Int.reduceMul, Int.reduceToNat, Int.natCast_one, ne_eq, not_true_eq_false, not_false_eq_true, Bool.false_eq_true, Int.toNat_natCast, h1, h2, e1]
  rw [Fin_loop]
  refine Fin_rule (fun m s H' => ∃ j N k, m + j = l.length + 1 ∧ s 0 = .v (.sl id off l.length 1) ∧ s 4 = .v (.sl N 0 k 1) ∧ k = (refK l j).length ∧ s 17 = .v (.int .i64 ((l.length + 1 : Nat) : Int)) ∧ s 18 = .v (.int .i64 j) ∧ H.n ≤ N ∧ N < H'.n ∧ H'.f N = .own (eF (refK l j)) ∧ ∀ i, i < H.n → H'.f i = H.f i)
    (l.length + 1) ⟨0, H.n, 0, rfl, by simp only [go_sem, ↓reduceIte, reduceCtorEq, Nat.reduceEqDiff], by simp only [go_sem, ↓reduceIte, reduceCtorEq, Nat.reduceEqDiff], by rw [refK, if_pos (Nat.zero_le _)]; rfl, by simp only [go_sem, ↓reduceIte, reduceCtorEq, Nat.reduceEqDiff], by simp only [go_sem, ↓reduceIte, reduceCtorEq, Nat.reduceEqDiff, Int.natCast_zero], Nat.le_refl _, Nat.lt_succ_self _, by simp only [go_sem, ↓reduceIte]; rw [refK, if_pos (Nat.zero_le _)]; rfl, fun i hi => by simp only [go_sem, ↓reduceIte, ne_self hi]⟩ ?_
  rintro m s H' ⟨j, N, k, him, s0, s4, hk, s17, s18, hN, hN2, hf, hx⟩ next
  have hr := hr0.mono (by omega) (hx id hr0.lt)
  have a3 := @wrap_succ j (by omega)
  by_cases hi : (j : Int) < ((l.length + 1 : Nat) : Int)
  · have hK : refK l j = refP l j := by rw [refK, if_pos (by omega)]
    rw [hK] at hk hf
    rw [refP_len] at hk
    subst hk
    have hap := app1F hN2 hf (by rw [refP_len]; omega)
    rw [refP_len] at hap
    have d4 : IntKind.i64.wrap ((j : Int) - 1) = (j : Int) - 1 := wrap_i64 (by omega) (by omega)
    have hlt : ∀ i, i < H.n → i < H'.n := fun i h => Nat.lt_of_lt_of_le h (Nat.le_trans hN (Nat.le_of_lt hN2))
    have hE : fop .mul .f32 1056964608 (fop .add .f32 (atL l ((j : Int) - 1)) (atL l (j : Int))) = refE l j := rfl
    simp only [go_sem, ↓reduceIte, reduceCtorEq, Nat.reduceEqDiff, Nat.reduceAdd, Nat.reduceSub, Nat.reduceMul, Nat.reduceLeDiff, Int.reduceLT, Int.reduceLE, Int.reduceNeg, Int.reduceEq, Int.reduceAdd, Int.reduceSub, Int.reduceMul, Int.reduceToNat, Int.natCast_one, ne_eq, not_true_eq_false, not_false_eq_true, Bool.false_eq_true, Int.toNat_natCast, s0, s4, s17, s18, hi, d4]
    refine callG_intro (lineAt_ok l _ _ _ _ hr) ?_
    simp only [go_sem, ↓reduceIte, reduceCtorEq, Nat.reduceEqDiff, Nat.reduceAdd, Nat.reduceSub, Nat.reduceMul, Nat.reduceLeDiff, Int.reduceLT, Int.reduceLE, Int.reduceNeg, Int.reduceEq, Int.reduceAdd, Int.reduceSub, Int.reduceMul, Int.reduceToNat, Int.natCast_one, ne_eq, not_true_eq_false, not_false_eq_true, Bool.false_eq_true, Int.toNat_natCast, s0, s4, s17, s18, hi, d4]
    refine callG_intro (lineAt_ok l _ _ _ _ hr) ?_
    by_cases ho : (j : Int) < (l.length : Int)
    · have b5 : (0 : Int) ≤ (j : Int) := by omega
      have hr2 : Ab.Row (((H'.alloc (.own [.flt .f32 (refE l j)])).put N .gone).alloc (.own (eF (refP l j ++ [refE l j])))) id off (eF l) :=
        hr.mono (by simp only [go_sem]; omega) (by have := ne_self hr.lt; have h2 := ne_add hr.lt; have h3 : id ≠ N := by have := hr0.lt; omega
                                                   simp only [go_sem, ↓reduceIte, this, h2, h3])
      have c := hr.atF (i := j) (by omega)
      have hap2 := @app1F (((H'.alloc (.own [.flt .f32 (refE l j)])).put N .gone).alloc (.own (eF (refP l j ++ [refE l j])))) (H'.n + 1) (refP l j ++ [refE l j]) (by simp only [go_sem]; omega) (by simp only [go_sem, ↓reduceIte]) (by rw [List.length_append, refP_len, List.length_singleton]; omega)
      rw [List.length_append, refP_len, List.length_singleton] at hap2
      simp only [go_sem] at hap2
      have hid : (id = N) = False := eq_false (by have := hr0.lt; omega)
      simp only [go_sem, ↓reduceIte, reduceCtorEq, Nat.reduceEqDiff, Nat.reduceAdd, Nat.reduceSub, Nat.reduceMul, Nat.reduceLeDiff, Int.reduceLT, Int.reduceLE, Int.reduceNeg, Int.reduceEq, Int.reduceAdd, Int.reduceSub, Int.reduceMul, Int.reduceToNat, Int.natCast_one, ne_eq, not_true_eq_false, not_false_eq_true, Bool.false_eq_true, Int.toNat_natCast, cz_two, quo_two, hE, hap, s0, s18, ho, b5, c, ne_self hr.lt, fun k => ne_add hr.lt k, hid, Nat.mul_one]
      have hs : refP l j ++ [refE l j] ++ [l[j]'(by omega)] = refK l (j + 1) := by
        rw [refK, if_pos (by omega), refP, getD_in0 l (by omega)]
      simp only [go_sem, ↓reduceIte, reduceCtorEq, Nat.reduceEqDiff, Nat.reduceAdd, Nat.reduceSub, Nat.reduceMul, Nat.reduceLeDiff, Int.reduceLT, Int.reduceLE, Int.reduceNeg, Int.reduceEq, Int.reduceAdd, Int.reduceSub, Int.reduceMul, Int.reduceToNat, Int.natCast_one, ne_eq, not_true_eq_false, not_false_eq_true, Bool.false_eq_true, Int.toNat_natCast, hap2, s18, a3]
      refine next (m - 1) _ _ (by omega) ⟨j + 1, H'.n + 3, 2 * j + 2, by omega, ?_, ?_, ?_, ?_, ?_, by omega, ?_, ?_, fun i hi => ?_⟩
      · simp only [go_sem, ↓reduceIte, reduceCtorEq, Nat.reduceEqDiff, s0]
      · simp only [go_sem, ↓reduceIte, reduceCtorEq, Nat.reduceEqDiff]
      · rw [refK, if_pos (by omega), refP_len]; omega
      · simp only [go_sem, ↓reduceIte, reduceCtorEq, Nat.reduceEqDiff, s17]
      · simp only [go_sem, ↓reduceIte, reduceCtorEq, Nat.reduceEqDiff]
      · simp only [go_sem]; omega
      · simp only [go_sem, ↓reduceIte, Nat.reduceAdd, Nat.reduceEqDiff, ← hs, List.append_assoc, List.cons_append, List.nil_append]
      · have h1 : i ≠ N := by omega
        simp only [go_sem, ↓reduceIte, ne_add (hlt i hi), ne_self (hlt i hi), h1, hx i hi]
    · have hj : j = l.length := by omega
      simp only [go_sem, ↓reduceIte, reduceCtorEq, Nat.reduceEqDiff, Nat.reduceAdd, Nat.reduceSub, Nat.reduceMul, Nat.reduceLeDiff, Int.reduceLT, Int.reduceLE, Int.reduceNeg, Int.reduceEq, Int.reduceAdd, Int.reduceSub, Int.reduceMul, Int.reduceToNat, Int.natCast_one, ne_eq, not_true_eq_false, not_false_eq_true, Bool.false_eq_true, Int.toNat_natCast, cz_two, quo_two, hE, hap, s0, s18, ho, a3]
      refine next (m - 1) _ _ (by omega) ⟨j + 1, H'.n + 1, 2 * j + 1, by omega, ?_, ?_, ?_, ?_, ?_, by omega, ?_, ?_, fun i hi => ?_⟩
      · simp only [go_sem, ↓reduceIte, reduceCtorEq, Nat.reduceEqDiff, s0]
      · simp only [go_sem, ↓reduceIte, reduceCtorEq, Nat.reduceEqDiff]
      · rw [refK, if_neg (by omega), refL_len]; omega
      · simp only [go_sem, ↓reduceIte, reduceCtorEq, Nat.reduceEqDiff, s17]
      · simp only [go_sem, ↓reduceIte, reduceCtorEq, Nat.reduceEqDiff]
      · simp only [go_sem]; omega
      · simp only [go_sem, ↓reduceIte]; rw [refK, if_neg (by omega), refL, hj]
      · have h1 : i ≠ N := by omega
        simp only [go_sem, ↓reduceIte, ne_add (hlt i hi), ne_self (hlt i hi), h1, hx i hi]
  · have hK : refK l j = refL l := by rw [refK, if_neg (by omega)]
    rw [hK] at hk hf
    subst hk
    have hq : Ab.Row H' N 0 (eF (refL l)) := Ab.Row.of_f hN2 (by rw [hf]; rfl)
    have hfin := finiteList_ok (refL l) N 0 H' hq (by rw [refL_len]; omega)
    simp only [go_sem, ↓reduceIte, reduceCtorEq, Nat.reduceEqDiff, Nat.reduceAdd, Nat.reduceSub, Nat.reduceMul, Nat.reduceLeDiff, Int.reduceLT, Int.reduceLE, Int.reduceNeg, Int.reduceEq, Int.reduceAdd, Int.reduceSub, Int.reduceMul, Int.reduceToNat, Int.natCast_one, ne_eq, not_true_eq_false, not_false_eq_true, Bool.false_eq_true, Int.toNat_natCast, s0, s4, s17, s18, hi]
    refine callG_intro hfin ?_
    rcases (allFin (refL l)).eq_false_or_eq_true with h3 | h3
    · have hF : refF l = some (refL l) := by rw [refF, if_pos ⟨h1, by omega, h3⟩]
      simp only [go_sem, ↓reduceIte, reduceCtorEq, Nat.reduceEqDiff, Nat.reduceAdd, Nat.reduceSub, Nat.reduceMul, Nat.reduceLeDiff, Int.reduceLT, Int.reduceLE, Int.reduceNeg, Int.reduceEq, Int.reduceAdd, Int.reduceSub, Int.reduceMul, Int.reduceToNat, Int.natCast_one, ne_eq, not_true_eq_false, not_false_eq_true, Bool.false_eq_true, Int.toNat_natCast, h3, hF, optH, finTV]
      refine Ab.Ends.one (N := N) ?_ hN hN2 hf hx (eF_plain _) (by simp [hF, optTV, TV.refs, TV0.refs, AV.refs])
      simp only [resultOf, Try.f11, go_sem, ↓reduceIte, reduceCtorEq, Nat.reduceEqDiff, Nat.reduceAdd, Nat.reduceSub, Nat.reduceMul, Nat.reduceLeDiff, Int.reduceLT, Int.reduceLE, Int.reduceNeg, Int.reduceEq, Int.reduceAdd, Int.reduceSub, Int.reduceMul, Int.reduceToNat, Int.natCast_one, ne_eq, not_true_eq_false, not_false_eq_true, Bool.false_eq_true, Int.toNat_natCast, hF, optTV, downAll, TV.down, TV.ren, TV0.ren, AV.ren, Nat.lt_irrefl]
    · have hF : refF l = none := by simp [refF, h3]
      have hle : H.n ≤ H'.n := by omega
      simp only [go_sem, ↓reduceIte, reduceCtorEq, Nat.reduceEqDiff, Nat.reduceAdd, Nat.reduceSub, Nat.reduceMul, Nat.reduceLeDiff, Int.reduceLT, Int.reduceLE, Int.reduceNeg, Int.reduceEq, Int.reduceAdd, Int.reduceSub, Int.reduceMul, Int.reduceToNat, Int.natCast_one, ne_eq, not_true_eq_false, not_false_eq_true, Bool.false_eq_true, Int.toNat_natCast, h3, hF, optH, finTV]
      exact Ab.Ends.same (by simp only [resultOf, Try.f11, go_sem, ↓reduceIte, reduceCtorEq, Nat.reduceEqDiff, Nat.reduceAdd, Nat.reduceSub, Nat.reduceMul, Nat.reduceLeDiff, Int.reduceLT, Int.reduceLE, Int.reduceNeg, Int.reduceEq, Int.reduceAdd, Int.reduceSub, Int.reduceMul, Int.reduceToNat, Int.natCast_one, ne_eq, not_true_eq_false, not_false_eq_true, Bool.false_eq_true, Int.toNat_natCast, hF, optTV, downAll, TV.down]) (fun i hi => by simp only [go_sem, ↓reduceIte, ne_add (Nat.lt_of_lt_of_le hi hle), ne_self (Nat.lt_of_lt_of_le hi hle), hx i hi]) (by first | omega | (simp only [go_sem]; omega)) (by simp [TV.refs, TV0.refs, AV.refs, hF, optTV, downAll, TV.down])
end Go.Proofs.Ytdfihkbkldcecab.W
