/-
  Whether costs are a block: both packages' contracts. By an AI agent; nothing here is trusted.
-/
import Derived.Test.YtdmoagnkdkeeeaaCost
namespace Go.Proofs.Ytdmoagnkdkeeeaa.W
open Go Go.Ab Go.Proofs Go.Proofs.Ytdmoagnkdkeeeaa
set_option maxRecDepth 100000
set_option linter.unusedSimpArgs false
set_option linter.unusedVariables false
set_option maxHeartbeats 4000000

def okAt (l : List (Int × Nat)) (i : Nat) : Bool :=
  inR (l.getD i (0, 0)).1 0 512 && isLst (l.getD i (0, 0)).2 && (decide (i = 0) || !(decide ((l.getD i (0, 0)).1 ≤ (l.getD (i - 1) (0, 0)).1) || fcmp .geq .f32 (l.getD i (0, 0)).2 (l.getD (i - 1) (0, 0)).2))
def AreC (l : List (Int × Nat)) : Prop := 1 ≤ l.length ∧ l.length ≤ 16 ∧ ∀ i, i < l.length → okAt l i = true
instance (l : List (Int × Nat)) : Decidable (AreC l) := by unfold AreC; infer_instance
theorem areC_not {l : List (Int × Nat)} {i : Nat} (hi : i < l.length) (h : okAt l i = false) : decide (AreC l) = false := by
  simp only [decide_eq_false_iff_not]
  intro hc
  rw [hc.2.2 i hi] at h
  cases h
theorem getD_at {α : Type} (l : List α) (z : α) {i : Nat} (hi : i < l.length) : l.getD i z = l[i] := by simp [List.getD, List.getElem?_eq_getElem hi]

theorem l07Costs_ok (l : List (Int × Nat)) (id off : Nat) (H : Heap) (hr : Ab.Row H id off (enc eCost l)) : Ok Try.prog 18 [.v (.sl id off l.length 2)] H (.v (.bool (decide (AreC l)))) H := by
  refine Ok.of_fin (fn := Try.f18) (c := _) F.hm Try.func18 rfl Try.call18 (by kernel_rfl) (by simp) ?_
  show Ab.Fin _ _ _ _ (Ab.Ends Try.prog Try.f18 _ _ _)
  by_cases h1 : (l.length : Int) < 1
  · have hf : decide (AreC l) = false := by
      simp only [decide_eq_false_iff_not]; intro hc; have := hc.1; omega
    simp only [go_sem, ↓reduceIte, reduceCtorEq, Nat.reduceEqDiff, Nat.reduceAdd, Nat.reduceSub, Nat.reduceMul, Nat.reduceLeDiff, Int.reduceLT, Int.reduceLE, Int.reduceNeg, Bool.false_eq_true, Int.toNat_natCast, h1]
    exact Ab.Ends.same (by simp only [resultOf, Try.f18, go_sem, ↓reduceIte, reduceCtorEq, Nat.reduceEqDiff, Nat.reduceAdd, Nat.reduceSub, Nat.reduceMul, Nat.reduceLeDiff, Int.reduceLT, Int.reduceLE, Int.reduceNeg, Bool.false_eq_true, Int.toNat_natCast, hf]) (fun i hi => by first | rfl | simp only [go_sem, ne_add hi, ne_self hi]) (by first | exact Nat.le_refl _ | (simp only [go_sem]; omega)) (by simp [TV.refs, AV.refs])
  by_cases h2 : 16 < (l.length : Int)
  · have hf : decide (AreC l) = false := by
      simp only [decide_eq_false_iff_not]; intro hc; have := hc.2.1; omega
    simp only [go_sem, ↓reduceIte, reduceCtorEq, Nat.reduceEqDiff, Nat.reduceAdd, Nat.reduceSub, Nat.reduceMul, Nat.reduceLeDiff, Int.reduceLT, Int.reduceLE, Int.reduceNeg, Bool.false_eq_true, Int.toNat_natCast, h1, h2]
    exact Ab.Ends.same (by simp only [resultOf, Try.f18, go_sem, ↓reduceIte, reduceCtorEq, Nat.reduceEqDiff, Nat.reduceAdd, Nat.reduceSub, Nat.reduceMul, Nat.reduceLeDiff, Int.reduceLT, Int.reduceLE, Int.reduceNeg, Bool.false_eq_true, Int.toNat_natCast, hf]) (fun i hi => by first | rfl | simp only [go_sem, ne_add hi, ne_self hi]) (by first | exact Nat.le_refl _ | (simp only [go_sem]; omega)) (by simp [TV.refs, AV.refs])
  simp only [go_sem, ↓reduceIte, reduceCtorEq, Nat.reduceEqDiff, Nat.reduceAdd, Nat.reduceSub, Nat.reduceMul, Nat.reduceLeDiff, Int.reduceLT, Int.reduceLE, Int.reduceNeg, Bool.false_eq_true, Int.toNat_natCast, h1, h2]
  rw [Fin_loop]
  refine Fin_rule (fun m s H' => ∃ i, i + m = l.length ∧ s 0 = .v (.sl id off l.length 2) ∧ s 14 = .v (.int .i64 l.length) ∧ s 15 = .v (.int .i64 i) ∧ H' = H ∧ ∀ j, j < i → okAt l j = true)
    l.length ⟨0, by omega, by simp only [go_sem, reduceCtorEq, Nat.reduceEqDiff], by simp only [go_sem, reduceCtorEq, Nat.reduceEqDiff], by simp only [go_sem, reduceCtorEq, Nat.reduceEqDiff, Int.natCast_zero], rfl, fun j h => absurd h (Nat.not_lt_zero j)⟩ ?_
  rintro m s H' ⟨i, him, s0, s14, s15, rfl, hok⟩ next
  by_cases hi : i < l.length
  · have hi' : (i : Int) < (l.length : Int) := by omega
    have hi0 : (0 : Int) ≤ (i : Int) := by omega
    have c0 := hr.cell0 eCost_len hi (by decide)
    have c1 := hr.cell eCost_len hi (j := 1) (by decide)
    have e6 := @wrap_succ i (by omega)
    have hat := getD_at l (0, 0) hi
    simp only [go_sem, ↓reduceIte, reduceCtorEq, Nat.reduceEqDiff, Nat.reduceAdd, Nat.reduceSub, Nat.reduceMul, Nat.reduceLeDiff, Int.reduceLT, Int.reduceLE, Int.reduceNeg, Bool.false_eq_true, Int.toNat_natCast, s0, s14, s15, hi', hi0, c0, c1, eCost_0, eCost_1]
    refine callG_intro (l00In_ok _ _ _ _) ?_
    rcases (inR l[i].1 0 512).eq_false_or_eq_true with hA | hA
    case inr =>
      have hf := areC_not hi (by simp only [okAt, hat, hA, Bool.false_and])
      simp only [go_sem, ↓reduceIte, reduceCtorEq, Nat.reduceEqDiff, Nat.reduceAdd, Nat.reduceSub, Nat.reduceMul, Nat.reduceLeDiff, Int.reduceLT, Int.reduceLE, Int.reduceNeg, Bool.false_eq_true, Int.toNat_natCast, hA]
      exact Ab.Ends.same (by simp only [resultOf, Try.f18, go_sem, ↓reduceIte, reduceCtorEq, Nat.reduceEqDiff, Nat.reduceAdd, Nat.reduceSub, Nat.reduceMul, Nat.reduceLeDiff, Int.reduceLT, Int.reduceLE, Int.reduceNeg, Bool.false_eq_true, Int.toNat_natCast, hf]) (fun i hi => by first | rfl | simp only [go_sem, ne_add hi, ne_self hi]) (by first | exact Nat.le_refl _ | (simp only [go_sem]; omega)) (by simp [TV.refs, AV.refs])
    simp only [go_sem, ↓reduceIte, reduceCtorEq, Nat.reduceEqDiff, Nat.reduceAdd, Nat.reduceSub, Nat.reduceMul, Nat.reduceLeDiff, Int.reduceLT, Int.reduceLE, Int.reduceNeg, Bool.false_eq_true, Int.toNat_natCast, s0, s14, s15, hi', hi0, c0, c1, eCost_0, eCost_1, hA]
    refine callG_intro (l02Least_ok _ _) ?_
    rcases (isLst l[i].2).eq_false_or_eq_true with hB | hB
    case inr =>
      have hf := areC_not hi (by simp only [okAt, hat, hA, hB, Bool.and_false, Bool.false_and])
      simp only [go_sem, ↓reduceIte, reduceCtorEq, Nat.reduceEqDiff, Nat.reduceAdd, Nat.reduceSub, Nat.reduceMul, Nat.reduceLeDiff, Int.reduceLT, Int.reduceLE, Int.reduceNeg, Bool.false_eq_true, Int.toNat_natCast, hB]
      exact Ab.Ends.same (by simp only [resultOf, Try.f18, go_sem, ↓reduceIte, reduceCtorEq, Nat.reduceEqDiff, Nat.reduceAdd, Nat.reduceSub, Nat.reduceMul, Nat.reduceLeDiff, Int.reduceLT, Int.reduceLE, Int.reduceNeg, Bool.false_eq_true, Int.toNat_natCast, hf]) (fun i hi => by first | rfl | simp only [go_sem, ne_add hi, ne_self hi]) (by first | exact Nat.le_refl _ | (simp only [go_sem]; omega)) (by simp [TV.refs, AV.refs])
    by_cases hC : 0 < (i : Int)
    · have hj : i - 1 < l.length := by omega
      have hj0 : (0 : Int) ≤ ((i - 1 : Nat) : Int) := by omega
      have hj' : ((i - 1 : Nat) : Int) < (l.length : Int) := by omega
      have e7 : IntKind.i64.wrap ((i : Int) - 1) = ((i - 1 : Nat) : Int) := by rw [wrap_i64 (by omega) (by omega)]; omega
      have d0 := hr.cell0 eCost_len hj (by decide)
      have d1 := hr.cell eCost_len hj (j := 1) (by decide)
      have hat2 := getD_at l (0, 0) hj
      have hz : decide (i = 0) = false := by simp; omega
      by_cases hD : l[i].1 ≤ l[i - 1].1
      · have hf := areC_not hi (by simp only [okAt, hat, hat2, hA, hB, hD, hz, decide_true, Bool.true_or, Bool.not_true, Bool.or_false, Bool.and_false])
        simp only [go_sem, ↓reduceIte, reduceCtorEq, Nat.reduceEqDiff, Nat.reduceAdd, Nat.reduceSub, Nat.reduceMul, Nat.reduceLeDiff, Int.reduceLT, Int.reduceLE, Int.reduceNeg, Bool.false_eq_true, Int.toNat_natCast, s0, s14, s15, hi', hi0, c0, c1, eCost_0, eCost_1, hB, hC, hj0, hj', e7, d0, d1, hD]
        exact Ab.Ends.same (by simp only [resultOf, Try.f18, go_sem, ↓reduceIte, reduceCtorEq, Nat.reduceEqDiff, Nat.reduceAdd, Nat.reduceSub, Nat.reduceMul, Nat.reduceLeDiff, Int.reduceLT, Int.reduceLE, Int.reduceNeg, Bool.false_eq_true, Int.toNat_natCast, hf]) (fun i hi => by first | rfl | simp only [go_sem, ne_add hi, ne_self hi]) (by first | exact Nat.le_refl _ | (simp only [go_sem]; omega)) (by simp [TV.refs, AV.refs])
      · rcases (fcmp .geq .f32 l[i].2 l[i - 1].2).eq_false_or_eq_true with hE | hE
        · have hf := areC_not hi (by simp only [okAt, hat, hat2, hA, hB, hD, hE, hz, decide_true, Bool.or_true, Bool.not_true, Bool.or_false, Bool.and_false])
          simp only [go_sem, ↓reduceIte, reduceCtorEq, Nat.reduceEqDiff, Nat.reduceAdd, Nat.reduceSub, Nat.reduceMul, Nat.reduceLeDiff, Int.reduceLT, Int.reduceLE, Int.reduceNeg, Bool.false_eq_true, Int.toNat_natCast, s0, s14, s15, hi', hi0, c0, c1, eCost_0, eCost_1, hB, hC, hj0, hj', e7, d0, d1, hD, hE]
          exact Ab.Ends.same (by simp only [resultOf, Try.f18, go_sem, ↓reduceIte, reduceCtorEq, Nat.reduceEqDiff, Nat.reduceAdd, Nat.reduceSub, Nat.reduceMul, Nat.reduceLeDiff, Int.reduceLT, Int.reduceLE, Int.reduceNeg, Bool.false_eq_true, Int.toNat_natCast, hf]) (fun i hi => by first | rfl | simp only [go_sem, ne_add hi, ne_self hi]) (by first | exact Nat.le_refl _ | (simp only [go_sem]; omega)) (by simp [TV.refs, AV.refs])
        · have hk : okAt l i = true := by simp only [okAt, hat, hat2, hA, hB, hD, hE, hz, decide_false, Bool.or_false, Bool.not_false, Bool.or_true, Bool.and_true]
          simp only [go_sem, ↓reduceIte, reduceCtorEq, Nat.reduceEqDiff, Nat.reduceAdd, Nat.reduceSub, Nat.reduceMul, Nat.reduceLeDiff, Int.reduceLT, Int.reduceLE, Int.reduceNeg, Bool.false_eq_true, Int.toNat_natCast, s0, s14, s15, hi', hi0, c0, c1, eCost_0, eCost_1, hB, hC, hj0, hj', e7, d0, d1, hD, hE, e6]
          refine next (m - 1) _ _ (by omega) ⟨i + 1, by omega, ?_, ?_, ?_, rfl, fun j h => (Nat.lt_succ_iff_lt_or_eq.1 h).elim (hok j) fun h => h ▸ hk⟩ <;> simp only [go_sem, reduceCtorEq, Nat.reduceEqDiff, s0, s14]
    · have hz : i = 0 := by omega
      have hk : okAt l i = true := by simp only [okAt, hat, hA, hB, show decide (i = 0) = true by simp; omega, Bool.true_or, Bool.and_true]
      simp only [go_sem, ↓reduceIte, reduceCtorEq, Nat.reduceEqDiff, Nat.reduceAdd, Nat.reduceSub, Nat.reduceMul, Nat.reduceLeDiff, Int.reduceLT, Int.reduceLE, Int.reduceNeg, Bool.false_eq_true, Int.toNat_natCast, s0, s14, s15, hi', hi0, c0, c1, eCost_0, eCost_1, hB, hC, e6]
      refine next (m - 1) _ _ (by omega) ⟨i + 1, by omega, ?_, ?_, ?_, rfl, fun j h => (Nat.lt_succ_iff_lt_or_eq.1 h).elim (hok j) fun h => h ▸ hk⟩ <;> simp only [go_sem, reduceCtorEq, Nat.reduceEqDiff, s0, s14]
  · have hi' : ¬ (i : Int) < (l.length : Int) := by omega
    have hf : decide (AreC l) = true := by
      simp only [decide_eq_true_eq]; exact ⟨by omega, by omega, fun j hj => hok j (by omega)⟩
    simp only [go_sem, ↓reduceIte, reduceCtorEq, Nat.reduceEqDiff, Nat.reduceAdd, Nat.reduceSub, Nat.reduceMul, Nat.reduceLeDiff, Int.reduceLT, Int.reduceLE, Int.reduceNeg, Bool.false_eq_true, Int.toNat_natCast, s0, s14, s15, hi']
    exact Ab.Ends.same (by simp only [resultOf, Try.f18, go_sem, ↓reduceIte, reduceCtorEq, Nat.reduceEqDiff, Nat.reduceAdd, Nat.reduceSub, Nat.reduceMul, Nat.reduceLeDiff, Int.reduceLT, Int.reduceLE, Int.reduceNeg, Bool.false_eq_true, Int.toNat_natCast, hf]) (fun i hi => by first | rfl | simp only [go_sem, ne_add hi, ne_self hi]) (by first | exact Nat.le_refl _ | (simp only [go_sem]; omega)) (by simp [TV.refs, AV.refs])
theorem iAreCosts_ok (l : List (Int × Nat)) (id off : Nat) (H : Heap) (hl : l.length ≤ 2 ^ 20) (hr0 : Ab.Row H id off (enc eCost l)) : Ok Try.prog 8 [.v (.sl id off l.length 2)] H (.v (.bool (decide (AreC l)))) H := by
  refine Ok.of_fin (fn := Try.f8) (c := _) F.hm Try.func8 rfl Try.call8 (by kernel_rfl) (by simp) ?_
  show Ab.Fin _ _ _ _ (Ab.Ends Try.prog Try.f8 _ _ _)
  have ew : IntKind.i64.wrap (l.length : Int) = (l.length : Int) := wrap_i64 (by omega) (by omega)
  simp only [go_sem, ↓reduceIte, reduceCtorEq, Nat.reduceEqDiff, Nat.reduceAdd, Nat.reduceSub, Nat.reduceMul, Nat.reduceLeDiff, Int.reduceLT, Int.reduceLE, Int.reduceNeg, Bool.false_eq_true, Int.toNat_natCast, ew]
  refine callG_intro (within_ok _ _ _ _) ?_
  rcases (inR (l.length : Int) 1 16).eq_false_or_eq_true with h1 | h1
  case inr =>
    have hf : decide (AreC l) = false := by
      simp only [decide_eq_false_iff_not]; intro hc
      have h2 := hc.1
      have h3 := hc.2.1
      simp [inR] at h1
      omega
    simp only [go_sem, ↓reduceIte, reduceCtorEq, Nat.reduceEqDiff, Nat.reduceAdd, Nat.reduceSub, Nat.reduceMul, Nat.reduceLeDiff, Int.reduceLT, Int.reduceLE, Int.reduceNeg, Bool.false_eq_true, Int.toNat_natCast, h1]
    exact Ab.Ends.same (by simp only [resultOf, Try.f8, go_sem, ↓reduceIte, reduceCtorEq, Nat.reduceEqDiff, Nat.reduceAdd, Nat.reduceSub, Nat.reduceMul, Nat.reduceLeDiff, Int.reduceLT, Int.reduceLE, Int.reduceNeg, Bool.false_eq_true, Int.toNat_natCast, hf]) (fun i hi => by first | rfl | simp only [go_sem, ne_add hi, ne_self hi]) (by first | exact Nat.le_refl _ | (simp only [go_sem]; omega)) (by simp [TV.refs, AV.refs])
  have h2 : 1 ≤ l.length ∧ l.length ≤ 16 := by simp [inR] at h1; omega
  simp only [go_sem, ↓reduceIte, reduceCtorEq, Nat.reduceEqDiff, Nat.reduceAdd, Nat.reduceSub, Nat.reduceMul, Nat.reduceLeDiff, Int.reduceLT, Int.reduceLE, Int.reduceNeg, Bool.false_eq_true, Int.toNat_natCast, h1]
  rw [Fin_loop]
  refine Fin_rule (fun m s H' => ∃ i, i + m = l.length ∧ s 0 = .v (.sl id off l.length 2) ∧ s 9 = .v (.sl id off l.length 2) ∧ s 10 = .v (.int .i64 l.length) ∧ s 11 = .v (.int .i64 i) ∧ (H.n ≤ H'.n ∧ ∀ j, j < H.n → H'.f j = H.f j) ∧ ∀ j, j < i → okAt l j = true)
    l.length ⟨0, by omega, by simp only [go_sem, reduceCtorEq, Nat.reduceEqDiff], by simp only [go_sem, reduceCtorEq, Nat.reduceEqDiff], by simp only [go_sem, reduceCtorEq, Nat.reduceEqDiff], by simp only [go_sem, reduceCtorEq, Nat.reduceEqDiff, Int.natCast_zero], ⟨Nat.le_refl _, fun _ _ => rfl⟩, fun j h => absurd h (Nat.not_lt_zero j)⟩ ?_
  rintro m s H' ⟨i, him, s0, s9, s10, s11, ⟨hle, hx⟩, hok⟩ next
  have hr := hr0.mono hle (hx id hr0.lt)
  by_cases hi : i < l.length
  · have hi' : (i : Int) < (l.length : Int) := by omega
    have hi0 : (0 : Int) ≤ (i : Int) := by omega
    have c := hr.agg eCost_len hi
    have e6 := @wrap_succ i (by omega)
    have hat := getD_at l (0, 0) hi
    have hpair : eCost l[i] = [.int .i64 l[i].1, .flt .f32 l[i].2] := rfl
    have hb : H'.n ≤ H'.n + 1 := Nat.le_succ _
    have hn2 := ne_self hr.lt
    simp only [go_sem, ↓reduceIte, reduceCtorEq, Nat.reduceEqDiff, Nat.reduceAdd, Nat.reduceSub, Nat.reduceMul, Nat.reduceLeDiff, Int.reduceLT, Int.reduceLE, Int.reduceNeg, Bool.false_eq_true, Int.toNat_natCast, s0, s9, s10, s11, hi', hi0, c.1, c.2, hpair]
    refine callG_intro (within_ok _ _ _ _) ?_
    rcases (inR l[i].1 0 512).eq_false_or_eq_true with hA | hA
    case inr =>
      have hf := areC_not hi (by simp only [okAt, hat, hA, Bool.false_and])
      simp only [go_sem, ↓reduceIte, reduceCtorEq, Nat.reduceEqDiff, Nat.reduceAdd, Nat.reduceSub, Nat.reduceMul, Nat.reduceLeDiff, Int.reduceLT, Int.reduceLE, Int.reduceNeg, Bool.false_eq_true, Int.toNat_natCast, hA]
      exact Ab.Ends.same (by simp only [resultOf, Try.f8, go_sem, ↓reduceIte, reduceCtorEq, Nat.reduceEqDiff, Nat.reduceAdd, Nat.reduceSub, Nat.reduceMul, Nat.reduceLeDiff, Int.reduceLT, Int.reduceLE, Int.reduceNeg, Bool.false_eq_true, Int.toNat_natCast, hf]) (fun i hi => by simp only [go_sem, ↓reduceIte, ne_add (Nat.lt_of_lt_of_le hi hle), ne_self (Nat.lt_of_lt_of_le hi hle), hx i hi]) (by first | omega | (simp only [go_sem]; omega)) (by simp [TV.refs, AV.refs])
    simp only [go_sem, ↓reduceIte, reduceCtorEq, Nat.reduceEqDiff, Nat.reduceAdd, Nat.reduceSub, Nat.reduceMul, Nat.reduceLeDiff, Int.reduceLT, Int.reduceLE, Int.reduceNeg, Bool.false_eq_true, Int.toNat_natCast, s0, s9, s10, s11, hA]
    refine callG_intro (isLeast_ok _ _) ?_
    rcases (isLst l[i].2).eq_false_or_eq_true with hB | hB
    case inr =>
      have hf := areC_not hi (by simp only [okAt, hat, hA, hB, Bool.and_false, Bool.false_and])
      simp only [go_sem, ↓reduceIte, reduceCtorEq, Nat.reduceEqDiff, Nat.reduceAdd, Nat.reduceSub, Nat.reduceMul, Nat.reduceLeDiff, Int.reduceLT, Int.reduceLE, Int.reduceNeg, Bool.false_eq_true, Int.toNat_natCast, hB]
      exact Ab.Ends.same (by simp only [resultOf, Try.f8, go_sem, ↓reduceIte, reduceCtorEq, Nat.reduceEqDiff, Nat.reduceAdd, Nat.reduceSub, Nat.reduceMul, Nat.reduceLeDiff, Int.reduceLT, Int.reduceLE, Int.reduceNeg, Bool.false_eq_true, Int.toNat_natCast, hf]) (fun i hi => by simp only [go_sem, ↓reduceIte, ne_add (Nat.lt_of_lt_of_le hi hle), ne_self (Nat.lt_of_lt_of_le hi hle), hx i hi]) (by first | omega | (simp only [go_sem]; omega)) (by simp [TV.refs, AV.refs])
    by_cases hC : 0 < (i : Int)
    · have hj : i - 1 < l.length := by omega
      have hj0 : (0 : Int) ≤ ((i - 1 : Nat) : Int) := by omega
      have hj' : ((i - 1 : Nat) : Int) < (l.length : Int) := by omega
      have e7 : IntKind.i64.wrap ((i : Int) - 1) = ((i - 1 : Nat) : Int) := by rw [wrap_i64 (by omega) (by omega)]; omega
      have d0 := hr.cell0 eCost_len hj (by decide)
      have d1 := hr.cell eCost_len hj (j := 1) (by decide)
      have hat2 := getD_at l (0, 0) hj
      have hz : decide (i = 0) = false := by simp; omega
      by_cases hD : l[i].1 ≤ l[i - 1].1
      · have hf := areC_not hi (by simp only [okAt, hat, hat2, hA, hB, hD, hz, decide_true, Bool.true_or, Bool.not_true, Bool.or_false, Bool.and_false])
        simp only [go_sem, ↓reduceIte, reduceCtorEq, Nat.reduceEqDiff, Nat.reduceAdd, Nat.reduceSub, Nat.reduceMul, Nat.reduceLeDiff, Int.reduceLT, Int.reduceLE, Int.reduceNeg, Bool.false_eq_true, Int.toNat_natCast, s0, s9, s10, s11, hn2, eCost_0, eCost_1, hB, hC, hj0, hj', e7, d0, d1, hD]
        exact Ab.Ends.same (by simp only [resultOf, Try.f8, go_sem, ↓reduceIte, reduceCtorEq, Nat.reduceEqDiff, Nat.reduceAdd, Nat.reduceSub, Nat.reduceMul, Nat.reduceLeDiff, Int.reduceLT, Int.reduceLE, Int.reduceNeg, Bool.false_eq_true, Int.toNat_natCast, hf]) (fun i hi => by simp only [go_sem, ↓reduceIte, ne_add (Nat.lt_of_lt_of_le hi hle), ne_self (Nat.lt_of_lt_of_le hi hle), hx i hi]) (by first | omega | (simp only [go_sem]; omega)) (by simp [TV.refs, AV.refs])
      · rcases (fcmp .geq .f32 l[i].2 l[i - 1].2).eq_false_or_eq_true with hE | hE
        · have hf := areC_not hi (by simp only [okAt, hat, hat2, hA, hB, hD, hE, hz, decide_true, Bool.or_true, Bool.not_true, Bool.or_false, Bool.and_false])
          simp only [go_sem, ↓reduceIte, reduceCtorEq, Nat.reduceEqDiff, Nat.reduceAdd, Nat.reduceSub, Nat.reduceMul, Nat.reduceLeDiff, Int.reduceLT, Int.reduceLE, Int.reduceNeg, Bool.false_eq_true, Int.toNat_natCast, s0, s9, s10, s11, hn2, eCost_0, eCost_1, hB, hC, hj0, hj', e7, d0, d1, hD, hE]
          exact Ab.Ends.same (by simp only [resultOf, Try.f8, go_sem, ↓reduceIte, reduceCtorEq, Nat.reduceEqDiff, Nat.reduceAdd, Nat.reduceSub, Nat.reduceMul, Nat.reduceLeDiff, Int.reduceLT, Int.reduceLE, Int.reduceNeg, Bool.false_eq_true, Int.toNat_natCast, hf]) (fun i hi => by simp only [go_sem, ↓reduceIte, ne_add (Nat.lt_of_lt_of_le hi hle), ne_self (Nat.lt_of_lt_of_le hi hle), hx i hi]) (by first | omega | (simp only [go_sem]; omega)) (by simp [TV.refs, AV.refs])
        · have hk : okAt l i = true := by simp only [okAt, hat, hat2, hA, hB, hD, hE, hz, decide_false, Bool.or_false, Bool.not_false, Bool.or_true, Bool.and_true]
          simp only [go_sem, ↓reduceIte, reduceCtorEq, Nat.reduceEqDiff, Nat.reduceAdd, Nat.reduceSub, Nat.reduceMul, Nat.reduceLeDiff, Int.reduceLT, Int.reduceLE, Int.reduceNeg, Bool.false_eq_true, Int.toNat_natCast, s0, s9, s10, s11, hn2, eCost_0, eCost_1, hB, hC, hj0, hj', e7, d0, d1, hD, hE, e6]
          refine next (m - 1) _ _ (by omega) ⟨i + 1, by omega, ?_, ?_, ?_, ?_, ?_, fun j h => (Nat.lt_succ_iff_lt_or_eq.1 h).elim (hok j) fun h => h ▸ hk⟩ <;> try simp only [go_sem, ↓reduceIte, reduceCtorEq, Nat.reduceEqDiff, s0, s9, s10]
          refine ⟨by omega, fun j hj => by simp only [ne_self (Nat.lt_of_lt_of_le hj hle), ite_false, hx j hj]⟩
    · have hz : i = 0 := by omega
      have hk : okAt l i = true := by simp only [okAt, hat, hA, hB, show decide (i = 0) = true by simp; omega, Bool.true_or, Bool.and_true]
      simp only [go_sem, ↓reduceIte, reduceCtorEq, Nat.reduceEqDiff, Nat.reduceAdd, Nat.reduceSub, Nat.reduceMul, Nat.reduceLeDiff, Int.reduceLT, Int.reduceLE, Int.reduceNeg, Bool.false_eq_true, Int.toNat_natCast, s0, s9, s10, s11, hB, hC, e6]
      refine next (m - 1) _ _ (by omega) ⟨i + 1, by omega, ?_, ?_, ?_, ?_, ?_, fun j h => (Nat.lt_succ_iff_lt_or_eq.1 h).elim (hok j) fun h => h ▸ hk⟩ <;> try simp only [go_sem, ↓reduceIte, reduceCtorEq, Nat.reduceEqDiff, s0, s9, s10]
      refine ⟨by omega, fun j hj => by simp only [ne_self (Nat.lt_of_lt_of_le hj hle), ite_false, hx j hj]⟩
  · have hi' : ¬ (i : Int) < (l.length : Int) := by omega
    have hf : decide (AreC l) = true := by
      simp only [decide_eq_true_eq]; exact ⟨by omega, by omega, fun j hj => hok j (by omega)⟩
    simp only [go_sem, ↓reduceIte, reduceCtorEq, Nat.reduceEqDiff, Nat.reduceAdd, Nat.reduceSub, Nat.reduceMul, Nat.reduceLeDiff, Int.reduceLT, Int.reduceLE, Int.reduceNeg, Bool.false_eq_true, Int.toNat_natCast, s0, s9, s10, s11, hi']
    exact Ab.Ends.same (by simp only [resultOf, Try.f8, go_sem, ↓reduceIte, reduceCtorEq, Nat.reduceEqDiff, Nat.reduceAdd, Nat.reduceSub, Nat.reduceMul, Nat.reduceLeDiff, Int.reduceLT, Int.reduceLE, Int.reduceNeg, Bool.false_eq_true, Int.toNat_natCast, hf]) (fun i hi => by simp only [go_sem, ↓reduceIte, ne_add (Nat.lt_of_lt_of_le hi hle), ne_self (Nat.lt_of_lt_of_le hi hle), hx i hi]) (by first | omega | (simp only [go_sem]; omega)) (by simp [TV.refs, AV.refs])
theorem sAreCosts_ok (l : List (Int × Nat)) (id off : Nat) (H : Heap) (hr : Ab.Row H id off (enc eCost l)) : Ok Try.prog 6 [.v (.sl id off l.length 2)] H (.v (.bool (decide (AreC l)))) H := by
  refine Ok.of_fin (fn := Try.f6) (c := _) F.hm Try.func6 rfl Try.call6 (by kernel_rfl) (by simp) ?_
  show Ab.Fin _ _ _ _ (Ab.Ends Try.prog Try.f6 _ _ _)
  simp only [go_sem, ↓reduceIte, reduceCtorEq, Nat.reduceEqDiff, Nat.reduceAdd, Nat.reduceSub, Nat.reduceMul, Nat.reduceLeDiff, Int.reduceLT, Int.reduceLE, Int.reduceNeg, Bool.false_eq_true, Int.toNat_natCast]
  refine callG_intro (l07Costs_ok _ _ _ _ hr) ?_
  simp only [go_sem, ↓reduceIte, reduceCtorEq, Nat.reduceEqDiff, Nat.reduceAdd, Nat.reduceSub, Nat.reduceMul, Nat.reduceLeDiff, Int.reduceLT, Int.reduceLE, Int.reduceNeg, Bool.false_eq_true, Int.toNat_natCast]
  exact Ab.Ends.same (by simp only [resultOf, Try.f6, go_sem, ↓reduceIte, reduceCtorEq, Nat.reduceEqDiff, Nat.reduceAdd, Nat.reduceSub, Nat.reduceMul, Nat.reduceLeDiff, Int.reduceLT, Int.reduceLE, Int.reduceNeg, Bool.false_eq_true, Int.toNat_natCast]) (fun i hi => by first | rfl | simp only [go_sem, ne_add hi, ne_self hi]) (by first | exact Nat.le_refl _ | (simp only [go_sem]; omega)) (by simp [TV.refs, AV.refs])
end Go.Proofs.Ytdmoagnkdkeeeaa.W
