/-
  FromSurplus in both packages, as contracts. By an AI agent; nothing here is trusted.
-/
import Derived.Test.YtdfihkbkldcecaaGrid
namespace Go.Proofs.Ytdfihkbkldcecaa.W
open Go Go.Ab Go.Proofs Go.Proofs.Ytdfihkbkldcecaa
set_option maxRecDepth 100000
set_option linter.unusedSimpArgs false
set_option linter.unusedVariables false
set_option maxHeartbeats 4000000

def half (x : Nat) : Nat := fop .mul .f32 1056964608 x
theorem cz_half : cz .f32 1056964608 = 1056964608 := by decide +kernel
theorem cz_two : cz .f32 1073741824 = 1073741824 := by decide +kernel
theorem getD_in0 (l : List Nat) {i : Nat} (hi : i < l.length) : l.getD i 0 = l[i] := by simp [List.getD, List.getElem?_eq_getElem hi]

def frStep (l : List Nat) (h i : Nat) : List Nat := l.set i (fop .add .f32 (l.getD i 0) (half (fop .add .f32 (l.getD (i - h) 0) (l.getD (i + h) 0))))
def frIn (n h : Nat) : Nat → Nat → List Nat → List Nat
  | 0, _, l => l
  | f + 1, i, l => if i + 1 < n then frIn n h f (i + 2 * h) (frStep l h i) else l
def frOut (n : Nat) : Nat → Nat → List Nat → List Nat
  | 0, _, l => l
  | f + 1, h, l => if 1 ≤ h then frOut n f (h / 2) (frIn n h n h l) else l
theorem frStep_len (l : List Nat) (h i : Nat) : (frStep l h i).length = l.length := by simp [frStep]
theorem frIn_len (n h : Nat) : ∀ (f i : Nat) (l : List Nat), (frIn n h f i l).length = l.length
  | 0, _, _ => rfl
  | f + 1, i, l => by
    rw [frIn]; split
    · rw [frIn_len n h f, frStep_len]
    · rfl
theorem frOut_len (n : Nat) : ∀ (f h : Nat) (l : List Nat), (frOut n f h l).length = l.length
  | 0, _, _ => rfl
  | f + 1, h, l => by
    rw [frOut]; split
    · rw [frOut_len n f, frIn_len]
    · rfl
def fromL (l : List Nat) : List Nat := frOut l.length 64 ((l.length - 1) / 2) l
theorem fromL_len (l : List Nat) : (fromL l).length = l.length := frOut_len ..
def fromF (l : List Nat) : Option (List Nat) := if isGr l = true ∧ allFin (fromL l) = true then some (fromL l) else none
/-- The steps of a grid. -/
def isStep (n h : Nat) : Prop := (h = 1 ∨ h = 2 ∨ h = 4 ∨ h = 8 ∨ h = 16 ∨ h = 32) ∧ (n - 1) % (2 * h) = 0

theorem l07From_ok (l : List Nat) (id off : Nat) (H : Heap) (hr0 : Ab.Row H id off (eF l)) (hg : gridLen l.length = true) :
    Ok Try.prog 52 [.v (.sl id off l.length 1)] H (.v (.sl H.n 0 l.length 1)) (H.alloc (.own (eF (fromL l)))) := by
  have hn := grid_small hg
  have hl : l.length ≤ 2 ^ 20 := by omega
  refine Ok.of_fin (fn := Try.f52) (c := _) F.hm Try.func52 rfl Try.call52 (by kernel_rfl) (by simp) ?_
  show Ab.Fin _ _ _ _ (Ab.Ends Try.prog Try.f52 _ _ _)
  have e1 : IntKind.i64.wrap ((l.length : Int) - 1) = ((l.length - 1 : Nat) : Int) := by rw [wrap_i64 (by omega) (by omega)]; omega
  have e2 : IntKind.i64.wrap (((l.length - 1 : Nat) : Int).tdiv 2) = (((l.length - 1) / 2 : Nat) : Int) := by
    rw [show ((l.length - 1 : Nat) : Int).tdiv 2 = (((l.length - 1) / 2 : Nat) : Int) by rw [Int.tdiv_eq_ediv_of_nonneg (by omega)]; omega]
    exact wrap_i64 (by omega) (by omega)
  have q2 := fun t a => @tbin_quo Try.prog t .i64 a 2 (by decide)
  have hN : ∀ i, i < H.n → i ≠ H.n + 1 := fun i h => by omega
  simp only [go_sem, ↓reduceIte, reduceCtorEq, Nat.reduceEqDiff, Nat.reduceAdd, Nat.reduceSub, Nat.reduceMul, Nat.reduceLeDiff, Int.reduceLT, Int.reduceLE, Int.reduceNeg, Int.reduceEq, Int.reduceAdd, Int.reduceSub, Int.reduceMul, Int.reduceToNat, Int.natCast_one, ne_eq, not_true_eq_false, not_false_eq_true, Bool.false_eq_true, Int.toNat_natCast, app_copy hr0 hl, e1, q2, e2]
  rw [Fin_loop]
  refine Fin_rule (fun m s H' => ∃ h cur, m ≤ 63 ∧ h ≤ m ∧ (h = 0 ∨ isStep l.length h) ∧ cur.length = l.length ∧ frOut l.length (m + 1) h cur = fromL l ∧ s 3 = .v (.sl (H.n + 1) 0 l.length 1) ∧ s 4 = .v (.int .i64 l.length) ∧ s 5 = .v (.int .i64 h) ∧ H'.n = H.n + 2 ∧ H'.f (H.n + 1) = .own (eF cur) ∧ ∀ i, i < H.n → H'.f i = H.f i)
    63 ⟨(l.length - 1) / 2, l, by omega, by omega, ?_, rfl, rfl, by simp only [go_sem, ↓reduceIte, reduceCtorEq, Nat.reduceEqDiff], by simp only [go_sem, ↓reduceIte, reduceCtorEq, Nat.reduceEqDiff], by simp only [go_sem, ↓reduceIte, reduceCtorEq, Nat.reduceEqDiff], rfl, by simp only [go_sem, ↓reduceIte], fun i hi => by simp only [go_sem, ↓reduceIte, ne_add hi, ne_self hi]⟩ ?_
  · rcases hn with h | h | h | h | h | h | h <;> rw [h] <;> simp [isStep]
  rintro m s H' ⟨h, cur, hm, hhm, hst, hcl, hT, s3, s4, s5, hn2, hf, hx⟩ next
  by_cases h1 : (1 : Int) ≤ (h : Int)
  case neg =>
    obtain rfl : h = 0 := by omega
    have hT' : cur = fromL l := by rw [← hT, frOut, if_neg (by decide)]
    subst hT'
    simp only [go_sem, ↓reduceIte, reduceCtorEq, Nat.reduceEqDiff, Nat.reduceAdd, Nat.reduceSub, Nat.reduceMul, Nat.reduceLeDiff, Int.reduceLT, Int.reduceLE, Int.reduceNeg, Int.reduceEq, Int.reduceAdd, Int.reduceSub, Int.reduceMul, Int.reduceToNat, Int.natCast_one, ne_eq, not_true_eq_false, not_false_eq_true, Bool.false_eq_true, Int.toNat_natCast, s3, s4, s5, h1]
    refine Ab.Ends.one (N := H.n + 1) ?_ (by omega) (by omega) hf hx (eF_plain _) (by simp [TV.refs, AV.refs])
    simp only [resultOf, Try.f52, go_sem, ↓reduceIte, reduceCtorEq, Nat.reduceEqDiff, Nat.reduceAdd, Nat.reduceSub, Nat.reduceMul, Nat.reduceLeDiff, Int.reduceLT, Int.reduceLE, Int.reduceNeg, Int.reduceEq, Int.reduceAdd, Int.reduceSub, Int.reduceMul, Int.reduceToNat, Int.natCast_one, ne_eq, not_true_eq_false, not_false_eq_true, Bool.false_eq_true, Int.toNat_natCast, TV.ren, AV.ren, Nat.lt_irrefl]
  have hst : isStep l.length h := by rcases hst with h0 | h0; omega; exact h0
  have e5 : IntKind.i64.wrap (2 * (h : Int)) = ((2 * h : Nat) : Int) := by rw [wrap_i64 (by omega) (by omega)]; omega
  simp only [go_sem, ↓reduceIte, reduceCtorEq, Nat.reduceEqDiff, Nat.reduceAdd, Nat.reduceSub, Nat.reduceMul, Nat.reduceLeDiff, Int.reduceLT, Int.reduceLE, Int.reduceNeg, Int.reduceEq, Int.reduceAdd, Int.reduceSub, Int.reduceMul, Int.reduceToNat, Int.natCast_one, ne_eq, not_true_eq_false, not_false_eq_true, Bool.false_eq_true, Int.toNat_natCast, s3, s4, s5, h1]
  rw [Fin_loop]
  refine Fin_rule (fun m2 s H' => ∃ i f cur2, m2 + i = l.length + h ∧ i % (2 * h) = h ∧ l.length ≤ f + i ∧ cur2.length = l.length ∧ frIn l.length h f i cur2 = frIn l.length h l.length h cur ∧ s 3 = .v (.sl (H.n + 1) 0 l.length 1) ∧ s 4 = .v (.int .i64 l.length) ∧ s 5 = .v (.int .i64 h) ∧ s 6 = .v (.int .i64 i) ∧ H'.n = H.n + 2 ∧ H'.f (H.n + 1) = .own (eF cur2) ∧ ∀ i, i < H.n → H'.f i = H.f i)
    l.length ⟨h, l.length, cur, rfl, Nat.mod_eq_of_lt (by omega), by omega, hcl, rfl, by simp only [go_sem, ↓reduceIte, reduceCtorEq, Nat.reduceEqDiff, s3], by simp only [go_sem, ↓reduceIte, reduceCtorEq, Nat.reduceEqDiff, s4], by simp only [go_sem, ↓reduceIte, reduceCtorEq, Nat.reduceEqDiff, s5], by simp only [go_sem, ↓reduceIte, reduceCtorEq, Nat.reduceEqDiff], hn2, hf, hx⟩ ?_
  rintro m2 s H2 ⟨i, f, cur2, him, himod, hfi, hcl2, hT2, s3, s4, s5, s6, hn3, hf2, hx2⟩ next2
  by_cases hi : (i : Int) < ((l.length - 1 : Nat) : Int)
  · have hbd : h ≤ i ∧ i + h < l.length := by
      obtain ⟨hh, hmod⟩ := hst
      rcases hh with rfl | rfl | rfl | rfl | rfl | rfl <;> omega
    obtain ⟨hb1, hb2⟩ := hbd
    have a1 : IntKind.i64.wrap ((i : Int) - (h : Int)) = ((i - h : Nat) : Int) := by rw [wrap_i64 (by omega) (by omega)]; omega
    have a2 : IntKind.i64.wrap ((i : Int) + (h : Int)) = ((i + h : Nat) : Int) := by rw [wrap_i64 (by omega) (by omega)]; omega
    have a3 : IntKind.i64.wrap ((i : Int) + ((2 * h : Nat) : Int)) = ((i + 2 * h : Nat) : Int) := by rw [wrap_i64 (by omega) (by omega)]; omega
    have b1 : (0 : Int) ≤ ((i - h : Nat) : Int) := by omega
    have b2 : ((i - h : Nat) : Int) < (l.length : Int) := by omega
    have b3 : (0 : Int) ≤ ((i + h : Nat) : Int) := by omega
    have b4 : ((i + h : Nat) : Int) < (l.length : Int) := by omega
    have b5 : (0 : Int) ≤ (i : Int) := by omega
    have b6 : (i : Int) < (l.length : Int) := by omega
    have c1 := eF_at (l := cur2) (i := i - h) (by omega)
    have c2 := eF_at (l := cur2) (i := i + h) (by omega)
    have c3 := eF_at (l := cur2) (i := i) (by omega)
    have w := fun H' x => @wrF H' (H.n + 1) i x cur2 (by omega)
    have hs : cur2.set i (fop .add .f32 cur2[i] (fop .mul .f32 1056964608 (fop .add .f32 cur2[i - h] cur2[i + h]))) = frStep cur2 h i := by
      rw [frStep, getD_in0 cur2 (i := i) (by omega), getD_in0 cur2 (i := i - h) (by omega), getD_in0 cur2 (i := i + h) (by omega)]; rfl
    simp only [go_sem, ↓reduceIte, reduceCtorEq, Nat.reduceEqDiff, Nat.reduceAdd, Nat.reduceSub, Nat.reduceMul, Nat.reduceLeDiff, Int.reduceLT, Int.reduceLE, Int.reduceNeg, Int.reduceEq, Int.reduceAdd, Int.reduceSub, Int.reduceMul, Int.reduceToNat, Int.natCast_one, ne_eq, not_true_eq_false, not_false_eq_true, Bool.false_eq_true, Int.toNat_natCast, s3, s4, s5, s6, e1, hi, a1, a2, b1, b2, b3, b4, b5, b6, hf2, c1, c2, c3, Nat.mul_one, cz_half, w, hs]
    rw [stepTo_bar (by kernel_rfl)]
    simp only [go_sem, ↓reduceIte, reduceCtorEq, Nat.reduceEqDiff, Nat.reduceAdd, Nat.reduceSub, Nat.reduceMul, Nat.reduceLeDiff, Int.reduceLT, Int.reduceLE, Int.reduceNeg, Int.reduceEq, Int.reduceAdd, Int.reduceSub, Int.reduceMul, Int.reduceToNat, Int.natCast_one, ne_eq, not_true_eq_false, not_false_eq_true, Bool.false_eq_true, Int.toNat_natCast, s3, s4, s5, s6, e5, a3]
    have hfs : ∃ g, f = g + 1 := ⟨f - 1, by omega⟩
    obtain ⟨g, rfl⟩ := hfs
    refine next2 (m2 - 2 * h) _ _ (by omega) ⟨i + 2 * h, g, frStep cur2 h i, by omega, by rw [Nat.add_mod_right]; exact himod, by omega, by rw [frStep_len, hcl2], ?_, ?_, ?_, ?_, ?_, ?_, ?_, fun j hj => ?_⟩
    · rw [← hT2, frIn, if_pos (by omega)]
    · simp only [go_sem, ↓reduceIte, reduceCtorEq, Nat.reduceEqDiff, s3]
    · simp only [go_sem, ↓reduceIte, reduceCtorEq, Nat.reduceEqDiff, s4]
    · simp only [go_sem, ↓reduceIte, reduceCtorEq, Nat.reduceEqDiff, s5]
    · simp only [go_sem, ↓reduceIte, reduceCtorEq, Nat.reduceEqDiff]
    · simp only [go_sem]; exact hn3
    · simp only [go_sem, ↓reduceIte]
    · simp only [go_sem, ↓reduceIte, ne_add hj, hx2 j hj]
  · have hT3 : cur2 = frIn l.length h l.length h cur := by
      rw [← hT2]
      cases f with
      | zero => rfl
      | succ f => rw [frIn, if_neg (by omega)]
    have e6 : IntKind.i64.wrap ((h : Int).tdiv 2) = ((h / 2 : Nat) : Int) := by
      rw [show (h : Int).tdiv 2 = ((h / 2 : Nat) : Int) by rw [Int.tdiv_eq_ediv_of_nonneg (by omega)]; omega]
      exact wrap_i64 (by omega) (by omega)
    simp only [go_sem, ↓reduceIte, reduceCtorEq, Nat.reduceEqDiff, Nat.reduceAdd, Nat.reduceSub, Nat.reduceMul, Nat.reduceLeDiff, Int.reduceLT, Int.reduceLE, Int.reduceNeg, Int.reduceEq, Int.reduceAdd, Int.reduceSub, Int.reduceMul, Int.reduceToNat, Int.natCast_one, ne_eq, not_true_eq_false, not_false_eq_true, Bool.false_eq_true, Int.toNat_natCast, s3, s4, s5, s6, e1, hi, q2, e6]
    refine next (m - 1) _ _ (by omega) ⟨h / 2, cur2, by omega, by omega, ?_, hcl2, ?_, ?_, ?_, ?_, hn3, hf2, hx2⟩
    · obtain ⟨hh, hmod⟩ := hst
      rcases hh with rfl | rfl | rfl | rfl | rfl | rfl
      · left; rfl
      all_goals
        right
        refine ⟨by decide, ?_⟩
        omega
    · rw [show m - 1 + 1 = m by omega, hT3, ← hT, frOut, if_pos (by omega)]
    · simp only [go_sem, ↓reduceIte, reduceCtorEq, Nat.reduceEqDiff, s3]
    · simp only [go_sem, ↓reduceIte, reduceCtorEq, Nat.reduceEqDiff, s4]
    · simp only [go_sem, ↓reduceIte, reduceCtorEq, Nat.reduceEqDiff]
theorem sFromSurplus_ok (l : List Nat) (id off : Nat) (H : Heap) (hr : Ab.Row H id off (eF l)) (hl : l.length ≤ 2 ^ 20) :
    Ok Try.prog 29 [.v (.sl id off l.length 1)] H (optTV H.n (fromF l)) (optH H (fromF l)) := by
  refine Ok.of_fin (fn := Try.f29) (c := _) F.hm Try.func29 rfl Try.call29 (by kernel_rfl) (by simp) ?_
  show Ab.Fin _ _ _ _ (Ab.Ends Try.prog Try.f29 _ _ _)
  simp only [go_sem, ↓reduceIte, reduceCtorEq, Nat.reduceEqDiff, Nat.reduceAdd, Nat.reduceSub, Nat.reduceMul, Nat.reduceLeDiff, Int.reduceLT, Int.reduceLE, Int.reduceNeg, Int.reduceEq, Int.reduceAdd, Int.reduceSub, Int.reduceMul, Int.reduceToNat, Int.natCast_one, ne_eq, not_true_eq_false, not_false_eq_true, Bool.false_eq_true, Int.toNat_natCast]
  refine callG_intro (l07Grid_ok l _ _ _ hr hl) ?_
  rcases (isGr l).eq_false_or_eq_true with h1 | h1
  case inr =>
    have hf : fromF l = none := by simp [fromF, h1]
    simp only [go_sem, ↓reduceIte, reduceCtorEq, Nat.reduceEqDiff, Nat.reduceAdd, Nat.reduceSub, Nat.reduceMul, Nat.reduceLeDiff, Int.reduceLT, Int.reduceLE, Int.reduceNeg, Int.reduceEq, Int.reduceAdd, Int.reduceSub, Int.reduceMul, Int.reduceToNat, Int.natCast_one, ne_eq, not_true_eq_false, not_false_eq_true, Bool.false_eq_true, Int.toNat_natCast, h1, hf, optH]
    exact Ab.Ends.same (by simp only [resultOf, Try.f29, go_sem, ↓reduceIte, reduceCtorEq, Nat.reduceEqDiff, Nat.reduceAdd, Nat.reduceSub, Nat.reduceMul, Nat.reduceLeDiff, Int.reduceLT, Int.reduceLE, Int.reduceNeg, Int.reduceEq, Int.reduceAdd, Int.reduceSub, Int.reduceMul, Int.reduceToNat, Int.natCast_one, ne_eq, not_true_eq_false, not_false_eq_true, Bool.false_eq_true, Int.toNat_natCast, hf, optTV, downAll, TV.down]) (fun i hi => by first | rfl | simp only [go_sem, ne_add hi, ne_self hi]) (by first | exact Nat.le_refl _ | (simp only [go_sem]; omega)) (by simp [TV.refs, TV0.refs, AV.refs, hf, optTV, downAll, TV.down])
  have hs : gridLen l.length = true := by simp [isGr] at h1; exact h1.1
  simp only [go_sem, ↓reduceIte, reduceCtorEq, Nat.reduceEqDiff, Nat.reduceAdd, Nat.reduceSub, Nat.reduceMul, Nat.reduceLeDiff, Int.reduceLT, Int.reduceLE, Int.reduceNeg, Int.reduceEq, Int.reduceAdd, Int.reduceSub, Int.reduceMul, Int.reduceToNat, Int.natCast_one, ne_eq, not_true_eq_false, not_false_eq_true, Bool.false_eq_true, Int.toNat_natCast, h1]
  refine callG_intro (l07From_ok l _ _ _ hr hs) ?_
  simp only [go_sem, ↓reduceIte, reduceCtorEq, Nat.reduceEqDiff, Nat.reduceAdd, Nat.reduceSub, Nat.reduceMul, Nat.reduceLeDiff, Int.reduceLT, Int.reduceLE, Int.reduceNeg, Int.reduceEq, Int.reduceAdd, Int.reduceSub, Int.reduceMul, Int.reduceToNat, Int.natCast_one, ne_eq, not_true_eq_false, not_false_eq_true, Bool.false_eq_true, Int.toNat_natCast]
  have hcl := fromL_len l
  have q1 : Ab.Row (H.alloc (.own (eF (fromL l)))) H.n 0 (eF (fromL l)) := Ab.Row.of_f (Nat.lt_succ_self _) (by simp only [go_sem, ↓reduceIte])
  have hfin := l02Finite_ok (fromL l) _ _ _ q1 (by rw [hcl]; omega)
  rw [hcl] at hfin
  refine callG_intro hfin ?_
  rcases (allFin (fromL l)).eq_false_or_eq_true with h3 | h3
  · have hf : fromF l = some (fromL l) := by rw [fromF, if_pos ⟨h1, h3⟩]
    simp only [go_sem, ↓reduceIte, reduceCtorEq, Nat.reduceEqDiff, Nat.reduceAdd, Nat.reduceSub, Nat.reduceMul, Nat.reduceLeDiff, Int.reduceLT, Int.reduceLE, Int.reduceNeg, Int.reduceEq, Int.reduceAdd, Int.reduceSub, Int.reduceMul, Int.reduceToNat, Int.natCast_one, ne_eq, not_true_eq_false, not_false_eq_true, Bool.false_eq_true, Int.toNat_natCast, h3, hf, optH]
    refine Ab.Ends.fresh ?_ (eF_plain _) (by simp [hf, optTV, TV.refs, TV0.refs, AV.refs])
    simp only [resultOf, Try.f29, go_sem, ↓reduceIte, reduceCtorEq, Nat.reduceEqDiff, Nat.reduceAdd, Nat.reduceSub, Nat.reduceMul, Nat.reduceLeDiff, Int.reduceLT, Int.reduceLE, Int.reduceNeg, Int.reduceEq, Int.reduceAdd, Int.reduceSub, Int.reduceMul, Int.reduceToNat, Int.natCast_one, ne_eq, not_true_eq_false, not_false_eq_true, Bool.false_eq_true, Int.toNat_natCast, hf, optTV, hcl, downAll, TV.down]
  · have hf : fromF l = none := by simp [fromF, h3]
    simp only [go_sem, ↓reduceIte, reduceCtorEq, Nat.reduceEqDiff, Nat.reduceAdd, Nat.reduceSub, Nat.reduceMul, Nat.reduceLeDiff, Int.reduceLT, Int.reduceLE, Int.reduceNeg, Int.reduceEq, Int.reduceAdd, Int.reduceSub, Int.reduceMul, Int.reduceToNat, Int.natCast_one, ne_eq, not_true_eq_false, not_false_eq_true, Bool.false_eq_true, Int.toNat_natCast, h3, hf, optH]
    exact Ab.Ends.same (by simp only [resultOf, Try.f29, go_sem, ↓reduceIte, reduceCtorEq, Nat.reduceEqDiff, Nat.reduceAdd, Nat.reduceSub, Nat.reduceMul, Nat.reduceLeDiff, Int.reduceLT, Int.reduceLE, Int.reduceNeg, Int.reduceEq, Int.reduceAdd, Int.reduceSub, Int.reduceMul, Int.reduceToNat, Int.natCast_one, ne_eq, not_true_eq_false, not_false_eq_true, Bool.false_eq_true, Int.toNat_natCast, hf, optTV, downAll, TV.down]) (fun i hi => by first | rfl | simp only [go_sem, ne_add hi, ne_self hi]) (by first | exact Nat.le_refl _ | (simp only [go_sem]; omega)) (by simp [TV.refs, TV0.refs, AV.refs, hf, optTV, downAll, TV.down])
theorem iFromSurplus_ok (l : List Nat) (id off : Nat) (H : Heap) (hr0 : Ab.Row H id off (eF l)) (hl : l.length ≤ 2 ^ 20) :
    Ok Try.prog 30 [.v (.sl id off l.length 1)] H (optTV H.n (fromF l)) (optH H (fromF l)) := by
  refine Ok.of_fin (fn := Try.f30) (c := _) F.hm Try.func30 rfl Try.call30 (by kernel_rfl) (by simp) ?_
  show Ab.Fin _ _ _ _ (Ab.Ends Try.prog Try.f30 _ _ _)
  simp only [go_sem, ↓reduceIte, reduceCtorEq, Nat.reduceEqDiff, Nat.reduceAdd, Nat.reduceSub, Nat.reduceMul, Nat.reduceLeDiff, Int.reduceLT, Int.reduceLE, Int.reduceNeg, Int.reduceEq, Int.reduceAdd, Int.reduceSub, Int.reduceMul, Int.reduceToNat, Int.natCast_one, ne_eq, not_true_eq_false, not_false_eq_true, Bool.false_eq_true, Int.toNat_natCast]
  refine callG_intro (isGrid_ok l _ _ _ hr0 hl) ?_
  rcases (isGr l).eq_false_or_eq_true with h0 | h0
  case inr =>
    have hf : fromF l = none := by simp [fromF, h0]
    simp only [go_sem, ↓reduceIte, reduceCtorEq, Nat.reduceEqDiff, Nat.reduceAdd, Nat.reduceSub, Nat.reduceMul, Nat.reduceLeDiff, Int.reduceLT, Int.reduceLE, Int.reduceNeg, Int.reduceEq, Int.reduceAdd, Int.reduceSub, Int.reduceMul, Int.reduceToNat, Int.natCast_one, ne_eq, not_true_eq_false, not_false_eq_true, Bool.false_eq_true, Int.toNat_natCast, h0, hf, optH]
    exact Ab.Ends.same (by simp only [resultOf, Try.f30, go_sem, ↓reduceIte, reduceCtorEq, Nat.reduceEqDiff, Nat.reduceAdd, Nat.reduceSub, Nat.reduceMul, Nat.reduceLeDiff, Int.reduceLT, Int.reduceLE, Int.reduceNeg, Int.reduceEq, Int.reduceAdd, Int.reduceSub, Int.reduceMul, Int.reduceToNat, Int.natCast_one, ne_eq, not_true_eq_false, not_false_eq_true, Bool.false_eq_true, Int.toNat_natCast, hf, optTV, downAll, TV.down]) (fun i hi => by first | rfl | simp only [go_sem, ne_add hi, ne_self hi]) (by first | exact Nat.le_refl _ | (simp only [go_sem]; omega)) (by simp [TV.refs, TV0.refs, AV.refs, hf, optTV, downAll, TV.down])
  have hg : gridLen l.length = true := by simp [isGr] at h0; exact h0.1
  have hn := grid_small hg
  have e1 : IntKind.i64.wrap ((l.length : Int) - 1) = ((l.length - 1 : Nat) : Int) := by rw [wrap_i64 (by omega) (by omega)]; omega
  have e2 : IntKind.i64.wrap (((l.length - 1 : Nat) : Int).tdiv 2) = (((l.length - 1) / 2 : Nat) : Int) := by
    rw [show ((l.length - 1 : Nat) : Int).tdiv 2 = (((l.length - 1) / 2 : Nat) : Int) by rw [Int.tdiv_eq_ediv_of_nonneg (by omega)]; omega]
    exact wrap_i64 (by omega) (by omega)
  have q2 := fun t a => @tbin_quo Try.prog t .i64 a 2 (by decide)
  simp only [go_sem, ↓reduceIte, reduceCtorEq, Nat.reduceEqDiff, Nat.reduceAdd, Nat.reduceSub, Nat.reduceMul, Nat.reduceLeDiff, Int.reduceLT, Int.reduceLE, Int.reduceNeg, Int.reduceEq, Int.reduceAdd, Int.reduceSub, Int.reduceMul, Int.reduceToNat, Int.natCast_one, ne_eq, not_true_eq_false, not_false_eq_true, Bool.false_eq_true, Int.toNat_natCast, h0]
  refine callG_intro (copyOf_ok l _ _ _ hr0 hl) ?_
  simp only [go_sem, ↓reduceIte, reduceCtorEq, Nat.reduceEqDiff, Nat.reduceAdd, Nat.reduceSub, Nat.reduceMul, Nat.reduceLeDiff, Int.reduceLT, Int.reduceLE, Int.reduceNeg, Int.reduceEq, Int.reduceAdd, Int.reduceSub, Int.reduceMul, Int.reduceToNat, Int.natCast_one, ne_eq, not_true_eq_false, not_false_eq_true, Bool.false_eq_true, Int.toNat_natCast, e1, q2, e2]
  rw [Fin_loop]
  refine Fin_rule (fun m s H' => ∃ h cur, m ≤ 63 ∧ h ≤ m ∧ (h = 0 ∨ isStep l.length h) ∧ cur.length = l.length ∧ frOut l.length (m + 1) h cur = fromL l ∧ s 0 = .v (.sl id off l.length 1) ∧ s 4 = .v (.sl (H.n) 0 l.length 1) ∧ s 5 = .v (.int .i64 h) ∧ H'.n = H.n + 1 ∧ H'.f (H.n) = .own (eF cur) ∧ ∀ i, i < H.n → H'.f i = H.f i)
    63 ⟨(l.length - 1) / 2, l, by omega, by omega, ?_, rfl, rfl, by simp only [go_sem, ↓reduceIte, reduceCtorEq, Nat.reduceEqDiff], by simp only [go_sem, ↓reduceIte, reduceCtorEq, Nat.reduceEqDiff], by simp only [go_sem, ↓reduceIte, reduceCtorEq, Nat.reduceEqDiff], rfl, by simp only [go_sem, ↓reduceIte], fun i hi => by simp only [go_sem, ↓reduceIte, ne_self hi]⟩ ?_
  · rcases hn with h | h | h | h | h | h | h <;> rw [h] <;> simp [isStep]
  rintro m s H' ⟨h, cur, hm, hhm, hst, hcl, hT, s0, s4, s5, hn2, hf, hx⟩ next
  by_cases h1 : (1 : Int) ≤ (h : Int)
  case neg =>
    obtain rfl : h = 0 := by omega
    have hT' : cur = fromL l := by rw [← hT, frOut, if_neg (by decide)]
    subst hT'
    have hq : Ab.Row H' H.n 0 (eF (fromL l)) := Ab.Row.of_f (by omega) (by rw [hf]; rfl)
    have hfin := finiteList_ok (fromL l) H.n 0 H' hq (by rw [fromL_len]; exact hl)
    rw [fromL_len] at hfin
    simp only [go_sem, ↓reduceIte, reduceCtorEq, Nat.reduceEqDiff, Nat.reduceAdd, Nat.reduceSub, Nat.reduceMul, Nat.reduceLeDiff, Int.reduceLT, Int.reduceLE, Int.reduceNeg, Int.reduceEq, Int.reduceAdd, Int.reduceSub, Int.reduceMul, Int.reduceToNat, Int.natCast_one, ne_eq, not_true_eq_false, not_false_eq_true, Bool.false_eq_true, Int.toNat_natCast, s0, s4, s5, h1]
    refine callG_intro hfin ?_
    rcases (allFin (fromL l)).eq_false_or_eq_true with h3 | h3
    · have hF : fromF l = some (fromL l) := by rw [fromF, if_pos ⟨h0, h3⟩]
      simp only [go_sem, ↓reduceIte, reduceCtorEq, Nat.reduceEqDiff, Nat.reduceAdd, Nat.reduceSub, Nat.reduceMul, Nat.reduceLeDiff, Int.reduceLT, Int.reduceLE, Int.reduceNeg, Int.reduceEq, Int.reduceAdd, Int.reduceSub, Int.reduceMul, Int.reduceToNat, Int.natCast_one, ne_eq, not_true_eq_false, not_false_eq_true, Bool.false_eq_true, Int.toNat_natCast, h3, hF, optH, finTV]
      refine Ab.Ends.one (N := H.n) ?_ (Nat.le_refl _) (by omega) hf hx (eF_plain _) (by simp [hF, optTV, TV.refs, TV0.refs, AV.refs])
      simp only [resultOf, Try.f30, go_sem, ↓reduceIte, reduceCtorEq, Nat.reduceEqDiff, Nat.reduceAdd, Nat.reduceSub, Nat.reduceMul, Nat.reduceLeDiff, Int.reduceLT, Int.reduceLE, Int.reduceNeg, Int.reduceEq, Int.reduceAdd, Int.reduceSub, Int.reduceMul, Int.reduceToNat, Int.natCast_one, ne_eq, not_true_eq_false, not_false_eq_true, Bool.false_eq_true, Int.toNat_natCast, hF, optTV, fromL_len, downAll, TV.down, TV.ren, TV0.ren, AV.ren, Nat.lt_irrefl]
    · have hF : fromF l = none := by simp [fromF, h3]
      have hle : H.n ≤ H'.n := by omega
      simp only [go_sem, ↓reduceIte, reduceCtorEq, Nat.reduceEqDiff, Nat.reduceAdd, Nat.reduceSub, Nat.reduceMul, Nat.reduceLeDiff, Int.reduceLT, Int.reduceLE, Int.reduceNeg, Int.reduceEq, Int.reduceAdd, Int.reduceSub, Int.reduceMul, Int.reduceToNat, Int.natCast_one, ne_eq, not_true_eq_false, not_false_eq_true, Bool.false_eq_true, Int.toNat_natCast, h3, hF, optH, finTV]
      exact Ab.Ends.same (by simp only [resultOf, Try.f30, go_sem, ↓reduceIte, reduceCtorEq, Nat.reduceEqDiff, Nat.reduceAdd, Nat.reduceSub, Nat.reduceMul, Nat.reduceLeDiff, Int.reduceLT, Int.reduceLE, Int.reduceNeg, Int.reduceEq, Int.reduceAdd, Int.reduceSub, Int.reduceMul, Int.reduceToNat, Int.natCast_one, ne_eq, not_true_eq_false, not_false_eq_true, Bool.false_eq_true, Int.toNat_natCast, hF, optTV, downAll, TV.down]) (fun i hi => by simp only [go_sem, ↓reduceIte, ne_add (Nat.lt_of_lt_of_le hi hle), ne_self (Nat.lt_of_lt_of_le hi hle), hx i hi]) (by first | omega | (simp only [go_sem]; omega)) (by simp [TV.refs, TV0.refs, AV.refs, hF, optTV, downAll, TV.down])
  have hst : isStep l.length h := by rcases hst with h0 | h0; omega; exact h0
  have e5 : IntKind.i64.wrap (2 * (h : Int)) = ((2 * h : Nat) : Int) := by rw [wrap_i64 (by omega) (by omega)]; omega
  simp only [go_sem, ↓reduceIte, reduceCtorEq, Nat.reduceEqDiff, Nat.reduceAdd, Nat.reduceSub, Nat.reduceMul, Nat.reduceLeDiff, Int.reduceLT, Int.reduceLE, Int.reduceNeg, Int.reduceEq, Int.reduceAdd, Int.reduceSub, Int.reduceMul, Int.reduceToNat, Int.natCast_one, ne_eq, not_true_eq_false, not_false_eq_true, Bool.false_eq_true, Int.toNat_natCast, s0, s4, s5, h1]
  rw [Fin_loop]
  refine Fin_rule (fun m2 s H' => ∃ i f cur2, m2 + i = l.length + h ∧ i % (2 * h) = h ∧ l.length ≤ f + i ∧ cur2.length = l.length ∧ frIn l.length h f i cur2 = frIn l.length h l.length h cur ∧ s 0 = .v (.sl id off l.length 1) ∧ s 4 = .v (.sl (H.n) 0 l.length 1) ∧ s 5 = .v (.int .i64 h) ∧ s 6 = .v (.int .i64 i) ∧ H'.n = H.n + 1 ∧ H'.f (H.n) = .own (eF cur2) ∧ ∀ i, i < H.n → H'.f i = H.f i)
    l.length ⟨h, l.length, cur, rfl, Nat.mod_eq_of_lt (by omega), by omega, hcl, rfl, by simp only [go_sem, ↓reduceIte, reduceCtorEq, Nat.reduceEqDiff, s0], by simp only [go_sem, ↓reduceIte, reduceCtorEq, Nat.reduceEqDiff, s4], by simp only [go_sem, ↓reduceIte, reduceCtorEq, Nat.reduceEqDiff, s5], by simp only [go_sem, ↓reduceIte, reduceCtorEq, Nat.reduceEqDiff], hn2, hf, hx⟩ ?_
  rintro m2 s H2 ⟨i, f, cur2, him, himod, hfi, hcl2, hT2, s0, s4, s5, s6, hn3, hf2, hx2⟩ next2
  by_cases hi : (i : Int) < ((l.length - 1 : Nat) : Int)
  · have hbd : h ≤ i ∧ i + h < l.length := by
      obtain ⟨hh, hmod⟩ := hst
      rcases hh with rfl | rfl | rfl | rfl | rfl | rfl <;> omega
    obtain ⟨hb1, hb2⟩ := hbd
    have a1 : IntKind.i64.wrap ((i : Int) - (h : Int)) = ((i - h : Nat) : Int) := by rw [wrap_i64 (by omega) (by omega)]; omega
    have a2 : IntKind.i64.wrap ((i : Int) + (h : Int)) = ((i + h : Nat) : Int) := by rw [wrap_i64 (by omega) (by omega)]; omega
    have a3 : IntKind.i64.wrap ((i : Int) + ((2 * h : Nat) : Int)) = ((i + 2 * h : Nat) : Int) := by rw [wrap_i64 (by omega) (by omega)]; omega
    have b1 : (0 : Int) ≤ ((i - h : Nat) : Int) := by omega
    have b2 : ((i - h : Nat) : Int) < (l.length : Int) := by omega
    have b3 : (0 : Int) ≤ ((i + h : Nat) : Int) := by omega
    have b4 : ((i + h : Nat) : Int) < (l.length : Int) := by omega
    have b5 : (0 : Int) ≤ (i : Int) := by omega
    have b6 : (i : Int) < (l.length : Int) := by omega
    have c1 := eF_at (l := cur2) (i := i - h) (by omega)
    have c2 := eF_at (l := cur2) (i := i + h) (by omega)
    have c3 := eF_at (l := cur2) (i := i) (by omega)
    have w := fun H' x => @wrF H' (H.n) i x cur2 (by omega)
    have hs : cur2.set i (fop .add .f32 cur2[i] (fop .mul .f32 1056964608 (fop .add .f32 cur2[i - h] cur2[i + h]))) = frStep cur2 h i := by
      rw [frStep, getD_in0 cur2 (i := i) (by omega), getD_in0 cur2 (i := i - h) (by omega), getD_in0 cur2 (i := i + h) (by omega)]; rfl
    simp only [go_sem, ↓reduceIte, reduceCtorEq, Nat.reduceEqDiff, Nat.reduceAdd, Nat.reduceSub, Nat.reduceMul, Nat.reduceLeDiff, Int.reduceLT, Int.reduceLE, Int.reduceNeg, Int.reduceEq, Int.reduceAdd, Int.reduceSub, Int.reduceMul, Int.reduceToNat, Int.natCast_one, ne_eq, not_true_eq_false, not_false_eq_true, Bool.false_eq_true, Int.toNat_natCast, s0, s4, s5, s6, e1, hi, a1, a2, b1, b2, b3, b4, b5, b6, hf2, c1, c2, c3, Nat.mul_one, cz_two, quo_two, w, hs]
    rw [stepTo_bar (by kernel_rfl)]
    simp only [go_sem, ↓reduceIte, reduceCtorEq, Nat.reduceEqDiff, Nat.reduceAdd, Nat.reduceSub, Nat.reduceMul, Nat.reduceLeDiff, Int.reduceLT, Int.reduceLE, Int.reduceNeg, Int.reduceEq, Int.reduceAdd, Int.reduceSub, Int.reduceMul, Int.reduceToNat, Int.natCast_one, ne_eq, not_true_eq_false, not_false_eq_true, Bool.false_eq_true, Int.toNat_natCast, s0, s4, s5, s6, e5, a3]
    have hfs : ∃ g, f = g + 1 := ⟨f - 1, by omega⟩
    obtain ⟨g, rfl⟩ := hfs
    refine next2 (m2 - 2 * h) _ _ (by omega) ⟨i + 2 * h, g, frStep cur2 h i, by omega, by rw [Nat.add_mod_right]; exact himod, by omega, by rw [frStep_len, hcl2], ?_, ?_, ?_, ?_, ?_, ?_, ?_, fun j hj => ?_⟩
    · rw [← hT2, frIn, if_pos (by omega)]
    · simp only [go_sem, ↓reduceIte, reduceCtorEq, Nat.reduceEqDiff, s0]
    · simp only [go_sem, ↓reduceIte, reduceCtorEq, Nat.reduceEqDiff, s4]
    · simp only [go_sem, ↓reduceIte, reduceCtorEq, Nat.reduceEqDiff, s5]
    · simp only [go_sem, ↓reduceIte, reduceCtorEq, Nat.reduceEqDiff]
    · simp only [go_sem]; exact hn3
    · simp only [go_sem, ↓reduceIte]
    · simp only [go_sem, ↓reduceIte, ne_self hj, hx2 j hj]
  · have hT3 : cur2 = frIn l.length h l.length h cur := by
      rw [← hT2]
      cases f with
      | zero => rfl
      | succ f => rw [frIn, if_neg (by omega)]
    have e6 : IntKind.i64.wrap ((h : Int).tdiv 2) = ((h / 2 : Nat) : Int) := by
      rw [show (h : Int).tdiv 2 = ((h / 2 : Nat) : Int) by rw [Int.tdiv_eq_ediv_of_nonneg (by omega)]; omega]
      exact wrap_i64 (by omega) (by omega)
    simp only [go_sem, ↓reduceIte, reduceCtorEq, Nat.reduceEqDiff, Nat.reduceAdd, Nat.reduceSub, Nat.reduceMul, Nat.reduceLeDiff, Int.reduceLT, Int.reduceLE, Int.reduceNeg, Int.reduceEq, Int.reduceAdd, Int.reduceSub, Int.reduceMul, Int.reduceToNat, Int.natCast_one, ne_eq, not_true_eq_false, not_false_eq_true, Bool.false_eq_true, Int.toNat_natCast, s0, s4, s5, s6, e1, hi, q2, e6]
    refine next (m - 1) _ _ (by omega) ⟨h / 2, cur2, by omega, by omega, ?_, hcl2, ?_, ?_, ?_, ?_, hn3, hf2, hx2⟩
    · obtain ⟨hh, hmod⟩ := hst
      rcases hh with rfl | rfl | rfl | rfl | rfl | rfl
      · left; rfl
      all_goals
        right
        refine ⟨by decide, ?_⟩
        omega
    · rw [show m - 1 + 1 = m by omega, hT3, ← hT, frOut, if_pos (by omega)]
    · simp only [go_sem, ↓reduceIte, reduceCtorEq, Nat.reduceEqDiff, s0]
    · simp only [go_sem, ↓reduceIte, reduceCtorEq, Nat.reduceEqDiff, s4]
    · simp only [go_sem, ↓reduceIte, reduceCtorEq, Nat.reduceEqDiff]
end Go.Proofs.Ytdfihkbkldcecaa.W
