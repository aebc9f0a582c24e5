/-
  SmoothLine in both packages, as contracts. By an AI agent; nothing here is trusted.
-/
import Derived.Test.YtdfihkbkldcecabResid
namespace Go.Proofs.Ytdfihkbkldcecab.W
open Go Go.Ab Go.Proofs Go.Proofs.Ytdfihkbkldcecab
set_option maxRecDepth 100000
set_option linter.unusedSimpArgs false
set_option linter.unusedVariables false
set_option maxHeartbeats 4000000

def smStep (f : List Nat) (x : Nat) (out : List Nat) (i : Nat) : List Nat :=
  out.set i (half (fop .add .f32 (fop .add .f32 (fop .mul .f32 (fop .mul .f32 x x) (f.getD i 0)) (atL out ((i : Int) - 1))) (atL out ((i + 1 : Nat) : Int))))
def smGo (f : List Nat) (x : Nat) : Nat → Nat → List Nat → List Nat
  | 0, _, out => out
  | m + 1, i, out => smGo f x m (i + 1) (smStep f x out i)
def smooth (f : List Nat) (x n : Nat) : Nat → List Nat → List Nat
  | 0, out => out
  | t + 1, out => smooth f x n t (smGo f x n 0 out)
theorem smStep_len (f : List Nat) (x : Nat) (out : List Nat) (i : Nat) : (smStep f x out i).length = out.length := by simp [smStep]
theorem smGo_len (f : List Nat) (x : Nat) : ∀ (m i : Nat) (out : List Nat), (smGo f x m i out).length = out.length
  | 0, _, _ => rfl
  | m + 1, i, out => by rw [smGo, smGo_len f x m, smStep_len]
theorem smooth_len (f : List Nat) (x n : Nat) : ∀ (t : Nat) (out : List Nat), (smooth f x n t out).length = out.length
  | 0, _ => rfl
  | t + 1, out => by rw [smooth, smooth_len f x n t, smGo_len]
def smF (u f : List Nat) (x : Nat) (t : Int) : Option (List Nat) :=
  if areL u f x = true ∧ inR t 0 32 = true ∧ allFin (smooth f x u.length t.toNat u) = true then some (smooth f x u.length t.toNat u) else none

theorem l07Smooth_ok (u f : List Nat) (x t i0 o0 i1 o1 : Nat) (H : Heap) (hr0 : Ab.Row H i0 o0 (eF u)) (hr1 : Ab.Row H i1 o1 (eF f)) (hl : u.length ≤ 2 ^ 20) (hfl : u.length = f.length) (ht : t ≤ 32) :
    Ok Try.prog 46 [.v (.sl i0 o0 u.length 1), .v (.sl i1 o1 f.length 1), .v (.flt .f32 x), .v (.int .i64 t)] H (.v (.sl H.n 0 u.length 1)) (H.alloc (.own (eF (smooth f x u.length t u)))) := by
  refine Ok.of_fin (fn := Try.f46) (c := _) F.hm Try.func46 rfl Try.call46 (by kernel_rfl) (by simp) ?_
  show Ab.Fin _ _ _ _ (Ab.Ends Try.prog Try.f46 _ _ _)
  simp only [go_sem, ↓reduceIte, reduceCtorEq, Nat.reduceEqDiff, Nat.reduceAdd, Nat.reduceSub, Nat.reduceMul, Nat.reduceLeDiff, Int.reduceLT, Int.reduceLE, Int.reduceNeg, Int.reduceEq, Int.reduceAdd, Int.reduceSub, Int.reduceMul, Int.reduceToNat, Int.natCast_one, ne_eq, not_true_eq_false, not_false_eq_true, Bool.false_eq_true, Int.toNat_natCast, app_copy hr0 hl]
  rw [Fin_loop]
  refine Fin_rule (fun m s H' => ∃ cur, m ≤ 32 ∧ cur.length = u.length ∧ smooth f x u.length m cur = smooth f x u.length t u ∧ s 1 = .v (.sl i1 o1 f.length 1) ∧ s 2 = .v (.flt .f32 x) ∧ s 3 = .v (.int .i64 m) ∧ s 9 = .v (.sl (H.n + 1) 0 u.length 1) ∧ H'.n = H.n + 2 ∧ H'.f (H.n + 1) = .own (eF cur) ∧ ∀ i, i < H.n → H'.f i = H.f i)
    t ⟨u, ht, rfl, rfl, by simp only [go_sem, ↓reduceIte, reduceCtorEq, Nat.reduceEqDiff], by simp only [go_sem, ↓reduceIte, reduceCtorEq, Nat.reduceEqDiff], by simp only [go_sem, ↓reduceIte, reduceCtorEq, Nat.reduceEqDiff], by simp only [go_sem, ↓reduceIte, reduceCtorEq, Nat.reduceEqDiff], rfl, by simp only [go_sem, ↓reduceIte], fun i hi => by simp only [go_sem, ↓reduceIte, ne_add hi, ne_self hi]⟩ ?_
  rintro m s H' ⟨cur, hm, hcl, hT, s1, s2, s3, s9, hn, hf, hx⟩ next
  by_cases h1 : (0 : Int) < (m : Int)
  case neg =>
    obtain rfl : m = 0 := by omega
    have hT' : cur = smooth f x u.length t u := hT
    rw [hT'] at hf
    simp only [go_sem, ↓reduceIte, reduceCtorEq, Nat.reduceEqDiff, Nat.reduceAdd, Nat.reduceSub, Nat.reduceMul, Nat.reduceLeDiff, Int.reduceLT, Int.reduceLE, Int.reduceNeg, Int.reduceEq, Int.reduceAdd, Int.reduceSub, Int.reduceMul, Int.reduceToNat, Int.natCast_one, ne_eq, not_true_eq_false, not_false_eq_true, Bool.false_eq_true, Int.toNat_natCast, s1, s2, s3, s9, h1]
    refine Ab.Ends.one (N := H.n + 1) ?_ (by omega) (by omega) hf hx (eF_plain _) (by simp [TV.refs, AV.refs])
    simp only [resultOf, Try.f46, go_sem, ↓reduceIte, reduceCtorEq, Nat.reduceEqDiff, Nat.reduceAdd, Nat.reduceSub, Nat.reduceMul, Nat.reduceLeDiff, Int.reduceLT, Int.reduceLE, Int.reduceNeg, Int.reduceEq, Int.reduceAdd, Int.reduceSub, Int.reduceMul, Int.reduceToNat, Int.natCast_one, ne_eq, not_true_eq_false, not_false_eq_true, Bool.false_eq_true, Int.toNat_natCast, TV.ren, AV.ren, Nat.lt_irrefl]
  obtain ⟨m, rfl⟩ : ∃ k, m = k + 1 := ⟨m - 1, by omega⟩
  have e1 : IntKind.i64.wrap (((m + 1 : Nat) : Int) - 1) = (m : Int) := by rw [wrap_i64 (by omega) (by omega)]; omega
  simp only [go_sem, ↓reduceIte, reduceCtorEq, Nat.reduceEqDiff, Nat.reduceAdd, Nat.reduceSub, Nat.reduceMul, Nat.reduceLeDiff, Int.reduceLT, Int.reduceLE, Int.reduceNeg, Int.reduceEq, Int.reduceAdd, Int.reduceSub, Int.reduceMul, Int.reduceToNat, Int.natCast_one, ne_eq, not_true_eq_false, not_false_eq_true, Bool.false_eq_true, Int.toNat_natCast, s1, s2, s3, s9, h1]
  rw [Fin_loop]
  refine Fin_rule (fun k s H' => ∃ i cur2, k + i = u.length ∧ cur2.length = u.length ∧ smGo f x k i cur2 = smGo f x u.length 0 cur ∧ s 1 = .v (.sl i1 o1 f.length 1) ∧ s 2 = .v (.flt .f32 x) ∧ s 3 = .v (.int .i64 ((m + 1 : Nat) : Int)) ∧ s 9 = .v (.sl (H.n + 1) 0 u.length 1) ∧ s 20 = .v (.int .i64 u.length) ∧ s 21 = .v (.int .i64 i) ∧ H'.n = H.n + 2 ∧ H'.f (H.n + 1) = .own (eF cur2) ∧ ∀ i, i < H.n → H'.f i = H.f i)
    u.length ⟨0, cur, rfl, hcl, rfl, by simp only [go_sem, ↓reduceIte, reduceCtorEq, Nat.reduceEqDiff, s1], by simp only [go_sem, ↓reduceIte, reduceCtorEq, Nat.reduceEqDiff, s2], by simp only [go_sem, ↓reduceIte, reduceCtorEq, Nat.reduceEqDiff, s3], by simp only [go_sem, ↓reduceIte, reduceCtorEq, Nat.reduceEqDiff, s9], by simp only [go_sem, ↓reduceIte, reduceCtorEq, Nat.reduceEqDiff], by simp only [go_sem, ↓reduceIte, reduceCtorEq, Nat.reduceEqDiff, Int.natCast_zero], hn, hf, hx⟩ ?_
  rintro k s H2 ⟨i, cur2, hki, hcl2, hT2, s1, s2, s3, s9, s20, s21, hn2, hf2, hx2⟩ next2
  have hr2 := hr1.mono (by omega) (hx2 i1 hr1.lt)
  have hq : Ab.Row H2 (H.n + 1) 0 (eF cur2) := Ab.Row.of_f (by omega) (by rw [hf2]; rfl)
  by_cases hi : (i : Int) < (u.length : Int)
  · have b5 : (0 : Int) ≤ (i : Int) := by omega
    have b6 : (i : Int) < (f.length : Int) := by omega
    have hjf : i < f.length := by omega
    have c2 := hr2.atF hjf
    have a3 := @wrap_succ i (by omega)
    have d4 : IntKind.i64.wrap ((i : Int) - 1) = (i : Int) - 1 := wrap_i64 (by omega) (by omega)
    have w := fun H' v => @wrF H' (H.n + 1) i v cur2 (by omega)
    have hat := fun v => l07At_ok cur2 (H.n + 1) 0 v H2 hq
    rw [hcl2] at hat
    have hE : cur2.set i (fop .mul .f32 1056964608 (fop .add .f32 (fop .add .f32 (fop .mul .f32 (fop .mul .f32 x x) f[i]) (atL cur2 ((i : Int) - 1))) (atL cur2 ((i + 1 : Nat) : Int)))) = smStep f x cur2 i := by
      rw [smStep, getD_in0 f hjf]; rfl
    simp only [go_sem, ↓reduceIte, reduceCtorEq, Nat.reduceEqDiff, Nat.reduceAdd, Nat.reduceSub, Nat.reduceMul, Nat.reduceLeDiff, Int.reduceLT, Int.reduceLE, Int.reduceNeg, Int.reduceEq, Int.reduceAdd, Int.reduceSub, Int.reduceMul, Int.reduceToNat, Int.natCast_one, ne_eq, not_true_eq_false, not_false_eq_true, Bool.false_eq_true, Int.toNat_natCast, s1, s2, s3, s9, s20, s21, hi, b5, b6, c2, d4, a3, Nat.mul_one]
    refine callG_intro (hat _) ?_
    simp only [go_sem, ↓reduceIte, reduceCtorEq, Nat.reduceEqDiff, Nat.reduceAdd, Nat.reduceSub, Nat.reduceMul, Nat.reduceLeDiff, Int.reduceLT, Int.reduceLE, Int.reduceNeg, Int.reduceEq, Int.reduceAdd, Int.reduceSub, Int.reduceMul, Int.reduceToNat, Int.natCast_one, ne_eq, not_true_eq_false, not_false_eq_true, Bool.false_eq_true, Int.toNat_natCast, s1, s2, s3, s9, s20, s21, a3]
    refine callG_intro (hat _) ?_
    simp only [go_sem, ↓reduceIte, reduceCtorEq, Nat.reduceEqDiff, Nat.reduceAdd, Nat.reduceSub, Nat.reduceMul, Nat.reduceLeDiff, Int.reduceLT, Int.reduceLE, Int.reduceNeg, Int.reduceEq, Int.reduceAdd, Int.reduceSub, Int.reduceMul, Int.reduceToNat, Int.natCast_one, ne_eq, not_true_eq_false, not_false_eq_true, Bool.false_eq_true, Int.toNat_natCast, s1, s2, s3, s9, s20, s21, hi, b5, hf2, cz_half, w, hE, Nat.mul_one, a3]
    refine next2 (k - 1) _ _ (by omega) ⟨i + 1, smStep f x cur2 i, by omega, by rw [smStep_len, hcl2], ?_, ?_, ?_, ?_, ?_, ?_, ?_, ?_, ?_, fun j hj => ?_⟩
    · rw [← hT2]
      obtain ⟨k, rfl⟩ : ∃ q, k = q + 1 := ⟨k - 1, by omega⟩
      rfl
    · simp only [go_sem, ↓reduceIte, reduceCtorEq, Nat.reduceEqDiff, s1]
    · simp only [go_sem, ↓reduceIte, reduceCtorEq, Nat.reduceEqDiff, s2]
    · simp only [go_sem, ↓reduceIte, reduceCtorEq, Nat.reduceEqDiff, s3]
    · simp only [go_sem, ↓reduceIte, reduceCtorEq, Nat.reduceEqDiff, s9]
    · simp only [go_sem, ↓reduceIte, reduceCtorEq, Nat.reduceEqDiff, s20]
    · simp only [go_sem, ↓reduceIte, reduceCtorEq, Nat.reduceEqDiff]
    · simp only [go_sem]; exact hn2
    · simp only [go_sem, ↓reduceIte]
    · simp only [go_sem, ↓reduceIte, ne_add hj, hx2 j hj]
  · obtain rfl : k = 0 := by omega
    have hT3 : cur2 = smGo f x u.length 0 cur := hT2
    simp only [go_sem, ↓reduceIte, reduceCtorEq, Nat.reduceEqDiff, Nat.reduceAdd, Nat.reduceSub, Nat.reduceMul, Nat.reduceLeDiff, Int.reduceLT, Int.reduceLE, Int.reduceNeg, Int.reduceEq, Int.reduceAdd, Int.reduceSub, Int.reduceMul, Int.reduceToNat, Int.natCast_one, ne_eq, not_true_eq_false, not_false_eq_true, Bool.false_eq_true, Int.toNat_natCast, s1, s2, s3, s9, s20, s21, hi, e1]
    refine next m _ _ (by omega) ⟨cur2, by omega, hcl2, by rw [hT3, ← hT]; rfl, ?_, ?_, ?_, ?_, hn2, hf2, hx2⟩
    · simp only [go_sem, ↓reduceIte, reduceCtorEq, Nat.reduceEqDiff, s1]
    · simp only [go_sem, ↓reduceIte, reduceCtorEq, Nat.reduceEqDiff, s2]
    · simp only [go_sem, ↓reduceIte, reduceCtorEq, Nat.reduceEqDiff]
    · simp only [go_sem, ↓reduceIte, reduceCtorEq, Nat.reduceEqDiff, s9]
theorem sSmoothLine_ok (u f : List Nat) (x : Nat) (t : Int) (i0 o0 i1 o1 : Nat) (H : Heap) (hr : Ab.Row H i0 o0 (eF u)) (hr1 : Ab.Row H i1 o1 (eF f)) (hl : u.length ≤ 2 ^ 20) (hl1 : f.length ≤ 2 ^ 20) :
    Ok Try.prog 19 [.v (.sl i0 o0 u.length 1), .v (.sl i1 o1 f.length 1), .v (.flt .f32 x), .v (.int .i64 t)] H (optTV H.n (smF u f x t)) (optH H (smF u f x t)) := by
  refine Ok.of_fin (fn := Try.f19) (c := _) F.hm Try.func19 rfl Try.call19 (by kernel_rfl) (by simp) ?_
  show Ab.Fin _ _ _ _ (Ab.Ends Try.prog Try.f19 _ _ _)
  simp only [go_sem, ↓reduceIte, reduceCtorEq, Nat.reduceEqDiff, Nat.reduceAdd, Nat.reduceSub, Nat.reduceMul, Nat.reduceLeDiff, Int.reduceLT, Int.reduceLE, Int.reduceNeg, Int.reduceEq, Int.reduceAdd, Int.reduceSub, Int.reduceMul, Int.reduceToNat, Int.natCast_one, ne_eq, not_true_eq_false, not_false_eq_true, Bool.false_eq_true, Int.toNat_natCast]
  refine callG_intro (l07Can_ok u f x _ _ _ _ _ hr hr1 hl hl1) ?_
  rcases (areL u f x).eq_false_or_eq_true with h1 | h1
  case inr =>
    have hf : smF u f x t = none := by simp [smF, h1]
    simp only [go_sem, ↓reduceIte, reduceCtorEq, Nat.reduceEqDiff, Nat.reduceAdd, Nat.reduceSub, Nat.reduceMul, Nat.reduceLeDiff, Int.reduceLT, Int.reduceLE, Int.reduceNeg, Int.reduceEq, Int.reduceAdd, Int.reduceSub, Int.reduceMul, Int.reduceToNat, Int.natCast_one, ne_eq, not_true_eq_false, not_false_eq_true, Bool.false_eq_true, Int.toNat_natCast, h1, hf, optH]
    exact Ab.Ends.same (by simp only [resultOf, Try.f19, go_sem, ↓reduceIte, reduceCtorEq, Nat.reduceEqDiff, Nat.reduceAdd, Nat.reduceSub, Nat.reduceMul, Nat.reduceLeDiff, Int.reduceLT, Int.reduceLE, Int.reduceNeg, Int.reduceEq, Int.reduceAdd, Int.reduceSub, Int.reduceMul, Int.reduceToNat, Int.natCast_one, ne_eq, not_true_eq_false, not_false_eq_true, Bool.false_eq_true, Int.toNat_natCast, hf, optTV, downAll, TV.down]) (fun i hi => by first | rfl | simp only [go_sem, ne_add hi, ne_self hi]) (by first | exact Nat.le_refl _ | (simp only [go_sem]; omega)) (by simp [TV.refs, TV0.refs, AV.refs, hf, optTV, downAll, TV.down])
  have hfl : u.length = f.length := by simp [areL] at h1; exact h1.1.2
  simp only [go_sem, ↓reduceIte, reduceCtorEq, Nat.reduceEqDiff, Nat.reduceAdd, Nat.reduceSub, Nat.reduceMul, Nat.reduceLeDiff, Int.reduceLT, Int.reduceLE, Int.reduceNeg, Int.reduceEq, Int.reduceAdd, Int.reduceSub, Int.reduceMul, Int.reduceToNat, Int.natCast_one, ne_eq, not_true_eq_false, not_false_eq_true, Bool.false_eq_true, Int.toNat_natCast, h1]
  refine callG_intro (l00In_ok _ _ _ _) ?_
  rcases (inR t 0 32).eq_false_or_eq_true with h2 | h2
  case inr =>
    have hf : smF u f x t = none := by simp [smF, h2]
    simp only [go_sem, ↓reduceIte, reduceCtorEq, Nat.reduceEqDiff, Nat.reduceAdd, Nat.reduceSub, Nat.reduceMul, Nat.reduceLeDiff, Int.reduceLT, Int.reduceLE, Int.reduceNeg, Int.reduceEq, Int.reduceAdd, Int.reduceSub, Int.reduceMul, Int.reduceToNat, Int.natCast_one, ne_eq, not_true_eq_false, not_false_eq_true, Bool.false_eq_true, Int.toNat_natCast, h2, hf, optH]
    exact Ab.Ends.same (by simp only [resultOf, Try.f19, go_sem, ↓reduceIte, reduceCtorEq, Nat.reduceEqDiff, Nat.reduceAdd, Nat.reduceSub, Nat.reduceMul, Nat.reduceLeDiff, Int.reduceLT, Int.reduceLE, Int.reduceNeg, Int.reduceEq, Int.reduceAdd, Int.reduceSub, Int.reduceMul, Int.reduceToNat, Int.natCast_one, ne_eq, not_true_eq_false, not_false_eq_true, Bool.false_eq_true, Int.toNat_natCast, hf, optTV, downAll, TV.down]) (fun i hi => by first | rfl | simp only [go_sem, ne_add hi, ne_self hi]) (by first | exact Nat.le_refl _ | (simp only [go_sem]; omega)) (by simp [TV.refs, TV0.refs, AV.refs, hf, optTV, downAll, TV.down])
  obtain ⟨n, rfl⟩ : ∃ n : Nat, t = n := ⟨t.toNat, by simp [inR] at h2; omega⟩
  have hn : n ≤ 32 := by simp [inR] at h2; omega
  simp only [go_sem, ↓reduceIte, reduceCtorEq, Nat.reduceEqDiff, Nat.reduceAdd, Nat.reduceSub, Nat.reduceMul, Nat.reduceLeDiff, Int.reduceLT, Int.reduceLE, Int.reduceNeg, Int.reduceEq, Int.reduceAdd, Int.reduceSub, Int.reduceMul, Int.reduceToNat, Int.natCast_one, ne_eq, not_true_eq_false, not_false_eq_true, Bool.false_eq_true, Int.toNat_natCast, h2]
  refine callG_intro (l07Smooth_ok u f x n _ _ _ _ _ hr hr1 hl hfl hn) ?_
  simp only [go_sem, ↓reduceIte, reduceCtorEq, Nat.reduceEqDiff, Nat.reduceAdd, Nat.reduceSub, Nat.reduceMul, Nat.reduceLeDiff, Int.reduceLT, Int.reduceLE, Int.reduceNeg, Int.reduceEq, Int.reduceAdd, Int.reduceSub, Int.reduceMul, Int.reduceToNat, Int.natCast_one, ne_eq, not_true_eq_false, not_false_eq_true, Bool.false_eq_true, Int.toNat_natCast]
  have hcl := smooth_len f x u.length n u
  have q1 : Ab.Row (H.alloc (.own (eF (smooth f x u.length n u)))) H.n 0 (eF (smooth f x u.length n u)) := Ab.Row.of_f (Nat.lt_succ_self _) (by simp only [go_sem, ↓reduceIte])
  have hfin := l02Finite_ok (smooth f x u.length n u) _ _ _ q1 (by rw [hcl]; omega)
  rw [hcl] at hfin
  refine callG_intro hfin ?_
  rcases (allFin (smooth f x u.length n u)).eq_false_or_eq_true with h3 | h3
  · have hf : smF u f x n = some (smooth f x u.length n u) := by rw [smF, Int.toNat_natCast, if_pos ⟨h1, h2, h3⟩]
    simp only [go_sem, ↓reduceIte, reduceCtorEq, Nat.reduceEqDiff, Nat.reduceAdd, Nat.reduceSub, Nat.reduceMul, Nat.reduceLeDiff, Int.reduceLT, Int.reduceLE, Int.reduceNeg, Int.reduceEq, Int.reduceAdd, Int.reduceSub, Int.reduceMul, Int.reduceToNat, Int.natCast_one, ne_eq, not_true_eq_false, not_false_eq_true, Bool.false_eq_true, Int.toNat_natCast, h3, hf, optH]
    refine Ab.Ends.fresh ?_ (eF_plain _) (by simp [hf, optTV, TV.refs, TV0.refs, AV.refs])
    simp only [resultOf, Try.f19, go_sem, ↓reduceIte, reduceCtorEq, Nat.reduceEqDiff, Nat.reduceAdd, Nat.reduceSub, Nat.reduceMul, Nat.reduceLeDiff, Int.reduceLT, Int.reduceLE, Int.reduceNeg, Int.reduceEq, Int.reduceAdd, Int.reduceSub, Int.reduceMul, Int.reduceToNat, Int.natCast_one, ne_eq, not_true_eq_false, not_false_eq_true, Bool.false_eq_true, Int.toNat_natCast, hf, optTV, hcl, downAll, TV.down]
  · have hf : smF u f x n = none := by simp [smF, h3]
    simp only [go_sem, ↓reduceIte, reduceCtorEq, Nat.reduceEqDiff, Nat.reduceAdd, Nat.reduceSub, Nat.reduceMul, Nat.reduceLeDiff, Int.reduceLT, Int.reduceLE, Int.reduceNeg, Int.reduceEq, Int.reduceAdd, Int.reduceSub, Int.reduceMul, Int.reduceToNat, Int.natCast_one, ne_eq, not_true_eq_false, not_false_eq_true, Bool.false_eq_true, Int.toNat_natCast, h3, hf, optH]
    exact Ab.Ends.same (by simp only [resultOf, Try.f19, go_sem, ↓reduceIte, reduceCtorEq, Nat.reduceEqDiff, Nat.reduceAdd, Nat.reduceSub, Nat.reduceMul, Nat.reduceLeDiff, Int.reduceLT, Int.reduceLE, Int.reduceNeg, Int.reduceEq, Int.reduceAdd, Int.reduceSub, Int.reduceMul, Int.reduceToNat, Int.natCast_one, ne_eq, not_true_eq_false, not_false_eq_true, Bool.false_eq_true, Int.toNat_natCast, hf, optTV, downAll, TV.down]) (fun i hi => by first | rfl | simp only [go_sem, ne_add hi, ne_self hi]) (by first | exact Nat.le_refl _ | (simp only [go_sem]; omega)) (by simp [TV.refs, TV0.refs, AV.refs, hf, optTV, downAll, TV.down])
theorem iSmoothLine_ok (u f : List Nat) (x : Nat) (t : Int) (i0 o0 i1 o1 : Nat) (H : Heap) (hr0 : Ab.Row H i0 o0 (eF u)) (hr1 : Ab.Row H i1 o1 (eF f)) (hl : u.length ≤ 2 ^ 20) (hl1 : f.length ≤ 2 ^ 20) :
    Ok Try.prog 20 [.v (.sl i0 o0 u.length 1), .v (.sl i1 o1 f.length 1), .v (.flt .f32 x), .v (.int .i64 t)] H (optTV H.n (smF u f x t)) (optH H (smF u f x t)) := by
  refine Ok.of_fin (fn := Try.f20) (c := _) F.hm Try.func20 rfl Try.call20 (by kernel_rfl) (by simp) ?_
  show Ab.Fin _ _ _ _ (Ab.Ends Try.prog Try.f20 _ _ _)
  simp only [go_sem, ↓reduceIte, reduceCtorEq, Nat.reduceEqDiff, Nat.reduceAdd, Nat.reduceSub, Nat.reduceMul, Nat.reduceLeDiff, Int.reduceLT, Int.reduceLE, Int.reduceNeg, Int.reduceEq, Int.reduceAdd, Int.reduceSub, Int.reduceMul, Int.reduceToNat, Int.natCast_one, ne_eq, not_true_eq_false, not_false_eq_true, Bool.false_eq_true, Int.toNat_natCast]
  refine callG_intro (areLines_ok u f x _ _ _ _ _ hr0 hr1 hl hl1) ?_
  rcases (areL u f x).eq_false_or_eq_true with h1 | h1
  case inr =>
    have hf : smF u f x t = none := by simp [smF, h1]
    simp only [go_sem, ↓reduceIte, reduceCtorEq, Nat.reduceEqDiff, Nat.reduceAdd, Nat.reduceSub, Nat.reduceMul, Nat.reduceLeDiff, Int.reduceLT, Int.reduceLE, Int.reduceNeg, Int.reduceEq, Int.reduceAdd, Int.reduceSub, Int.reduceMul, Int.reduceToNat, Int.natCast_one, ne_eq, not_true_eq_false, not_false_eq_true, Bool.false_eq_true, Int.toNat_natCast, h1, hf, optH]
    exact Ab.Ends.same (by simp only [resultOf, Try.f20, go_sem, ↓reduceIte, reduceCtorEq, Nat.reduceEqDiff, Nat.reduceAdd, Nat.reduceSub, Nat.reduceMul, Nat.reduceLeDiff, Int.reduceLT, Int.reduceLE, Int.reduceNeg, Int.reduceEq, Int.reduceAdd, Int.reduceSub, Int.reduceMul, Int.reduceToNat, Int.natCast_one, ne_eq, not_true_eq_false, not_false_eq_true, Bool.false_eq_true, Int.toNat_natCast, hf, optTV, downAll, TV.down]) (fun i hi => by first | rfl | simp only [go_sem, ne_add hi, ne_self hi]) (by first | exact Nat.le_refl _ | (simp only [go_sem]; omega)) (by simp [TV.refs, TV0.refs, AV.refs, hf, optTV, downAll, TV.down])
  have hfl : u.length = f.length := by simp [areL] at h1; exact h1.1.2
  simp only [go_sem, ↓reduceIte, reduceCtorEq, Nat.reduceEqDiff, Nat.reduceAdd, Nat.reduceSub, Nat.reduceMul, Nat.reduceLeDiff, Int.reduceLT, Int.reduceLE, Int.reduceNeg, Int.reduceEq, Int.reduceAdd, Int.reduceSub, Int.reduceMul, Int.reduceToNat, Int.natCast_one, ne_eq, not_true_eq_false, not_false_eq_true, Bool.false_eq_true, Int.toNat_natCast, h1]
  refine callG_intro (within_ok _ _ _ _) ?_
  rcases (inR t 0 32).eq_false_or_eq_true with h2 | h2
  case inr =>
    have hf : smF u f x t = none := by simp [smF, h2]
    simp only [go_sem, ↓reduceIte, reduceCtorEq, Nat.reduceEqDiff, Nat.reduceAdd, Nat.reduceSub, Nat.reduceMul, Nat.reduceLeDiff, Int.reduceLT, Int.reduceLE, Int.reduceNeg, Int.reduceEq, Int.reduceAdd, Int.reduceSub, Int.reduceMul, Int.reduceToNat, Int.natCast_one, ne_eq, not_true_eq_false, not_false_eq_true, Bool.false_eq_true, Int.toNat_natCast, h2, hf, optH]
    exact Ab.Ends.same (by simp only [resultOf, Try.f20, go_sem, ↓reduceIte, reduceCtorEq, Nat.reduceEqDiff, Nat.reduceAdd, Nat.reduceSub, Nat.reduceMul, Nat.reduceLeDiff, Int.reduceLT, Int.reduceLE, Int.reduceNeg, Int.reduceEq, Int.reduceAdd, Int.reduceSub, Int.reduceMul, Int.reduceToNat, Int.natCast_one, ne_eq, not_true_eq_false, not_false_eq_true, Bool.false_eq_true, Int.toNat_natCast, hf, optTV, downAll, TV.down]) (fun i hi => by first | rfl | simp only [go_sem, ne_add hi, ne_self hi]) (by first | exact Nat.le_refl _ | (simp only [go_sem]; omega)) (by simp [TV.refs, TV0.refs, AV.refs, hf, optTV, downAll, TV.down])
  obtain ⟨n, rfl⟩ : ∃ n : Nat, t = n := ⟨t.toNat, by simp [inR] at h2; omega⟩
  have hn : n ≤ 32 := by simp [inR] at h2; omega
  simp only [go_sem, ↓reduceIte, reduceCtorEq, Nat.reduceEqDiff, Nat.reduceAdd, Nat.reduceSub, Nat.reduceMul, Nat.reduceLeDiff, Int.reduceLT, Int.reduceLE, Int.reduceNeg, Int.reduceEq, Int.reduceAdd, Int.reduceSub, Int.reduceMul, Int.reduceToNat, Int.natCast_one, ne_eq, not_true_eq_false, not_false_eq_true, Bool.false_eq_true, Int.toNat_natCast, h2]
  refine callG_intro (copyOf_ok u _ _ _ hr0 hl) ?_
  simp only [go_sem, ↓reduceIte, reduceCtorEq, Nat.reduceEqDiff, Nat.reduceAdd, Nat.reduceSub, Nat.reduceMul, Nat.reduceLeDiff, Int.reduceLT, Int.reduceLE, Int.reduceNeg, Int.reduceEq, Int.reduceAdd, Int.reduceSub, Int.reduceMul, Int.reduceToNat, Int.natCast_one, ne_eq, not_true_eq_false, not_false_eq_true, Bool.false_eq_true, Int.toNat_natCast]
  rw [Fin_loop]
  refine Fin_rule (fun m s H' => ∃ c cur, m + c = n ∧ cur.length = u.length ∧ smooth f x u.length m cur = smooth f x u.length n u ∧ s 1 = .v (.sl i1 o1 f.length 1) ∧ s 2 = .v (.flt .f32 x) ∧ s 25 = .v (.int .i64 n) ∧ s 26 = .v (.int .i64 c) ∧ s 10 = .v (.sl H.n 0 u.length 1) ∧ H'.n = H.n + 1 ∧ H'.f H.n = .own (eF cur) ∧ ∀ i, i < H.n → H'.f i = H.f i)
    n ⟨0, u, rfl, rfl, rfl, by simp only [go_sem, ↓reduceIte, reduceCtorEq, Nat.reduceEqDiff], by simp only [go_sem, ↓reduceIte, reduceCtorEq, Nat.reduceEqDiff], by simp only [go_sem, ↓reduceIte, reduceCtorEq, Nat.reduceEqDiff], by simp only [go_sem, ↓reduceIte, reduceCtorEq, Nat.reduceEqDiff, Int.natCast_zero], by simp only [go_sem, ↓reduceIte, reduceCtorEq, Nat.reduceEqDiff], rfl, by simp only [go_sem, ↓reduceIte], fun i hi => by simp only [go_sem, ↓reduceIte, ne_self hi]⟩ ?_
  rintro m s H' ⟨c, cur, hm, hcl, hT, s1, s2, s25, s26, s10, hn1, hf, hx⟩ next
  by_cases hc : (c : Int) < (n : Int)
  case neg =>
    obtain rfl : m = 0 := by omega
    have hT' : cur = smooth f x u.length n u := hT
    rw [hT'] at hf
    have hcl' := smooth_len f x u.length n u
    have hq : Ab.Row H' H.n 0 (eF (smooth f x u.length n u)) := Ab.Row.of_f (by omega) (by rw [hf]; rfl)
    have hfin := finiteList_ok (smooth f x u.length n u) H.n 0 H' hq (by rw [hcl']; omega)
    rw [hcl'] at hfin
    simp only [go_sem, ↓reduceIte, reduceCtorEq, Nat.reduceEqDiff, Nat.reduceAdd, Nat.reduceSub, Nat.reduceMul, Nat.reduceLeDiff, Int.reduceLT, Int.reduceLE, Int.reduceNeg, Int.reduceEq, Int.reduceAdd, Int.reduceSub, Int.reduceMul, Int.reduceToNat, Int.natCast_one, ne_eq, not_true_eq_false, not_false_eq_true, Bool.false_eq_true, Int.toNat_natCast, s1, s2, s25, s26, s10, hc]
    refine callG_intro hfin ?_
    rcases (allFin (smooth f x u.length n u)).eq_false_or_eq_true with h3 | h3
    · have hF : smF u f x n = some (smooth f x u.length n u) := by rw [smF, Int.toNat_natCast, if_pos ⟨h1, h2, h3⟩]
      simp only [go_sem, ↓reduceIte, reduceCtorEq, Nat.reduceEqDiff, Nat.reduceAdd, Nat.reduceSub, Nat.reduceMul, Nat.reduceLeDiff, Int.reduceLT, Int.reduceLE, Int.reduceNeg, Int.reduceEq, Int.reduceAdd, Int.reduceSub, Int.reduceMul, Int.reduceToNat, Int.natCast_one, ne_eq, not_true_eq_false, not_false_eq_true, Bool.false_eq_true, Int.toNat_natCast, h3, hF, optH, finTV]
      refine Ab.Ends.one (N := H.n) ?_ (Nat.le_refl _) (by omega) hf hx (eF_plain _) (by simp [hF, optTV, TV.refs, TV0.refs, AV.refs])
      simp only [resultOf, Try.f20, go_sem, ↓reduceIte, reduceCtorEq, Nat.reduceEqDiff, Nat.reduceAdd, Nat.reduceSub, Nat.reduceMul, Nat.reduceLeDiff, Int.reduceLT, Int.reduceLE, Int.reduceNeg, Int.reduceEq, Int.reduceAdd, Int.reduceSub, Int.reduceMul, Int.reduceToNat, Int.natCast_one, ne_eq, not_true_eq_false, not_false_eq_true, Bool.false_eq_true, Int.toNat_natCast, hF, optTV, hcl', downAll, TV.down, TV.ren, TV0.ren, AV.ren, Nat.lt_irrefl]
    · have hF : smF u f x n = none := by simp [smF, h3]
      have hle : H.n ≤ H'.n := by omega
      simp only [go_sem, ↓reduceIte, reduceCtorEq, Nat.reduceEqDiff, Nat.reduceAdd, Nat.reduceSub, Nat.reduceMul, Nat.reduceLeDiff, Int.reduceLT, Int.reduceLE, Int.reduceNeg, Int.reduceEq, Int.reduceAdd, Int.reduceSub, Int.reduceMul, Int.reduceToNat, Int.natCast_one, ne_eq, not_true_eq_false, not_false_eq_true, Bool.false_eq_true, Int.toNat_natCast, h3, hF, optH, finTV]
      exact Ab.Ends.same (by simp only [resultOf, Try.f20, go_sem, ↓reduceIte, reduceCtorEq, Nat.reduceEqDiff, Nat.reduceAdd, Nat.reduceSub, Nat.reduceMul, Nat.reduceLeDiff, Int.reduceLT, Int.reduceLE, Int.reduceNeg, Int.reduceEq, Int.reduceAdd, Int.reduceSub, Int.reduceMul, Int.reduceToNat, Int.natCast_one, ne_eq, not_true_eq_false, not_false_eq_true, Bool.false_eq_true, Int.toNat_natCast, hF, optTV, downAll, TV.down]) (fun i hi => by simp only [go_sem, ↓reduceIte, ne_add (Nat.lt_of_lt_of_le hi hle), ne_self (Nat.lt_of_lt_of_le hi hle), hx i hi]) (by first | omega | (simp only [go_sem]; omega)) (by simp [TV.refs, TV0.refs, AV.refs, hF, optTV, downAll, TV.down])
  obtain ⟨m, rfl⟩ : ∃ k, m = k + 1 := ⟨m - 1, by omega⟩
  have e1 := @wrap_succ c (by omega)
  simp only [go_sem, ↓reduceIte, reduceCtorEq, Nat.reduceEqDiff, Nat.reduceAdd, Nat.reduceSub, Nat.reduceMul, Nat.reduceLeDiff, Int.reduceLT, Int.reduceLE, Int.reduceNeg, Int.reduceEq, Int.reduceAdd, Int.reduceSub, Int.reduceMul, Int.reduceToNat, Int.natCast_one, ne_eq, not_true_eq_false, not_false_eq_true, Bool.false_eq_true, Int.toNat_natCast, s1, s2, s25, s26, s10, hc]
  rw [Fin_loop]
  refine Fin_rule (fun k s H' => ∃ i cur2, k + i = u.length ∧ cur2.length = u.length ∧ smGo f x k i cur2 = smGo f x u.length 0 cur ∧ s 1 = .v (.sl i1 o1 f.length 1) ∧ s 2 = .v (.flt .f32 x) ∧ s 25 = .v (.int .i64 n) ∧ s 26 = .v (.int .i64 c) ∧ s 10 = .v (.sl H.n 0 u.length 1) ∧ s 29 = .v (.int .i64 u.length) ∧ s 30 = .v (.int .i64 i) ∧ H'.n = H.n + 1 ∧ H'.f H.n = .own (eF cur2) ∧ ∀ i, i < H.n → H'.f i = H.f i)
    u.length ⟨0, cur, rfl, hcl, rfl, by simp only [go_sem, ↓reduceIte, reduceCtorEq, Nat.reduceEqDiff, s1], by simp only [go_sem, ↓reduceIte, reduceCtorEq, Nat.reduceEqDiff, s2], by simp only [go_sem, ↓reduceIte, reduceCtorEq, Nat.reduceEqDiff, s25], by simp only [go_sem, ↓reduceIte, reduceCtorEq, Nat.reduceEqDiff, s26], by simp only [go_sem, ↓reduceIte, reduceCtorEq, Nat.reduceEqDiff, s10], by simp only [go_sem, ↓reduceIte, reduceCtorEq, Nat.reduceEqDiff], by simp only [go_sem, ↓reduceIte, reduceCtorEq, Nat.reduceEqDiff, Int.natCast_zero], hn1, hf, hx⟩ ?_
  rintro k s H2 ⟨i, cur2, hki, hcl2, hT2, s1, s2, s25, s26, s10, s29, s30, hn2, hf2, hx2⟩ next2
  have hr2 := hr1.mono (by omega) (hx2 i1 hr1.lt)
  have hq : Ab.Row H2 H.n 0 (eF cur2) := Ab.Row.of_f (by omega) (by rw [hf2]; rfl)
  by_cases hi : (i : Int) < (u.length : Int)
  · have b5 : (0 : Int) ≤ (i : Int) := by omega
    have b6 : (i : Int) < (f.length : Int) := by omega
    have hjf : i < f.length := by omega
    have c2 := hr2.atF hjf
    have a3 := @wrap_succ i (by omega)
    have d4 : IntKind.i64.wrap ((i : Int) - 1) = (i : Int) - 1 := wrap_i64 (by omega) (by omega)
    have w := fun H' v => @wrF H' H.n i v cur2 (by omega)
    have hat := fun v => lineAt_ok cur2 H.n 0 v H2 hq
    rw [hcl2] at hat
    have hE : cur2.set i (fop .mul .f32 1056964608 (fop .add .f32 (fop .add .f32 (fop .mul .f32 (fop .mul .f32 x x) f[i]) (atL cur2 ((i : Int) - 1))) (atL cur2 ((i + 1 : Nat) : Int)))) = smStep f x cur2 i := by
      rw [smStep, getD_in0 f hjf]; rfl
    simp only [go_sem, ↓reduceIte, reduceCtorEq, Nat.reduceEqDiff, Nat.reduceAdd, Nat.reduceSub, Nat.reduceMul, Nat.reduceLeDiff, Int.reduceLT, Int.reduceLE, Int.reduceNeg, Int.reduceEq, Int.reduceAdd, Int.reduceSub, Int.reduceMul, Int.reduceToNat, Int.natCast_one, ne_eq, not_true_eq_false, not_false_eq_true, Bool.false_eq_true, Int.toNat_natCast, s1, s2, s25, s26, s10, s29, s30, hi, b5, b6, c2, d4, a3, Nat.mul_one]
    refine callG_intro (hat _) ?_
    simp only [go_sem, ↓reduceIte, reduceCtorEq, Nat.reduceEqDiff, Nat.reduceAdd, Nat.reduceSub, Nat.reduceMul, Nat.reduceLeDiff, Int.reduceLT, Int.reduceLE, Int.reduceNeg, Int.reduceEq, Int.reduceAdd, Int.reduceSub, Int.reduceMul, Int.reduceToNat, Int.natCast_one, ne_eq, not_true_eq_false, not_false_eq_true, Bool.false_eq_true, Int.toNat_natCast, s1, s2, s25, s26, s10, s29, s30, a3]
    refine callG_intro (hat _) ?_
    simp only [go_sem, ↓reduceIte, reduceCtorEq, Nat.reduceEqDiff, Nat.reduceAdd, Nat.reduceSub, Nat.reduceMul, Nat.reduceLeDiff, Int.reduceLT, Int.reduceLE, Int.reduceNeg, Int.reduceEq, Int.reduceAdd, Int.reduceSub, Int.reduceMul, Int.reduceToNat, Int.natCast_one, ne_eq, not_true_eq_false, not_false_eq_true, Bool.false_eq_true, Int.toNat_natCast, s1, s2, s25, s26, s10, s29, s30, hi, b5, hf2, cz_two, quo_two, w, hE, Nat.mul_one, a3]
    refine next2 (k - 1) _ _ (by omega) ⟨i + 1, smStep f x cur2 i, by omega, by rw [smStep_len, hcl2], ?_, ?_, ?_, ?_, ?_, ?_, ?_, ?_, ?_, ?_, fun j hj => ?_⟩
    · rw [← hT2]
      obtain ⟨k, rfl⟩ : ∃ q, k = q + 1 := ⟨k - 1, by omega⟩
      rfl
    · simp only [go_sem, ↓reduceIte, reduceCtorEq, Nat.reduceEqDiff, s1]
    · simp only [go_sem, ↓reduceIte, reduceCtorEq, Nat.reduceEqDiff, s2]
    · simp only [go_sem, ↓reduceIte, reduceCtorEq, Nat.reduceEqDiff, s25]
    · simp only [go_sem, ↓reduceIte, reduceCtorEq, Nat.reduceEqDiff, s26]
    · simp only [go_sem, ↓reduceIte, reduceCtorEq, Nat.reduceEqDiff, s10]
    · simp only [go_sem, ↓reduceIte, reduceCtorEq, Nat.reduceEqDiff, s29]
    · simp only [go_sem, ↓reduceIte, reduceCtorEq, Nat.reduceEqDiff]
    · simp only [go_sem]; exact hn2
    · simp only [go_sem, ↓reduceIte]
    · simp only [go_sem, ↓reduceIte, ne_self hj, hx2 j hj]
  · obtain rfl : k = 0 := by omega
    have hT3 : cur2 = smGo f x u.length 0 cur := hT2
    simp only [go_sem, ↓reduceIte, reduceCtorEq, Nat.reduceEqDiff, Nat.reduceAdd, Nat.reduceSub, Nat.reduceMul, Nat.reduceLeDiff, Int.reduceLT, Int.reduceLE, Int.reduceNeg, Int.reduceEq, Int.reduceAdd, Int.reduceSub, Int.reduceMul, Int.reduceToNat, Int.natCast_one, ne_eq, not_true_eq_false, not_false_eq_true, Bool.false_eq_true, Int.toNat_natCast, s1, s2, s25, s26, s10, s29, s30, hi, e1]
    refine next m _ _ (by omega) ⟨c + 1, cur2, by omega, hcl2, by rw [hT3, ← hT]; rfl, ?_, ?_, ?_, ?_, ?_, hn2, hf2, hx2⟩
    · simp only [go_sem, ↓reduceIte, reduceCtorEq, Nat.reduceEqDiff, s1]
    · simp only [go_sem, ↓reduceIte, reduceCtorEq, Nat.reduceEqDiff, s2]
    · simp only [go_sem, ↓reduceIte, reduceCtorEq, Nat.reduceEqDiff, s25]
    · simp only [go_sem, ↓reduceIte, reduceCtorEq, Nat.reduceEqDiff]
    · simp only [go_sem, ↓reduceIte, reduceCtorEq, Nat.reduceEqDiff, s10]
end Go.Proofs.Ytdfihkbkldcecab.W
