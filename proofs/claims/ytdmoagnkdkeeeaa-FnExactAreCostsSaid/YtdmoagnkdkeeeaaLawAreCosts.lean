/- The law FnExactAreCosts answers true for all arguments, and leaves what was there. No conditions. -/
import Derived.Test.YtdmoagnkdkeeeaaAreCosts
import Derived.Test.YtdmoagnkdkeeeaaAbM
import Derived.Test.YtdmoagnkdkeeeaaRows
import Derived.Test.YtdmoagnkdkeeeaaChecked
import Derived.WalkKit
import Derived.ProofKit
import Derived.OpenShut
import Derived.ShutString
import Derived.ChangeOld
import Derived.Below
import Derived.SizedLaws
namespace Go.Proofs.Ytdmoagnkdkeeeaa.W
open Go Go.Ab Go.Proofs Go.Proofs.Ytdmoagnkdkeeeaa
set_option maxRecDepth 100000
set_option linter.unusedSimpArgs false
set_option linter.unusedVariables false
set_option maxHeartbeats 4000000
theorem law_ok (l : List (Int × Nat)) (hlen : l.length ≤ maxLen) (id : Nat) (H : Heap) (hr : Ab.Row H id 0 (enc eCost l)) : ∃ H2, Ok Try.prog 3 [.v (.sl id 0 l.length 2)] H (.v (.bool true)) H2 := by
  refine ⟨H, ?_⟩
  refine Ok.of_fin (fn := Try.f3) (c := _) F.hm Try.func3 rfl Try.call3 (by kernel_rfl) (by simp) ?_
  show Ab.Fin _ _ _ _ (Ab.Ends Try.prog Try.f3 _ _ _)
  simp only [go_sem, ↓reduceIte, reduceCtorEq, Nat.reduceEqDiff, Nat.reduceAdd, Nat.reduceSub, Nat.reduceMul, Nat.reduceLeDiff, Int.reduceLT, Int.reduceLE, Int.reduceNeg, Bool.false_eq_true, Int.toNat_natCast]
  refine callG_intro (szCostS_ok _ _ _ _ _ (by simp [maxLen] at hlen; omega) (by decide)) ?_
  by_cases hb : (1048576 : Int) - (l.length : Int) < 0
  · simp only [go_sem, ↓reduceIte, reduceCtorEq, Nat.reduceEqDiff, Nat.reduceAdd, Nat.reduceSub, Nat.reduceMul, Nat.reduceLeDiff, Int.reduceLT, Int.reduceLE, Int.reduceNeg, Bool.false_eq_true, Int.toNat_natCast, hb]
    exact Ab.Ends.same (by simp only [resultOf, Try.f3, go_sem, ↓reduceIte, reduceCtorEq, Nat.reduceEqDiff, Nat.reduceAdd, Nat.reduceSub, Nat.reduceMul, Nat.reduceLeDiff, Int.reduceLT, Int.reduceLE, Int.reduceNeg, Bool.false_eq_true, Int.toNat_natCast]) (fun i hi => by first | rfl | simp only [go_sem, ne_add hi, ne_self hi]) (by first | exact Nat.le_refl _ | (simp only [go_sem]; omega)) (by simp [TV.refs, AV.refs])
  have hl : l.length ≤ 2 ^ 20 := by omega
  simp only [go_sem, ↓reduceIte, reduceCtorEq, Nat.reduceEqDiff, Nat.reduceAdd, Nat.reduceSub, Nat.reduceMul, Nat.reduceLeDiff, Int.reduceLT, Int.reduceLE, Int.reduceNeg, Bool.false_eq_true, Int.toNat_natCast, hb]
  have r1 := hr.alloc (.own (enc eCost l))
  have r2 := r1.alloc (.own (enc eCost l))
  have q1 : Ab.Row (H.alloc (.own (enc eCost l))) H.n 0 (enc eCost l) := Ab.Row.of_f (Nat.lt_succ_self _) (by simp only [go_sem, ↓reduceIte])
  have q2 : Ab.Row ((H.alloc (.own (enc eCost l))).alloc (.own (enc eCost l))) (H.n + 1) 0 (enc eCost l) := Ab.Row.of_f (Nat.lt_succ_self _) (by simp only [go_sem, ↓reduceIte])
  have q3 : Ab.Row (((H.alloc (.own (enc eCost l))).alloc (.own (enc eCost l))).alloc (.own (enc eCost l))) (H.n + 2) 0 (enc eCost l) := Ab.Row.of_f (Nat.lt_succ_self _) (by simp only [go_sem, ↓reduceIte, Nat.reduceAdd])
  refine callG_intro (toCostS_ok l _ _ _ hr hl) ?_
  simp only [go_sem, ↓reduceIte, reduceCtorEq, Nat.reduceEqDiff, Nat.reduceAdd, Nat.reduceSub, Nat.reduceMul, Nat.reduceLeDiff, Int.reduceLT, Int.reduceLE, Int.reduceNeg, Bool.false_eq_true, Int.toNat_natCast]
  refine callG_intro (sAreCosts_ok l _ _ _ q1) ?_
  simp only [go_sem, ↓reduceIte, reduceCtorEq, Nat.reduceEqDiff, Nat.reduceAdd, Nat.reduceSub, Nat.reduceMul, Nat.reduceLeDiff, Int.reduceLT, Int.reduceLE, Int.reduceNeg, Bool.false_eq_true, Int.toNat_natCast]
  refine callG_intro (toCostS_ok l _ _ _ r1 hl) ?_
  simp only [go_sem, ↓reduceIte, reduceCtorEq, Nat.reduceEqDiff, Nat.reduceAdd, Nat.reduceSub, Nat.reduceMul, Nat.reduceLeDiff, Int.reduceLT, Int.reduceLE, Int.reduceNeg, Bool.false_eq_true, Int.toNat_natCast]
  refine callG_intro (iAreCosts_ok l _ _ _ hl q2) ?_
  simp only [go_sem, ↓reduceIte, reduceCtorEq, Nat.reduceEqDiff, Nat.reduceAdd, Nat.reduceSub, Nat.reduceMul, Nat.reduceLeDiff, Int.reduceLT, Int.reduceLE, Int.reduceNeg, Bool.false_eq_true, Int.toNat_natCast]
  refine callG_intro (toCostS_ok l _ _ _ r2 hl) ?_
  simp only [go_sem, ↓reduceIte, reduceCtorEq, Nat.reduceEqDiff, Nat.reduceAdd, Nat.reduceSub, Nat.reduceMul, Nat.reduceLeDiff, Int.reduceLT, Int.reduceLE, Int.reduceNeg, Bool.false_eq_true, Int.toNat_natCast]
  refine callG_intro (eqCostS_ok l _ _ _ _ _ (q2.alloc _) q3 hl) ?_
  simp only [go_sem, ↓reduceIte, reduceCtorEq, Nat.reduceEqDiff, Nat.reduceAdd, Nat.reduceSub, Nat.reduceMul, Nat.reduceLeDiff, Int.reduceLT, Int.reduceLE, Int.reduceNeg, Bool.false_eq_true, Int.toNat_natCast]
  exact Ab.Ends.same (by simp only [resultOf, Try.f3, go_sem, ↓reduceIte, reduceCtorEq, Nat.reduceEqDiff, Nat.reduceAdd, Nat.reduceSub, Nat.reduceMul, Nat.reduceLeDiff, Int.reduceLT, Int.reduceLE, Int.reduceNeg, Bool.false_eq_true, Int.toNat_natCast]) (fun i hi => by first | rfl | simp only [go_sem, ne_add hi, ne_self hi]) (by first | exact Nat.le_refl _ | (simp only [go_sem]; omega)) (by simp [TV.refs, AV.refs])

def shCost : Sh := .pair (.int .i64) (.pair (.flt .f32) .unit)
theorem of_args (H : Heap) (x : (argSh [.sl shCost]).T) (vs : List TV) (h : LiesArgs H [.sl shCost] x vs) : ∃ H2, Ok Try.prog 3 vs H (.v (.bool true)) H2 := by
  obtain ⟨cs, rest, rfl, h1, h2⟩ := h
  obtain rfl : rest = [] := h2
  obtain ⟨id, rfl, hr, hm⟩ := Lies.row (e := shCost) (f := fun x : Int × Nat × Unit => eCost (x.1, x.2.1)) (fun x c hx => by
    obtain ⟨c1, c2, rfl, ⟨rfl, _⟩, c3, c4, rfl, ⟨rfl, _⟩, rfl⟩ := hx
    rfl) h1
  have e : enc (fun x : Int × Nat × Unit => eCost (x.1, x.2.1)) x.1 = enc eCost (List.map (fun x : Int × Nat × Unit => (x.1, x.2.1)) x.1) := (enc_map eCost _ _).symm
  have hr' := Eq.mp (congrArg (Ab.Row H id 0) e) hr
  have hl : (List.map (fun x : Int × Nat × Unit => (x.1, x.2.1)) x.1).length = List.length x.1 := List.length_map ..
  have hv : [TV.v (.sl id 0 (List.map (fun x : Int × Nat × Unit => (x.1, x.2.1)) x.1).length 2)] = [tvOf (.sl shCost) [.sl id 0 (List.length x.1) shCost.size]] := by rw [hl]; rfl
  exact Eq.mp (congrArg (fun v => ∃ H2, Ok Try.prog 3 v H (.v (.bool true)) H2) hv) (law_ok _ (by rw [hl]; exact hm) id H hr')
end Go.Proofs.Ytdmoagnkdkeeeaa.W

namespace Go.Proofs.Ytdmoagnkdkeeeaa.fnExactAreCosts
open Go.ChangeShapes Go.WideShapes Go.ChangeAt Go.RowKit Go.Proofs.Ytdmoagnkdkeeeaa
theorem own : ownKnob Try.prog.godebug = none := by kernel_rfl
theorem laidOut : laidOutB Try.prog = true := by kernel_rfl
set_option maxRecDepth 100000 in
theorem lifted (os : Os) (started : os.Started) (H : Type) (enc : TypeId × Value → H) :
    ReturnsInHanded {} Try.checked os 3 .any (Rows.fnExactAreCostsSpec.pre6 enc Try.prog Try.f3 Rows.fnExactAreCostsRow.domain false) (Rows.fnExactAreCostsSpec.post enc Try.prog Try.f3 false true false false) := by
  refine returnsInHanded_of_change_sized (C := Try.checked) own started (by kernel_rfl) Try.func3
    (ChangeSpec.witness6 (enc := enc) (C := Try.checked) false ⟨#[], #[.slice none 0 0], []⟩ 8 (by kernel_rfl) (by kernel_rfl) (by kernel_rfl) (by kernel_rfl)) ?_
  intro w0 base args ds gs before hval hW hcnd hsz0 _
  have hW' := hW
  obtain ⟨p, q, hA0, hV, rfl, hfz, hnd⟩ := hW
  have hA : DataW.TrodAll enc Try.prog w0 0 (fun _ => true) true Try.f3.params.toList args.toList ds p := hA0
  rw [Try.params3] at hA
  have hA1 := hA
  obtain ⟨v0, vs0, d0, ds0, p0, q0, hargs, rfl, rfl, h0, r0⟩ := trodAll_cons hA
  obtain ⟨rfl, rfl, rfl⟩ := trodAll_nil r0
  obtain ⟨rfl, rfl⟩ := trodVars_none hV
  refine (Ab.law_calls (ss := [.sl W.shCost]) (d := 8) Try.call3 (by kernel_rfl) (fun H x vs _ h => W.of_args H x vs h) hA1 (fun j t v h1 h2 => hval j t v (by rw [← Array.getElem?_toList, Try.params3]; exact h1) h2)).mono fun e W' ⟨he, bel⟩ => ?_
  subst he
  exact ⟨_, rfl, _, _, _, [], _, [], hW', trodAll_mk1 (shut_bool Try.underlying4 _), Ab.trodAll_stays laidOut bel _ _ _ _ (of_decide_eq_true (by kernel_rfl)) hA1, rfl, bel.frame _, fun h => by cases h⟩
theorem over : Rows.fnExactAreCostsRow.holds Try.pinned (OpenSpec.ofChange Rows.fnExactAreCostsSpec) :=
  OpenClaim.holds_of_wide 3 Try.f3 rfl rfl rfl rfl rfl rfl rfl ⟨rfl, rfl, rfl, rfl, rfl⟩ rfl rfl rfl rfl rfl (by kernel_rfl) Try.func3 (by kernel_rfl)
    (of_decide_eq_true (by kernel_rfl)) (by unfold Func.isWrapper; first | (rw [if_pos (by decide +kernel)]; kernel_rfl) | (rw [if_neg (by decide +kernel)]; exact ⟨rfl, rfl⟩))
    (fun os started H enc _ => lifted os started H enc)
theorem proved : Rows.FnExactAreCostsSaid := over
#print axioms proved
end Go.Proofs.Ytdmoagnkdkeeeaa.fnExactAreCosts
namespace Go.Proofs.Ytdmoagnkdkeeeaa
/-- The row, under a short name, for the claim. -/
theorem fnExactAreCosts_holds : Rows.FnExactAreCostsSaid := fnExactAreCosts.proved
end Go.Proofs.Ytdmoagnkdkeeeaa
