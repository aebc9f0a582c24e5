/-
  The law FnExactThinSurplus answers true for all arguments, and leaves what was there. No conditions.
-/
import Derived.Test.YtfieljajhmpbiaaMExactThinSurplusKa
import Derived.Test.YtfieljajhmpbiaaMExactThinSurplusUa
import Derived.Test.YtfieljajhmpbiaaAbI
import Derived.Test.YtfieljajhmpbiaaRows
import Derived.Test.YtfieljajhmpbiaaChecked
import Derived.WalkKit
import Derived.ProofKit
import Derived.OpenShut
import Derived.ShutString
import Derived.ChangeOld
import Derived.Below
import Derived.SizedLaws
namespace Go.Proofs.Ytfieljajhmpbiaa.G
open Go Go.Ab Go.Proofs Go.Proofs.Ytfieljajhmpbiaa
set_option maxRecDepth 100000
set_option linter.unusedVariables false
set_option linter.unusedSimpArgs false
set_option maxHeartbeats 1000000
theorem le_map {α β : Type} {f : α → β} {l : List α} {n : Nat} (h : l.length ≤ n) : (l.map f).length ≤ n := by rw [List.length_map]; exact h
def shapesExactThinSurplus : List Sh := [.sl (.flt .f32), .flt .f32]
theorem argsExactThinSurplus (H : Heap) (x : (argSh shapesExactThinSurplus).T) (vs : List TV) (h : LiesArgs H shapesExactThinSurplus x vs) : ∃ H2, Ok Try.prog 12 vs H (.v (.bool true)) H2 := by
  obtain ⟨c1, r2, rfl, h3, t4⟩ := h
  obtain ⟨v5, rfl, q6, m7⟩ := lies_flat (n := 1) (f := (eFlt .f32)) (g := fun y : ((.flt .f32 : Sh)).T => y) rfl (fun y c hy => hy.1) h3
  obtain ⟨c8, r9, rfl, h10, t11⟩ := t4
  obtain ⟨rfl, w12⟩ := h10
  obtain rfl := t11
  exact okq_true (laws_FnExactThinSurplus_ok v5 (List.map (fun y : (.flt .f32 : Sh).T => y) x.1) x.2.1 (came_sep H) (came_shows q6) (fun b => b = true) (pureExactThinSurplus (List.map (fun y : (.flt .f32 : Sh).T => y) x.1) x.2.1)) (fun r H2 hh => by obtain ⟨y, hy, rfl, _⟩ := hh; subst hy; rfl)
end Go.Proofs.Ytfieljajhmpbiaa.G

namespace Go.Proofs.Ytfieljajhmpbiaa.fnExactThinSurplus
open Go.ChangeShapes Go.WideShapes Go.ChangeAt Go.RowKit Go.Proofs.Ytfieljajhmpbiaa
theorem own : ownKnob Try.prog.godebug = none := by kernel_rfl
theorem laidOut : laidOutB Try.prog = true := by kernel_rfl
set_option maxRecDepth 100000 in
theorem lifted (os : Os) (started : os.Started) (H : Type) (enc : TypeId × Value → H) :
    ReturnsInHanded {} Try.checked os 12 .any (Rows.fnExactThinSurplusSpec.pre6 enc Try.prog Try.f12 Rows.fnExactThinSurplusRow.domain false) (Rows.fnExactThinSurplusSpec.post enc Try.prog Try.f12 false true false false) := by
  refine returnsInHanded_of_change_sized (C := Try.checked) own started (by kernel_rfl) Try.func12
    (ChangeSpec.witness6 (enc := enc) (C := Try.checked) false ⟨#[], #[.slice none 0 0, .float .f32 0], []⟩ 8 (by kernel_rfl) (by kernel_rfl) (by kernel_rfl) (by kernel_rfl)) ?_
  intro w0 base args ds gs before hval hW hcnd hsz0 _
  have hW' := hW
  obtain ⟨p, q, hA0, hV, rfl, hfz, hnd⟩ := hW
  have hA : DataW.TrodAll enc Try.prog w0 0 (fun _ => true) true Try.f12.params.toList args.toList ds p := hA0
  rw [Try.params12] at hA
  have hA1 := hA
  obtain ⟨v0, vs0, d0, ds0, p0, q0, hargs, rfl, rfl, h0, r0⟩ := trodAll_cons hA
  obtain ⟨v1, vs1, d1, ds1, p1, q1, rfl, rfl, rfl, h1, r1⟩ := trodAll_cons r0
  obtain ⟨rfl, rfl, rfl⟩ := trodAll_nil r1
  obtain ⟨rfl, rfl⟩ := trodVars_none hV
  refine (Ab.law_calls (ss := G.shapesExactThinSurplus) (d := 8) Try.call12 (by kernel_rfl) (fun H x vs _ h => G.argsExactThinSurplus H x vs h) hA1 (fun j t v h1 h2 => hval j t v (by rw [← Array.getElem?_toList, Try.params12]; exact h1) h2)).mono fun e W' ⟨he, bel⟩ => ?_
  subst he
  exact ⟨_, rfl, _, _, _, [], _, [], hW', trodAll_mk1 (shut_bool Try.underlying4 _), Ab.trodAll_stays laidOut bel _ _ _ _ (of_decide_eq_true (by kernel_rfl)) hA1, rfl, bel.frame _, fun h => by cases h⟩
theorem over : Rows.fnExactThinSurplusRow.holds Try.pinned (OpenSpec.ofChange Rows.fnExactThinSurplusSpec) :=
  OpenClaim.holds_of_wide 12 Try.f12 rfl rfl rfl rfl rfl rfl rfl ⟨rfl, rfl, rfl, rfl, rfl⟩ rfl rfl rfl rfl rfl (by kernel_rfl) Try.func12 (by kernel_rfl)
    (of_decide_eq_true (by kernel_rfl)) (by unfold Func.isWrapper; first | (rw [if_pos (by decide +kernel)]; kernel_rfl) | (rw [if_neg (by decide +kernel)]; exact ⟨rfl, rfl⟩))
    (fun os started H enc _ => lifted os started H enc)
theorem proved : Rows.FnExactThinSurplusSaid := over
#print axioms proved
end Go.Proofs.Ytfieljajhmpbiaa.fnExactThinSurplus
namespace Go.Proofs.Ytfieljajhmpbiaa
/-- The row, under a short name, for the claim. -/
theorem fnExactThinSurplus_holds : Rows.FnExactThinSurplusSaid := fnExactThinSurplus.proved
end Go.Proofs.Ytfieljajhmpbiaa

