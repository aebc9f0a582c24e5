/-
  The law FnExactUnpackTake answers true for all arguments, and leaves what was there. No conditions.
-/
import Derived.Test.YtfieljajhmpbiaaMExactUnpackTakeKa
import Derived.Test.YtfieljajhmpbiaaMExactUnpackTakeUa
import Derived.Test.YtfieljajhmpbiaaAbI
import Derived.Test.YtfieljajhmpbiaaRows
import Derived.Test.YtfieljajhmpbiaaChecked
import Derived.WalkKit
import Derived.ProofKit
import Derived.OpenShut
import Derived.ShutString
import Derived.ChangeOld
import Derived.Below
import Derived.SizedLaws
namespace Go.Proofs.Ytfieljajhmpbiaa.G
open Go Go.Ab Go.Proofs Go.Proofs.Ytfieljajhmpbiaa
set_option maxRecDepth 100000
set_option linter.unusedVariables false
set_option linter.unusedSimpArgs false
set_option maxHeartbeats 1000000
theorem lies_all {H : Heap} {e : Sh} {α : Type} {g : e.T → α} {p : α → Prop} (hp : ∀ x c, Lies H e x c → p (g x)) {l : List e.T} {cs : List AV} (h : Lies H (.sl e) l cs) : ∀ y ∈ l.map g, p y := by
  obtain ⟨id, parts, _, _, _, _, hq⟩ := h
  have key : ∀ (xs : List e.T) (ps : List (List AV)), All2 (fun x c => Lies H e x c) xs ps → ∀ y ∈ xs.map g, p y := by
    intro xs
    induction xs with
    | nil => intro ps _ y hy; cases hy
    | cons x xs ih =>
      intro ps hps y hy
      cases ps with
      | nil => exact hps.elim
      | cons c ps =>
        rw [List.map_cons, List.mem_cons] at hy
        rcases hy with rfl | hy
        · exact hp x c hps.1
        · exact ih ps hps.2 y hy
  exact key l parts hq
theorem flt_lt {k : FloatKind} {c : Nat} (h : ∃ b, (Lit.float k b).wf = true ∧ cz k b = c) : c < 2 ^ (match k with | .f32 => 32 | .f64 => 64) := by
  obtain ⟨b, h1, rfl⟩ := h
  have hb : b < 2 ^ (match k with | .f32 => 32 | .f64 => 64) := by
    cases k <;> simpa [Lit.wf] using h1
  unfold cz
  split
  · cases k <;> decide
  · exact hb
theorem le_map {α β : Type} {f : α → β} {l : List α} {n : Nat} (h : l.length ≤ n) : (l.map f).length ≤ n := by rw [List.length_map]; exact h
def shapesExactUnpackTake : List Sh := [.str]
theorem argsExactUnpackTake (H : Heap) (x : (argSh shapesExactUnpackTake).T) (vs : List TV) (h : LiesArgs H shapesExactUnpackTake x vs) : ∃ H2, Ok Try.prog 6 vs H (.v (.bool true)) H2 := by
  obtain ⟨c1, r2, rfl, h3, t4⟩ := h
  obtain ⟨rfl, w5⟩ := h3
  obtain rfl := t4
  exact okq_true (laws_FnExactUnpackTake_ok (x.1).data.toList (came_sep H)  (fun b => b = true) (pureExactUnpackTake (x.1).data.toList)) (fun r H2 hh => by obtain ⟨y, hy, rfl, _⟩ := hh; subst hy; rfl)
end Go.Proofs.Ytfieljajhmpbiaa.G

namespace Go.Proofs.Ytfieljajhmpbiaa.fnExactUnpackTake
open Go.ChangeShapes Go.WideShapes Go.ChangeAt Go.RowKit Go.Proofs.Ytfieljajhmpbiaa
theorem own : ownKnob Try.prog.godebug = none := by kernel_rfl
theorem laidOut : laidOutB Try.prog = true := by kernel_rfl
set_option maxRecDepth 100000 in
theorem lifted (os : Os) (started : os.Started) (H : Type) (enc : TypeId × Value → H) :
    ReturnsInHanded {} Try.checked os 6 .any (Rows.fnExactUnpackTakeSpec.pre6 enc Try.prog Try.f6 Rows.fnExactUnpackTakeRow.domain false) (Rows.fnExactUnpackTakeSpec.post enc Try.prog Try.f6 false true false false) := by
  refine returnsInHanded_of_change_sized (C := Try.checked) own started (by kernel_rfl) Try.func6
    (ChangeSpec.witness6 (enc := enc) (C := Try.checked) false ⟨#[], #[.string ⟨#[]⟩], []⟩ 8 (by kernel_rfl) (by kernel_rfl) (by kernel_rfl) (by kernel_rfl)) ?_
  intro w0 base args ds gs before hval hW hcnd hsz0 _
  have hW' := hW
  obtain ⟨p, q, hA0, hV, rfl, hfz, hnd⟩ := hW
  have hA : DataW.TrodAll enc Try.prog w0 0 (fun _ => true) true Try.f6.params.toList args.toList ds p := hA0
  rw [Try.params6] at hA
  have hA1 := hA
  obtain ⟨v0, vs0, d0, ds0, p0, q0, hargs, rfl, rfl, h0, r0⟩ := trodAll_cons hA
  obtain ⟨rfl, rfl, rfl⟩ := trodAll_nil r0
  obtain ⟨rfl, rfl⟩ := trodVars_none hV
  refine (Ab.law_calls (ss := G.shapesExactUnpackTake) (d := 8) Try.call6 (by kernel_rfl) (fun H x vs _ h => G.argsExactUnpackTake H x vs h) hA1 (fun j t v h1 h2 => hval j t v (by rw [← Array.getElem?_toList, Try.params6]; exact h1) h2)).mono fun e W' ⟨he, bel⟩ => ?_
  subst he
  exact ⟨_, rfl, _, _, _, [], _, [], hW', trodAll_mk1 (shut_bool Try.underlying4 _), Ab.trodAll_stays laidOut bel _ _ _ _ (of_decide_eq_true (by kernel_rfl)) hA1, rfl, bel.frame _, fun h => by cases h⟩
theorem over : Rows.fnExactUnpackTakeRow.holds Try.pinned (OpenSpec.ofChange Rows.fnExactUnpackTakeSpec) :=
  OpenClaim.holds_of_wide 6 Try.f6 rfl rfl rfl rfl rfl rfl rfl ⟨rfl, rfl, rfl, rfl, rfl⟩ rfl rfl rfl rfl rfl (by kernel_rfl) Try.func6 (by kernel_rfl)
    (of_decide_eq_true (by kernel_rfl)) (by unfold Func.isWrapper; first | (rw [if_pos (by decide +kernel)]; kernel_rfl) | (rw [if_neg (by decide +kernel)]; exact ⟨rfl, rfl⟩))
    (fun os started H enc _ => lifted os started H enc)
theorem proved : Rows.FnExactUnpackTakeSaid := over
#print axioms proved
end Go.Proofs.Ytfieljajhmpbiaa.fnExactUnpackTake
namespace Go.Proofs.Ytfieljajhmpbiaa
/-- The row, under a short name, for the claim. -/
theorem fnExactUnpackTake_holds : Rows.FnExactUnpackTakeSaid := fnExactUnpackTake.proved
end Go.Proofs.Ytfieljajhmpbiaa

