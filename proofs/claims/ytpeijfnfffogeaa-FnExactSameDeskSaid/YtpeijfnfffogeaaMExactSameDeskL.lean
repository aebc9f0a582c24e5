/-
  The law FnExactSameDesk answers true for all arguments, and leaves what was there. No conditions.
-/
import Derived.Test.YtpeijfnfffogeaaMExactSameDeskKa
import Derived.Test.YtpeijfnfffogeaaMExactSameDeskUa
import Derived.Test.YtpeijfnfffogeaaAbI
import Derived.Test.YtpeijfnfffogeaaRows
import Derived.Test.YtpeijfnfffogeaaChecked
import Derived.WalkKit
import Derived.ProofKit
import Derived.OpenShut
import Derived.ShutString
import Derived.ChangeOld
import Derived.Below
import Derived.SizedLaws
namespace Go.Proofs.Ytpeijfnfffogeaa.G
open Go Go.Ab Go.Proofs Go.Proofs.Ytpeijfnfffogeaa
set_option maxRecDepth 100000
set_option linter.unusedVariables false
set_option linter.unusedSimpArgs false
set_option maxHeartbeats 1000000
theorem lies_all {H : Heap} {e : Sh} {α : Type} {g : e.T → α} {p : α → Prop} (hp : ∀ x c, Lies H e x c → p (g x)) {l : List e.T} {cs : List AV} (h : Lies H (.sl e) l cs) : ∀ y ∈ l.map g, p y := by
  obtain ⟨id, parts, _, _, _, _, hq⟩ := h
  have key : ∀ (xs : List e.T) (ps : List (List AV)), All2 (fun x c => Lies H e x c) xs ps → ∀ y ∈ xs.map g, p y := by
    intro xs
    induction xs with
    | nil => intro ps _ y hy; cases hy
    | cons x xs ih =>
      intro ps hps y hy
      cases ps with
      | nil => exact hps.elim
      | cons c ps =>
        rw [List.map_cons, List.mem_cons] at hy
        rcases hy with rfl | hy
        · exact hp x c hps.1
        · exact ih ps hps.2 y hy
  exact key l parts hq
theorem flt_lt {k : FloatKind} {c : Nat} (h : ∃ b, (Lit.float k b).wf = true ∧ cz k b = c) : c < 2 ^ (match k with | .f32 => 32 | .f64 => 64) := by
  obtain ⟨b, h1, rfl⟩ := h
  have hb : b < 2 ^ (match k with | .f32 => 32 | .f64 => 64) := by
    cases k <;> simpa [Lit.wf] using h1
  unfold cz
  split
  · cases k <;> decide
  · exact hb
theorem shows_id {H : Heap} {w : AV} {n : Nat} {α : Type} {e : α → List AV} {l : List α} (h : Shows H w n (enc e (List.map (fun y => y) l))) : Shows H w n (enc e l) := by rw [List.map_id'] at h; exact h
theorem all_id {α : Type} {p : α → Prop} {l : List α} (h : ∀ y ∈ List.map (fun y => y) l, p y) : ∀ y ∈ l, p y := by rw [List.map_id'] at h; exact h
theorem came_deep {H : Heap} {e : Sh} {α : Type} {R : Heap → α → List AV → Prop} {g : e.T → α} {n : Nat} (hn : e.size = n) (hR : ∀ x c, Lies H e x c → ∀ H', Sep H' (came H) → R H' (g x) c) {l : List e.T} {cs : List AV} (h : Lies H (.sl e) l cs) : ∃ v ws, cs = [v] ∧ (∀ H', Sep H' (came H) → DSh H' v n R (l.map g) ws) ∧ l.length ≤ maxLen := by
  obtain ⟨id, parts, h1, h2, h3, h4, h5⟩ := h
  have hs : ∀ c ∈ parts, c.length = n := by
    have key : ∀ (xs : List e.T) (ps : List (List AV)), All2 (fun x c => Lies H e x c) xs ps → ∀ c ∈ ps, c.length = n := by
      intro xs
      induction xs with
      | nil => intro ps hp c hc; cases ps with
        | nil => cases hc
        | cons p ps => exact hp.elim
      | cons x xs ih => intro ps hp c hc; cases ps with
        | nil => cases hc
        | cons p ps =>
          rw [List.mem_cons] at hc
          rcases hc with rfl | hc
          · rw [hp.1.len, hn]
          · exact ih ps hp.2 c hc
    exact key l parts h5
  have hlen : parts.length = l.length := h5.len.symm
  have hfn : (enc (_root_.id : List AV → List AV) parts).length = l.length * n := by
    rw [← hlen]
    have key : ∀ ps : List (List AV), (∀ c ∈ ps, c.length = n) → (enc (_root_.id : List AV → List AV) ps).length = ps.length * n := by
      intro ps
      induction ps with
      | nil => intro _; simp [enc]
      | cons p ps ih => intro hp; rw [enc_cons, List.length_append, ih (fun c hc => hp c (List.mem_cons_of_mem _ hc)), List.length_cons, Nat.succ_mul, show (_root_.id p : List AV) = p from rfl, hp p (List.mem_cons_self ..)]; omega
    exact key parts hs
  have hrow : Row H id 0 (enc (_root_.id : List AV → List AV) parts) := by
    rw [show enc (_root_.id : List AV → List AV) parts = parts.flatten by rw [enc, List.flatMap_id]]
    rcases h4 with ⟨rfl, hg⟩ | hg
    · cases parts with
      | nil => exact ⟨h2, by rw [hg]; exact Nat.zero_le _, rfl⟩
      | cons p ps => exact h5.elim
    · exact Row.of_f h2 (by rw [hg]; rfl)
  refine ⟨_, parts, h1, fun H' hs' => ⟨came_shows (.inr ⟨id, 0, l.length, by rw [hn], hfn, hrow⟩) H' hs', hs, ?_⟩, h3⟩
  have key : ∀ (xs : List e.T) (ps : List (List AV)), All2 (fun x c => Lies H e x c) xs ps → All2 (R H') (xs.map g) ps := by
    intro xs
    induction xs with
    | nil => intro ps hp; cases ps with
      | nil => trivial
      | cons p ps => exact hp.elim
    | cons x xs ih => intro ps hp; cases ps with
      | nil => exact hp.elim
      | cons p ps => exact ⟨hR x p hp.1 H' hs', ih ps hp.2⟩
  exact key l parts h5
theorem le_map {α β : Type} {f : α → β} {l : List α} {n : Nat} (h : l.length ≤ n) : (l.map f).length ≤ n := by rw [List.length_map]; exact h
def shapesExactSameDesk : List Sh := [.pair (.sl (.flt .f32)) (.pair (.pair (.sl (.flt .f32)) (.pair (.flt .f32) (.unit))) (.pair (.pair (.int .i64) (.pair (.int .i64) (.pair (.sl (.flt .f32)) (.unit)))) (.pair (.pair (.int .i64) (.pair (.int .i64) (.pair (.sl (.bool)) (.unit)))) (.unit)))), .pair (.sl (.flt .f32)) (.pair (.pair (.sl (.flt .f32)) (.pair (.flt .f32) (.unit))) (.pair (.pair (.int .i64) (.pair (.int .i64) (.pair (.sl (.flt .f32)) (.unit)))) (.pair (.pair (.int .i64) (.pair (.int .i64) (.pair (.sl (.bool)) (.unit)))) (.unit))))]
theorem argsExactSameDesk (H : Heap) (x : (argSh shapesExactSameDesk).T) (vs : List TV) (h : LiesArgs H shapesExactSameDesk x vs) : ∃ H2, Ok Try.prog 4 vs H (.v (.bool true)) H2 := by
  obtain ⟨c1, r2, rfl, h3, t4⟩ := h
  obtain ⟨c5, e6, rfl, h7, t8⟩ := h3
  have a12 := lies_all (g := fun y : ((.flt .f32 : Sh)).T => y) (p := fun y : Nat => y < 2 ^ 32) (fun y c hy => flt_lt hy.2) h7
  obtain ⟨v9, rfl, q10, m11⟩ := lies_flat (n := 1) (f := (eFlt .f32)) (g := fun y : ((.flt .f32 : Sh)).T => y) rfl (fun y c hy => hy.1) h7
  obtain ⟨c13, e14, rfl, h15, t16⟩ := t8
  obtain ⟨c17, e18, rfl, h19, t20⟩ := h15
  have a24 := lies_all (g := fun y : ((.flt .f32 : Sh)).T => y) (p := fun y : Nat => y < 2 ^ 32) (fun y c hy => flt_lt hy.2) h19
  obtain ⟨v21, rfl, q22, m23⟩ := lies_flat (n := 1) (f := (eFlt .f32)) (g := fun y : ((.flt .f32 : Sh)).T => y) rfl (fun y c hy => hy.1) h19
  obtain ⟨c25, e26, rfl, h27, t28⟩ := t20
  obtain ⟨rfl, w29⟩ := h27
  obtain rfl := t28
  obtain ⟨c30, e31, rfl, h32, t33⟩ := t16
  obtain ⟨c34, e35, rfl, h36, t37⟩ := h32
  obtain ⟨rfl, w38⟩ := h36
  obtain ⟨c39, e40, rfl, h41, t42⟩ := t37
  obtain ⟨rfl, w43⟩ := h41
  obtain ⟨c44, e45, rfl, h46, t47⟩ := t42
  have a51 := lies_all (g := fun y : ((.flt .f32 : Sh)).T => y) (p := fun y : Nat => y < 2 ^ 32) (fun y c hy => flt_lt hy.2) h46
  obtain ⟨v48, rfl, q49, m50⟩ := lies_flat (n := 1) (f := (eFlt .f32)) (g := fun y : ((.flt .f32 : Sh)).T => y) rfl (fun y c hy => hy.1) h46
  obtain rfl := t47
  obtain ⟨c52, e53, rfl, h54, t55⟩ := t33
  obtain ⟨c56, e57, rfl, h58, t59⟩ := h54
  obtain ⟨rfl, w60⟩ := h58
  obtain ⟨c61, e62, rfl, h63, t64⟩ := t59
  obtain ⟨rfl, w65⟩ := h63
  obtain ⟨c66, e67, rfl, h68, t69⟩ := t64
  obtain ⟨v70, rfl, q71, m72⟩ := lies_flat (n := 1) (f := eBool) (g := fun y : ((.bool : Sh)).T => y) rfl (fun y c hy => hy) h68
  obtain rfl := t69
  obtain rfl := t55
  obtain ⟨c73, r74, rfl, h75, t76⟩ := t4
  obtain ⟨c77, e78, rfl, h79, t80⟩ := h75
  have a84 := lies_all (g := fun y : ((.flt .f32 : Sh)).T => y) (p := fun y : Nat => y < 2 ^ 32) (fun y c hy => flt_lt hy.2) h79
  obtain ⟨v81, rfl, q82, m83⟩ := lies_flat (n := 1) (f := (eFlt .f32)) (g := fun y : ((.flt .f32 : Sh)).T => y) rfl (fun y c hy => hy.1) h79
  obtain ⟨c85, e86, rfl, h87, t88⟩ := t80
  obtain ⟨c89, e90, rfl, h91, t92⟩ := h87
  have a96 := lies_all (g := fun y : ((.flt .f32 : Sh)).T => y) (p := fun y : Nat => y < 2 ^ 32) (fun y c hy => flt_lt hy.2) h91
  obtain ⟨v93, rfl, q94, m95⟩ := lies_flat (n := 1) (f := (eFlt .f32)) (g := fun y : ((.flt .f32 : Sh)).T => y) rfl (fun y c hy => hy.1) h91
  obtain ⟨c97, e98, rfl, h99, t100⟩ := t92
  obtain ⟨rfl, w101⟩ := h99
  obtain rfl := t100
  obtain ⟨c102, e103, rfl, h104, t105⟩ := t88
  obtain ⟨c106, e107, rfl, h108, t109⟩ := h104
  obtain ⟨rfl, w110⟩ := h108
  obtain ⟨c111, e112, rfl, h113, t114⟩ := t109
  obtain ⟨rfl, w115⟩ := h113
  obtain ⟨c116, e117, rfl, h118, t119⟩ := t114
  have a123 := lies_all (g := fun y : ((.flt .f32 : Sh)).T => y) (p := fun y : Nat => y < 2 ^ 32) (fun y c hy => flt_lt hy.2) h118
  obtain ⟨v120, rfl, q121, m122⟩ := lies_flat (n := 1) (f := (eFlt .f32)) (g := fun y : ((.flt .f32 : Sh)).T => y) rfl (fun y c hy => hy.1) h118
  obtain rfl := t119
  obtain ⟨c124, e125, rfl, h126, t127⟩ := t105
  obtain ⟨c128, e129, rfl, h130, t131⟩ := h126
  obtain ⟨rfl, w132⟩ := h130
  obtain ⟨c133, e134, rfl, h135, t136⟩ := t131
  obtain ⟨rfl, w137⟩ := h135
  obtain ⟨c138, e139, rfl, h140, t141⟩ := t136
  obtain ⟨v142, rfl, q143, m144⟩ := lies_flat (n := 1) (f := eBool) (g := fun y : ((.bool : Sh)).T => y) rfl (fun y c hy => hy) h140
  obtain rfl := t141
  obtain rfl := t127
  obtain rfl := t76
  exact okq_true (laws_FnExactSameDesk_ok v9 (List.map (fun y : (.flt .f32 : Sh).T => y) x.1.1) v21 (List.map (fun y : (.flt .f32 : Sh).T => y) x.1.2.1.1) x.1.2.1.2.1 x.1.2.2.1.1 x.1.2.2.1.2.1 v48 (List.map (fun y : (.flt .f32 : Sh).T => y) x.1.2.2.1.2.2.1) x.1.2.2.2.1.1 x.1.2.2.2.1.2.1 v70 (List.map (fun y : (.bool : Sh).T => y) x.1.2.2.2.1.2.2.1) v81 (List.map (fun y : (.flt .f32 : Sh).T => y) x.2.1.1) v93 (List.map (fun y : (.flt .f32 : Sh).T => y) x.2.1.2.1.1) x.2.1.2.1.2.1 x.2.1.2.2.1.1 x.2.1.2.2.1.2.1 v120 (List.map (fun y : (.flt .f32 : Sh).T => y) x.2.1.2.2.1.2.2.1) x.2.1.2.2.2.1.1 x.2.1.2.2.2.1.2.1 v142 (List.map (fun y : (.bool : Sh).T => y) x.2.1.2.2.2.1.2.2.1) (came_sep H) (came_shows q10) (came_shows q22) (came_shows q49) (came_shows q71) (came_shows q82) (came_shows q94) (came_shows q121) (came_shows q143) (fun b => b = true) (pureExactSameDesk (List.map (fun y : (.flt .f32 : Sh).T => y) x.1.1) (List.map (fun y : (.flt .f32 : Sh).T => y) x.1.2.1.1) x.1.2.1.2.1 x.1.2.2.1.1 x.1.2.2.1.2.1 (List.map (fun y : (.flt .f32 : Sh).T => y) x.1.2.2.1.2.2.1) x.1.2.2.2.1.1 x.1.2.2.2.1.2.1 (List.map (fun y : (.bool : Sh).T => y) x.1.2.2.2.1.2.2.1) (List.map (fun y : (.flt .f32 : Sh).T => y) x.2.1.1) (List.map (fun y : (.flt .f32 : Sh).T => y) x.2.1.2.1.1) x.2.1.2.1.2.1 x.2.1.2.2.1.1 x.2.1.2.2.1.2.1 (List.map (fun y : (.flt .f32 : Sh).T => y) x.2.1.2.2.1.2.2.1) x.2.1.2.2.2.1.1 x.2.1.2.2.2.1.2.1 (List.map (fun y : (.bool : Sh).T => y) x.2.1.2.2.2.1.2.2.1) (le_map m11) (le_map m23) (flt_lt w29) (le_map m50) (le_map m72) (le_map m83) (le_map m95) (flt_lt w101) (le_map m122) (le_map m144) a12 a24 a51 a84 a96 a123)) (fun r H2 hh => by obtain ⟨y, hy, rfl, _⟩ := hh; subst hy; rfl)
end Go.Proofs.Ytpeijfnfffogeaa.G

namespace Go.Proofs.Ytpeijfnfffogeaa.fnExactSameDesk
open Go.ChangeShapes Go.WideShapes Go.ChangeAt Go.RowKit Go.Proofs.Ytpeijfnfffogeaa
theorem own : ownKnob Try.prog.godebug = none := by kernel_rfl
theorem laidOut : laidOutB Try.prog = true := by kernel_rfl
set_option maxRecDepth 100000 in
theorem lifted (os : Os) (started : os.Started) (H : Type) (enc : TypeId × Value → H) :
    ReturnsInHanded {} Try.checked os 4 .any (Rows.fnExactSameDeskSpec.pre6 enc Try.prog Try.f4 Rows.fnExactSameDeskRow.domain false) (Rows.fnExactSameDeskSpec.post enc Try.prog Try.f4 false true false false) := by
  refine returnsInHanded_of_change_sized (C := Try.checked) own started (by kernel_rfl) Try.func4
    (ChangeSpec.witness6 (enc := enc) (C := Try.checked) false ⟨#[], #[.agg #[.slice none 0 0, .slice none 0 0, .float .f32 0, .int .i64 0, .int .i64 0, .slice none 0 0, .int .i64 0, .int .i64 0, .slice none 0 0], .agg #[.slice none 0 0, .slice none 0 0, .float .f32 0, .int .i64 0, .int .i64 0, .slice none 0 0, .int .i64 0, .int .i64 0, .slice none 0 0]], []⟩ 8 (by kernel_rfl) (by kernel_rfl) (by kernel_rfl) (by kernel_rfl)) ?_
  intro w0 base args ds gs before hval hW hcnd hsz0 _
  have hW' := hW
  obtain ⟨p, q, hA0, hV, rfl, hfz, hnd⟩ := hW
  have hA : DataW.TrodAll enc Try.prog w0 0 (fun _ => true) true Try.f4.params.toList args.toList ds p := hA0
  rw [Try.params4] at hA
  have hA1 := hA
  obtain ⟨v0, vs0, d0, ds0, p0, q0, hargs, rfl, rfl, h0, r0⟩ := trodAll_cons hA
  obtain ⟨v1, vs1, d1, ds1, p1, q1, rfl, rfl, rfl, h1, r1⟩ := trodAll_cons r0
  obtain ⟨rfl, rfl, rfl⟩ := trodAll_nil r1
  obtain ⟨rfl, rfl⟩ := trodVars_none hV
  refine (Ab.law_calls (ss := G.shapesExactSameDesk) (d := 8) Try.call4 (by kernel_rfl) (fun H x vs _ h => G.argsExactSameDesk H x vs h) hA1 (fun j t v h1 h2 => hval j t v (by rw [← Array.getElem?_toList, Try.params4]; exact h1) h2)).mono fun e W' ⟨he, bel⟩ => ?_
  subst he
  exact ⟨_, rfl, _, _, _, [], _, [], hW', trodAll_mk1 (shut_bool Try.underlying4 _), Ab.trodAll_stays laidOut bel _ _ _ _ (of_decide_eq_true (by kernel_rfl)) hA1, rfl, bel.frame _, fun h => by cases h⟩
theorem over : Rows.fnExactSameDeskRow.holds Try.pinned (OpenSpec.ofChange Rows.fnExactSameDeskSpec) :=
  OpenClaim.holds_of_wide 4 Try.f4 rfl rfl rfl rfl rfl rfl rfl ⟨rfl, rfl, rfl, rfl, rfl⟩ rfl rfl rfl rfl rfl (by kernel_rfl) Try.func4 (by kernel_rfl)
    (of_decide_eq_true (by kernel_rfl)) (by unfold Func.isWrapper; first | (rw [if_pos (by decide +kernel)]; kernel_rfl) | (rw [if_neg (by decide +kernel)]; exact ⟨rfl, rfl⟩))
    (fun os started H enc _ => lifted os started H enc)
theorem proved : Rows.FnExactSameDeskSaid := over
#print axioms proved
end Go.Proofs.Ytpeijfnfffogeaa.fnExactSameDesk
namespace Go.Proofs.Ytpeijfnfffogeaa
/-- The row, under a short name, for the claim. -/
theorem fnExactSameDesk_holds : Rows.FnExactSameDeskSaid := fnExactSameDesk.proved
end Go.Proofs.Ytpeijfnfffogeaa

