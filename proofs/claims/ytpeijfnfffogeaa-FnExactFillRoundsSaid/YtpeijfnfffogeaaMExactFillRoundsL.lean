/-
  The law FnExactFillRounds answers true for all arguments, and leaves what was there. No conditions.
-/
import Derived.Test.YtpeijfnfffogeaaMExactFillRoundsKb
import Derived.Test.YtpeijfnfffogeaaMExactFillRoundsUa
import Derived.Test.YtpeijfnfffogeaaAbI
import Derived.Test.YtpeijfnfffogeaaRows
import Derived.Test.YtpeijfnfffogeaaChecked
import Derived.WalkKit
import Derived.ProofKit
import Derived.OpenShut
import Derived.ShutString
import Derived.ChangeOld
import Derived.Below
import Derived.SizedLaws
namespace Go.Proofs.Ytpeijfnfffogeaa.G
open Go Go.Ab Go.Proofs Go.Proofs.Ytpeijfnfffogeaa
set_option maxRecDepth 100000
set_option linter.unusedVariables false
set_option linter.unusedSimpArgs false
set_option maxHeartbeats 1000000
theorem lies_all {H : Heap} {e : Sh} {α : Type} {g : e.T → α} {p : α → Prop} (hp : ∀ x c, Lies H e x c → p (g x)) {l : List e.T} {cs : List AV} (h : Lies H (.sl e) l cs) : ∀ y ∈ l.map g, p y := by
  obtain ⟨id, parts, _, _, _, _, hq⟩ := h
  have key : ∀ (xs : List e.T) (ps : List (List AV)), All2 (fun x c => Lies H e x c) xs ps → ∀ y ∈ xs.map g, p y := by
    intro xs
    induction xs with
    | nil => intro ps _ y hy; cases hy
    | cons x xs ih =>
      intro ps hps y hy
      cases ps with
      | nil => exact hps.elim
      | cons c ps =>
        rw [List.map_cons, List.mem_cons] at hy
        rcases hy with rfl | hy
        · exact hp x c hps.1
        · exact ih ps hps.2 y hy
  exact key l parts hq
theorem flt_lt {k : FloatKind} {c : Nat} (h : ∃ b, (Lit.float k b).wf = true ∧ cz k b = c) : c < 2 ^ (match k with | .f32 => 32 | .f64 => 64) := by
  obtain ⟨b, h1, rfl⟩ := h
  have hb : b < 2 ^ (match k with | .f32 => 32 | .f64 => 64) := by
    cases k <;> simpa [Lit.wf] using h1
  unfold cz
  split
  · cases k <;> decide
  · exact hb
theorem byt_lt {y : Int} (h : (Lit.int .u8 y).wf = true) : 0 ≤ y ∧ y < 256 := by
  simp only [Lit.wf, Bool.and_eq_true, decide_eq_true_eq] at h
  have a : (0 : Int) ≤ y := h.1
  have b : y ≤ 255 := h.2
  exact ⟨a, by omega⟩
theorem shows_id {H : Heap} {w : AV} {n : Nat} {α : Type} {e : α → List AV} {l : List α} (h : Shows H w n (enc e (List.map (fun y => y) l))) : Shows H w n (enc e l) := by rw [List.map_id'] at h; exact h
theorem all_id {α : Type} {p : α → Prop} {l : List α} (h : ∀ y ∈ List.map (fun y => y) l, p y) : ∀ y ∈ l, p y := by rw [List.map_id'] at h; exact h
theorem came_deep {H : Heap} {e : Sh} {α : Type} {R : Heap → α → List AV → Prop} {g : e.T → α} {n : Nat} (hn : e.size = n) (hR : ∀ x c, Lies H e x c → ∀ H', Sep H' (came H) → R H' (g x) c) {l : List e.T} {cs : List AV} (h : Lies H (.sl e) l cs) : ∃ v ws, cs = [v] ∧ (∀ H', Sep H' (came H) → DSh H' v n R (l.map g) ws) ∧ l.length ≤ maxLen := by
  obtain ⟨id, parts, h1, h2, h3, h4, h5⟩ := h
  have hs : ∀ c ∈ parts, c.length = n := by
    have key : ∀ (xs : List e.T) (ps : List (List AV)), All2 (fun x c => Lies H e x c) xs ps → ∀ c ∈ ps, c.length = n := by
      intro xs
      induction xs with
      | nil => intro ps hp c hc; cases ps with
        | nil => cases hc
        | cons p ps => exact hp.elim
      | cons x xs ih => intro ps hp c hc; cases ps with
        | nil => cases hc
        | cons p ps =>
          rw [List.mem_cons] at hc
          rcases hc with rfl | hc
          · rw [hp.1.len, hn]
          · exact ih ps hp.2 c hc
    exact key l parts h5
  have hlen : parts.length = l.length := h5.len.symm
  have hfn : (enc (_root_.id : List AV → List AV) parts).length = l.length * n := by
    rw [← hlen]
    have key : ∀ ps : List (List AV), (∀ c ∈ ps, c.length = n) → (enc (_root_.id : List AV → List AV) ps).length = ps.length * n := by
      intro ps
      induction ps with
      | nil => intro _; simp [enc]
      | cons p ps ih => intro hp; rw [enc_cons, List.length_append, ih (fun c hc => hp c (List.mem_cons_of_mem _ hc)), List.length_cons, Nat.succ_mul, show (_root_.id p : List AV) = p from rfl, hp p (List.mem_cons_self ..)]; omega
    exact key parts hs
  have hrow : Row H id 0 (enc (_root_.id : List AV → List AV) parts) := by
    rw [show enc (_root_.id : List AV → List AV) parts = parts.flatten by rw [enc, List.flatMap_id]]
    rcases h4 with ⟨rfl, hg⟩ | hg
    · cases parts with
      | nil => exact ⟨h2, by rw [hg]; exact Nat.zero_le _, rfl⟩
      | cons p ps => exact h5.elim
    · exact Row.of_f h2 (by rw [hg]; rfl)
  refine ⟨_, parts, h1, fun H' hs' => ⟨came_shows (.inr ⟨id, 0, l.length, by rw [hn], hfn, hrow⟩) H' hs', hs, ?_⟩, h3⟩
  have key : ∀ (xs : List e.T) (ps : List (List AV)), All2 (fun x c => Lies H e x c) xs ps → All2 (R H') (xs.map g) ps := by
    intro xs
    induction xs with
    | nil => intro ps hp; cases ps with
      | nil => trivial
      | cons p ps => exact hp.elim
    | cons x xs ih => intro ps hp; cases ps with
      | nil => exact hp.elim
      | cons p ps => exact ⟨hR x p hp.1 H' hs', ih ps hp.2⟩
  exact key l parts h5
theorem le_map {α β : Type} {f : α → β} {l : List α} {n : Nat} (h : l.length ≤ n) : (l.map f).length ≤ n := by rw [List.length_map]; exact h
def shapesExactFillRounds : List Sh := [.sl (.flt .f32), .sl (.bool), .pair (.sl (.flt .f32)) (.unit), .int .i64, .flt .f32, .flt .f32, .int .i64]
theorem argsExactFillRounds (H : Heap) (x : (argSh shapesExactFillRounds).T) (vs : List TV) (h : LiesArgs H shapesExactFillRounds x vs) : ∃ H2, Ok Try.prog 8 vs H (.v (.bool true)) H2 := by
  obtain ⟨c1, r2, rfl, h3, t4⟩ := h
  have a8 := lies_all (g := fun y : ((.flt .f32 : Sh)).T => y) (p := fun y : Nat => y < 2 ^ 32) (fun y c hy => flt_lt hy.2) h3
  obtain ⟨v5, rfl, q6, m7⟩ := lies_flat (n := 1) (f := (eFlt .f32)) (g := fun y : ((.flt .f32 : Sh)).T => y) rfl (fun y c hy => hy.1) h3
  obtain ⟨c9, r10, rfl, h11, t12⟩ := t4
  obtain ⟨v13, rfl, q14, m15⟩ := lies_flat (n := 1) (f := eBool) (g := fun y : ((.bool : Sh)).T => y) rfl (fun y c hy => hy) h11
  obtain ⟨c16, r17, rfl, h18, t19⟩ := t12
  obtain ⟨c20, e21, rfl, h22, t23⟩ := h18
  have a27 := lies_all (g := fun y : ((.flt .f32 : Sh)).T => y) (p := fun y : Nat => y < 2 ^ 32) (fun y c hy => flt_lt hy.2) h22
  obtain ⟨v24, rfl, q25, m26⟩ := lies_flat (n := 1) (f := (eFlt .f32)) (g := fun y : ((.flt .f32 : Sh)).T => y) rfl (fun y c hy => hy.1) h22
  obtain rfl := t23
  obtain ⟨c28, r29, rfl, h30, t31⟩ := t19
  obtain ⟨rfl, w32⟩ := h30
  obtain ⟨c33, r34, rfl, h35, t36⟩ := t31
  obtain ⟨rfl, w37⟩ := h35
  obtain ⟨c38, r39, rfl, h40, t41⟩ := t36
  obtain ⟨rfl, w42⟩ := h40
  obtain ⟨c43, r44, rfl, h45, t46⟩ := t41
  obtain ⟨rfl, w47⟩ := h45
  obtain rfl := t46
  exact okq_true (laws_FnExactFillRounds_ok v5 (List.map (fun y : (.flt .f32 : Sh).T => y) x.1) v13 (List.map (fun y : (.bool : Sh).T => y) x.2.1) v24 (List.map (fun y : (.flt .f32 : Sh).T => y) x.2.2.1.1) x.2.2.2.1 x.2.2.2.2.1 x.2.2.2.2.2.1 x.2.2.2.2.2.2.1 (came_sep H) (came_shows q6) (came_shows q14) (came_shows q25) (fun b => b = true) (pureExactFillRounds (List.map (fun y : (.flt .f32 : Sh).T => y) x.1) (List.map (fun y : (.bool : Sh).T => y) x.2.1) (List.map (fun y : (.flt .f32 : Sh).T => y) x.2.2.1.1) x.2.2.2.1 x.2.2.2.2.1 x.2.2.2.2.2.1 x.2.2.2.2.2.2.1 (le_map m26))) (fun r H2 hh => by obtain ⟨y, hy, rfl, _⟩ := hh; subst hy; rfl)
end Go.Proofs.Ytpeijfnfffogeaa.G

namespace Go.Proofs.Ytpeijfnfffogeaa.fnExactFillRounds
open Go.ChangeShapes Go.WideShapes Go.ChangeAt Go.RowKit Go.Proofs.Ytpeijfnfffogeaa
theorem own : ownKnob Try.prog.godebug = none := by kernel_rfl
theorem laidOut : laidOutB Try.prog = true := by kernel_rfl
set_option maxRecDepth 100000 in
theorem lifted (os : Os) (started : os.Started) (H : Type) (enc : TypeId × Value → H) :
    ReturnsInHanded {} Try.checked os 8 .any (Rows.fnExactFillRoundsSpec.pre6 enc Try.prog Try.f8 Rows.fnExactFillRoundsRow.domain false) (Rows.fnExactFillRoundsSpec.post enc Try.prog Try.f8 false true false false) := by
  refine returnsInHanded_of_change_sized (C := Try.checked) own started (by kernel_rfl) Try.func8
    (ChangeSpec.witness6 (enc := enc) (C := Try.checked) false ⟨#[], #[.slice none 0 0, .slice none 0 0, .agg #[.slice none 0 0], .int .i64 0, .float .f32 0, .float .f32 0, .int .i64 0], []⟩ 8 (by kernel_rfl) (by kernel_rfl) (by kernel_rfl) (by kernel_rfl)) ?_
  intro w0 base args ds gs before hval hW hcnd hsz0 _
  have hW' := hW
  obtain ⟨p, q, hA0, hV, rfl, hfz, hnd⟩ := hW
  have hA : DataW.TrodAll enc Try.prog w0 0 (fun _ => true) true Try.f8.params.toList args.toList ds p := hA0
  rw [Try.params8] at hA
  have hA1 := hA
  obtain ⟨v0, vs0, d0, ds0, p0, q0, hargs, rfl, rfl, h0, r0⟩ := trodAll_cons hA
  obtain ⟨v1, vs1, d1, ds1, p1, q1, rfl, rfl, rfl, h1, r1⟩ := trodAll_cons r0
  obtain ⟨v2, vs2, d2, ds2, p2, q2, rfl, rfl, rfl, h2, r2⟩ := trodAll_cons r1
  obtain ⟨v3, vs3, d3, ds3, p3, q3, rfl, rfl, rfl, h3, r3⟩ := trodAll_cons r2
  obtain ⟨v4, vs4, d4, ds4, p4, q4, rfl, rfl, rfl, h4, r4⟩ := trodAll_cons r3
  obtain ⟨v5, vs5, d5, ds5, p5, q5, rfl, rfl, rfl, h5, r5⟩ := trodAll_cons r4
  obtain ⟨v6, vs6, d6, ds6, p6, q6, rfl, rfl, rfl, h6, r6⟩ := trodAll_cons r5
  obtain ⟨rfl, rfl, rfl⟩ := trodAll_nil r6
  obtain ⟨rfl, rfl⟩ := trodVars_none hV
  refine (Ab.law_calls (ss := G.shapesExactFillRounds) (d := 8) Try.call8 (by kernel_rfl) (fun H x vs _ h => G.argsExactFillRounds H x vs h) hA1 (fun j t v h1 h2 => hval j t v (by rw [← Array.getElem?_toList, Try.params8]; exact h1) h2)).mono fun e W' ⟨he, bel⟩ => ?_
  subst he
  exact ⟨_, rfl, _, _, _, [], _, [], hW', trodAll_mk1 (shut_bool Try.underlying4 _), Ab.trodAll_stays laidOut bel _ _ _ _ (of_decide_eq_true (by kernel_rfl)) hA1, rfl, bel.frame _, fun h => by cases h⟩
theorem over : Rows.fnExactFillRoundsRow.holds Try.pinned (OpenSpec.ofChange Rows.fnExactFillRoundsSpec) :=
  OpenClaim.holds_of_wide 8 Try.f8 rfl rfl rfl rfl rfl rfl rfl ⟨rfl, rfl, rfl, rfl, rfl⟩ rfl rfl rfl rfl rfl (by kernel_rfl) Try.func8 (by kernel_rfl)
    (of_decide_eq_true (by kernel_rfl)) (by unfold Func.isWrapper; first | (rw [if_pos (by decide +kernel)]; kernel_rfl) | (rw [if_neg (by decide +kernel)]; exact ⟨rfl, rfl⟩))
    (fun os started H enc _ => lifted os started H enc)
theorem proved : Rows.FnExactFillRoundsSaid := over
#print axioms proved
end Go.Proofs.Ytpeijfnfffogeaa.fnExactFillRounds
namespace Go.Proofs.Ytpeijfnfffogeaa
/-- The row, under a short name, for the claim. -/
theorem fnExactFillRounds_holds : Rows.FnExactFillRoundsSaid := fnExactFillRounds.proved
end Go.Proofs.Ytpeijfnfffogeaa

