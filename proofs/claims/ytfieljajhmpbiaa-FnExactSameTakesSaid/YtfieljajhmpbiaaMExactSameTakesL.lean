/-
  The law FnExactSameTakes answers true for all arguments, and leaves what was there. No conditions.
-/
import Derived.Test.YtfieljajhmpbiaaMExactSameTakesKa
import Derived.Test.YtfieljajhmpbiaaMExactSameTakesUa
import Derived.Test.YtfieljajhmpbiaaAbI
import Derived.Test.YtfieljajhmpbiaaRows
import Derived.Test.YtfieljajhmpbiaaChecked
import Derived.WalkKit
import Derived.ProofKit
import Derived.OpenShut
import Derived.ShutString
import Derived.ChangeOld
import Derived.Below
import Derived.SizedLaws
namespace Go.Proofs.Ytfieljajhmpbiaa.G
open Go Go.Ab Go.Proofs Go.Proofs.Ytfieljajhmpbiaa
set_option maxRecDepth 100000
set_option linter.unusedVariables false
set_option linter.unusedSimpArgs false
set_option maxHeartbeats 1000000
theorem lies_all {H : Heap} {e : Sh} {α : Type} {g : e.T → α} {p : α → Prop} (hp : ∀ x c, Lies H e x c → p (g x)) {l : List e.T} {cs : List AV} (h : Lies H (.sl e) l cs) : ∀ y ∈ l.map g, p y := by
  obtain ⟨id, parts, _, _, _, _, hq⟩ := h
  have key : ∀ (xs : List e.T) (ps : List (List AV)), All2 (fun x c => Lies H e x c) xs ps → ∀ y ∈ xs.map g, p y := by
    intro xs
    induction xs with
    | nil => intro ps _ y hy; cases hy
    | cons x xs ih =>
      intro ps hps y hy
      cases ps with
      | nil => exact hps.elim
      | cons c ps =>
        rw [List.map_cons, List.mem_cons] at hy
        rcases hy with rfl | hy
        · exact hp x c hps.1
        · exact ih ps hps.2 y hy
  exact key l parts hq
theorem flt_lt {k : FloatKind} {c : Nat} (h : ∃ b, (Lit.float k b).wf = true ∧ cz k b = c) : c < 2 ^ (match k with | .f32 => 32 | .f64 => 64) := by
  obtain ⟨b, h1, rfl⟩ := h
  have hb : b < 2 ^ (match k with | .f32 => 32 | .f64 => 64) := by
    cases k <;> simpa [Lit.wf] using h1
  unfold cz
  split
  · cases k <;> decide
  · exact hb
theorem shows_id {H : Heap} {w : AV} {n : Nat} {α : Type} {e : α → List AV} {l : List α} (h : Shows H w n (enc e (List.map (fun y => y) l))) : Shows H w n (enc e l) := by rw [List.map_id'] at h; exact h
theorem all_id {α : Type} {p : α → Prop} {l : List α} (h : ∀ y ∈ List.map (fun y => y) l, p y) : ∀ y ∈ l, p y := by rw [List.map_id'] at h; exact h
theorem came_deep {H : Heap} {e : Sh} {α : Type} {R : Heap → α → List AV → Prop} {g : e.T → α} {n : Nat} (hn : e.size = n) (hR : ∀ x c, Lies H e x c → ∀ H', Sep H' (came H) → R H' (g x) c) {l : List e.T} {cs : List AV} (h : Lies H (.sl e) l cs) : ∃ v ws, cs = [v] ∧ (∀ H', Sep H' (came H) → DSh H' v n R (l.map g) ws) ∧ l.length ≤ maxLen := by
  obtain ⟨id, parts, h1, h2, h3, h4, h5⟩ := h
  have hs : ∀ c ∈ parts, c.length = n := by
    have key : ∀ (xs : List e.T) (ps : List (List AV)), All2 (fun x c => Lies H e x c) xs ps → ∀ c ∈ ps, c.length = n := by
      intro xs
      induction xs with
      | nil => intro ps hp c hc; cases ps with
        | nil => cases hc
        | cons p ps => exact hp.elim
      | cons x xs ih => intro ps hp c hc; cases ps with
        | nil => cases hc
        | cons p ps =>
          rw [List.mem_cons] at hc
          rcases hc with rfl | hc
          · rw [hp.1.len, hn]
          · exact ih ps hp.2 c hc
    exact key l parts h5
  have hlen : parts.length = l.length := h5.len.symm
  have hfn : (enc (_root_.id : List AV → List AV) parts).length = l.length * n := by
    rw [← hlen]
    have key : ∀ ps : List (List AV), (∀ c ∈ ps, c.length = n) → (enc (_root_.id : List AV → List AV) ps).length = ps.length * n := by
      intro ps
      induction ps with
      | nil => intro _; simp [enc]
      | cons p ps ih => intro hp; rw [enc_cons, List.length_append, ih (fun c hc => hp c (List.mem_cons_of_mem _ hc)), List.length_cons, Nat.succ_mul, show (_root_.id p : List AV) = p from rfl, hp p (List.mem_cons_self ..)]; omega
    exact key parts hs
  have hrow : Row H id 0 (enc (_root_.id : List AV → List AV) parts) := by
    rw [show enc (_root_.id : List AV → List AV) parts = parts.flatten by rw [enc, List.flatMap_id]]
    rcases h4 with ⟨rfl, hg⟩ | hg
    · cases parts with
      | nil => exact ⟨h2, by rw [hg]; exact Nat.zero_le _, rfl⟩
      | cons p ps => exact h5.elim
    · exact Row.of_f h2 (by rw [hg]; rfl)
  refine ⟨_, parts, h1, fun H' hs' => ⟨came_shows (.inr ⟨id, 0, l.length, by rw [hn], hfn, hrow⟩) H' hs', hs, ?_⟩, h3⟩
  have key : ∀ (xs : List e.T) (ps : List (List AV)), All2 (fun x c => Lies H e x c) xs ps → All2 (R H') (xs.map g) ps := by
    intro xs
    induction xs with
    | nil => intro ps hp; cases ps with
      | nil => trivial
      | cons p ps => exact hp.elim
    | cons x xs ih => intro ps hp; cases ps with
      | nil => exact hp.elim
      | cons p ps => exact ⟨hR x p hp.1 H' hs', ih ps hp.2⟩
  exact key l parts h5
theorem le_map {α β : Type} {f : α → β} {l : List α} {n : Nat} (h : l.length ≤ n) : (l.map f).length ≤ n := by rw [List.length_map]; exact h
def shapesExactSameTakes : List Sh := [.sl (.pair (.str) (.pair (.int .i64) (.pair (.sl (.flt .f32)) (.unit)))), .sl (.pair (.str) (.pair (.int .i64) (.pair (.sl (.flt .f32)) (.unit))))]
theorem argsExactSameTakes (H : Heap) (x : (argSh shapesExactSameTakes).T) (vs : List TV) (h : LiesArgs H shapesExactSameTakes x vs) : ∃ H2, Ok Try.prog 10 vs H (.v (.bool true)) H2 := by
  obtain ⟨c1, r2, rfl, h3, t4⟩ := h
  have a8 := lies_all (g := fun y : ((.pair (.str) (.pair (.int .i64) (.pair (.sl (.flt .f32)) (.unit))) : Sh)).T => ((y.1).data.toList, y.2.1, y.2.2.1)) (p := fun z : (List UInt8) × (Int) × (List (Nat)) => z.1.length ≤ maxLen ∧ z.2.2.length ≤ maxLen ∧ (∀ y ∈ z.2.2, y < 2 ^ 32) ∧ True) (fun y c hy => (by obtain ⟨c1_0, e1_0, rfl, h1_0, t1_0⟩ := hy; obtain ⟨rfl, b2⟩ := h1_0; obtain ⟨c1_1, e1_1, rfl, h1_1, t1_1⟩ := t1_0; obtain ⟨rfl, _⟩ := h1_1; obtain ⟨c1_2, e1_2, rfl, h1_2, t1_2⟩ := t1_1; have a4 := lies_all (g := fun y : ((.flt .f32 : Sh)).T => y) (p := fun y : Nat => y < 2 ^ 32) (fun y c hy => flt_lt hy.2) h1_2; obtain ⟨w4, rfl, q4, m4⟩ := lies_flat (n := 1) (f := (eFlt .f32)) (g := fun y : (.flt .f32 : Sh).T => y) rfl (fun y c hy => hy.1) h1_2; replace q4 := shows_id q4; replace a4 := all_id a4; obtain rfl := t1_2; exact ⟨(by rw [Array.length_toList]; exact b2), m4, a4, trivial⟩)) h3
  obtain ⟨v5, v9, rfl, q6, m7⟩ := came_deep (n := 3) (R := R_s_ii64_LeFlt_f32_poooq) (g := fun y : ((.pair (.str) (.pair (.int .i64) (.pair (.sl (.flt .f32)) (.unit))) : Sh)).T => ((y.1).data.toList, y.2.1, y.2.2.1)) rfl (fun y c hy H9 hs9 => (by obtain ⟨c1_0, e1_0, rfl, h1_0, t1_0⟩ := hy; obtain ⟨rfl, b2⟩ := h1_0; obtain ⟨c1_1, e1_1, rfl, h1_1, t1_1⟩ := t1_0; obtain ⟨rfl, _⟩ := h1_1; obtain ⟨c1_2, e1_2, rfl, h1_2, t1_2⟩ := t1_1; have a4 := lies_all (g := fun y : ((.flt .f32 : Sh)).T => y) (p := fun y : Nat => y < 2 ^ 32) (fun y c hy => flt_lt hy.2) h1_2; obtain ⟨w4, rfl, q4, m4⟩ := lies_flat (n := 1) (f := (eFlt .f32)) (g := fun y : (.flt .f32 : Sh).T => y) rfl (fun y c hy => hy.1) h1_2; replace q4 := shows_id q4; replace a4 := all_id a4; obtain rfl := t1_2; exact ⟨by first | rfl | (rw [pk_of]; rfl) | (simp only [pk_of]; rfl), came_shows q4 _ hs9⟩)) h3
  obtain ⟨c10, r11, rfl, h12, t13⟩ := t4
  have a17 := lies_all (g := fun y : ((.pair (.str) (.pair (.int .i64) (.pair (.sl (.flt .f32)) (.unit))) : Sh)).T => ((y.1).data.toList, y.2.1, y.2.2.1)) (p := fun z : (List UInt8) × (Int) × (List (Nat)) => z.1.length ≤ maxLen ∧ z.2.2.length ≤ maxLen ∧ (∀ y ∈ z.2.2, y < 2 ^ 32) ∧ True) (fun y c hy => (by obtain ⟨c1_0, e1_0, rfl, h1_0, t1_0⟩ := hy; obtain ⟨rfl, b2⟩ := h1_0; obtain ⟨c1_1, e1_1, rfl, h1_1, t1_1⟩ := t1_0; obtain ⟨rfl, _⟩ := h1_1; obtain ⟨c1_2, e1_2, rfl, h1_2, t1_2⟩ := t1_1; have a4 := lies_all (g := fun y : ((.flt .f32 : Sh)).T => y) (p := fun y : Nat => y < 2 ^ 32) (fun y c hy => flt_lt hy.2) h1_2; obtain ⟨w4, rfl, q4, m4⟩ := lies_flat (n := 1) (f := (eFlt .f32)) (g := fun y : (.flt .f32 : Sh).T => y) rfl (fun y c hy => hy.1) h1_2; replace q4 := shows_id q4; replace a4 := all_id a4; obtain rfl := t1_2; exact ⟨(by rw [Array.length_toList]; exact b2), m4, a4, trivial⟩)) h12
  obtain ⟨v14, v18, rfl, q15, m16⟩ := came_deep (n := 3) (R := R_s_ii64_LeFlt_f32_poooq) (g := fun y : ((.pair (.str) (.pair (.int .i64) (.pair (.sl (.flt .f32)) (.unit))) : Sh)).T => ((y.1).data.toList, y.2.1, y.2.2.1)) rfl (fun y c hy H9 hs9 => (by obtain ⟨c1_0, e1_0, rfl, h1_0, t1_0⟩ := hy; obtain ⟨rfl, b2⟩ := h1_0; obtain ⟨c1_1, e1_1, rfl, h1_1, t1_1⟩ := t1_0; obtain ⟨rfl, _⟩ := h1_1; obtain ⟨c1_2, e1_2, rfl, h1_2, t1_2⟩ := t1_1; have a4 := lies_all (g := fun y : ((.flt .f32 : Sh)).T => y) (p := fun y : Nat => y < 2 ^ 32) (fun y c hy => flt_lt hy.2) h1_2; obtain ⟨w4, rfl, q4, m4⟩ := lies_flat (n := 1) (f := (eFlt .f32)) (g := fun y : (.flt .f32 : Sh).T => y) rfl (fun y c hy => hy.1) h1_2; replace q4 := shows_id q4; replace a4 := all_id a4; obtain rfl := t1_2; exact ⟨by first | rfl | (rw [pk_of]; rfl) | (simp only [pk_of]; rfl), came_shows q4 _ hs9⟩)) h12
  obtain rfl := t13
  exact okq_true (laws_FnExactSameTakes_ok v5 v9 (List.map (fun y : (.pair (.str) (.pair (.int .i64) (.pair (.sl (.flt .f32)) (.unit))) : Sh).T => ((y.1).data.toList, y.2.1, y.2.2.1)) x.1) v14 v18 (List.map (fun y : (.pair (.str) (.pair (.int .i64) (.pair (.sl (.flt .f32)) (.unit))) : Sh).T => ((y.1).data.toList, y.2.1, y.2.2.1)) x.2.1) (came_sep H) q6 q15 (fun b => b = true) (pureExactSameTakes (List.map (fun y : (.pair (.str) (.pair (.int .i64) (.pair (.sl (.flt .f32)) (.unit))) : Sh).T => ((y.1).data.toList, y.2.1, y.2.2.1)) x.1) (List.map (fun y : (.pair (.str) (.pair (.int .i64) (.pair (.sl (.flt .f32)) (.unit))) : Sh).T => ((y.1).data.toList, y.2.1, y.2.2.1)) x.2.1) (le_map m7) (le_map m16) a8 a17)) (fun r H2 hh => by obtain ⟨y, hy, rfl, _⟩ := hh; subst hy; rfl)
end Go.Proofs.Ytfieljajhmpbiaa.G

namespace Go.Proofs.Ytfieljajhmpbiaa.fnExactSameTakes
open Go.ChangeShapes Go.WideShapes Go.ChangeAt Go.RowKit Go.Proofs.Ytfieljajhmpbiaa
theorem own : ownKnob Try.prog.godebug = none := by kernel_rfl
theorem laidOut : laidOutB Try.prog = true := by kernel_rfl
set_option maxRecDepth 100000 in
theorem lifted (os : Os) (started : os.Started) (H : Type) (enc : TypeId × Value → H) :
    ReturnsInHanded {} Try.checked os 10 .any (Rows.fnExactSameTakesSpec.pre6 enc Try.prog Try.f10 Rows.fnExactSameTakesRow.domain false) (Rows.fnExactSameTakesSpec.post enc Try.prog Try.f10 false true false false) := by
  refine returnsInHanded_of_change_sized (C := Try.checked) own started (by kernel_rfl) Try.func10
    (ChangeSpec.witness6 (enc := enc) (C := Try.checked) false ⟨#[], #[.slice none 0 0, .slice none 0 0], []⟩ 8 (by kernel_rfl) (by kernel_rfl) (by kernel_rfl) (by kernel_rfl)) ?_
  intro w0 base args ds gs before hval hW hcnd hsz0 _
  have hW' := hW
  obtain ⟨p, q, hA0, hV, rfl, hfz, hnd⟩ := hW
  have hA : DataW.TrodAll enc Try.prog w0 0 (fun _ => true) true Try.f10.params.toList args.toList ds p := hA0
  rw [Try.params10] at hA
  have hA1 := hA
  obtain ⟨v0, vs0, d0, ds0, p0, q0, hargs, rfl, rfl, h0, r0⟩ := trodAll_cons hA
  obtain ⟨v1, vs1, d1, ds1, p1, q1, rfl, rfl, rfl, h1, r1⟩ := trodAll_cons r0
  obtain ⟨rfl, rfl, rfl⟩ := trodAll_nil r1
  obtain ⟨rfl, rfl⟩ := trodVars_none hV
  refine (Ab.law_calls (ss := G.shapesExactSameTakes) (d := 8) Try.call10 (by kernel_rfl) (fun H x vs _ h => G.argsExactSameTakes H x vs h) hA1 (fun j t v h1 h2 => hval j t v (by rw [← Array.getElem?_toList, Try.params10]; exact h1) h2)).mono fun e W' ⟨he, bel⟩ => ?_
  subst he
  exact ⟨_, rfl, _, _, _, [], _, [], hW', trodAll_mk1 (shut_bool Try.underlying4 _), Ab.trodAll_stays laidOut bel _ _ _ _ (of_decide_eq_true (by kernel_rfl)) hA1, rfl, bel.frame _, fun h => by cases h⟩
theorem over : Rows.fnExactSameTakesRow.holds Try.pinned (OpenSpec.ofChange Rows.fnExactSameTakesSpec) :=
  OpenClaim.holds_of_wide 10 Try.f10 rfl rfl rfl rfl rfl rfl rfl ⟨rfl, rfl, rfl, rfl, rfl⟩ rfl rfl rfl rfl rfl (by kernel_rfl) Try.func10 (by kernel_rfl)
    (of_decide_eq_true (by kernel_rfl)) (by unfold Func.isWrapper; first | (rw [if_pos (by decide +kernel)]; kernel_rfl) | (rw [if_neg (by decide +kernel)]; exact ⟨rfl, rfl⟩))
    (fun os started H enc _ => lifted os started H enc)
theorem proved : Rows.FnExactSameTakesSaid := over
#print axioms proved
end Go.Proofs.Ytfieljajhmpbiaa.fnExactSameTakes
namespace Go.Proofs.Ytfieljajhmpbiaa
/-- The row, under a short name, for the claim. -/
theorem fnExactSameTakes_holds : Rows.FnExactSameTakesSaid := fnExactSameTakes.proved
end Go.Proofs.Ytfieljajhmpbiaa

