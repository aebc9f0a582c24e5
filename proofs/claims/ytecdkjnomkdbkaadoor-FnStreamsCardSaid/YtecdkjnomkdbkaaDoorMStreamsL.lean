/-
  The law FnStreams answers true for all arguments, and leaves what was there. No conditions.
-/
import Derived.Test.YtecdkjnomkdbkaaDoorMStreamsKb
import Derived.Test.YtecdkjnomkdbkaaDoorMStreamsUa
import Derived.Test.YtecdkjnomkdbkaaDoorAbI
import Derived.Test.YtecdkjnomkdbkaaDoorRows
import Derived.Test.YtecdkjnomkdbkaaDoorChecked
import Derived.WalkKit
import Derived.ProofKit
import Derived.OpenShut
import Derived.ShutString
import Derived.ChangeOld
import Derived.Below
import Derived.SizedLaws
import Derived.Test.YtecdkjnomkdbkaaDoorCards
import Derived.Test.YtecdkjnomkdbkaaDoorTie
import Derived.Deep.DeepHandedRow
import Derived.Lib.LaidTab
import Derived.LaidSub
namespace Go.Proofs.YtecdkjnomkdbkaaDoor.G
open Go Go.Ab Go.Proofs Go.Proofs.YtecdkjnomkdbkaaDoor
set_option maxRecDepth 100000
set_option linter.unusedVariables false
set_option linter.unusedSimpArgs false
set_option maxHeartbeats 1000000
theorem lies_all {H : Heap} {e : Sh} {α : Type} {g : e.T → α} {p : α → Prop} (hp : ∀ x c, Lies H e x c → p (g x)) {l : List e.T} {cs : List AV} (h : Lies H (.sl e) l cs) : ∀ y ∈ l.map g, p y := by
  obtain ⟨id, parts, _, _, _, _, hq⟩ := h
  have key : ∀ (xs : List e.T) (ps : List (List AV)), All2 (fun x c => Lies H e x c) xs ps → ∀ y ∈ xs.map g, p y := by
    intro xs
    induction xs with
    | nil => intro ps _ y hy; cases hy
    | cons x xs ih =>
      intro ps hps y hy
      cases ps with
      | nil => exact hps.elim
      | cons c ps =>
        rw [List.map_cons, List.mem_cons] at hy
        rcases hy with rfl | hy
        · exact hp x c hps.1
        · exact ih ps hps.2 y hy
  exact key l parts hq
theorem flt_lt {k : FloatKind} {c : Nat} (h : ∃ b, (Lit.float k b).wf = true ∧ cz k b = c) : c < 2 ^ (match k with | .f32 => 32 | .f64 => 64) := by
  obtain ⟨b, h1, rfl⟩ := h
  have hb : b < 2 ^ (match k with | .f32 => 32 | .f64 => 64) := by
    cases k <;> simpa [Lit.wf] using h1
  unfold cz
  split
  · cases k <;> decide
  · exact hb
theorem byt_lt {y : Int} (h : (Lit.int .u8 y).wf = true) : 0 ≤ y ∧ y < 256 := by
  simp only [Lit.wf, Bool.and_eq_true, decide_eq_true_eq] at h
  have a : (0 : Int) ≤ y := h.1
  have b : y ≤ 255 := h.2
  exact ⟨a, by omega⟩
theorem shows_id {H : Heap} {w : AV} {n : Nat} {α : Type} {e : α → List AV} {l : List α} (h : Shows H w n (enc e (List.map (fun y => y) l))) : Shows H w n (enc e l) := by rw [List.map_id'] at h; exact h
theorem all_id {α : Type} {p : α → Prop} {l : List α} (h : ∀ y ∈ List.map (fun y => y) l, p y) : ∀ y ∈ l, p y := by rw [List.map_id'] at h; exact h
theorem came_deep {H : Heap} {e : Sh} {α : Type} {R : Heap → α → List AV → Prop} {g : e.T → α} {n : Nat} (hn : e.size = n) (hR : ∀ x c, Lies H e x c → ∀ H', Sep H' (came H) → R H' (g x) c) {l : List e.T} {cs : List AV} (h : Lies H (.sl e) l cs) : ∃ v ws, cs = [v] ∧ (∀ H', Sep H' (came H) → DSh H' v n R (l.map g) ws) ∧ l.length ≤ maxLen := by
  obtain ⟨id, parts, h1, h2, h3, h4, h5⟩ := h
  have hs : ∀ c ∈ parts, c.length = n := by
    have key : ∀ (xs : List e.T) (ps : List (List AV)), All2 (fun x c => Lies H e x c) xs ps → ∀ c ∈ ps, c.length = n := by
      intro xs
      induction xs with
      | nil => intro ps hp c hc; cases ps with
        | nil => cases hc
        | cons p ps => exact hp.elim
      | cons x xs ih => intro ps hp c hc; cases ps with
        | nil => cases hc
        | cons p ps =>
          rw [List.mem_cons] at hc
          rcases hc with rfl | hc
          · rw [hp.1.len, hn]
          · exact ih ps hp.2 c hc
    exact key l parts h5
  have hlen : parts.length = l.length := h5.len.symm
  have hfn : (enc (_root_.id : List AV → List AV) parts).length = l.length * n := by
    rw [← hlen]
    have key : ∀ ps : List (List AV), (∀ c ∈ ps, c.length = n) → (enc (_root_.id : List AV → List AV) ps).length = ps.length * n := by
      intro ps
      induction ps with
      | nil => intro _; simp [enc]
      | cons p ps ih => intro hp; rw [enc_cons, List.length_append, ih (fun c hc => hp c (List.mem_cons_of_mem _ hc)), List.length_cons, Nat.succ_mul, show (_root_.id p : List AV) = p from rfl, hp p (List.mem_cons_self ..)]; omega
    exact key parts hs
  have hrow : Row H id 0 (enc (_root_.id : List AV → List AV) parts) := by
    rw [show enc (_root_.id : List AV → List AV) parts = parts.flatten by rw [enc, List.flatMap_id]]
    rcases h4 with ⟨rfl, hg⟩ | hg
    · cases parts with
      | nil => exact ⟨h2, by rw [hg]; exact Nat.zero_le _, rfl⟩
      | cons p ps => exact h5.elim
    · exact Row.of_f h2 (by rw [hg]; rfl)
  refine ⟨_, parts, h1, fun H' hs' => ⟨came_shows (.inr ⟨id, 0, l.length, by rw [hn], hfn, hrow⟩) H' hs', hs, ?_⟩, h3⟩
  have key : ∀ (xs : List e.T) (ps : List (List AV)), All2 (fun x c => Lies H e x c) xs ps → All2 (R H') (xs.map g) ps := by
    intro xs
    induction xs with
    | nil => intro ps hp; cases ps with
      | nil => trivial
      | cons p ps => exact hp.elim
    | cons x xs ih => intro ps hp; cases ps with
      | nil => exact hp.elim
      | cons p ps => exact ⟨hR x p hp.1 H' hs', ih ps hp.2⟩
  exact key l parts h5
theorem le_map {α β : Type} {f : α → β} {l : List α} {n : Nat} (h : l.length ≤ n) : (l.map f).length ≤ n := by rw [List.length_map]; exact h
def shapesStreams : List Sh := [.sl (.int .u8), .sl (.int .u8)]
theorem argsStreams (H : Heap) (x : (argSh shapesStreams).T) (vs : List TV) (h : LiesArgs H shapesStreams x vs) : ∃ H2, Ok Tryd.prog 4 vs H (.v (.bool true)) H2 := by
  obtain ⟨c1, r2, rfl, h3, t4⟩ := h
  have a8 := lies_all (g := fun y : ((.int .u8 : Sh)).T => y) (p := fun y : Int => 0 ≤ y ∧ y < 256) (fun y c hy => byt_lt hy.2) h3
  obtain ⟨v5, rfl, q6, m7⟩ := lies_flat (n := 1) (f := (eInt .u8)) (g := fun y : ((.int .u8 : Sh)).T => y) rfl (fun y c hy => hy.1) h3
  obtain ⟨c9, r10, rfl, h11, t12⟩ := t4
  have a16 := lies_all (g := fun y : ((.int .u8 : Sh)).T => y) (p := fun y : Int => 0 ≤ y ∧ y < 256) (fun y c hy => byt_lt hy.2) h11
  obtain ⟨v13, rfl, q14, m15⟩ := lies_flat (n := 1) (f := (eInt .u8)) (g := fun y : ((.int .u8 : Sh)).T => y) rfl (fun y c hy => hy.1) h11
  obtain rfl := t12
  exact okq_true (laws_FnStreams_ok v5 (List.map (fun y : (.int .u8 : Sh).T => y) x.1) v13 (List.map (fun y : (.int .u8 : Sh).T => y) x.2.1) (came_sep H) (came_shows q6) (came_shows q14) (fun b => b = true) (pureStreams (List.map (fun y : (.int .u8 : Sh).T => y) x.1) (List.map (fun y : (.int .u8 : Sh).T => y) x.2.1) a8 a16)) (fun r H2 hh => by obtain ⟨y, hy, rfl, _⟩ := hh; subst hy; rfl)
end Go.Proofs.YtecdkjnomkdbkaaDoor.G

namespace Go.Proofs.YtecdkjnomkdbkaaDoor.fnStreams
open Go.ChangeShapes Go.WideShapes Go.ChangeAt Go.RowKit Go.Proofs.YtecdkjnomkdbkaaDoor
theorem own : ownKnob Tryd.prog.godebug = none := by kernel_rfl
theorem laidOut : laidOutB Tryd.prog = true := by kernel_rfl
set_option maxRecDepth 100000 in
theorem contract (H : Type) (enc : TypeId × Value → H) (w0 : World) (base : Nat) (args : Array Value) (ds gs : List (DataW H)) (before : List MemPlace)
    (hval : ∀ (j : Nat) t v, Tryd.f4.params[j]? = some t → args[j]? = some v → Value.okWide Tryd.prog w0 .any base t v)
    (hW : DataW.Whole enc Tryd.prog Tryd.f4.params.toList Rows.fnStreamsSpec.vars false w0 args.toList ds gs before) :
    Calls Tryd.prog 4 args w0 fun e W' => ∃ v, e = .returned v ∧ Rows.fnStreamsSpec.post enc Tryd.prog Tryd.f4 false true false false w0 args v W' := by
  have hW' := hW
  obtain ⟨p, q, hA0, hV, rfl, hfz, hnd⟩ := hW
  have hA : DataW.TrodAll enc Tryd.prog w0 0 (fun _ => true) true Tryd.f4.params.toList args.toList ds p := hA0
  rw [Tryd.params4] at hA
  have hA1 := hA
  obtain ⟨v0, vs0, d0, ds0, p0, q0, hargs, rfl, rfl, h0, r0⟩ := trodAll_cons hA
  obtain ⟨v1, vs1, d1, ds1, p1, q1, rfl, rfl, rfl, h1, r1⟩ := trodAll_cons r0
  obtain ⟨rfl, rfl, rfl⟩ := trodAll_nil r1
  obtain ⟨rfl, rfl⟩ := trodVars_none hV
  refine (Ab.law_calls (ss := G.shapesStreams) (d := 8) Tryd.call4 (by kernel_rfl) (fun H x vs _ h => G.argsStreams H x vs h) hA1 (fun j t v h1 h2 => hval j t v (by rw [← Array.getElem?_toList, Tryd.params4]; exact h1) h2)).mono fun e W' ⟨he, bel⟩ => ?_
  subst he
  exact ⟨_, rfl, _, _, _, [], _, [], hW', trodAll_mk1 (shut_bool Tryd.underlying4 _), Ab.trodAll_stays laidOut bel _ _ _ _ (of_decide_eq_true (by kernel_rfl)) hA1, rfl, bel.frame _, fun h => by cases h⟩
/-- A world for the witness: the tables hold what is listed. -/
noncomputable def laidWorld (os : Os) : World :=
  { World.holding Tryd.prog os ⟨#[], #[], []⟩ with heap := (((World.holding Tryd.prog os ⟨#[], #[], []⟩).heap.modify 4 (fun | Go.Obj.cells _ t frozen => Go.Obj.cells (#[.int .u8 128, .int .u8 191, .int .u8 160, .int .u8 191, .int .u8 128, .int .u8 159, .int .u8 144, .int .u8 191, .int .u8 128, .int .u8 143, .int .u8 0, .int .u8 0, .int .u8 0, .int .u8 0, .int .u8 0, .int .u8 0, .int .u8 0, .int .u8 0, .int .u8 0, .int .u8 0, .int .u8 0, .int .u8 0, .int .u8 0, .int .u8 0, .int .u8 0, .int .u8 0, .int .u8 0, .int .u8 0, .int .u8 0, .int .u8 0, .int .u8 0, .int .u8 0]) t frozen | o => o)).modify 3 (fun | Go.Obj.cells _ t frozen => Go.Obj.cells ((Go.Pinned.utf8FirstZ.map fun (n : Nat) => Value.int .u8 ((n : Nat) : Int)).toArray) t frozen | o => o)) }
theorem laid_met (os : Os) : laidMet Tryd.prog Rows.fnStreamsRow.laid ((laidWorld os).forCall (fun _ _ => 0) ⟨#[], #[.slice none 0 0, .slice none 0 0], []⟩).memory :=
  laidMet_of_run' 8 (by kernel_rfl) (by kernel_rfl)
theorem reads (os : Os) {H : Type} (enc : TypeId × Value → H) : ∃ places, DataW.whole enc Tryd.prog ((laidWorld os).forCall (fun _ _ => 0) ⟨#[], #[.slice none 0 0, .slice none 0 0], []⟩).memory Tryd.f4.params.toList Rows.fnStreamsSpec.vars false (#[.slice none 0 0, .slice none 0 0] : Array Value).toList 8 = some ([.nil, .nil], [], places) :=
  ⟨[], by kernel_rfl⟩
set_option maxRecDepth 100000 in
theorem lifted (os : Os) (started : os.Started) (H : Type) (enc : TypeId × Value → H) (F : Stop.Interp) :
    ReturnsInHanded {} Tryd.checked os 4 .any ((OpenSpec.ofChange Rows.fnStreamsSpec).preRow enc Tryd.prog Tryd.f4 Rows.fnStreamsRow.domain false Rows.fnStreamsRow.laid) (((OpenSpec.ofChange Rows.fnStreamsSpec).at F).post enc Tryd.prog Tryd.f4 false true false false) := by
  obtain ⟨places, hx⟩ := reads os enc
  refine returnsInHanded_of_row (C := Tryd.checked) (s := OpenSpec.ofChange Rows.fnStreamsSpec) own started (by kernel_rfl) Tryd.func4
    (witness_row_at (enc := enc) (C := Tryd.checked) false (laidWorld os) #[.slice none 0 0, .slice none 0 0] rfl (by kernel_rfl) (by kernel_rfl) (by kernel_rfl)
      (OpenSpec.preRow_of_cond 8 hx (by kernel_rfl) (fun k hk => by cases hk) (by kernel_rfl) (laid_met os))) ?_
  intro W base args ds gs before hval hW _ _ _ hL _ _
  exact contract H enc W base args ds gs before hval hW
set_option maxRecDepth 100000 in
theorem said : Rows.FnStreamsSaid :=
  OpenClaim.holds_of_cond 4 Tryd.f4 rfl rfl rfl rfl rfl rfl rfl ⟨rfl, rfl, rfl, rfl, rfl⟩ rfl rfl rfl rfl rfl (by kernel_rfl) Tryd.func4 (by kernel_rfl)
    (of_decide_eq_true (by kernel_rfl)) (by unfold Func.isWrapper; first | (rw [if_pos (by decide +kernel)]; kernel_rfl) | (rw [if_neg (by decide +kernel)]; exact ⟨rfl, rfl⟩))
    (fun os started H enc _ F => by rw [OpenClaim.pre_eq_preRow]; exact lifted os started H enc F)
theorem plain (f : FuncId) (fn : Func) (hf : Tryd.pinned.checked.prog.funcNamed "loop.example/g01317/laws.FnStreams" = some f) (hfn : Tryd.pinned.checked.prog.funcs[f]? = some fn) :
    false = Tryd.pinned.checked.prog.looks [] ∧ ∀ (j : Nat) t, fn.params[j]? = some t → Tryd.pinned.checked.prog.wantsStandIn t = false := by
  obtain rfl : f = 4 := Option.some.inj ((show Tryd.prog.funcNamed "loop.example/g01317/laws.FnStreams" = some 4 by kernel_rfl).symm.trans hf) |>.symm
  obtain rfl : fn = Tryd.f4 := (Option.some.inj (Tryd.func4.symm.trans hfn)).symm
  refine ⟨by kernel_rfl, fun j t ht => ?_⟩
  rw [Tryd.params4] at ht
  have hm : t ∈ [29, 29] := by simpa using Array.mem_of_getElem? ht
  have hall : ([29, 29].all fun u => !Tryd.prog.wantsStandIn u) = true := by kernel_rfl
  exact (show Tryd.prog.wantsStandIn t = false by simpa using List.all_eq_true.1 hall t hm)
theorem proved : Rows.FnStreamsCardSaid :=
  Claim7.holds_tied_plain_at .later [] _ _ _ _ said (fun _ h => by cases h) (by kernel_rfl) (fun _ h => by cases h) fnStreams_row_tie rfl ⟨rfl, rfl⟩ (by kernel_rfl) rfl plain (by kernel_rfl)
#print axioms proved
end Go.Proofs.YtecdkjnomkdbkaaDoor.fnStreams
namespace Go.Proofs.YtecdkjnomkdbkaaDoor
/-- The card, under a short name, for the claim. -/
theorem fnStreams_holds : Rows.FnStreamsCardSaid := fnStreams.proved
end Go.Proofs.YtecdkjnomkdbkaaDoor

