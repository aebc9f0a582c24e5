/-
  The law FnExactJournalOf answers true for all arguments, and leaves what was there. No conditions.
-/
import Derived.Test.YtecdkjnomkdbkaaDoorMExactJournalOfKa
import Derived.Test.YtecdkjnomkdbkaaDoorMExactJournalOfUa
import Derived.Test.YtecdkjnomkdbkaaDoorAbI
import Derived.Test.YtecdkjnomkdbkaaDoorRows
import Derived.Test.YtecdkjnomkdbkaaDoorChecked
import Derived.WalkKit
import Derived.ProofKit
import Derived.OpenShut
import Derived.ShutString
import Derived.ChangeOld
import Derived.Below
import Derived.SizedLaws
import Derived.Test.YtecdkjnomkdbkaaDoorCards
import Derived.Test.YtecdkjnomkdbkaaDoorTie
import Derived.Deep.DeepHandedRow
import Derived.Lib.LaidTab
import Derived.LaidSub
namespace Go.Proofs.YtecdkjnomkdbkaaDoor.G
open Go Go.Ab Go.Proofs Go.Proofs.YtecdkjnomkdbkaaDoor
set_option maxRecDepth 100000
set_option linter.unusedVariables false
set_option linter.unusedSimpArgs false
set_option maxHeartbeats 1000000
theorem lies_all {H : Heap} {e : Sh} {α : Type} {g : e.T → α} {p : α → Prop} (hp : ∀ x c, Lies H e x c → p (g x)) {l : List e.T} {cs : List AV} (h : Lies H (.sl e) l cs) : ∀ y ∈ l.map g, p y := by
  obtain ⟨id, parts, _, _, _, _, hq⟩ := h
  have key : ∀ (xs : List e.T) (ps : List (List AV)), All2 (fun x c => Lies H e x c) xs ps → ∀ y ∈ xs.map g, p y := by
    intro xs
    induction xs with
    | nil => intro ps _ y hy; cases hy
    | cons x xs ih =>
      intro ps hps y hy
      cases ps with
      | nil => exact hps.elim
      | cons c ps =>
        rw [List.map_cons, List.mem_cons] at hy
        rcases hy with rfl | hy
        · exact hp x c hps.1
        · exact ih ps hps.2 y hy
  exact key l parts hq
theorem flt_lt {k : FloatKind} {c : Nat} (h : ∃ b, (Lit.float k b).wf = true ∧ cz k b = c) : c < 2 ^ (match k with | .f32 => 32 | .f64 => 64) := by
  obtain ⟨b, h1, rfl⟩ := h
  have hb : b < 2 ^ (match k with | .f32 => 32 | .f64 => 64) := by
    cases k <;> simpa [Lit.wf] using h1
  unfold cz
  split
  · cases k <;> decide
  · exact hb
theorem byt_lt {y : Int} (h : (Lit.int .u8 y).wf = true) : 0 ≤ y ∧ y < 256 := by
  simp only [Lit.wf, Bool.and_eq_true, decide_eq_true_eq] at h
  have a : (0 : Int) ≤ y := h.1
  have b : y ≤ 255 := h.2
  exact ⟨a, by omega⟩
theorem shows_id {H : Heap} {w : AV} {n : Nat} {α : Type} {e : α → List AV} {l : List α} (h : Shows H w n (enc e (List.map (fun y => y) l))) : Shows H w n (enc e l) := by rw [List.map_id'] at h; exact h
theorem all_id {α : Type} {p : α → Prop} {l : List α} (h : ∀ y ∈ List.map (fun y => y) l, p y) : ∀ y ∈ l, p y := by rw [List.map_id'] at h; exact h
theorem came_deep {H : Heap} {e : Sh} {α : Type} {R : Heap → α → List AV → Prop} {g : e.T → α} {n : Nat} (hn : e.size = n) (hR : ∀ x c, Lies H e x c → ∀ H', Sep H' (came H) → R H' (g x) c) {l : List e.T} {cs : List AV} (h : Lies H (.sl e) l cs) : ∃ v ws, cs = [v] ∧ (∀ H', Sep H' (came H) → DSh H' v n R (l.map g) ws) ∧ l.length ≤ maxLen := by
  obtain ⟨id, parts, h1, h2, h3, h4, h5⟩ := h
  have hs : ∀ c ∈ parts, c.length = n := by
    have key : ∀ (xs : List e.T) (ps : List (List AV)), All2 (fun x c => Lies H e x c) xs ps → ∀ c ∈ ps, c.length = n := by
      intro xs
      induction xs with
      | nil => intro ps hp c hc; cases ps with
        | nil => cases hc
        | cons p ps => exact hp.elim
      | cons x xs ih => intro ps hp c hc; cases ps with
        | nil => cases hc
        | cons p ps =>
          rw [List.mem_cons] at hc
          rcases hc with rfl | hc
          · rw [hp.1.len, hn]
          · exact ih ps hp.2 c hc
    exact key l parts h5
  have hlen : parts.length = l.length := h5.len.symm
  have hfn : (enc (_root_.id : List AV → List AV) parts).length = l.length * n := by
    rw [← hlen]
    have key : ∀ ps : List (List AV), (∀ c ∈ ps, c.length = n) → (enc (_root_.id : List AV → List AV) ps).length = ps.length * n := by
      intro ps
      induction ps with
      | nil => intro _; simp [enc]
      | cons p ps ih => intro hp; rw [enc_cons, List.length_append, ih (fun c hc => hp c (List.mem_cons_of_mem _ hc)), List.length_cons, Nat.succ_mul, show (_root_.id p : List AV) = p from rfl, hp p (List.mem_cons_self ..)]; omega
    exact key parts hs
  have hrow : Row H id 0 (enc (_root_.id : List AV → List AV) parts) := by
    rw [show enc (_root_.id : List AV → List AV) parts = parts.flatten by rw [enc, List.flatMap_id]]
    rcases h4 with ⟨rfl, hg⟩ | hg
    · cases parts with
      | nil => exact ⟨h2, by rw [hg]; exact Nat.zero_le _, rfl⟩
      | cons p ps => exact h5.elim
    · exact Row.of_f h2 (by rw [hg]; rfl)
  refine ⟨_, parts, h1, fun H' hs' => ⟨came_shows (.inr ⟨id, 0, l.length, by rw [hn], hfn, hrow⟩) H' hs', hs, ?_⟩, h3⟩
  have key : ∀ (xs : List e.T) (ps : List (List AV)), All2 (fun x c => Lies H e x c) xs ps → All2 (R H') (xs.map g) ps := by
    intro xs
    induction xs with
    | nil => intro ps hp; cases ps with
      | nil => trivial
      | cons p ps => exact hp.elim
    | cons x xs ih => intro ps hp; cases ps with
      | nil => exact hp.elim
      | cons p ps => exact ⟨hR x p hp.1 H' hs', ih ps hp.2⟩
  exact key l parts h5
theorem le_map {α β : Type} {f : α → β} {l : List α} {n : Nat} (h : l.length ≤ n) : (l.map f).length ≤ n := by rw [List.length_map]; exact h
def shapesExactJournalOf : List Sh := [.sl (.str)]
theorem argsExactJournalOf (H : Heap) (x : (argSh shapesExactJournalOf).T) (vs : List TV) (ht2 : HasTab 2 F.tab2 H) (ht6 : HasTab 6 F.tab6 H) (h : LiesArgs H shapesExactJournalOf x vs) : ∃ H2, Ok Tryd.prog 3 vs H (.v (.bool true)) H2 := by
  obtain ⟨c1, r2, rfl, h3, t4⟩ := h
  have a8 := lies_all (g := fun y : ((.str : Sh)).T => (y).data.toList) (p := fun z : List UInt8 => z.length ≤ maxLen ∧ True) (fun y c hy => (by obtain ⟨rfl, b1⟩ := hy; exact ⟨(by rw [Array.length_toList]; exact b1), trivial⟩)) h3
  obtain ⟨v5, rfl, q6, m7⟩ := lies_flat (n := 1) (f := eStr) (g := fun y : ((.str : Sh)).T => (y).data.toList) rfl (fun y c hy => (by have := hy.1; exact this.trans (congrArg (fun z : ByteArray => [AV.str z]) (pk_of y).symm))) h3
  obtain rfl := t4
  exact okq_true (laws_FnExactJournalOf_ok v5 (List.map (fun y : (.str : Sh).T => (y).data.toList) x.1) (came_sep H) (came_shows q6) (came_tab ht2) (came_tab ht6) (fun b => b = true) (pureExactJournalOf (List.map (fun y : (.str : Sh).T => (y).data.toList) x.1) (le_map m7) a8)) (fun r H2 hh => by obtain ⟨y, hy, rfl, _⟩ := hh; subst hy; rfl)
end Go.Proofs.YtecdkjnomkdbkaaDoor.G

namespace Go.Proofs.YtecdkjnomkdbkaaDoor.fnExactJournalOf
open Go.ChangeShapes Go.WideShapes Go.ChangeAt Go.RowKit Go.Proofs.YtecdkjnomkdbkaaDoor
theorem own : ownKnob Tryd.prog.godebug = none := by kernel_rfl
theorem laidOut : laidOutB Tryd.prog = true := by kernel_rfl
set_option maxRecDepth 100000 in
theorem contract (H : Type) (enc : TypeId × Value → H) (w0 : World) (base : Nat) (args : Array Value) (ds gs : List (DataW H)) (before : List MemPlace)
    (hval : ∀ (j : Nat) t v, Tryd.f3.params[j]? = some t → args[j]? = some v → Value.okWide Tryd.prog w0 .any base t v)
    (hW : DataW.Whole enc Tryd.prog Tryd.f3.params.toList Rows.fnExactJournalOfSpec.vars false w0 args.toList ds gs before) (hL : laidMet Tryd.prog Rows.fnExactJournalOfRow.laid w0) :
    Calls Tryd.prog 3 args w0 fun e W' => ∃ v, e = .returned v ∧ Rows.fnExactJournalOfSpec.post enc Tryd.prog Tryd.f3 false true false false w0 args v W' := by
  have hW' := hW
  obtain ⟨p, q, hA0, hV, rfl, hfz, hnd⟩ := hW
  have hA : DataW.TrodAll enc Tryd.prog w0 0 (fun _ => true) true Tryd.f3.params.toList args.toList ds p := hA0
  rw [Tryd.params3] at hA
  have hA1 := hA
  obtain ⟨v0, vs0, d0, ds0, p0, q0, hargs, rfl, rfl, h0, r0⟩ := trodAll_cons hA
  obtain ⟨rfl, rfl, rfl⟩ := trodAll_nil r0
  obtain ⟨rfl, rfl⟩ := trodVars_none hV
  refine (Ab.law_callsT (T := [(2, F.tab2), (6, F.tab6)]) (ss := G.shapesExactJournalOf) (d := 8) Tryd.call3 (by kernel_rfl) (fun H x vs _ ht h => G.argsExactJournalOf H x vs (ht (2, F.tab2) (by simp)) (ht (6, F.tab6) (by simp)) h) (Ab.fac (Ab.showsTab_of (by kernel_rfl) (Lib.tabIs_of_head (rest := []) (g := 2) (t := 125) (e := 88) (n := 20) (by kernel_rfl) (by kernel_rfl) (by kernel_rfl) (by kernel_rfl) (by kernel_rfl) (by kernel_rfl) (laidMet.filter (fun x => x.1 == "internal/strconv.uint64pow10") hL))) (Ab.fac (Ab.showsTab_of (by kernel_rfl) (Lib.tabIs_of_head (rest := []) (g := 6) (t := 136) (e := 5) (n := 64) (by kernel_rfl) (by kernel_rfl) (by kernel_rfl) (by kernel_rfl) (by kernel_rfl) (by kernel_rfl) (laidMet.filter (fun x => x.1 == "math/bits.deBruijn64tab") hL))) Ab.fan)) hA1 (fun j t v h1 h2 => hval j t v (by rw [← Array.getElem?_toList, Tryd.params3]; exact h1) h2)).mono fun e W' ⟨he, bel⟩ => ?_
  subst he
  exact ⟨_, rfl, _, _, _, [], _, [], hW', trodAll_mk1 (shut_bool Tryd.underlying4 _), Ab.trodAll_stays laidOut bel _ _ _ _ (of_decide_eq_true (by kernel_rfl)) hA1, rfl, bel.frame _, fun h => by cases h⟩
/-- A world for the witness: the tables hold what is listed. -/
noncomputable def laidWorld (os : Os) : World :=
  { World.holding Tryd.prog os ⟨#[], #[], []⟩ with heap := ((((World.holding Tryd.prog os ⟨#[], #[], []⟩).heap.modify 5 (fun | Go.Obj.cells _ t frozen => Go.Obj.cells (#[.int .u8 0, .int .u8 1, .int .u8 28, .int .u8 2, .int .u8 29, .int .u8 14, .int .u8 24, .int .u8 3, .int .u8 30, .int .u8 22, .int .u8 20, .int .u8 15, .int .u8 25, .int .u8 17, .int .u8 4, .int .u8 8, .int .u8 31, .int .u8 27, .int .u8 13, .int .u8 23, .int .u8 21, .int .u8 19, .int .u8 16, .int .u8 7, .int .u8 26, .int .u8 12, .int .u8 18, .int .u8 6, .int .u8 11, .int .u8 5, .int .u8 10, .int .u8 9]) t frozen | o => o)).modify 6 (fun | Go.Obj.cells _ t frozen => Go.Obj.cells (#[.int .u8 0, .int .u8 1, .int .u8 56, .int .u8 2, .int .u8 57, .int .u8 49, .int .u8 28, .int .u8 3, .int .u8 61, .int .u8 58, .int .u8 42, .int .u8 50, .int .u8 38, .int .u8 29, .int .u8 17, .int .u8 4, .int .u8 62, .int .u8 47, .int .u8 59, .int .u8 36, .int .u8 45, .int .u8 43, .int .u8 51, .int .u8 22, .int .u8 53, .int .u8 39, .int .u8 33, .int .u8 30, .int .u8 24, .int .u8 18, .int .u8 12, .int .u8 5, .int .u8 63, .int .u8 55, .int .u8 48, .int .u8 27, .int .u8 60, .int .u8 41, .int .u8 37, .int .u8 16, .int .u8 46, .int .u8 35, .int .u8 44, .int .u8 21, .int .u8 52, .int .u8 32, .int .u8 23, .int .u8 11, .int .u8 54, .int .u8 26, .int .u8 40, .int .u8 15, .int .u8 34, .int .u8 20, .int .u8 31, .int .u8 10, .int .u8 25, .int .u8 14, .int .u8 19, .int .u8 9, .int .u8 13, .int .u8 8, .int .u8 7, .int .u8 6]) t frozen | o => o)).modify 2 (fun | Go.Obj.cells _ t frozen => Go.Obj.cells (#[.int .u64 1, .int .u64 10, .int .u64 100, .int .u64 1000, .int .u64 10000, .int .u64 100000, .int .u64 1000000, .int .u64 10000000, .int .u64 100000000, .int .u64 1000000000, .int .u64 10000000000, .int .u64 100000000000, .int .u64 1000000000000, .int .u64 10000000000000, .int .u64 100000000000000, .int .u64 1000000000000000, .int .u64 10000000000000000, .int .u64 100000000000000000, .int .u64 1000000000000000000, .int .u64 10000000000000000000]) t frozen | o => o)) }
theorem laid_met (os : Os) : laidMet Tryd.prog Rows.fnExactJournalOfRow.laid ((laidWorld os).forCall (fun _ _ => 0) ⟨#[], #[.slice none 0 0], []⟩).memory :=
  laidMet_of_run' 8 (by kernel_rfl) (by kernel_rfl)
theorem reads (os : Os) {H : Type} (enc : TypeId × Value → H) : ∃ places, DataW.whole enc Tryd.prog ((laidWorld os).forCall (fun _ _ => 0) ⟨#[], #[.slice none 0 0], []⟩).memory Tryd.f3.params.toList Rows.fnExactJournalOfSpec.vars false (#[.slice none 0 0] : Array Value).toList 8 = some ([.nil], [], places) :=
  ⟨[], by kernel_rfl⟩
set_option maxRecDepth 100000 in
theorem lifted (os : Os) (started : os.Started) (H : Type) (enc : TypeId × Value → H) (F : Stop.Interp) :
    ReturnsInHanded {} Tryd.checked os 3 .any ((OpenSpec.ofChange Rows.fnExactJournalOfSpec).preRow enc Tryd.prog Tryd.f3 Rows.fnExactJournalOfRow.domain false Rows.fnExactJournalOfRow.laid) (((OpenSpec.ofChange Rows.fnExactJournalOfSpec).at F).post enc Tryd.prog Tryd.f3 false true false false) := by
  obtain ⟨places, hx⟩ := reads os enc
  refine returnsInHanded_of_row (C := Tryd.checked) (s := OpenSpec.ofChange Rows.fnExactJournalOfSpec) own started (by kernel_rfl) Tryd.func3
    (witness_row_at (enc := enc) (C := Tryd.checked) false (laidWorld os) #[.slice none 0 0] rfl (by kernel_rfl) (by kernel_rfl) (by kernel_rfl)
      (OpenSpec.preRow_of_cond 8 hx (by kernel_rfl) (fun k hk => by cases hk) (by kernel_rfl) (laid_met os))) ?_
  intro W base args ds gs before hval hW _ _ _ hL _ _
  exact contract H enc W base args ds gs before hval hW hL
set_option maxRecDepth 100000 in
theorem said : Rows.FnExactJournalOfSaid :=
  OpenClaim.holds_of_cond 3 Tryd.f3 rfl rfl rfl rfl rfl rfl rfl ⟨rfl, rfl, rfl, rfl, rfl⟩ rfl rfl rfl rfl rfl (by kernel_rfl) Tryd.func3 (by kernel_rfl)
    (of_decide_eq_true (by kernel_rfl)) (by unfold Func.isWrapper; first | (rw [if_pos (by decide +kernel)]; kernel_rfl) | (rw [if_neg (by decide +kernel)]; exact ⟨rfl, rfl⟩))
    (fun os started H enc _ F => by rw [OpenClaim.pre_eq_preRow]; exact lifted os started H enc F)
theorem plain (f : FuncId) (fn : Func) (hf : Tryd.pinned.checked.prog.funcNamed "loop.example/g01317/laws.FnExactJournalOf" = some f) (hfn : Tryd.pinned.checked.prog.funcs[f]? = some fn) :
    false = Tryd.pinned.checked.prog.looks [] ∧ ∀ (j : Nat) t, fn.params[j]? = some t → Tryd.pinned.checked.prog.wantsStandIn t = false := by
  obtain rfl : f = 3 := Option.some.inj ((show Tryd.prog.funcNamed "loop.example/g01317/laws.FnExactJournalOf" = some 3 by kernel_rfl).symm.trans hf) |>.symm
  obtain rfl : fn = Tryd.f3 := (Option.some.inj (Tryd.func3.symm.trans hfn)).symm
  refine ⟨by kernel_rfl, fun j t ht => ?_⟩
  rw [Tryd.params3] at ht
  have hm : t ∈ [22] := by simpa using Array.mem_of_getElem? ht
  have hall : ([22].all fun u => !Tryd.prog.wantsStandIn u) = true := by kernel_rfl
  exact (show Tryd.prog.wantsStandIn t = false by simpa using List.all_eq_true.1 hall t hm)
theorem proved : Rows.FnExactJournalOfCardSaid :=
  Claim7.holds_tied_plain_at .later [] _ _ _ _ said (fun _ h => by cases h) (by kernel_rfl) (fun _ h => by cases h) fnExactJournalOf_row_tie rfl ⟨rfl, rfl⟩ (by kernel_rfl) rfl plain (by kernel_rfl)
#print axioms proved
end Go.Proofs.YtecdkjnomkdbkaaDoor.fnExactJournalOf
namespace Go.Proofs.YtecdkjnomkdbkaaDoor
/-- The card, under a short name, for the claim. -/
theorem fnExactJournalOf_holds : Rows.FnExactJournalOfCardSaid := fnExactJournalOf.proved
end Go.Proofs.YtecdkjnomkdbkaaDoor

