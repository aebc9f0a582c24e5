/-
  The law FnCycles answers true for all arguments, and leaves what was there. No conditions.
-/
import Derived.Test.YtochgocgmeeppaaMCyclesP
import Derived.Test.YtochgocgmeeppaaMCyclesUb
import Derived.Conc.LeavingOf
import Derived.Test.YtochgocgmeeppaaRows
import Derived.Test.YtochgocgmeeppaaChecked
import Derived.WalkKit
import Derived.ProofKit
import Derived.OpenShut
import Derived.ShutString
import Derived.ChangeOld
import Derived.Below
import Derived.SizedLaws
import Derived.Test.YtochgocgmeeppaaMCyclesEd
set_option linter.unusedVariables false
set_option linter.unusedSimpArgs false
set_option linter.unusedSectionVars false
namespace Go.Proofs.Ytochgocgmeeppaa.G
open Go Go.Ab Go.Proofs Go.Proofs.Ytochgocgmeeppaa
set_option maxRecDepth 100000
set_option maxHeartbeats 1000000
theorem JD {H : Heap} {e : Sh} {α : Type} {g : e.T → α} {p : α → Prop} (hp : ∀ x c, Lies H e x c → p (g x)) {l : List e.T} {cs : List AV} (h : Lies H (.sl e) l cs) : ∀ y ∈ l.map g, p y := by
  obtain ⟨id, parts, _, _, _, _, hq⟩ := h
  have key : ∀ (xs : List e.T) (ps : List (List AV)), All2 (fun x c => Lies H e x c) xs ps → ∀ y ∈ xs.map g, p y := by
    intro xs
    induction xs with
    | nil => intro ps _ y hy; cases hy
    | cons x xs ih =>
      intro ps hps y hy
      cases ps with
      | nil => exact hps.elim
      | cons c ps =>
        rw [List.map_cons, List.mem_cons] at hy
        rcases hy with rfl | hy
        · exact hp x c hps.1
        · exact ih ps hps.2 y hy
  exact key l parts hq
theorem flt_lt {k:FloatKind} {c:Nat} (h:∃ b,(Lit.float k b).wf=true∧cz k b=c):c<2 ^ (match k with|.f32=>32|.f64=>64):=by
 obtain⟨b,h1,rfl⟩:=h;have hb:b<2 ^ (match k with|.f32=>32|.f64=>64):=by
  cases k<;>simpa [Lit.wf] using h1
 unfold cz
 split
 ·cases k<;>decide
 ·exact hb
theorem zdi {y:Int} (h:(Lit.int .u8 y).wf=true):0≤y∧y<256:=by
 simp only [Lit.wf,Bool.and_eq_true,decide_eq_true_eq] at h;have a:(0:Int)≤y:=h.1;have b:y≤255:=h.2;exact⟨a,by omega⟩
theorem shows_id {H:Heap} {w:AV} {n:Nat} {α:Type} {e:α→List AV} {l:List α} (h:yf H w n (enc e (List.map (fun y=>y) l))):yf H w n (enc e l):=by rw [List.map_id'] at h;exact h
theorem all_id {α:Type} {p:α→Prop} {l:List α} (h:∀ y∈List.map (fun y=>y) l,p y):∀ y∈l,p y:=by rw [List.map_id'] at h;exact h
theorem came_deep {H : Heap} {e : Sh} {α : Type} {R : Heap → α → List AV → Prop} {g : e.T → α} {n : Nat} (hn : e.size = n) (hR : ∀ x c, Lies H e x c → ∀ H', Sep H' (came H) → R H' (g x) c) {l : List e.T} {cs : List AV} (h : Lies H (.sl e) l cs) : ∃ v ws, cs = [v] ∧ (∀ H', Sep H' (came H) → DSh H' v n R (l.map g) ws) ∧ l.length ≤ maxLen := by
  obtain ⟨id, parts, h1, h2, h3, h4, h5⟩ := h
  have hs : ∀ c ∈ parts, c.length = n := by
    have key : ∀ (xs : List e.T) (ps : List (List AV)), All2 (fun x c => Lies H e x c) xs ps → ∀ c ∈ ps, c.length = n := by
      intro xs
      induction xs with
      | nil => intro ps hp c hc; cases ps with
        | nil => cases hc
        | cons p ps => exact hp.elim
      | cons x xs ih => intro ps hp c hc; cases ps with
        | nil => cases hc
        | cons p ps =>
          rw [List.mem_cons] at hc
          rcases hc with rfl | hc
          · rw [hp.1.len, hn]
          · exact ih ps hp.2 c hc
    exact key l parts h5
  have hlen : parts.length = l.length := h5.len.symm
  have hfn : (enc (_root_.id : List AV → List AV) parts).length = l.length * n := by
    rw [← hlen]
    have key : ∀ ps : List (List AV), (∀ c ∈ ps, c.length = n) → (enc (_root_.id : List AV → List AV) ps).length = ps.length * n := by
      intro ps
      induction ps with
      | nil => intro _; simp [enc]
      | cons p ps ih => intro hp; rw [wE, List.length_append, ih (fun c hc => hp c (List.mem_cons_of_mem _ hc)), List.length_cons, Nat.succ_mul, show (_root_.id p : List AV) = p from rfl, hp p (List.mem_cons_self ..)]; omega
    exact key parts hs
  have hrow : Row H id 0 (enc (_root_.id : List AV → List AV) parts) := by
    rw [show enc (_root_.id : List AV → List AV) parts = parts.flatten by rw [enc, List.flatMap_id]]
    rcases h4 with ⟨rfl, hg⟩ | hg
    · cases parts with
      | nil => exact ⟨h2, by rw [hg]; exact Nat.zero_le _, rfl⟩
      | cons p ps => exact h5.elim
    · exact Row.of_f h2 (by rw [hg]; rfl)
  refine ⟨_, parts, h1, fun H' hs' => ⟨jo (.inr ⟨id, 0, l.length, by rw [hn], hfn, hrow⟩) H' hs', hs, ?_⟩, h3⟩
  have key : ∀ (xs : List e.T) (ps : List (List AV)), All2 (fun x c => Lies H e x c) xs ps → All2 (R H') (xs.map g) ps := by
    intro xs
    induction xs with
    | nil => intro ps hp; cases ps with
      | nil => trivial
      | cons p ps => exact hp.elim
    | cons x xs ih => intro ps hp; cases ps with
      | nil => exact hp.elim
      | cons p ps => exact ⟨hR x p hp.1 H' hs', ih ps hp.2⟩
  exact key l parts h5
theorem le_map {α β:Type} {f:α→β} {l:List α} {n:Nat} (h:l.length≤n):(l.map f).length≤n:=by rw [List.length_map];exact h
def shapesCycles:List Sh:=[.sl (.int .u8),.sl (.int .u8)]
theorem argsCycles [r:Go.Proofs.Ytochgocgmeeppaa.Co.RR] (H:Heap) (x:(Vv shapesCycles).T) (vs:List TV) (h:qP H shapesCycles x vs):∃ Q,TopQ Try.prog 3 vs H Q∧∀ r H2,Q r H2→r=.v (.bool true):=by
 obtain⟨c1,r2,rfl,h3,t4⟩:=h;have a8:=JD (g:=fun y:((.int .u8:Sh)).T=>y) (p:=fun y:Int=>0≤y∧y<256) (fun y c hy=>zdi hy.2) h3;obtain⟨v5,rfl,q6,m7⟩:=UR (n:=1) (f:=(eInt .u8)) (g:=fun y:((.int .u8:Sh)).T=>y) rfl (fun y c hy=>hy.1) h3;obtain⟨c9,r10,rfl,h11,t12⟩:=t4;have a16:=JD (g:=fun y:((.int .u8:Sh)).T=>y) (p:=fun y:Int=>0≤y∧y<256) (fun y c hy=>zdi hy.2) h11;obtain⟨v13,rfl,q14,m15⟩:=UR (n:=1) (f:=(eInt .u8)) (g:=fun y:((.int .u8:Sh)).T=>y) rfl (fun y c hy=>hy.1) h11;obtain rfl:=t12;exact zcf (WP v5 (List.map (fun y:(.int .u8:Sh).T=>y) x.1) v13 (List.map (fun y:(.int .u8:Sh).T=>y) x.2.1) (YO H) (jo q6) (jo q14) (fun b=>b=true) (za9 (List.map (fun y:(.int .u8:Sh).T=>y) x.1) (List.map (fun y:(.int .u8:Sh).T=>y) x.2.1) a8 a16)) (fun r H2 hh=>by obtain⟨y,hy,rfl,_⟩:=hh;subst hy;rfl)
end Go.Proofs.Ytochgocgmeeppaa.G
namespace Go.Proofs.Ytochgocgmeeppaa.fnCycles
open Go.Conc Go.ChangeShapes Go.WideShapes Go.ChangeAt Go.RowKit Go.Proofs.Ytochgocgmeeppaa
theorem own:ownKnob Try.prog.godebug=none:=by kernel_rfl
theorem laidOut:laidOutB Try.prog=true:=by kernel_rfl
set_option maxRecDepth 100000 in
theorem lifted (os:Os) (started:os.Started) (H:Type) (enc:TypeId × Value→H) :
  ReturnsInLeavingWide {} Try.checked os 3 .any (Rows.fnCyclesSpec.pre6 enc Try.prog Try.f3 Rows.fnCyclesRow.domain false) (Rows.fnCyclesSpec.post enc Try.prog Try.f3 false true false false):=by
 refine returnsInLeavingWide_of_change_sized (C:=Try.checked) own started Try.func3
  (ChangeSpec.witness6 (enc:=enc) (C:=Try.checked) false ⟨#[],#[.slice none 0 0,.slice none 0 0],[]⟩ 8 (by kernel_rfl) (by kernel_rfl) (by kernel_rfl) (by kernel_rfl)) ?_
 intro w0 base args ds gs before hval hW hcnd hsz0 _;have hW':=hW;obtain⟨p,q,hA0,hV,rfl,hfz,hnd⟩:=hW;have hA:DataW.TrodAll enc Try.prog w0 0 (fun _=>true) true Try.f3.params.toList args.toList ds p:=hA0;rw [Try.params3] at hA;have hA1:=hA;obtain⟨v0,vs0,d0,ds0,p0,q0,hargs,rfl,rfl,h0,r0⟩:=trodAll_cons hA;obtain⟨v1,vs1,d1,ds1,p1,q1,rfl,rfl,rfl,h1,r1⟩:=trodAll_cons r0;obtain⟨rfl,rfl,rfl⟩:=trodAll_nil r1;obtain⟨rfl,rfl⟩:=trodVars_none hV;obtain⟨M9,last,o,w',t',e1,e2,e3,e4⟩:=Ab.law_leaves (P:=Try.prog) (f:=3) (ty:=64) (ss:=G.shapesCycles) (d:=8) (by kernel_rfl) (by kernel_rfl) (fun R H x vs h=>@G.argsCycles ⟨R⟩ H x vs h) hA1 (fun j t v h1 h2=>hval j t v (by rw [←Array.getElem?_toList,Try.params3];exact h1) h2);refine⟨M9,last,o,w',t',e1,e2,e3,e4.mono fun v hp=>?_⟩;obtain⟨he,bel⟩:=hp;subst he;exact⟨_,_,_,[],_,[],hW',trodAll_mk1 (shut_bool Try.underlying4 _),Ab.trodAll_stays laidOut bel _ _ _ _ (of_decide_eq_true (by kernel_rfl)) hA1,rfl,bel.frame _,fun h=>by cases h⟩
theorem over:Rows.fnCyclesRow.holds Try.pinned (OpenSpec.ofChange Rows.fnCyclesSpec):=
 OpenClaim.holds_of_wide_leaving 3 Try.f3 rfl rfl rfl rfl rfl rfl rfl ⟨rfl,rfl,rfl,rfl,rfl⟩ rfl rfl rfl rfl rfl (by kernel_rfl) Try.func3 (by kernel_rfl)
  (of_decide_eq_true (by kernel_rfl)) (by unfold Func.isWrapper;first|(rw [if_pos (by decide +kernel)];kernel_rfl)|(rw [if_neg (by decide +kernel)];exact⟨rfl,rfl⟩))
  (fun os started H enc _=>lifted os started H enc)
theorem proved:Rows.FnCyclesSaid:=over
#print axioms proved
end Go.Proofs.Ytochgocgmeeppaa.fnCycles
namespace Go.Proofs.Ytochgocgmeeppaa
theorem fnCycles_holds:Rows.FnCyclesSaid:=fnCycles.proved
end Go.Proofs.Ytochgocgmeeppaa
