/-
  The engine: abstract values, heaps of pieces, what the operations do; only what this claim leans on. Nothing here is trusted.
-/
import Derived.Below
import Derived.Calls
import Derived.Carry
import Derived.ChangeOld
import Derived.Conc.Beside
import Derived.Conc.CrowdRun
import Derived.Conc.DeferLaws
import Derived.Conc.Events
import Derived.Conc.LeavingOf
import Derived.Conc.Own5
import Derived.Conc.WgGenN3
import Derived.IntWalk
import Derived.Laws.BytesArg
import Derived.Laws.BytesString
import Derived.Laws.Entries
import Derived.Laws.FloatArith
import Derived.Laws.Sem
import Derived.Laws.World
import Derived.Maps.OwnSet
import Derived.Maps.Views
import Derived.Orders
import Derived.WideShapes
import GoSem.ClaimChange
set_option linter.unusedVariables false
set_option linter.unusedSimpArgs false
set_option linter.unusedSectionVars false
namespace Go.Ab
def Obj.clean:Obj→Prop
 | .view ..=>False
 | _=>True
inductive Plain (P:Program) {α:Type}:Sem α→Prop
 | pure (a:α):Plain P (.pure a)
 | dead {s:Sem α} (h:∀ w x w',s.run P w≠.ok x w'):Plain P s
 | load {m a k} (h:∀ v,Plain P (k v)):Plain P (.load m a k)
 | store {m a v k} (h:Plain P k):Plain P (.store m a v k)
 | new {o k} (ho:Obj.clean o) (h:∀ r,Plain P (k r)):Plain P (.new o k)
 | getObj {r k} (h:∀ o,Plain P (k o)):Plain P (.getObj r k)
 | setObj {r o k} (ho:Obj.clean o) (h:Plain P k):Plain P (.setObj r o k)
 | choose {q k} (h:∀ n,Plain P (k n)):Plain P (.choose q k)
 | program {k} (h:Plain P (k P)):Plain P (.program k)
 | noRoom {k} (h:Plain P k):Plain P (.mark .noRoom k)
variable {P:Program}
theorem Plain.bind' {α γ : Type} {s : Sem α} {f : α → Sem γ} (h : Plain P s) (hf : ∀ a, Plain P (f a)) : Plain P (s.bind f) := by
  induction h with
  | pure a => exact hf a
  | dead h =>
    refine .dead fun w x w' hr => ?_
    rename_i s
    have e : (s.bind f).run P w = (s.run P w).andThen fun a w => (f a).run P w := Sem.run_bind P w s f
    rw [e] at hr
    cases hs : s.run P w with
    | ok a w1 => exact h w a w1 hs
    | halt x w1 => rw [hs] at hr; cases hr
  | load h ih => exact .load ih
  | store h ih => exact .store ih
  | new ho h ih => exact .new ho ih
  | getObj h ih => exact .getObj ih
  | setObj ho h ih => exact .setObj ho ih
  | choose h ih => exact .choose ih
  | program h ih => exact .program ih
  | noRoom h ih => exact .noRoom ih
theorem Plain.bind {α γ:Type} {s:Sem α} {f:α→Sem γ} (h:Plain P s) (hf:∀ a,Plain P (f a)):Plain P (s >>= f):=Plain.bind' h hf
theorem Plain.map {α γ:Type} {s:Sem α} {f:α→γ} (h:Plain P s):Plain P (f <$> s):=Plain.bind' h fun a=>.pure _
theorem Plain.halt {α:Type} (h:Halt):Plain P (.halt h:Sem α):=  .dead fun w x w' hr=>by simp [Sem.run] at hr
theorem Plain.ite {α:Type} {c:Prop} [Decidable c] {s t:Sem α} (h:Plain P s) (k:Plain P t):Plain P (if c then s else t):=by split<;>assumption
structure Hid (A B:Nat→Prop) (n:Nat) (w v:World):Prop where
 os:v.os=w.os
 tape:v.tape=w.tape
 drawn:v.drawn=w.drawn
 output:v.output=w.output
 size:v.heap.size=w.heap.size
 le:n≤w.heap.size
 at_:∀ b o,w.heap[b]?=some o→(v.heap[b]?=some o∧Obj.clean o∧(A b∨n≤b))∨(∃ c e fz,o=.cells c e fz∧v.heap[b]?=some (.cells c e (0,c.size))∧B b∧b<n)∨(v.heap[b]?=some (.cells #[] 0 (0,0))∧b<n)
def uA (A B:Nat→Prop) (n m:Nat) (e:Event):Prop:=
 match e.loc with
 | .cell a=>a.block<m∧(A a.block∨n≤a.block∨(B a.block∧e.write=false))
 | .obj r=>r<m∧(A r∨n≤r∨(B r∧e.write=false))
 | .mark .noRoom=>True
 | .mark (.extern _)=>True
 | _=>False
theorem uA.mono {A B:Nat→Prop} {n m m':Nat} (h:m≤m') {e:Event} (k:uA A B n m e):uA A B n m' e:=by
 obtain⟨loc,wr,sy⟩:=e
 cases loc with
 | cell a=>exact⟨Nat.lt_of_lt_of_le k.1 h,k.2⟩
 | obj r=>exact⟨Nat.lt_of_lt_of_le k.1 h,k.2⟩
 | output=>exact k
 | goroutines=>exact k
 | mark m=>cases m<;>exact k
theorem Hid.back {A B:Nat→Prop} {n:Nat} {w v:World} (h:Hid A B n w v) {b:Nat} {o:Obj} (e:v.heap[b]?=some o):∃ o',w.heap[b]?=some o':=by
 have:b<v.heap.size:=by
  rcases Nat.lt_or_ge b v.heap.size with h'|h'
  ·exact h'
  ·rw [Array.getElem?_eq_none h'] at e;cases e
 rw [h.size] at this;exact⟨w.heap[b],by simp [this]⟩
theorem lt_of_some {α:Type} {a:Array α} {i:Nat} {x:α} (e:a[i]?=some x):i<a.size:=by
 rcases Nat.lt_or_ge i a.size with h'|h'
 ·exact h'
 ·rw [Array.getElem?_eq_none h'] at e;cases e
theorem Hid.cell {A B:Nat→Prop} {n:Nat} {w v:World} (h:Hid A B n w v) {a:Addr} {x:Value} (e:v.cell? a=some x) :
  w.cell? a=some x∧a.block<w.heap.size∧((v.heap[a.block]?=w.heap[a.block]?∧(A a.block∨n≤a.block))∨(B a.block∧v.frozen? a=true)):=by
 unfold World.cell? at e
 split at e
 ·rename_i c el fz hc
  obtain⟨o,ho⟩:=h.back hc;have hlt:=lt_of_some ho;rcases h.at_ _ _ ho with⟨h1,_,h2⟩|⟨c',e',fz',rfl,h1,h2,_⟩|⟨h1,_⟩
  ·rw [hc] at h1
   cases h1
   refine⟨by unfold World.cell?;rw [ho];exact e,hlt,.inl ⟨by rw [hc,ho],h2⟩⟩
  ·rw [hc] at h1
   cases h1
   refine⟨by unfold World.cell?;rw [ho];exact e,hlt,.inr ⟨h2,?_⟩⟩;unfold World.frozen?;rw [hc];simp only
   split at e
   ·cases e
   ·have:=lt_of_some e
    simp [this]
  ·rw [hc] at h1
   cases h1
   split at e
   ·cases e
   ·simp at e
 ·cases e
theorem Hid.far {A B:Nat→Prop} {n:Nat} {w v:World} (h:Hid A B n w v) (p:Program) (a:Addr) (at_:Bool):∃ x,v.farLoad p a at_=.error x:=by
 unfold World.farLoad
 split
 ·rename_i b u hc
  obtain⟨o,ho⟩:=h.back hc;rcases h.at_ _ _ ho with⟨h1,h2,_⟩|⟨c',e',fz',rfl,h1,_,_⟩|⟨h1,_⟩
  ·rw [hc] at h1;cases h1;exact h2.elim
  ·rw [hc] at h1;cases h1
  ·rw [hc] at h1;cases h1
 ·exact⟨_,rfl⟩
theorem Hid.farS {A B:Nat→Prop} {n:Nat} {w v:World} (h:Hid A B n w v) (p:Program) (a:Addr) (x:Value) (at_:Bool):∃ y,v.farStore p a x at_=.error y:=by
 unfold World.farStore
 split
 ·rename_i b u hc
  obtain⟨o,ho⟩:=h.back hc;rcases h.at_ _ _ ho with⟨h1,h2,_⟩|⟨c',e',fz',rfl,h1,_,_⟩|⟨h1,_⟩
  ·rw [hc] at h1;cases h1;exact h2.elim
  ·rw [hc] at h1;cases h1
  ·rw [hc] at h1;cases h1
 ·exact⟨_,rfl⟩
theorem q8 (w:World) (a:Addr) (x:Value) (b:Nat):(w.setCell a x).heap[b]?=if a.block=b then (w.heap[b]?).map (fun|.cells c elem frozen=>.cells (if a.spot.isSome then c else c.setIfInBounds a.off x) elem frozen|o=>o) else w.heap[b]?:=by
 unfold World.setCell;simp only [Array.getElem?_modify];rfl
theorem Hid.set {A B : Nat → Prop} {n : Nat} {w v : World} (h : Hid A B n w v) {a : Addr} {x : Value} (k : v.heap[a.block]? = w.heap[a.block]?) (hA : A a.block ∨ n ≤ a.block) : Hid A B n (w.setCell a x) (v.setCell a x) := by
  refine ⟨h.os, h.tape, h.drawn, h.output, by simp [World.setCell, h.size], by simpa [World.setCell] using h.le, fun b o e => ?_⟩
  rw [q8] at e ⊢
  by_cases hb : a.block = b
  · subst hb
    rw [if_pos rfl] at e ⊢
    rw [k]
    refine .inl ⟨e, ?_, hA⟩
    cases hw : w.heap[a.block]? with
    | none => rw [hw] at e; cases e
    | some o' =>
      rw [hw] at e
      simp only [Option.map_some, Option.some.injEq] at e
      rcases h.at_ _ _ hw with ⟨_, h2, _⟩ | ⟨c', e', fz', rfl, h1, _⟩ | ⟨h1, _⟩
      · subst e
        split <;> first | trivial | exact h2
      · subst e; trivial
      · rw [k, hw] at h1
        cases h1
        subst e
        trivial
  · rw [if_neg hb] at e ⊢
    exact h.at_ b o e
theorem Hid.push {A B:Nat→Prop} {n:Nat} {w v:World} (h:Hid A B n w v) {o:Obj} (ho:Obj.clean o):Hid A B n { w with heap:=w.heap.push o } { v with heap:=v.heap.push o }:=by
 refine⟨h.os,h.tape,h.drawn,h.output,by simp [h.size],by simp;exact Nat.le_succ_of_le h.le,fun b x e=>?_⟩;simp only [Array.getElem?_push,h.size] at e ⊢
 by_cases hb:b=w.heap.size
 ·rw [if_pos hb] at e ⊢
  cases e
  exact .inl ⟨rfl,ho,.inr (hb▸h.le)⟩
 ·rw [if_neg hb] at e ⊢;exact h.at_ b x e
theorem Hid.put {A B:Nat→Prop} {n:Nat} {w v:World} (h:Hid A B n w v) {r:Nat} {o:Obj} (ho:Obj.clean o) (hA:A r∨n≤r):Hid A B n { w with heap:=w.heap.setIfInBounds r o } { v with heap:=v.heap.setIfInBounds r o }:=by
 refine⟨h.os,h.tape,h.drawn,h.output,by simp [h.size],by simpa using h.le,fun b x e=>?_⟩;simp only [Array.getElem?_setIfInBounds,h.size] at e ⊢
 by_cases hb:r=b
 ·subst hb;rw [if_pos rfl] at e ⊢
  split at e
  ·cases e
   rename_i hl
   rw [if_pos hl];exact .inl ⟨rfl,ho,hA⟩
  ·cases e
 ·rw [if_neg hb] at e ⊢;exact h.at_ b x e
theorem Plain.lcl {α : Type} {A B : Nat → Prop} {n : Nat} {s : Sem α} (h : Plain P s) : ∀ (w v : World), Hid A B n w v → ∀ (x : α) (v1 : World), s.run P v = .ok x v1 →
    ∃ w1, s.run P w = .ok x w1 ∧ Hid A B n w1 v1 ∧ w.heap.size ≤ w1.heap.size ∧ ∀ es : Array Event, (∀ e ∈ es, uA A B n w1.heap.size e) → ∀ e ∈ s.events P w es, uA A B n w1.heap.size e := by
  induction h with
  | pure a =>
    intro w v hh x v1 hr
    simp only [Sem.run, Result.ok.injEq] at hr
    obtain ⟨rfl, rfl⟩ := hr
    exact ⟨w, rfl, hh, Nat.le_refl _, fun es he e hm => he e hm⟩
  | dead hd => intro w v hh x v1 hr; exact (hd v x v1 hr).elim
  | load _ ih =>
    rename_i m a k _
    intro w v hh x v1 hr
    simp only [Sem.run] at hr
    cases hc : v.cell? a with
    | none =>
      rw [hc] at hr
      obtain ⟨y, hy⟩ := hh.far P a (m == .atomic)
      rw [hy] at hr
      cases hr
    | some u =>
      rw [hc] at hr
      obtain ⟨k1, k2, k3⟩ := hh.cell hc
      obtain ⟨w1, g1, g2, g3, g4⟩ := ih u w v hh x v1 hr
      refine ⟨w1, by simp only [Sem.run, k1]; exact g1, g2, g3, fun es he e hm => ?_⟩
      unfold Sem.events at hm g4
      simp only [Sem.runT, k1] at hm
      refine g4 _ (fun e' he' => ?_) e hm
      rcases Array.mem_push.1 he' with he' | rfl
      · exact he e' he'
      · refine ⟨Nat.lt_of_lt_of_le k2 g3, ?_⟩
        rcases k3 with ⟨_, k3⟩ | ⟨k3, _⟩
        · exact k3.elim .inl fun k3 => .inr (.inl k3)
        · exact .inr (.inr ⟨k3, rfl⟩)
  | store _ ih =>
    rename_i m a u k _
    intro w v hh x v1 hr
    have hu : (∀ cs, u ≠ .agg cs) ∧ (∀ cs, u ≠ .tuple cs) := by
      constructor <;> intro cs e <;> subst e <;> simp [Sem.run] at hr
    have hr' : (match v.cell? a with
        | some _ => if v.frozen? a then .halt (.unsupported (.unsafePointer "a write to bytes that a string shares")) v else k.run P (v.setCell a u)
        | none => match v.farStore P a u (m == .atomic) with
          | .ok (w, _) => k.run P w
          | .error h => .halt h v) = Result.ok x v1 := by
      cases u <;> first
        | exact absurd rfl (hu.1 _)
        | exact absurd rfl (hu.2 _)
        | exact hr
    cases hc : v.cell? a with
    | none =>
      rw [hc] at hr'
      obtain ⟨y, hy⟩ := hh.farS P a u (m == .atomic)
      simp only [hy] at hr'
      cases hr'
    | some u0 =>
      rw [hc] at hr'
      simp only at hr'
      obtain ⟨k1, k2, k3⟩ := hh.cell hc
      by_cases hf : v.frozen? a = true
      · rw [if_pos hf] at hr'; cases hr'
      rw [if_neg hf] at hr'
      obtain ⟨k3, k4⟩ : v.heap[a.block]? = w.heap[a.block]? ∧ (A a.block ∨ n ≤ a.block) := by
        rcases k3 with k3 | ⟨_, k3⟩
        · exact k3
        · exact absurd k3 hf
      have hf' : w.frozen? a = false := by
        have : w.frozen? a = v.frozen? a := by unfold World.frozen?; rw [k3]
        rw [this]; simpa using hf
      obtain ⟨w1, g1, g2, g3, g4⟩ := ih (w.setCell a u) (v.setCell a u) (hh.set k3 k4) x v1 hr'
      have hsz : (w.setCell a u).heap.size = w.heap.size := by simp [World.setCell]
      rw [hsz] at g3
      refine ⟨w1, ?_, g2, g3, fun es he e hm => ?_⟩
      · cases u <;> first
          | exact absurd rfl (hu.1 _)
          | exact absurd rfl (hu.2 _)
          | (simp only [Sem.run, k1, hf', Bool.false_eq_true, if_false]; exact g1)
      · have hm' : e ∈ (k.runT P (w.setCell a u) (es.push ⟨.cell a, true, m == .atomic⟩)).2 := by
          unfold Sem.events at hm
          cases u <;> first
            | exact absurd rfl (hu.1 _)
            | exact absurd rfl (hu.2 _)
            | (simp only [Sem.runT, k1, hf', Bool.false_eq_true, if_false] at hm; exact hm)
        unfold Sem.events at g4
        refine g4 _ (fun e' he' => ?_) e hm'
        rcases Array.mem_push.1 he' with he' | rfl
        · exact he e' he'
        · exact ⟨Nat.lt_of_lt_of_le k2 g3, k4.elim .inl fun k4 => .inr (.inl k4)⟩
  | new ho _ ih =>
    rename_i o k _
    intro w v hh x v1 hr
    simp only [Sem.run] at hr
    rw [hh.size] at hr
    obtain ⟨w1, g1, g2, g3, g4⟩ := ih w.heap.size { w with heap := w.heap.push o } { v with heap := v.heap.push o } (hh.push ho) x v1 hr
    refine ⟨w1, by simp only [Sem.run]; exact g1, g2, by simp at g3; omega, fun es he e hm => ?_⟩
    unfold Sem.events at hm g4
    simp only [Sem.runT] at hm
    exact g4 es he e hm
  | getObj _ ih =>
    rename_i r k _
    intro w v hh x v1 hr
    simp only [Sem.run] at hr
    cases hv : v.heap[r]? with
    | none => rw [hv] at hr; cases hr
    | some o =>
      obtain ⟨o', ho'⟩ := hh.back hv
      rcases hh.at_ _ _ ho' with ⟨h1, h2, h3⟩ | ⟨c, e, fz, rfl, h1, _, _⟩ | ⟨h1, _⟩
      · have hr2 := hr
        rw [h1] at hr2
        by_cases hcl : ∃ c e fz, o' = .cells c e fz
        · obtain ⟨c, e, fz, rfl⟩ := hcl
          simp at hr2
        · have hr3 : (k o').run P v = .ok x v1 := by
            cases o' <;> first | (exact absurd ⟨_, _, _, rfl⟩ hcl) | exact hr2
          obtain ⟨w1, g1, g2, g3, g4⟩ := ih o' w v hh x v1 hr3
          refine ⟨w1, ?_, g2, g3, fun es he e hm => ?_⟩
          · simp only [Sem.run, ho']
            cases o' <;> first | (exact absurd ⟨_, _, _, rfl⟩ hcl) | exact g1
          · unfold Sem.events at hm g4
            simp only [Sem.runT, ho'] at hm
            have hm' : e ∈ ((k o').runT P w (es.push ⟨.obj r, false, o'.isChan⟩)).2 := by
              cases o' <;> first | (exact absurd ⟨_, _, _, rfl⟩ hcl) | exact hm
            refine g4 _ (fun e' he' => ?_) e hm'
            rcases Array.mem_push.1 he' with he' | rfl
            · exact he e' he'
            · exact ⟨Nat.lt_of_lt_of_le (lt_of_some ho') g3, h3.elim .inl fun h3 => .inr (.inl h3)⟩
      · rw [h1] at hr; simp at hr
      · rw [h1] at hr; simp at hr
  | setObj ho _ ih =>
    rename_i r o k _
    intro w v hh x v1 hr
    simp only [Sem.run] at hr
    cases hv : v.heap[r]? with
    | none => rw [hv] at hr; cases hr
    | some o1 =>
      obtain ⟨o', ho'⟩ := hh.back hv
      rcases hh.at_ _ _ ho' with ⟨h1, h2, h3⟩ | ⟨c, e, fz, rfl, h1, _, _⟩ | ⟨h1, _⟩
      · have hr2 := hr
        rw [h1] at hr2
        by_cases hcl : ∃ c e fz, o' = .cells c e fz
        · obtain ⟨c, e, fz, rfl⟩ := hcl
          simp at hr2
        · have hr3 : k.run P { v with heap := v.heap.setIfInBounds r o } = .ok x v1 := by
            cases o' <;> first | (exact absurd ⟨_, _, _, rfl⟩ hcl) | exact hr2
          obtain ⟨w1, g1, g2, g3, g4⟩ := ih { w with heap := w.heap.setIfInBounds r o } _ (hh.put ho h3) x v1 hr3
          simp only [Array.size_setIfInBounds] at g3
          refine ⟨w1, ?_, g2, g3, fun es he e hm => ?_⟩
          · simp only [Sem.run, ho']
            cases o' <;> first | (exact absurd ⟨_, _, _, rfl⟩ hcl) | exact g1
          · unfold Sem.events at hm g4
            simp only [Sem.runT, ho'] at hm
            have hm' : e ∈ (k.runT P { w with heap := w.heap.setIfInBounds r o } (es.push ⟨.obj r, true, o.isChan⟩)).2 := by
              cases o' <;> first | (exact absurd ⟨_, _, _, rfl⟩ hcl) | exact hm
            refine g4 _ (fun e' he' => ?_) e hm'
            rcases Array.mem_push.1 he' with he' | rfl
            · exact he e' he'
            · exact ⟨Nat.lt_of_lt_of_le (lt_of_some ho') g3, h3.elim .inl fun h3 => .inr (.inl h3)⟩
      · rw [h1] at hr; simp at hr
      · rw [h1] at hr; simp at hr
  | choose _ ih =>
    rename_i q k _
    intro w v hh x v1 hr
    simp only [Sem.run] at hr
    by_cases hq : q.forced = true
    · rw [if_pos hq] at hr
      obtain ⟨w1, g1, g2, g3, g4⟩ := ih 0 w v hh x v1 hr
      refine ⟨w1, by simp only [Sem.run, if_pos hq]; exact g1, g2, g3, fun es he e hm => ?_⟩
      unfold Sem.events at hm g4
      simp only [Sem.runT, if_pos hq] at hm
      exact g4 es he e hm
    · rw [if_neg hq, hh.tape, hh.drawn] at hr
      have hh' : Hid A B n { w with drawn := w.drawn + 1 } { v with drawn := w.drawn + 1, tape := w.tape } := ⟨hh.os, rfl, rfl, hh.output, hh.size, hh.le, hh.at_⟩
      obtain ⟨w1, g1, g2, g3, g4⟩ := ih _ _ _ hh' x v1 hr
      refine ⟨w1, by simp only [Sem.run, if_neg hq]; exact g1, g2, g3, fun es he e hm => ?_⟩
      unfold Sem.events at hm g4
      simp only [Sem.runT, if_neg hq] at hm
      exact g4 es he e hm
  | program _ ih =>
    intro w v hh x v1 hr
    simp only [Sem.run] at hr
    obtain ⟨w1, g1, g2, g3, g4⟩ := ih w v hh x v1 hr
    refine ⟨w1, by simp only [Sem.run]; exact g1, g2, g3, fun es he e hm => ?_⟩
    unfold Sem.events at hm g4
    simp only [Sem.runT] at hm
    exact g4 es he e hm
  | noRoom _ ih =>
    intro w v hh x v1 hr
    simp only [Sem.run] at hr
    obtain ⟨w1, g1, g2, g3, g4⟩ := ih w v hh x v1 hr
    refine ⟨w1, by simp only [Sem.run]; exact g1, g2, g3, fun es he e hm => ?_⟩
    unfold Sem.events at hm g4
    simp only [Sem.runT] at hm
    refine g4 _ (fun e' he' => ?_) e hm
    rcases Array.mem_push.1 he' with he' | rfl
    · exact he e' he'
    · trivial
end Go.Ab
namespace Go.Ab
variable {P:Program}
theorem yx (a:Addr) (m:Mode):Plain P (Go.load a m):=.load fun v=>.pure v
theorem zZ (a:Addr) (v:Value) (m:Mode):Plain P (Go.store a v m):=.store (.pure ())
theorem zx (c:Array Value) (t:TypeId):Plain P (newObj (.cells c t)):=.new trivial fun r=>.pure r
theorem zU (c:Array MapEntry) (t:Nat):Plain P (newObj (.map c t)):=.new trivial fun r=>.pure r
theorem zQ (r:Nat):Plain P (Go.getObj r):=.getObj fun o=>.pure o
theorem zR (q:Question):Plain P (Go.choose q):=.choose fun n=>.pure n
theorem zH:Plain P Go.program:=.program (.pure P)
theorem zT:Plain P (Go.mark .noRoom):=.noRoom (.pure ())
theorem zY {α:Type} (s:String):Plain P (Go.stuck s:Sem α):=.halt _
theorem z8 {α:Type} (s:Unsupported):Plain P (Go.unsupported s:Sem α):=.halt _
theorem zI {α:Type} (s:Value):Plain P (Go.goPanic s:Sem α):=.halt _
theorem zJ (n:Nat):Plain P (askRoom n):=by
 unfold askRoom
 (repeat' (first|exact Plain.pure _|exact Plain.halt _|exact yx _ _|exact zZ _ _ _|exact zx _ _|exact zU _ _|exact zQ _|exact zR _|exact zH|exact zT|exact zY _|exact z8 _|exact zI _|refine Plain.bind ?_ (fun _=>?_)|refine Plain.map ?_|refine Plain.ite ?_ ?_|dsimp only|split))
theorem zB (t:TypeId):Plain P (typeInfo t):=by
 unfold typeInfo
 (repeat' (first|exact Plain.pure _|exact Plain.halt _|exact yx _ _|exact zZ _ _ _|exact zx _ _|exact zU _ _|exact zQ _|exact zR _|exact zH|exact zT|exact zY _|exact z8 _|exact zI _|exact zJ _|refine Plain.bind ?_ (fun _=>?_)|refine Plain.map ?_|refine Plain.ite ?_ ?_|dsimp only|split))
theorem zq (t:TypeId):Plain P (underlying t):=by
 unfold underlying
 (repeat' (first|exact Plain.pure _|exact Plain.halt _|exact yx _ _|exact zZ _ _ _|exact zx _ _|exact zU _ _|exact zQ _|exact zR _|exact zH|exact zT|exact zY _|exact z8 _|exact zI _|exact zJ _|exact zB _|refine Plain.bind ?_ (fun _=>?_)|refine Plain.map ?_|refine Plain.ite ?_ ?_|dsimp only|split))
theorem zW (t:TypeId):Plain P (Go.sizeOf t):=by
 unfold Go.sizeOf
 (repeat' (first|exact Plain.pure _|exact Plain.halt _|exact yx _ _|exact zZ _ _ _|exact zx _ _|exact zU _ _|exact zQ _|exact zR _|exact zH|exact zT|exact zY _|exact z8 _|exact zI _|exact zJ _|exact zB _|exact zq _|refine Plain.bind ?_ (fun _=>?_)|refine Plain.map ?_|refine Plain.ite ?_ ?_|dsimp only|split))
theorem zw (t:TypeId):Plain P (zeroValue t):=by
 unfold zeroValue
 (repeat' (first|exact Plain.pure _|exact Plain.halt _|exact yx _ _|exact zZ _ _ _|exact zx _ _|exact zU _ _|exact zQ _|exact zR _|exact zH|exact zT|exact zY _|exact z8 _|exact zI _|exact zJ _|exact zB _|exact zq _|exact zW _|refine Plain.bind ?_ (fun _=>?_)|refine Plain.map ?_|refine Plain.ite ?_ ?_|dsimp only|split))
theorem yw (t:TypeId):Plain P (isAgg t):=by
 unfold isAgg
 (repeat' (first|exact Plain.pure _|exact Plain.halt _|exact yx _ _|exact zZ _ _ _|exact zx _ _|exact zU _ _|exact zQ _|exact zR _|exact zH|exact zT|exact zY _|exact z8 _|exact zI _|exact zJ _|exact zB _|exact zq _|exact zW _|exact zw _|refine Plain.bind ?_ (fun _=>?_)|refine Plain.map ?_|refine Plain.ite ?_ ?_|dsimp only|split))
theorem yc (t:TypeId):Plain P (elemOf t):=by
 unfold elemOf
 (repeat' (first|exact Plain.pure _|exact Plain.halt _|exact yx _ _|exact zZ _ _ _|exact zx _ _|exact zU _ _|exact zQ _|exact zR _|exact zH|exact zT|exact zY _|exact z8 _|exact zI _|exact zJ _|exact zB _|exact zq _|exact zW _|exact zw _|exact yw _|refine Plain.bind ?_ (fun _=>?_)|refine Plain.map ?_|refine Plain.ite ?_ ?_|dsimp only|split))
theorem zn (a:Addr):∀ (i n:Nat) (acc:Array Value),Plain P (loadCellsFrom a i n acc)
 | i,0,acc=>.pure _
 | i,n+1,acc=>Plain.bind (yx _ _) fun v=>zn a (i+1) n _
theorem zD (a:Addr) (n:Nat):Plain P (loadCells a n):=by
 unfold loadCells
 (repeat' (first|exact Plain.pure _|exact Plain.halt _|exact yx _ _|exact zZ _ _ _|exact zx _ _|exact zU _ _|exact zQ _|exact zR _|exact zH|exact zT|exact zY _|exact z8 _|exact zI _|exact zJ _|exact zB _|exact zq _|exact zW _|exact zw _|exact yw _|exact yc _|exact zn _ _ _ _|refine Plain.bind ?_ (fun _=>?_)|refine Plain.map ?_|refine Plain.ite ?_ ?_|dsimp only|split))
theorem zu (a:Addr):∀ (vs:List Value) (i:Nat),Plain P (storeCells a vs i)
 | [],i=>.pure _
 | v::vs,i=>Plain.bind (zZ _ _ _) fun _=>zu a vs (i+1)
theorem yg (t:TypeId) (c:Array Value):Plain P (newRow t c):=by
 unfold newRow
 (repeat' (first|exact Plain.pure _|exact Plain.halt _|exact yx _ _|exact zZ _ _ _|exact zx _ _|exact zU _ _|exact zQ _|exact zR _|exact zH|exact zT|exact zY _|exact z8 _|exact zI _|exact zJ _|exact zB _|exact zq _|exact zW _|exact zw _|exact yw _|exact yc _|exact zn _ _ _ _|exact zD _ _|exact zu _ _ _|refine Plain.bind ?_ (fun _=>?_)|refine Plain.map ?_|refine Plain.ite ?_ ?_|dsimp only|split))
theorem yn (t:TypeId) (c:Value):Plain P (newVar t c):=by
 unfold newVar
 (repeat' (first|exact Plain.pure _|exact Plain.halt _|exact yx _ _|exact zZ _ _ _|exact zx _ _|exact zU _ _|exact zQ _|exact zR _|exact zH|exact zT|exact zY _|exact z8 _|exact zI _|exact zJ _|exact zB _|exact zq _|exact zW _|exact zw _|exact yw _|exact yc _|exact zn _ _ _ _|exact zD _ _|exact zu _ _ _|exact yg _ _|refine Plain.bind ?_ (fun _=>?_)|refine Plain.map ?_|refine Plain.ite ?_ ?_|dsimp only|split))
theorem zX (t:TypeId) (a:Addr):Plain P (loadVar t a):=by
 unfold loadVar
 (repeat' (first|exact Plain.pure _|exact Plain.halt _|exact yx _ _|exact zZ _ _ _|exact zx _ _|exact zU _ _|exact zQ _|exact zR _|exact zH|exact zT|exact zY _|exact z8 _|exact zI _|exact zJ _|exact zB _|exact zq _|exact zW _|exact zw _|exact yw _|exact yc _|exact zn _ _ _ _|exact zD _ _|exact zu _ _ _|exact yg _ _|exact yn _ _|refine Plain.bind ?_ (fun _=>?_)|refine Plain.map ?_|refine Plain.ite ?_ ?_|dsimp only|split))
theorem zV (t:TypeId) (a:Addr) (v:Value):Plain P (storeVar t a v):=by
 unfold storeVar
 (repeat' (first|exact Plain.pure _|exact Plain.halt _|exact yx _ _|exact zZ _ _ _|exact zx _ _|exact zU _ _|exact zQ _|exact zR _|exact zH|exact zT|exact zY _|exact z8 _|exact zI _|exact zJ _|exact zB _|exact zq _|exact zW _|exact zw _|exact yw _|exact yc _|exact zn _ _ _ _|exact zD _ _|exact zu _ _ _|exact yg _ _|exact yn _ _|exact zX _ _|refine Plain.bind ?_ (fun _=>?_)|refine Plain.map ?_|refine Plain.ite ?_ ?_|dsimp only|split))
theorem yL (t:TypeId) (a:Array Value) (n:Nat):Plain P (part t a n):=by
 unfold part
 (repeat' (first|exact Plain.pure _|exact Plain.halt _|exact yx _ _|exact zZ _ _ _|exact zx _ _|exact zU _ _|exact zQ _|exact zR _|exact zH|exact zT|exact zY _|exact z8 _|exact zI _|exact zJ _|exact zB _|exact zq _|exact zW _|exact zw _|exact yw _|exact yc _|exact zn _ _ _ _|exact zD _ _|exact zu _ _ _|exact yg _ _|exact yn _ _|exact zX _ _|exact zV _ _ _|refine Plain.bind ?_ (fun _=>?_)|refine Plain.map ?_|refine Plain.ite ?_ ?_|dsimp only|split))
theorem zt {α:Type} (e:RuntimeError):Plain P (runtimePanic e:Sem α):=by
 unfold runtimePanic
 (repeat' (first|exact Plain.pure _|exact Plain.halt _|exact yx _ _|exact zZ _ _ _|exact zx _ _|exact zU _ _|exact zQ _|exact zR _|exact zH|exact zT|exact zY _|exact z8 _|exact zI _|exact zJ _|exact zB _|exact zq _|exact zW _|exact zw _|exact yw _|exact yc _|exact zn _ _ _ _|exact zD _ _|exact zu _ _ _|exact yg _ _|exact yn _ _|exact zX _ _|exact zV _ _ _|exact yL _ _ _|refine Plain.bind ?_ (fun _=>?_)|refine Plain.map ?_|refine Plain.ite ?_ ?_|dsimp only|split))
theorem zG {α:Type} (k:IntKind) (x y:Int) (c:BoundsCode):Plain P (boundsPanic k x y c:Sem α):=by
 unfold boundsPanic
 (repeat' (first|exact Plain.pure _|exact Plain.halt _|exact yx _ _|exact zZ _ _ _|exact zx _ _|exact zU _ _|exact zQ _|exact zR _|exact zH|exact zT|exact zY _|exact z8 _|exact zI _|exact zJ _|exact zB _|exact zq _|exact zW _|exact zw _|exact yw _|exact yc _|exact zn _ _ _ _|exact zD _ _|exact zu _ _ _|exact yg _ _|exact yn _ _|exact zX _ _|exact zV _ _ _|exact yL _ _ _|exact zt _|refine Plain.bind ?_ (fun _=>?_)|refine Plain.map ?_|refine Plain.ite ?_ ?_|dsimp only|split))
theorem yu (v:Value):Plain P (asIntOf v):=by
 unfold asIntOf
 (repeat' (first|exact Plain.pure _|exact Plain.halt _|exact yx _ _|exact zZ _ _ _|exact zx _ _|exact zU _ _|exact zQ _|exact zR _|exact zH|exact zT|exact zY _|exact z8 _|exact zI _|exact zJ _|exact zB _|exact zq _|exact zW _|exact zw _|exact yw _|exact yc _|exact zn _ _ _ _|exact zD _ _|exact zu _ _ _|exact yg _ _|exact yn _ _|exact zX _ _|exact zV _ _ _|exact yL _ _ _|exact zt _|exact zG _ _ _ _|refine Plain.bind ?_ (fun _=>?_)|refine Plain.map ?_|refine Plain.ite ?_ ?_|dsimp only|split))
theorem yH (v:Value):Plain P (asInt v):=by
 unfold asInt
 (repeat' (first|exact Plain.pure _|exact Plain.halt _|exact yx _ _|exact zZ _ _ _|exact zx _ _|exact zU _ _|exact zQ _|exact zR _|exact zH|exact zT|exact zY _|exact z8 _|exact zI _|exact zJ _|exact zB _|exact zq _|exact zW _|exact zw _|exact yw _|exact yc _|exact zn _ _ _ _|exact zD _ _|exact zu _ _ _|exact yg _ _|exact yn _ _|exact zX _ _|exact zV _ _ _|exact yL _ _ _|exact zt _|exact zG _ _ _ _|exact yu _|refine Plain.bind ?_ (fun _=>?_)|refine Plain.map ?_|refine Plain.ite ?_ ?_|dsimp only|split))
theorem yD (v:Value):Plain P (asBool v):=by
 unfold asBool
 (repeat' (first|exact Plain.pure _|exact Plain.halt _|exact yx _ _|exact zZ _ _ _|exact zx _ _|exact zU _ _|exact zQ _|exact zR _|exact zH|exact zT|exact zY _|exact z8 _|exact zI _|exact zJ _|exact zB _|exact zq _|exact zW _|exact zw _|exact yw _|exact yc _|exact zn _ _ _ _|exact zD _ _|exact zu _ _ _|exact yg _ _|exact yn _ _|exact zX _ _|exact zV _ _ _|exact yL _ _ _|exact zt _|exact zG _ _ _ _|exact yu _|exact yH _|refine Plain.bind ?_ (fun _=>?_)|refine Plain.map ?_|refine Plain.ite ?_ ?_|dsimp only|split))
theorem ym (v:Value):Plain P (asString v):=by
 unfold asString
 (repeat' (first|exact Plain.pure _|exact Plain.halt _|exact yx _ _|exact zZ _ _ _|exact zx _ _|exact zU _ _|exact zQ _|exact zR _|exact zH|exact zT|exact zY _|exact z8 _|exact zI _|exact zJ _|exact zB _|exact zq _|exact zW _|exact zw _|exact yw _|exact yc _|exact zn _ _ _ _|exact zD _ _|exact zu _ _ _|exact yg _ _|exact yn _ _|exact zX _ _|exact zV _ _ _|exact yL _ _ _|exact zt _|exact zG _ _ _ _|exact yu _|exact yH _|exact yD _|refine Plain.bind ?_ (fun _=>?_)|refine Plain.map ?_|refine Plain.ite ?_ ?_|dsimp only|split))
theorem yO (v:Value):Plain P (asAgg v):=by
 unfold asAgg
 (repeat' (first|exact Plain.pure _|exact Plain.halt _|exact yx _ _|exact zZ _ _ _|exact zx _ _|exact zU _ _|exact zQ _|exact zR _|exact zH|exact zT|exact zY _|exact z8 _|exact zI _|exact zJ _|exact zB _|exact zq _|exact zW _|exact zw _|exact yw _|exact yc _|exact zn _ _ _ _|exact zD _ _|exact zu _ _ _|exact yg _ _|exact yn _ _|exact zX _ _|exact zV _ _ _|exact yL _ _ _|exact zt _|exact zG _ _ _ _|exact yu _|exact yH _|exact yD _|exact ym _|refine Plain.bind ?_ (fun _=>?_)|refine Plain.map ?_|refine Plain.ite ?_ ?_|dsimp only|split))
theorem yG (v:Value):Plain P (asAddr v):=by
 unfold asAddr
 (repeat' (first|exact Plain.pure _|exact Plain.halt _|exact yx _ _|exact zZ _ _ _|exact zx _ _|exact zU _ _|exact zQ _|exact zR _|exact zH|exact zT|exact zY _|exact z8 _|exact zI _|exact zJ _|exact zB _|exact zq _|exact zW _|exact zw _|exact yw _|exact yc _|exact zn _ _ _ _|exact zD _ _|exact zu _ _ _|exact yg _ _|exact yn _ _|exact zX _ _|exact zV _ _ _|exact yL _ _ _|exact zt _|exact zG _ _ _ _|exact yu _|exact yH _|exact yD _|exact ym _|exact yO _|refine Plain.bind ?_ (fun _=>?_)|refine Plain.map ?_|refine Plain.ite ?_ ?_|dsimp only|split))
theorem yA (v:Value):Plain P (Instr.sureAddr v):=by
 unfold Instr.sureAddr
 (repeat' (first|exact Plain.pure _|exact Plain.halt _|exact yx _ _|exact zZ _ _ _|exact zx _ _|exact zU _ _|exact zQ _|exact zR _|exact zH|exact zT|exact zY _|exact z8 _|exact zI _|exact zJ _|exact zB _|exact zq _|exact zW _|exact zw _|exact yw _|exact yc _|exact zn _ _ _ _|exact zD _ _|exact zu _ _ _|exact yg _ _|exact yn _ _|exact zX _ _|exact zV _ _ _|exact yL _ _ _|exact zt _|exact zG _ _ _ _|exact yu _|exact yH _|exact yD _|exact ym _|exact yO _|exact yG _|refine Plain.bind ?_ (fun _=>?_)|refine Plain.map ?_|refine Plain.ite ?_ ?_|dsimp only|split))
theorem yT (t:TypeId) (b:Bool) (v:Value):Plain P (Instr.alloc t b v):=by
 unfold Instr.alloc
 (repeat' (first|exact Plain.pure _|exact Plain.halt _|exact yx _ _|exact zZ _ _ _|exact zx _ _|exact zU _ _|exact zQ _|exact zR _|exact zH|exact zT|exact zY _|exact z8 _|exact zI _|exact zJ _|exact zB _|exact zq _|exact zW _|exact zw _|exact yw _|exact yc _|exact zn _ _ _ _|exact zD _ _|exact zu _ _ _|exact yg _ _|exact yn _ _|exact zX _ _|exact zV _ _ _|exact yL _ _ _|exact zt _|exact zG _ _ _ _|exact yu _|exact yH _|exact yD _|exact ym _|exact yO _|exact yG _|exact yA _|refine Plain.bind ?_ (fun _=>?_)|refine Plain.map ?_|refine Plain.ite ?_ ?_|dsimp only|split))
theorem xA (t:TypeId) (v:Value):Plain P (Instr.box t v):=by
 unfold Instr.box
 (repeat' (first|exact Plain.pure _|exact Plain.halt _|exact yx _ _|exact zZ _ _ _|exact zx _ _|exact zU _ _|exact zQ _|exact zR _|exact zH|exact zT|exact zY _|exact z8 _|exact zI _|exact zJ _|exact zB _|exact zq _|exact zW _|exact zw _|exact yw _|exact yc _|exact zn _ _ _ _|exact zD _ _|exact zu _ _ _|exact yg _ _|exact yn _ _|exact zX _ _|exact zV _ _ _|exact yL _ _ _|exact zt _|exact zG _ _ _ _|exact yu _|exact yH _|exact yD _|exact ym _|exact yO _|exact yG _|exact yA _|exact yT _ _ _|refine Plain.bind ?_ (fun _=>?_)|refine Plain.map ?_|refine Plain.ite ?_ ?_|dsimp only|split))
theorem J7 {α γ : Type} (f : α → Sem γ) (h : ∀ x, Plain P (f x)) : ∀ (l : List α), Plain P (l.mapM f)
  | [] => by rw [List.mapM_nil]; exact .pure _
  | x :: l => by
    rw [List.mapM_cons]
    exact Plain.bind (h x) fun _ => Plain.bind (J7 f h l) fun _ => .pure _
theorem J8 {α γ:Type} (f:α→Sem γ) (h:∀ x,Plain P (f x)) (l:Array α):Plain P (l.mapM f):=by
 rw [Array.mapM_eq_mapM_toList];exact Plain.map (J7 f h _)
theorem yX (t:TypeId) (ps:Array (Nat × Value)):Plain P (Instr.build t ps):=by
 unfold Instr.build
 (repeat' (first|exact Plain.pure _|exact Plain.halt _|exact yx _ _|exact zZ _ _ _|exact zx _ _|exact zU _ _|exact zQ _|exact zR _|exact zH|exact zT|exact zY _|exact z8 _|exact zI _|exact zJ _|exact zB _|exact zq _|exact zW _|exact zw _|exact yw _|exact yc _|exact zn _ _ _ _|exact zD _ _|exact zu _ _ _|exact yg _ _|exact yn _ _|exact zX _ _|exact zV _ _ _|exact yL _ _ _|exact zt _|exact zG _ _ _ _|exact yu _|exact yH _|exact yD _|exact ym _|exact yO _|exact yG _|exact yA _|exact yT _ _ _|exact xA _ _|refine J8 _ (fun _=>?_) _|refine Plain.bind ?_ (fun _=>?_)|refine Plain.map ?_|refine Plain.ite ?_ ?_|dsimp only|split))
theorem yl (t:TypeId) (n:Nat) (ps:Array (Nat × Value)):Plain P (Instr.buildSlice t n ps):=by
 unfold Instr.buildSlice
 (repeat' (first|exact Plain.pure _|exact Plain.halt _|exact yx _ _|exact zZ _ _ _|exact zx _ _|exact zU _ _|exact zQ _|exact zR _|exact zH|exact zT|exact zY _|exact z8 _|exact zI _|exact zJ _|exact zB _|exact zq _|exact zW _|exact zw _|exact yw _|exact yc _|exact zn _ _ _ _|exact zD _ _|exact zu _ _ _|exact yg _ _|exact yn _ _|exact zX _ _|exact zV _ _ _|exact yL _ _ _|exact zt _|exact zG _ _ _ _|exact yu _|exact yH _|exact yD _|exact ym _|exact yO _|exact yG _|exact yA _|exact yT _ _ _|exact xA _ _|exact yX _ _|refine Plain.bind ?_ (fun _=>?_)|refine Plain.map ?_|refine Plain.ite ?_ ?_|dsimp only|split))
theorem yR (t:TypeId) (v:Value):Plain P (Instr.loadAt t v):=by
 unfold Instr.loadAt
 (repeat' (first|exact Plain.pure _|exact Plain.halt _|exact yx _ _|exact zZ _ _ _|exact zx _ _|exact zU _ _|exact zQ _|exact zR _|exact zH|exact zT|exact zY _|exact z8 _|exact zI _|exact zJ _|exact zB _|exact zq _|exact zW _|exact zw _|exact yw _|exact yc _|exact zn _ _ _ _|exact zD _ _|exact zu _ _ _|exact yg _ _|exact yn _ _|exact zX _ _|exact zV _ _ _|exact yL _ _ _|exact zt _|exact zG _ _ _ _|exact yu _|exact yH _|exact yD _|exact ym _|exact yO _|exact yG _|exact yA _|exact yT _ _ _|exact xA _ _|exact yX _ _|exact yl _ _ _|refine Plain.bind ?_ (fun _=>?_)|refine Plain.map ?_|refine Plain.ite ?_ ?_|dsimp only|split))
theorem yK (t:TypeId) (v x:Value):Plain P (Instr.storeAt t v x):=by
 unfold Instr.storeAt
 (repeat' (first|exact Plain.pure _|exact Plain.halt _|exact yx _ _|exact zZ _ _ _|exact zx _ _|exact zU _ _|exact zQ _|exact zR _|exact zH|exact zT|exact zY _|exact z8 _|exact zI _|exact zJ _|exact zB _|exact zq _|exact zW _|exact zw _|exact yw _|exact yc _|exact zn _ _ _ _|exact zD _ _|exact zu _ _ _|exact yg _ _|exact yn _ _|exact zX _ _|exact zV _ _ _|exact yL _ _ _|exact zt _|exact zG _ _ _ _|exact yu _|exact yH _|exact yD _|exact ym _|exact yO _|exact yG _|exact yA _|exact yT _ _ _|exact xA _ _|exact yX _ _|exact yl _ _ _|exact yR _ _|refine Plain.bind ?_ (fun _=>?_)|refine Plain.map ?_|refine Plain.ite ?_ ?_|dsimp only|split))
theorem yE (t:TypeId) (v x:Value):Plain P (Instr.makeSlice t v x):=by
 unfold Instr.makeSlice
 (repeat' (first|exact Plain.pure _|exact Plain.halt _|exact yx _ _|exact zZ _ _ _|exact zx _ _|exact zU _ _|exact zQ _|exact zR _|exact zH|exact zT|exact zY _|exact z8 _|exact zI _|exact zJ _|exact zB _|exact zq _|exact zW _|exact zw _|exact yw _|exact yc _|exact zn _ _ _ _|exact zD _ _|exact zu _ _ _|exact yg _ _|exact yn _ _|exact zX _ _|exact zV _ _ _|exact yL _ _ _|exact zt _|exact zG _ _ _ _|exact yu _|exact yH _|exact yD _|exact ym _|exact yO _|exact yG _|exact yA _|exact yT _ _ _|exact xA _ _|exact yX _ _|exact yl _ _ _|exact yR _ _|exact yK _ _ _|refine Plain.bind ?_ (fun _=>?_)|refine Plain.map ?_|refine Plain.ite ?_ ?_|dsimp only|split))
theorem yC (v:Value) (n:Nat) (c:BoundsCode):Plain P (Instr.sliceBound v n c):=by
 unfold Instr.sliceBound
 (repeat' (first|exact Plain.pure _|exact Plain.halt _|exact yx _ _|exact zZ _ _ _|exact zx _ _|exact zU _ _|exact zQ _|exact zR _|exact zH|exact zT|exact zY _|exact z8 _|exact zI _|exact zJ _|exact zB _|exact zq _|exact zW _|exact zw _|exact yw _|exact yc _|exact zn _ _ _ _|exact zD _ _|exact zu _ _ _|exact yg _ _|exact yn _ _|exact zX _ _|exact zV _ _ _|exact yL _ _ _|exact zt _|exact zG _ _ _ _|exact yu _|exact yH _|exact yD _|exact ym _|exact yO _|exact yG _|exact yA _|exact yT _ _ _|exact xA _ _|exact yX _ _|exact yl _ _ _|exact yR _ _|exact yK _ _ _|exact yE _ _ _|refine Plain.bind ?_ (fun _=>?_)|refine Plain.map ?_|refine Plain.ite ?_ ?_|dsimp only|split))
theorem yB (b:Bool) (n m:Nat) (x y z:Option Value):Plain P (Instr.sliceBounds b n m x y z):=by
 unfold Instr.sliceBounds
 (repeat' (first|exact Plain.pure _|exact Plain.halt _|exact yx _ _|exact zZ _ _ _|exact zx _ _|exact zU _ _|exact zQ _|exact zR _|exact zH|exact zT|exact zY _|exact z8 _|exact zI _|exact zJ _|exact zB _|exact zq _|exact zW _|exact zw _|exact yw _|exact yc _|exact zn _ _ _ _|exact zD _ _|exact zu _ _ _|exact yg _ _|exact yn _ _|exact zX _ _|exact zV _ _ _|exact yL _ _ _|exact zt _|exact zG _ _ _ _|exact yu _|exact yH _|exact yD _|exact ym _|exact yO _|exact yG _|exact yA _|exact yT _ _ _|exact xA _ _|exact yX _ _|exact yl _ _ _|exact yR _ _|exact yK _ _ _|exact yE _ _ _|exact yC _ _ _|refine Plain.bind ?_ (fun _=>?_)|refine Plain.map ?_|refine Plain.ite ?_ ?_|dsimp only|split))
theorem xq (t:TypeId) (v:Value) (x y z:Option Value):Plain P (Instr.slice t v x y z):=by
 unfold Instr.slice
 (repeat' (first|exact Plain.pure _|exact Plain.halt _|exact yx _ _|exact zZ _ _ _|exact zx _ _|exact zU _ _|exact zQ _|exact zR _|exact zH|exact zT|exact zY _|exact z8 _|exact zI _|exact zJ _|exact zB _|exact zq _|exact zW _|exact zw _|exact yw _|exact yc _|exact zn _ _ _ _|exact zD _ _|exact zu _ _ _|exact yg _ _|exact yn _ _|exact zX _ _|exact zV _ _ _|exact yL _ _ _|exact zt _|exact zG _ _ _ _|exact yu _|exact yH _|exact yD _|exact ym _|exact yO _|exact yG _|exact yA _|exact yT _ _ _|exact xA _ _|exact yX _ _|exact yl _ _ _|exact yR _ _|exact yK _ _ _|exact yE _ _ _|exact yC _ _ _|exact yB _ _ _ _ _ _|refine Plain.bind ?_ (fun _=>?_)|refine Plain.map ?_|refine Plain.ite ?_ ?_|dsimp only|split))
theorem yZ (t:TypeId) (v:Value) (x y z:Option Value):Plain P (Instr.sliceAt t v x y z):=by
 unfold Instr.sliceAt
 (repeat' (first|exact Plain.pure _|exact Plain.halt _|exact yx _ _|exact zZ _ _ _|exact zx _ _|exact zU _ _|exact zQ _|exact zR _|exact zH|exact zT|exact zY _|exact z8 _|exact zI _|exact zJ _|exact zB _|exact zq _|exact zW _|exact zw _|exact yw _|exact yc _|exact zn _ _ _ _|exact zD _ _|exact zu _ _ _|exact yg _ _|exact yn _ _|exact zX _ _|exact zV _ _ _|exact yL _ _ _|exact zt _|exact zG _ _ _ _|exact yu _|exact yH _|exact yD _|exact ym _|exact yO _|exact yG _|exact yA _|exact yT _ _ _|exact xA _ _|exact yX _ _|exact yl _ _ _|exact yR _ _|exact yK _ _ _|exact yE _ _ _|exact yC _ _ _|exact yB _ _ _ _ _ _|exact xq _ _ _ _ _|refine Plain.bind ?_ (fun _=>?_)|refine Plain.map ?_|refine Plain.ite ?_ ?_|dsimp only|split))
theorem xD (t:TypeId) (v:Value) (n:Nat):Plain P (Instr.field t v n):=by
 unfold Instr.field
 (repeat' (first|exact Plain.pure _|exact Plain.halt _|exact yx _ _|exact zZ _ _ _|exact zx _ _|exact zU _ _|exact zQ _|exact zR _|exact zH|exact zT|exact zY _|exact z8 _|exact zI _|exact zJ _|exact zB _|exact zq _|exact zW _|exact zw _|exact yw _|exact yc _|exact zn _ _ _ _|exact zD _ _|exact zu _ _ _|exact yg _ _|exact yn _ _|exact zX _ _|exact zV _ _ _|exact yL _ _ _|exact zt _|exact zG _ _ _ _|exact yu _|exact yH _|exact yD _|exact ym _|exact yO _|exact yG _|exact yA _|exact yT _ _ _|exact xA _ _|exact yX _ _|exact yl _ _ _|exact yR _ _|exact yK _ _ _|exact yE _ _ _|exact yC _ _ _|exact yB _ _ _ _ _ _|exact xq _ _ _ _ _|exact yZ _ _ _ _ _|refine Plain.bind ?_ (fun _=>?_)|refine Plain.map ?_|refine Plain.ite ?_ ?_|dsimp only|split))
theorem y8 (t:TypeId) (v x:Value):Plain P (Instr.indexAt t v x):=by
 unfold Instr.indexAt
 (repeat' (first|exact Plain.pure _|exact Plain.halt _|exact yx _ _|exact zZ _ _ _|exact zx _ _|exact zU _ _|exact zQ _|exact zR _|exact zH|exact zT|exact zY _|exact z8 _|exact zI _|exact zJ _|exact zB _|exact zq _|exact zW _|exact zw _|exact yw _|exact yc _|exact zn _ _ _ _|exact zD _ _|exact zu _ _ _|exact yg _ _|exact yn _ _|exact zX _ _|exact zV _ _ _|exact yL _ _ _|exact zt _|exact zG _ _ _ _|exact yu _|exact yH _|exact yD _|exact ym _|exact yO _|exact yG _|exact yA _|exact yT _ _ _|exact xA _ _|exact yX _ _|exact yl _ _ _|exact yR _ _|exact yK _ _ _|exact yE _ _ _|exact yC _ _ _|exact yB _ _ _ _ _ _|exact xq _ _ _ _ _|exact yZ _ _ _ _ _|exact xD _ _ _|refine Plain.bind ?_ (fun _=>?_)|refine Plain.map ?_|refine Plain.ite ?_ ?_|dsimp only|split))
theorem xJ (t:TypeId) (v x:Value):Plain P (Instr.index t v x):=by
 unfold Instr.index
 (repeat' (first|exact Plain.pure _|exact Plain.halt _|exact yx _ _|exact zZ _ _ _|exact zx _ _|exact zU _ _|exact zQ _|exact zR _|exact zH|exact zT|exact zY _|exact z8 _|exact zI _|exact zJ _|exact zB _|exact zq _|exact zW _|exact zw _|exact yw _|exact yc _|exact zn _ _ _ _|exact zD _ _|exact zu _ _ _|exact yg _ _|exact yn _ _|exact zX _ _|exact zV _ _ _|exact yL _ _ _|exact zt _|exact zG _ _ _ _|exact yu _|exact yH _|exact yD _|exact ym _|exact yO _|exact yG _|exact yA _|exact yT _ _ _|exact xA _ _|exact yX _ _|exact yl _ _ _|exact yR _ _|exact yK _ _ _|exact yE _ _ _|exact yC _ _ _|exact yB _ _ _ _ _ _|exact xq _ _ _ _ _|exact yZ _ _ _ _ _|exact xD _ _ _|exact y8 _ _ _|refine Plain.bind ?_ (fun _=>?_)|refine Plain.map ?_|refine Plain.ite ?_ ?_|dsimp only|split))
theorem xg (v:Value) (n:Nat):Plain P (Instr.extract v n):=by
 unfold Instr.extract
 (repeat' (first|exact Plain.pure _|exact Plain.halt _|exact yx _ _|exact zZ _ _ _|exact zx _ _|exact zU _ _|exact zQ _|exact zR _|exact zH|exact zT|exact zY _|exact z8 _|exact zI _|exact zJ _|exact zB _|exact zq _|exact zW _|exact zw _|exact yw _|exact yc _|exact zn _ _ _ _|exact zD _ _|exact zu _ _ _|exact yg _ _|exact yn _ _|exact zX _ _|exact zV _ _ _|exact yL _ _ _|exact zt _|exact zG _ _ _ _|exact yu _|exact yH _|exact yD _|exact ym _|exact yO _|exact yG _|exact yA _|exact yT _ _ _|exact xA _ _|exact yX _ _|exact yl _ _ _|exact yR _ _|exact yK _ _ _|exact yE _ _ _|exact yC _ _ _|exact yB _ _ _ _ _ _|exact xq _ _ _ _ _|exact yZ _ _ _ _ _|exact xD _ _ _|exact y8 _ _ _|exact xJ _ _ _|refine Plain.bind ?_ (fun _=>?_)|refine Plain.map ?_|refine Plain.ite ?_ ?_|dsimp only|split))
theorem yF (t:TypeId) (v:Value):Plain P (Instr.makeInterface t v):=by
 unfold Instr.makeInterface
 (repeat' (first|exact Plain.pure _|exact Plain.halt _|exact yx _ _|exact zZ _ _ _|exact zx _ _|exact zU _ _|exact zQ _|exact zR _|exact zH|exact zT|exact zY _|exact z8 _|exact zI _|exact zJ _|exact zB _|exact zq _|exact zW _|exact zw _|exact yw _|exact yc _|exact zn _ _ _ _|exact zD _ _|exact zu _ _ _|exact yg _ _|exact yn _ _|exact zX _ _|exact zV _ _ _|exact yL _ _ _|exact zt _|exact zG _ _ _ _|exact yu _|exact yH _|exact yD _|exact ym _|exact yO _|exact yG _|exact yA _|exact yT _ _ _|exact xA _ _|exact yX _ _|exact yl _ _ _|exact yR _ _|exact yK _ _ _|exact yE _ _ _|exact yC _ _ _|exact yB _ _ _ _ _ _|exact xq _ _ _ _ _|exact yZ _ _ _ _ _|exact xD _ _ _|exact y8 _ _ _|exact xJ _ _ _|exact xg _ _|refine Plain.bind ?_ (fun _=>?_)|refine Plain.map ?_|refine Plain.ite ?_ ?_|dsimp only|split))
theorem xy (t:TypeId) (v:Option Value):Plain P (Instr.makeMap t v):=by
 unfold Instr.makeMap
 (repeat' (first|exact Plain.pure _|exact Plain.halt _|exact yx _ _|exact zZ _ _ _|exact zx _ _|exact zU _ _|exact zQ _|exact zR _|exact zH|exact zT|exact zY _|exact z8 _|exact zI _|exact zJ _|exact zB _|exact zq _|exact zW _|exact zw _|exact yw _|exact yc _|exact zn _ _ _ _|exact zD _ _|exact zu _ _ _|exact yg _ _|exact yn _ _|exact zX _ _|exact zV _ _ _|exact yL _ _ _|exact zt _|exact zG _ _ _ _|exact yu _|exact yH _|exact yD _|exact ym _|exact yO _|exact yG _|exact yA _|exact yT _ _ _|exact xA _ _|exact yX _ _|exact yl _ _ _|exact yR _ _|exact yK _ _ _|exact yE _ _ _|exact yC _ _ _|exact yB _ _ _ _ _ _|exact xq _ _ _ _ _|exact yZ _ _ _ _ _|exact xD _ _ _|exact y8 _ _ _|exact xJ _ _ _|exact xg _ _|exact yF _ _|refine Plain.bind ?_ (fun _=>?_)|refine Plain.map ?_|refine Plain.ite ?_ ?_|dsimp only|split))
theorem xk (f:Fn) (v x:Array Value):Plain P (Instr.makeFunc f v x):=by
 unfold Instr.makeFunc
 (repeat' (first|exact Plain.pure _|exact Plain.halt _|exact yx _ _|exact zZ _ _ _|exact zx _ _|exact zU _ _|exact zQ _|exact zR _|exact zH|exact zT|exact zY _|exact z8 _|exact zI _|exact zJ _|exact zB _|exact zq _|exact zW _|exact zw _|exact yw _|exact yc _|exact zn _ _ _ _|exact zD _ _|exact zu _ _ _|exact yg _ _|exact yn _ _|exact zX _ _|exact zV _ _ _|exact yL _ _ _|exact zt _|exact zG _ _ _ _|exact yu _|exact yH _|exact yD _|exact ym _|exact yO _|exact yG _|exact yA _|exact yT _ _ _|exact xA _ _|exact yX _ _|exact yl _ _ _|exact yR _ _|exact yK _ _ _|exact yE _ _ _|exact yC _ _ _|exact yB _ _ _ _ _ _|exact xq _ _ _ _ _|exact yZ _ _ _ _ _|exact xD _ _ _|exact y8 _ _ _|exact xJ _ _ _|exact xg _ _|exact yF _ _|exact xy _ _|refine Plain.bind ?_ (fun _=>?_)|refine Plain.map ?_|refine Plain.ite ?_ ?_|dsimp only|split))
theorem xw (o:BinOp) (k:IntKind) (x y:Int):Plain P (Op.intArith o k x y):=by
 unfold Op.intArith
 (repeat' (first|exact Plain.pure _|exact Plain.halt _|exact yx _ _|exact zZ _ _ _|exact zx _ _|exact zU _ _|exact zQ _|exact zR _|exact zH|exact zT|exact zY _|exact z8 _|exact zI _|exact zJ _|exact zB _|exact zq _|exact zW _|exact zw _|exact yw _|exact yc _|exact zn _ _ _ _|exact zD _ _|exact zu _ _ _|exact yg _ _|exact yn _ _|exact zX _ _|exact zV _ _ _|exact yL _ _ _|exact zt _|exact zG _ _ _ _|exact yu _|exact yH _|exact yD _|exact ym _|exact yO _|exact yG _|exact yA _|exact yT _ _ _|exact xA _ _|exact yX _ _|exact yl _ _ _|exact yR _ _|exact yK _ _ _|exact yE _ _ _|exact yC _ _ _|exact yB _ _ _ _ _ _|exact xq _ _ _ _ _|exact yZ _ _ _ _ _|exact xD _ _ _|exact y8 _ _ _|exact xJ _ _ _|exact xg _ _|exact yF _ _|exact xy _ _|exact xk _ _ _|refine Plain.bind ?_ (fun _=>?_)|refine Plain.map ?_|refine Plain.ite ?_ ?_|dsimp only|split))
theorem xL (o:BinOp) (k:IntKind) (x y:Int):Plain P (Op.intBits o k x y):=by
 unfold Op.intBits
 (repeat' (first|exact Plain.pure _|exact Plain.halt _|exact yx _ _|exact zZ _ _ _|exact zx _ _|exact zU _ _|exact zQ _|exact zR _|exact zH|exact zT|exact zY _|exact z8 _|exact zI _|exact zJ _|exact zB _|exact zq _|exact zW _|exact zw _|exact yw _|exact yc _|exact zn _ _ _ _|exact zD _ _|exact zu _ _ _|exact yg _ _|exact yn _ _|exact zX _ _|exact zV _ _ _|exact yL _ _ _|exact zt _|exact zG _ _ _ _|exact yu _|exact yH _|exact yD _|exact ym _|exact yO _|exact yG _|exact yA _|exact yT _ _ _|exact xA _ _|exact yX _ _|exact yl _ _ _|exact yR _ _|exact yK _ _ _|exact yE _ _ _|exact yC _ _ _|exact yB _ _ _ _ _ _|exact xq _ _ _ _ _|exact yZ _ _ _ _ _|exact xD _ _ _|exact y8 _ _ _|exact xJ _ _ _|exact xg _ _|exact yF _ _|exact xy _ _|exact xk _ _ _|exact xw _ _ _ _|refine Plain.bind ?_ (fun _=>?_)|refine Plain.map ?_|refine Plain.ite ?_ ?_|dsimp only|split))
theorem xU (o:BinOp) (k:IntKind) (x y:Int):Plain P (Op.intDiv o k x y):=by
 unfold Op.intDiv
 (repeat' (first|exact Plain.pure _|exact Plain.halt _|exact yx _ _|exact zZ _ _ _|exact zx _ _|exact zU _ _|exact zQ _|exact zR _|exact zH|exact zT|exact zY _|exact z8 _|exact zI _|exact zJ _|exact zB _|exact zq _|exact zW _|exact zw _|exact yw _|exact yc _|exact zn _ _ _ _|exact zD _ _|exact zu _ _ _|exact yg _ _|exact yn _ _|exact zX _ _|exact zV _ _ _|exact yL _ _ _|exact zt _|exact zG _ _ _ _|exact yu _|exact yH _|exact yD _|exact ym _|exact yO _|exact yG _|exact yA _|exact yT _ _ _|exact xA _ _|exact yX _ _|exact yl _ _ _|exact yR _ _|exact yK _ _ _|exact yE _ _ _|exact yC _ _ _|exact yB _ _ _ _ _ _|exact xq _ _ _ _ _|exact yZ _ _ _ _ _|exact xD _ _ _|exact y8 _ _ _|exact xJ _ _ _|exact xg _ _|exact yF _ _|exact xy _ _|exact xk _ _ _|exact xw _ _ _ _|exact xL _ _ _ _|refine Plain.bind ?_ (fun _=>?_)|refine Plain.map ?_|refine Plain.ite ?_ ?_|dsimp only|split))
theorem xY (o:BinOp) (x y:Int):Plain P (Op.intCmp o x y):=by
 unfold Op.intCmp
 (repeat' (first|exact Plain.pure _|exact Plain.halt _|exact yx _ _|exact zZ _ _ _|exact zx _ _|exact zU _ _|exact zQ _|exact zR _|exact zH|exact zT|exact zY _|exact z8 _|exact zI _|exact zJ _|exact zB _|exact zq _|exact zW _|exact zw _|exact yw _|exact yc _|exact zn _ _ _ _|exact zD _ _|exact zu _ _ _|exact yg _ _|exact yn _ _|exact zX _ _|exact zV _ _ _|exact yL _ _ _|exact zt _|exact zG _ _ _ _|exact yu _|exact yH _|exact yD _|exact ym _|exact yO _|exact yG _|exact yA _|exact yT _ _ _|exact xA _ _|exact yX _ _|exact yl _ _ _|exact yR _ _|exact yK _ _ _|exact yE _ _ _|exact yC _ _ _|exact yB _ _ _ _ _ _|exact xq _ _ _ _ _|exact yZ _ _ _ _ _|exact xD _ _ _|exact y8 _ _ _|exact xJ _ _ _|exact xg _ _|exact yF _ _|exact xy _ _|exact xk _ _ _|exact xw _ _ _ _|exact xL _ _ _ _|exact xU _ _ _ _|refine Plain.bind ?_ (fun _=>?_)|refine Plain.map ?_|refine Plain.ite ?_ ?_|dsimp only|split))
theorem wD (o:BinOp) (k:IntKind) (x:Int) (q:IntKind) (y:Int):Plain P (Op.shift o k x q y):=by
 unfold Op.shift
 (repeat' (first|exact Plain.pure _|exact Plain.halt _|exact yx _ _|exact zZ _ _ _|exact zx _ _|exact zU _ _|exact zQ _|exact zR _|exact zH|exact zT|exact zY _|exact z8 _|exact zI _|exact zJ _|exact zB _|exact zq _|exact zW _|exact zw _|exact yw _|exact yc _|exact zn _ _ _ _|exact zD _ _|exact zu _ _ _|exact yg _ _|exact yn _ _|exact zX _ _|exact zV _ _ _|exact yL _ _ _|exact zt _|exact zG _ _ _ _|exact yu _|exact yH _|exact yD _|exact ym _|exact yO _|exact yG _|exact yA _|exact yT _ _ _|exact xA _ _|exact yX _ _|exact yl _ _ _|exact yR _ _|exact yK _ _ _|exact yE _ _ _|exact yC _ _ _|exact yB _ _ _ _ _ _|exact xq _ _ _ _ _|exact yZ _ _ _ _ _|exact xD _ _ _|exact y8 _ _ _|exact xJ _ _ _|exact xg _ _|exact yF _ _|exact xy _ _|exact xk _ _ _|exact xw _ _ _ _|exact xL _ _ _ _|exact xU _ _ _ _|exact xY _ _ _|refine Plain.bind ?_ (fun _=>?_)|refine Plain.map ?_|refine Plain.ite ?_ ?_|dsimp only|split))
theorem xK (o:BinOp) (k:FloatKind) (x y:Nat):Plain P (Op.floatArith o k x y):=by
 unfold Op.floatArith
 (repeat' (first|exact Plain.pure _|exact Plain.halt _|exact yx _ _|exact zZ _ _ _|exact zx _ _|exact zU _ _|exact zQ _|exact zR _|exact zH|exact zT|exact zY _|exact z8 _|exact zI _|exact zJ _|exact zB _|exact zq _|exact zW _|exact zw _|exact yw _|exact yc _|exact zn _ _ _ _|exact zD _ _|exact zu _ _ _|exact yg _ _|exact yn _ _|exact zX _ _|exact zV _ _ _|exact yL _ _ _|exact zt _|exact zG _ _ _ _|exact yu _|exact yH _|exact yD _|exact ym _|exact yO _|exact yG _|exact yA _|exact yT _ _ _|exact xA _ _|exact yX _ _|exact yl _ _ _|exact yR _ _|exact yK _ _ _|exact yE _ _ _|exact yC _ _ _|exact yB _ _ _ _ _ _|exact xq _ _ _ _ _|exact yZ _ _ _ _ _|exact xD _ _ _|exact y8 _ _ _|exact xJ _ _ _|exact xg _ _|exact yF _ _|exact xy _ _|exact xk _ _ _|exact xw _ _ _ _|exact xL _ _ _ _|exact xU _ _ _ _|exact xY _ _ _|exact wD _ _ _ _ _|refine Plain.bind ?_ (fun _=>?_)|refine Plain.map ?_|refine Plain.ite ?_ ?_|dsimp only|split))
theorem xX (o:BinOp) (k:FloatKind) (x y:Nat):Plain P (Op.floatCmp o k x y):=by
 unfold Op.floatCmp
 (repeat' (first|exact Plain.pure _|exact Plain.halt _|exact yx _ _|exact zZ _ _ _|exact zx _ _|exact zU _ _|exact zQ _|exact zR _|exact zH|exact zT|exact zY _|exact z8 _|exact zI _|exact zJ _|exact zB _|exact zq _|exact zW _|exact zw _|exact yw _|exact yc _|exact zn _ _ _ _|exact zD _ _|exact zu _ _ _|exact yg _ _|exact yn _ _|exact zX _ _|exact zV _ _ _|exact yL _ _ _|exact zt _|exact zG _ _ _ _|exact yu _|exact yH _|exact yD _|exact ym _|exact yO _|exact yG _|exact yA _|exact yT _ _ _|exact xA _ _|exact yX _ _|exact yl _ _ _|exact yR _ _|exact yK _ _ _|exact yE _ _ _|exact yC _ _ _|exact yB _ _ _ _ _ _|exact xq _ _ _ _ _|exact yZ _ _ _ _ _|exact xD _ _ _|exact y8 _ _ _|exact xJ _ _ _|exact xg _ _|exact yF _ _|exact xy _ _|exact xk _ _ _|exact xw _ _ _ _|exact xL _ _ _ _|exact xU _ _ _ _|exact xY _ _ _|exact wD _ _ _ _ _|exact xK _ _ _ _|refine Plain.bind ?_ (fun _=>?_)|refine Plain.map ?_|refine Plain.ite ?_ ?_|dsimp only|split))
theorem wh (o:BinOp) (x y:ByteArray):Plain P (Op.stringOp o x y):=by
 unfold Op.stringOp
 (repeat' (first|exact Plain.pure _|exact Plain.halt _|exact yx _ _|exact zZ _ _ _|exact zx _ _|exact zU _ _|exact zQ _|exact zR _|exact zH|exact zT|exact zY _|exact z8 _|exact zI _|exact zJ _|exact zB _|exact zq _|exact zW _|exact zw _|exact yw _|exact yc _|exact zn _ _ _ _|exact zD _ _|exact zu _ _ _|exact yg _ _|exact yn _ _|exact zX _ _|exact zV _ _ _|exact yL _ _ _|exact zt _|exact zG _ _ _ _|exact yu _|exact yH _|exact yD _|exact ym _|exact yO _|exact yG _|exact yA _|exact yT _ _ _|exact xA _ _|exact yX _ _|exact yl _ _ _|exact yR _ _|exact yK _ _ _|exact yE _ _ _|exact yC _ _ _|exact yB _ _ _ _ _ _|exact xq _ _ _ _ _|exact yZ _ _ _ _ _|exact xD _ _ _|exact y8 _ _ _|exact xJ _ _ _|exact xg _ _|exact yF _ _|exact xy _ _|exact xk _ _ _|exact xw _ _ _ _|exact xL _ _ _ _|exact xU _ _ _ _|exact xY _ _ _|exact wD _ _ _ _ _|exact xK _ _ _ _|exact xX _ _ _ _|refine Plain.bind ?_ (fun _=>?_)|refine Plain.map ?_|refine Plain.ite ?_ ?_|dsimp only|split))
theorem vR (o:UnOp) (x:Value):Plain P (Op.unary o x):=by
 unfold Op.unary
 (repeat' (first|exact Plain.pure _|exact Plain.halt _|exact yx _ _|exact zZ _ _ _|exact zx _ _|exact zU _ _|exact zQ _|exact zR _|exact zH|exact zT|exact zY _|exact z8 _|exact zI _|exact zJ _|exact zB _|exact zq _|exact zW _|exact zw _|exact yw _|exact yc _|exact zn _ _ _ _|exact zD _ _|exact zu _ _ _|exact yg _ _|exact yn _ _|exact zX _ _|exact zV _ _ _|exact yL _ _ _|exact zt _|exact zG _ _ _ _|exact yu _|exact yH _|exact yD _|exact ym _|exact yO _|exact yG _|exact yA _|exact yT _ _ _|exact xA _ _|exact yX _ _|exact yl _ _ _|exact yR _ _|exact yK _ _ _|exact yE _ _ _|exact yC _ _ _|exact yB _ _ _ _ _ _|exact xq _ _ _ _ _|exact yZ _ _ _ _ _|exact xD _ _ _|exact y8 _ _ _|exact xJ _ _ _|exact xg _ _|exact yF _ _|exact xy _ _|exact xk _ _ _|exact xw _ _ _ _|exact xL _ _ _ _|exact xU _ _ _ _|exact xY _ _ _|exact wD _ _ _ _ _|exact xK _ _ _ _|exact xX _ _ _ _|exact wh _ _ _|refine Plain.bind ?_ (fun _=>?_)|refine Plain.map ?_|refine Plain.ite ?_ ?_|dsimp only|split))
theorem wJ (k:IntKind) (x:Int):Plain P (Conv.intToInt k x):=by
 unfold Conv.intToInt
 (repeat' (first|exact Plain.pure _|exact Plain.halt _|exact yx _ _|exact zZ _ _ _|exact zx _ _|exact zU _ _|exact zQ _|exact zR _|exact zH|exact zT|exact zY _|exact z8 _|exact zI _|exact zJ _|exact zB _|exact zq _|exact zW _|exact zw _|exact yw _|exact yc _|exact zn _ _ _ _|exact zD _ _|exact zu _ _ _|exact yg _ _|exact yn _ _|exact zX _ _|exact zV _ _ _|exact yL _ _ _|exact zt _|exact zG _ _ _ _|exact yu _|exact yH _|exact yD _|exact ym _|exact yO _|exact yG _|exact yA _|exact yT _ _ _|exact xA _ _|exact yX _ _|exact yl _ _ _|exact yR _ _|exact yK _ _ _|exact yE _ _ _|exact yC _ _ _|exact yB _ _ _ _ _ _|exact xq _ _ _ _ _|exact yZ _ _ _ _ _|exact xD _ _ _|exact y8 _ _ _|exact xJ _ _ _|exact xg _ _|exact yF _ _|exact xy _ _|exact xk _ _ _|exact xw _ _ _ _|exact xL _ _ _ _|exact xU _ _ _ _|exact xY _ _ _|exact wD _ _ _ _ _|exact xK _ _ _ _|exact xX _ _ _ _|exact wh _ _ _|exact vR _ _|refine Plain.bind ?_ (fun _=>?_)|refine Plain.map ?_|refine Plain.ite ?_ ?_|dsimp only|split))
theorem wz (k:FloatKind) (x:Int):Plain P (Conv.intToFloat k x):=by
 unfold Conv.intToFloat
 (repeat' (first|exact Plain.pure _|exact Plain.halt _|exact yx _ _|exact zZ _ _ _|exact zx _ _|exact zU _ _|exact zQ _|exact zR _|exact zH|exact zT|exact zY _|exact z8 _|exact zI _|exact zJ _|exact zB _|exact zq _|exact zW _|exact zw _|exact yw _|exact yc _|exact zn _ _ _ _|exact zD _ _|exact zu _ _ _|exact yg _ _|exact yn _ _|exact zX _ _|exact zV _ _ _|exact yL _ _ _|exact zt _|exact zG _ _ _ _|exact yu _|exact yH _|exact yD _|exact ym _|exact yO _|exact yG _|exact yA _|exact yT _ _ _|exact xA _ _|exact yX _ _|exact yl _ _ _|exact yR _ _|exact yK _ _ _|exact yE _ _ _|exact yC _ _ _|exact yB _ _ _ _ _ _|exact xq _ _ _ _ _|exact yZ _ _ _ _ _|exact xD _ _ _|exact y8 _ _ _|exact xJ _ _ _|exact xg _ _|exact yF _ _|exact xy _ _|exact xk _ _ _|exact xw _ _ _ _|exact xL _ _ _ _|exact xU _ _ _ _|exact xY _ _ _|exact wD _ _ _ _ _|exact xK _ _ _ _|exact xX _ _ _ _|exact wh _ _ _|exact vR _ _|exact wJ _ _|refine Plain.bind ?_ (fun _=>?_)|refine Plain.map ?_|refine Plain.ite ?_ ?_|dsimp only|split))
theorem wL (k:FloatKind) (x:Nat) (q:IntKind):Plain P (Conv.floatToInt k x q):=by
 unfold Conv.floatToInt
 (repeat' (first|exact Plain.pure _|exact Plain.halt _|exact yx _ _|exact zZ _ _ _|exact zx _ _|exact zU _ _|exact zQ _|exact zR _|exact zH|exact zT|exact zY _|exact z8 _|exact zI _|exact zJ _|exact zB _|exact zq _|exact zW _|exact zw _|exact yw _|exact yc _|exact zn _ _ _ _|exact zD _ _|exact zu _ _ _|exact yg _ _|exact yn _ _|exact zX _ _|exact zV _ _ _|exact yL _ _ _|exact zt _|exact zG _ _ _ _|exact yu _|exact yH _|exact yD _|exact ym _|exact yO _|exact yG _|exact yA _|exact yT _ _ _|exact xA _ _|exact yX _ _|exact yl _ _ _|exact yR _ _|exact yK _ _ _|exact yE _ _ _|exact yC _ _ _|exact yB _ _ _ _ _ _|exact xq _ _ _ _ _|exact yZ _ _ _ _ _|exact xD _ _ _|exact y8 _ _ _|exact xJ _ _ _|exact xg _ _|exact yF _ _|exact xy _ _|exact xk _ _ _|exact xw _ _ _ _|exact xL _ _ _ _|exact xU _ _ _ _|exact xY _ _ _|exact wD _ _ _ _ _|exact xK _ _ _ _|exact xX _ _ _ _|exact wh _ _ _|exact vR _ _|exact wJ _ _|exact wz _ _|refine Plain.bind ?_ (fun _=>?_)|refine Plain.map ?_|refine Plain.ite ?_ ?_|dsimp only|split))
theorem wF (k:FloatKind) (x:Nat) (q:FloatKind):Plain P (Conv.floatToFloat k x q):=by
 unfold Conv.floatToFloat
 (repeat' (first|exact Plain.pure _|exact Plain.halt _|exact yx _ _|exact zZ _ _ _|exact zx _ _|exact zU _ _|exact zQ _|exact zR _|exact zH|exact zT|exact zY _|exact z8 _|exact zI _|exact zJ _|exact zB _|exact zq _|exact zW _|exact zw _|exact yw _|exact yc _|exact zn _ _ _ _|exact zD _ _|exact zu _ _ _|exact yg _ _|exact yn _ _|exact zX _ _|exact zV _ _ _|exact yL _ _ _|exact zt _|exact zG _ _ _ _|exact yu _|exact yH _|exact yD _|exact ym _|exact yO _|exact yG _|exact yA _|exact yT _ _ _|exact xA _ _|exact yX _ _|exact yl _ _ _|exact yR _ _|exact yK _ _ _|exact yE _ _ _|exact yC _ _ _|exact yB _ _ _ _ _ _|exact xq _ _ _ _ _|exact yZ _ _ _ _ _|exact xD _ _ _|exact y8 _ _ _|exact xJ _ _ _|exact xg _ _|exact yF _ _|exact xy _ _|exact xk _ _ _|exact xw _ _ _ _|exact xL _ _ _ _|exact xU _ _ _ _|exact xY _ _ _|exact wD _ _ _ _ _|exact xK _ _ _ _|exact xX _ _ _ _|exact wh _ _ _|exact vR _ _|exact wJ _ _|exact wz _ _|exact wL _ _ _|refine Plain.bind ?_ (fun _=>?_)|refine Plain.map ?_|refine Plain.ite ?_ ?_|dsimp only|split))
theorem qL (v:Value):Plain P (Builtin.lenOf v):=by
 unfold Builtin.lenOf
 (repeat' (first|exact Plain.pure _|exact Plain.halt _|exact yx _ _|exact zZ _ _ _|exact zx _ _|exact zU _ _|exact zQ _|exact zR _|exact zH|exact zT|exact zY _|exact z8 _|exact zI _|exact zJ _|exact zB _|exact zq _|exact zW _|exact zw _|exact yw _|exact yc _|exact zn _ _ _ _|exact zD _ _|exact zu _ _ _|exact yg _ _|exact yn _ _|exact zX _ _|exact zV _ _ _|exact yL _ _ _|exact zt _|exact zG _ _ _ _|exact yu _|exact yH _|exact yD _|exact ym _|exact yO _|exact yG _|exact yA _|exact yT _ _ _|exact xA _ _|exact yX _ _|exact yl _ _ _|exact yR _ _|exact yK _ _ _|exact yE _ _ _|exact yC _ _ _|exact yB _ _ _ _ _ _|exact xq _ _ _ _ _|exact yZ _ _ _ _ _|exact xD _ _ _|exact y8 _ _ _|exact xJ _ _ _|exact xg _ _|exact yF _ _|exact xy _ _|exact xk _ _ _|exact xw _ _ _ _|exact xL _ _ _ _|exact xU _ _ _ _|exact xY _ _ _|exact wD _ _ _ _ _|exact xK _ _ _ _|exact xX _ _ _ _|exact wh _ _ _|exact vR _ _|exact wJ _ _|exact wz _ _|exact wL _ _ _|exact wF _ _ _|refine Plain.bind ?_ (fun _=>?_)|refine Plain.map ?_|refine Plain.ite ?_ ?_|dsimp only|split))
theorem ul (n m:Nat) (v:Value):Plain P (Builtin.firstCells n m v):=by
 unfold Builtin.firstCells
 (repeat' (first|exact Plain.pure _|exact Plain.halt _|exact yx _ _|exact zZ _ _ _|exact zx _ _|exact zU _ _|exact zQ _|exact zR _|exact zH|exact zT|exact zY _|exact z8 _|exact zI _|exact zJ _|exact zB _|exact zq _|exact zW _|exact zw _|exact yw _|exact yc _|exact zn _ _ _ _|exact zD _ _|exact zu _ _ _|exact yg _ _|exact yn _ _|exact zX _ _|exact zV _ _ _|exact yL _ _ _|exact zt _|exact zG _ _ _ _|exact yu _|exact yH _|exact yD _|exact ym _|exact yO _|exact yG _|exact yA _|exact yT _ _ _|exact xA _ _|exact yX _ _|exact yl _ _ _|exact yR _ _|exact yK _ _ _|exact yE _ _ _|exact yC _ _ _|exact yB _ _ _ _ _ _|exact xq _ _ _ _ _|exact yZ _ _ _ _ _|exact xD _ _ _|exact y8 _ _ _|exact xJ _ _ _|exact xg _ _|exact yF _ _|exact xy _ _|exact xk _ _ _|exact xw _ _ _ _|exact xL _ _ _ _|exact xU _ _ _ _|exact xY _ _ _|exact wD _ _ _ _ _|exact xK _ _ _ _|exact xX _ _ _ _|exact wh _ _ _|exact vR _ _|exact wJ _ _|exact wz _ _|exact wL _ _ _|exact wF _ _ _|exact qL _|refine Plain.bind ?_ (fun _=>?_)|refine Plain.map ?_|refine Plain.ite ?_ ?_|dsimp only|split))
theorem Xc (a:Array TypeId) (t:TypeId) (v:Array Value):Plain P (Builtin.len_ a t v):=by
 unfold Builtin.len_
 (repeat' (first|exact Plain.pure _|exact Plain.halt _|exact yx _ _|exact zZ _ _ _|exact zx _ _|exact zU _ _|exact zQ _|exact zR _|exact zH|exact zT|exact zY _|exact z8 _|exact zI _|exact zJ _|exact zB _|exact zq _|exact zW _|exact zw _|exact yw _|exact yc _|exact zn _ _ _ _|exact zD _ _|exact zu _ _ _|exact yg _ _|exact yn _ _|exact zX _ _|exact zV _ _ _|exact yL _ _ _|exact zt _|exact zG _ _ _ _|exact yu _|exact yH _|exact yD _|exact ym _|exact yO _|exact yG _|exact yA _|exact yT _ _ _|exact xA _ _|exact yX _ _|exact yl _ _ _|exact yR _ _|exact yK _ _ _|exact yE _ _ _|exact yC _ _ _|exact yB _ _ _ _ _ _|exact xq _ _ _ _ _|exact yZ _ _ _ _ _|exact xD _ _ _|exact y8 _ _ _|exact xJ _ _ _|exact xg _ _|exact yF _ _|exact xy _ _|exact xk _ _ _|exact xw _ _ _ _|exact xL _ _ _ _|exact xU _ _ _ _|exact xY _ _ _|exact wD _ _ _ _ _|exact xK _ _ _ _|exact xX _ _ _ _|exact wh _ _ _|exact vR _ _|exact wJ _ _|exact wz _ _|exact wL _ _ _|exact wF _ _ _|exact qL _|exact ul _ _ _|refine Plain.bind ?_ (fun _=>?_)|refine Plain.map ?_|refine Plain.ite ?_ ?_|dsimp only|split))
theorem Qo (a:Array TypeId) (t:TypeId) (v:Array Value):Plain P (Builtin.cap_ a t v):=by
 unfold Builtin.cap_
 (repeat' (first|exact Plain.pure _|exact Plain.halt _|exact yx _ _|exact zZ _ _ _|exact zx _ _|exact zU _ _|exact zQ _|exact zR _|exact zH|exact zT|exact zY _|exact z8 _|exact zI _|exact zJ _|exact zB _|exact zq _|exact zW _|exact zw _|exact yw _|exact yc _|exact zn _ _ _ _|exact zD _ _|exact zu _ _ _|exact yg _ _|exact yn _ _|exact zX _ _|exact zV _ _ _|exact yL _ _ _|exact zt _|exact zG _ _ _ _|exact yu _|exact yH _|exact yD _|exact ym _|exact yO _|exact yG _|exact yA _|exact yT _ _ _|exact xA _ _|exact yX _ _|exact yl _ _ _|exact yR _ _|exact yK _ _ _|exact yE _ _ _|exact yC _ _ _|exact yB _ _ _ _ _ _|exact xq _ _ _ _ _|exact yZ _ _ _ _ _|exact xD _ _ _|exact y8 _ _ _|exact xJ _ _ _|exact xg _ _|exact yF _ _|exact xy _ _|exact xk _ _ _|exact xw _ _ _ _|exact xL _ _ _ _|exact xU _ _ _ _|exact xY _ _ _|exact wD _ _ _ _ _|exact xK _ _ _ _|exact xX _ _ _ _|exact wh _ _ _|exact vR _ _|exact wJ _ _|exact wz _ _|exact wL _ _ _|exact wF _ _ _|exact qL _|exact ul _ _ _|exact Xc _ _ _|refine Plain.bind ?_ (fun _=>?_)|refine Plain.map ?_|refine Plain.ite ?_ ?_|dsimp only|split))
theorem VO (a:Array TypeId) (t:TypeId) (v:Array Value):Plain P (Builtin.copy_ a t v):=by
 unfold Builtin.copy_
 (repeat' (first|exact Plain.pure _|exact Plain.halt _|exact yx _ _|exact zZ _ _ _|exact zx _ _|exact zU _ _|exact zQ _|exact zR _|exact zH|exact zT|exact zY _|exact z8 _|exact zI _|exact zJ _|exact zB _|exact zq _|exact zW _|exact zw _|exact yw _|exact yc _|exact zn _ _ _ _|exact zD _ _|exact zu _ _ _|exact yg _ _|exact yn _ _|exact zX _ _|exact zV _ _ _|exact yL _ _ _|exact zt _|exact zG _ _ _ _|exact yu _|exact yH _|exact yD _|exact ym _|exact yO _|exact yG _|exact yA _|exact yT _ _ _|exact xA _ _|exact yX _ _|exact yl _ _ _|exact yR _ _|exact yK _ _ _|exact yE _ _ _|exact yC _ _ _|exact yB _ _ _ _ _ _|exact xq _ _ _ _ _|exact yZ _ _ _ _ _|exact xD _ _ _|exact y8 _ _ _|exact xJ _ _ _|exact xg _ _|exact yF _ _|exact xy _ _|exact xk _ _ _|exact xw _ _ _ _|exact xL _ _ _ _|exact xU _ _ _ _|exact xY _ _ _|exact wD _ _ _ _ _|exact xK _ _ _ _|exact xX _ _ _ _|exact wh _ _ _|exact vR _ _|exact wJ _ _|exact wz _ _|exact wL _ _ _|exact wF _ _ _|exact qL _|exact ul _ _ _|exact Xc _ _ _|exact Qo _ _ _|refine Plain.bind ?_ (fun _=>?_)|refine Plain.map ?_|refine Plain.ite ?_ ?_|dsimp only|split))
theorem J9 (v x:Value):Plain P (Builtin.min2 v x):=by
 unfold Builtin.min2
 (repeat' (first|exact Plain.pure _|exact Plain.halt _|exact yx _ _|exact zZ _ _ _|exact zx _ _|exact zU _ _|exact zQ _|exact zR _|exact zH|exact zT|exact zY _|exact z8 _|exact zI _|exact zJ _|exact zB _|exact zq _|exact zW _|exact zw _|exact yw _|exact yc _|exact zn _ _ _ _|exact zD _ _|exact zu _ _ _|exact yg _ _|exact yn _ _|exact zX _ _|exact zV _ _ _|exact yL _ _ _|exact zt _|exact zG _ _ _ _|exact yu _|exact yH _|exact yD _|exact ym _|exact yO _|exact yG _|exact yA _|exact yT _ _ _|exact xA _ _|exact yX _ _|exact yl _ _ _|exact yR _ _|exact yK _ _ _|exact yE _ _ _|exact yC _ _ _|exact yB _ _ _ _ _ _|exact xq _ _ _ _ _|exact yZ _ _ _ _ _|exact xD _ _ _|exact y8 _ _ _|exact xJ _ _ _|exact xg _ _|exact yF _ _|exact xy _ _|exact xk _ _ _|exact xw _ _ _ _|exact xL _ _ _ _|exact xU _ _ _ _|exact xY _ _ _|exact wD _ _ _ _ _|exact xK _ _ _ _|exact xX _ _ _ _|exact wh _ _ _|exact vR _ _|exact wJ _ _|exact wz _ _|exact wL _ _ _|exact wF _ _ _|exact qL _|exact ul _ _ _|exact Xc _ _ _|exact Qo _ _ _|exact VO _ _ _|refine Plain.bind ?_ (fun _=>?_)|refine Plain.map ?_|refine Plain.ite ?_ ?_|dsimp only|split))
theorem pl_max2 (v x:Value):Plain P (Builtin.max2 v x):=by
 unfold Builtin.max2
 (repeat' (first|exact Plain.pure _|exact Plain.halt _|exact yx _ _|exact zZ _ _ _|exact zx _ _|exact zU _ _|exact zQ _|exact zR _|exact zH|exact zT|exact zY _|exact z8 _|exact zI _|exact zJ _|exact zB _|exact zq _|exact zW _|exact zw _|exact yw _|exact yc _|exact zn _ _ _ _|exact zD _ _|exact zu _ _ _|exact yg _ _|exact yn _ _|exact zX _ _|exact zV _ _ _|exact yL _ _ _|exact zt _|exact zG _ _ _ _|exact yu _|exact yH _|exact yD _|exact ym _|exact yO _|exact yG _|exact yA _|exact yT _ _ _|exact xA _ _|exact yX _ _|exact yl _ _ _|exact yR _ _|exact yK _ _ _|exact yE _ _ _|exact yC _ _ _|exact yB _ _ _ _ _ _|exact xq _ _ _ _ _|exact yZ _ _ _ _ _|exact xD _ _ _|exact y8 _ _ _|exact xJ _ _ _|exact xg _ _|exact yF _ _|exact xy _ _|exact xk _ _ _|exact xw _ _ _ _|exact xL _ _ _ _|exact xU _ _ _ _|exact xY _ _ _|exact wD _ _ _ _ _|exact xK _ _ _ _|exact xX _ _ _ _|exact wh _ _ _|exact vR _ _|exact wJ _ _|exact wz _ _|exact wL _ _ _|exact wF _ _ _|exact qL _|exact ul _ _ _|exact Xc _ _ _|exact Qo _ _ _|exact VO _ _ _|exact J9 _ _|refine Plain.bind ?_ (fun _=>?_)|refine Plain.map ?_|refine Plain.ite ?_ ?_|dsimp only|split))
theorem Wq {α γ : Type} (f : γ → α → Sem γ) (h : ∀ x y, Plain P (f x y)) : ∀ (l : List α) (b : γ), Plain P (l.foldlM f b)
  | [], b => by rw [List.foldlM_nil]; exact .pure _
  | x :: l, b => by
    rw [List.foldlM_cons]
    exact Plain.bind (h b x) fun _ => Wq f h l _
theorem pl_min (a:Array TypeId) (t:TypeId) (v:Array Value):Plain P (Builtin.min_ a t v):=by
 unfold Builtin.min_
 split
 ·exact .halt _
 ·exact Wq _ J9 _ _
theorem pl_max (a:Array TypeId) (t:TypeId) (v:Array Value):Plain P (Builtin.max_ a t v):=by
 unfold Builtin.max_
 split
 ·exact .halt _
 ·exact Wq _ pl_max2 _ _
end Go.Ab
namespace Go.Ab
variable {P:Program}
theorem zbb {α γ:Type} {s:Sem α} {f:α→Sem γ} (h:∀ a w x w',(f a).run P w≠.ok x w'):Plain P (s >>= f):=.dead fun w x w' hr=>by
 rw [Sem.run_bind] at hr
 cases hs:s.run P w with
 | ok a w1=>rw [hs] at hr;exact h a w1 x w' hr
 | halt x w1=>rw [hs] at hr;cases hr
theorem U7 {γ:Type} {n m l:Nat} {b:Option Addr} {v:Value} {f:Bool→Sem γ} (h:∀ a w x w',(f a).run P w≠.ok x w'):Plain P (Builtin.mayShare n m l b v >>= f):=zbb h
theorem zbc (a:Array TypeId) (t:TypeId) (v:Array Value):Plain P (Builtin.append_ a t v):=by
 unfold Builtin.append_
 repeat' (first|with_reducible exact zq _|with_reducible exact zW _|with_reducible exact yH _|with_reducible exact qL _|with_reducible exact zB _|with_reducible exact zt _|with_reducible exact zR _|with_reducible exact zY _|with_reducible exact ul _ _ _|with_reducible exact zw _|with_reducible exact Plain.pure _|with_reducible exact zu _ _ _|with_reducible exact zT|with_reducible exact z8 _|with_reducible exact zJ _|with_reducible exact yg _ _|with_reducible exact zx _ _|((with_reducible refine U7 ?_);intro b w x w' hr;cases b<;>simp [Go.mark,Go.unsupported,Sem.run] at hr;done)|with_reducible refine Plain.bind ?_ (fun _=>?_)|with_reducible refine Plain.ite ?_ ?_|dsimp only|split)
 all_goals (first|exact Plain.pure _|skip)
end Go.Ab
namespace Go.Ab
inductive IfV where
 | nil
 | num (t:TypeId) (k:IntKind) (n:Int)
 | other
 deriving Inhabited
def IfV.isNil:IfV→Bool
 | .nil=>true
 | _=>false
inductive AV where
 | bad
 | und
 | bool (b:Bool)
 | int (k:IntKind) (n:Int)
 | flt (k:FloatKind) (b:Nat)
 | str (s:ByteArray)
 | nilptr
 | ptr (id off:Nat)
 | nilsl
 | sl (id off len esz:Nat)
 | fn (f:FuncId) (caps:List (Nat × Nat))
 | ifc (e:IfV)
 | mref (id:Nat)
 deriving Inhabited
inductive TV0 where
 | v (x:AV)
 | g (cs:List AV)
 deriving Inhabited
inductive TV where
 | v (x:AV)
 | g (cs:List AV)
 | t (vs:List TV0)
 deriving Inhabited
def TV0.up:TV0→TV
 | .v x=>.v x
 | .g cs=>.g cs
def TV.down:TV→Option TV0
 | .v x=>some (.v x)
 | .g cs=>some (.g cs)
 | .t _=>none
def TV.cells:TV→Option (List AV)
 | .v x=>some [x]
 | .g cs=>some cs
 | .t _=>none
def AV.stor:AV→Bool
 | .bad=>false
 | .und=>false
 | _=>true
inductive Blk where
 | ro (cs:List AV)
 | own (cs:List AV)
 | gone
 | tab (b:Nat) (o:Obj)
 | hole
 | mp (kk ek:IntKind) (m:List (Int × Int))
 deriving Inhabited
structure Heap where
 n:Nat
 f:Nat→Blk
 deriving Inhabited
def upd {α:Type} (f:Nat→α) (i:Nat) (x:α):Nat→α:=fun j=>if j=i then x else f j
def Heap.alloc (H:Heap) (b:Blk):Heap:=⟨H.n+1,upd H.f H.n b⟩
def Heap.put (H:Heap) (i:Nat) (b:Blk):Heap:=⟨H.n,upd H.f i b⟩
def Blk.cs:Blk→List AV
 | .ro cs=>cs
 | .own cs=>cs
 | .gone=>[]
 | .tab _ _=>[]
 | .hole=>[]
 | .mp _ _ _=>[]
def Blk.isRow:Blk→Bool
 | .own _=>true
 | _=>false
def Yp:List (Int × Int)→Int→Int
 | [],_=>0
 | (k,v)::r,a=>if a=k then v else Yp r a
def Blk.isOwn:Blk→Bool
 | .own _=>true
 | .mp _ _ _=>true
 | _=>false
def qnan:FloatKind→Nat
 | .f32=>0x7fc00000
 | .f64=>0x7ff8000000000000
def cz (k:FloatKind) (b:Nat):Nat:=if (k.decode b).isNaN then qnan k else b
def Zy:Value→AV
 | .bool b=>.bool b
 | .int k n=>.int k n
 | .float k b=>.flt k (cz k b)
 | .string s=>.str s
 | .pointer none=>.nilptr
 | .slice none 0 0=>.nilsl
 | .nilIface=>.ifc .nil
 | .func (.func f) a b=>if a.size=0∧b.size=0 then .fn f [] else .bad
 | _=>.bad
def Ka:Value→TV
 | .agg cs=>.g (cs.toList.map Zy)
 | .tuple _=>.v .bad
 | v=>.v (Zy v)
def zK (s:Nat→TV):Operand→TV
 | .tmp t=>s t
 | .const v=>Ka v
 | .global _=>.v .bad
 | .func f=>.v (.fn f [])
def tagg (P:Program) (t:TypeId):Option Bool:=
 match P.underlying t with
 | some (.struct _)=>some true
 | some (.array _ _)=>some true
 | some _=>some false
 | none=>none
def tsz (P:Program) (t:TypeId):Option Nat:=(P.info? t).map (·.size)
def vJ (P:Program) (t:TypeId):Option Nat:=(P.info? t).map (·.bytes)
def xz (P:Program) (t:TypeId):Option (List AV):=((P.info? t).bind (·.zero)).map fun z=>z.cells.toList.map Zy
def zL (P:Program) (t:TypeId):Option TypeId:=
 match P.underlying t with
 | some (.slice e)=>some e
 | _=>none
def vX (P:Program) (t:TypeId):Option (List Field):=
 match P.underlying t with
 | some (.struct fs)=>some fs.toList
 | _=>none
def tarr (P:Program) (t:TypeId):Option (Nat × TypeId):=
 match P.underlying t with
 | some (.array n e)=>some (n,e)
 | _=>none
def tint (P:Program) (t:TypeId):Option IntKind:=
 match P.underlying t with
 | some (.int k)=>some k
 | _=>none
def tflt (P:Program) (t:TypeId):Option FloatKind:=
 match P.underlying t with
 | some (.float k)=>some k
 | _=>none
def Yq (P:Program) (t:TypeId):Bool:=
 match P.underlying t with
 | some .bool=>true
 | _=>false
def tstr (P:Program) (t:TypeId):Bool:=
 match P.underlying t with
 | some .string=>true
 | _=>false
def fop (op:BinOp) (k:FloatKind) (x y:Nat):Nat:=((floatBits op k x y).map (cz k)).getD (qnan k)
def fcmp (op:BinOp) (k:FloatKind) (x y:Nat):Bool:=
 let c:=k.format.order x y
 match op with
 | .eql=>c == some .eq
 | .neq=>c != some .eq
 | .lss=>c == some .lt
 | .leq=>c == some .lt || c == some .eq
 | .gtr=>c == some .gt
 | .geq=>c == some .gt || c == some .eq
 | _=>false
def vL (op:BinOp) (k:IntKind) (x y:Int):Int:=
 let a:=BitVec.ofInt k.bits x
 let b:=BitVec.ofInt k.bits y
 match op with
 | .and=>k.wrap (a &&& b).toNat
 | .or=>k.wrap (a ||| b).toNat
 | .xor=>k.wrap (a ^^^ b).toNat
 | .andNot=>k.wrap (a &&& ~~~b).toNat
 | _=>0
def iop (op:BinOp) (k:IntKind) (x y:Int):Option AV:=
 match op with
 | .add=>some (.int k (k.wrap (x+y)))
 | .sub=>some (.int k (k.wrap (x - y)))
 | .mul=>some (.int k (k.wrap (x*y)))
 | .quo=>if y=0 then none else some (.int k (k.wrap (x.tdiv y)))
 | .rem=>if y=0 then none else some (.int k (x.tmod y))
 | .and=>some (.int k (vL .and k x y))
 | .or=>some (.int k (vL .or k x y))
 | .xor=>some (.int k (vL .xor k x y))
 | .andNot=>some (.int k (vL .andNot k x y))
 | .eql=>some (.bool (x == y))
 | .neq=>some (.bool (x != y))
 | .lss=>some (.bool (x<y))
 | .leq=>some (.bool (x≤y))
 | .gtr=>some (.bool (x > y))
 | .geq=>some (.bool (x ≥ y))
 | _=>none
def WQ (op:BinOp) (k:IntKind) (x y:Int):Option AV:=
 if y<0 then none else
 match op with
 | .shl=>some (.int k (k.wrap (x*2 ^ (min y.toNat k.bits))))
 | .shr=>some (.int k (x.fdiv (2 ^ (min y.toNat k.bits))))
 | _=>none
def sop (op:BinOp) (x y:ByteArray):Option AV:=
 match op with
 | .add=>if x.size+y.size≤9223372036854775807 then some (.str (x++y)) else none
 | .eql=>some (.bool (x.toList == y.toList))
 | .neq=>some (.bool (!(x.toList == y.toList)))
 | .lss=>some (.bool (Op.bytesLess x.toList y.toList))
 | .leq=>some (.bool (Op.bytesLess x.toList y.toList || x.toList == y.toList))
 | .gtr=>some (.bool (!(Op.bytesLess x.toList y.toList || x.toList == y.toList)))
 | .geq=>some (.bool (!(Op.bytesLess x.toList y.toList)))
 | _=>none
def abin (P : Program) (op : BinOp) (t : TypeId) (x y : AV) : Option AV :=
  match x, y with
  | .int k a, .int k' b =>
    match op with
    | .shl => WQ .shl k a b
    | .shr => WQ .shr k a b
    | _ => if k = k' then iop op k a b else none
  | .flt k a, .flt k' b =>
    if k = k' then
      match op with
      | .add => some (.flt k (fop .add k a b))
      | .sub => some (.flt k (fop .sub k a b))
      | .mul => some (.flt k (fop .mul k a b))
      | .quo => some (.flt k (fop .quo k a b))
      | .eql => some (.bool (fcmp .eql k a b))
      | .neq => some (.bool (fcmp .neq k a b))
      | .lss => some (.bool (fcmp .lss k a b))
      | .leq => some (.bool (fcmp .leq k a b))
      | .gtr => some (.bool (fcmp .gtr k a b))
      | .geq => some (.bool (fcmp .geq k a b))
      | _ => none
    else none
  | .str a, .str b => sop op a b
  | .bool a, .bool b =>
    if Yq P t then
    match op with
    | .eql => some (.bool (a == b))
    | .neq => some (.bool (!(a == b)))
    | _ => none
    else none
  | _, _ => none
def XK (P : Program) (t : TypeId) : Option (IntKind × IntKind) :=
  match P.underlying t with
  | some (.map k e) => (tint P k).bind fun kk => (tint P e).bind fun ek => match (P.info? e).bind (·.zero) with
    | some (.int q z) => if q = ek ∧ z = 0 then some (kk, ek) else none
    | _ => none
  | _ => none
def tif (P:Program) (t:TypeId):Bool:=
 match P.underlying t with
 | some (.interface _)=>true
 | _=>false
def aifc (P:Program) (op:BinOp) (t:TypeId) (y:Operand) (a b:AV):Option AV:=
 match y,a,b with
 | .const _,.ifc p,.ifc .nil=>if tif P t=true then (match op with|.eql=>some (.bool p.isNil)|.neq=>some (.bool (!p.isNil))|_=>none) else none
 | _,_,_=>none
def aun (op:UnOp) (x:AV):Option AV:=
 match op,x with
 | .neg,.int k n=>some (.int k (k.wrap (0 - n)))
 | .xor,.int k n=>some (.int k (vL .xor k (if k.signed then -1 else k.max) n))
 | .neg,.flt k b=>some (.flt k (cz k (Op.negFloat k b)))
 | .not,.bool b=>some (.bool (!b))
 | _,_=>none
def qG (s:FloatKind) (b:Nat) (k:FloatKind):Option Nat:=
 if s=k then some b else
 match s.decode b with
 | .nan _ _=>some (qnan k)
 | .infinity g=>some (cz k (k.encode (.infinity g)))
 | .number g m e=>if (k.decode (k.encode (.number g m e))).isInfinity then none else some (cz k (k.encode (.number g m e)))
def kZ (P : Program) (dst : TypeId) (x : AV) : Option AV :=
  match x with
  | .int _ n =>
    match tint P dst with
    | some k => some (.int k (k.wrap n))
    | none => match tflt P dst with
      | some k => some (.flt k (cz k (floatOfInt k n)))
      | none => none
  | .flt s b =>
    match tint P dst with
    | some k => (floatToIntVal s b k).map (.int k ·)
    | none => match tflt P dst with
      | some k => (qG s b k).map (.flt k ·)
      | none => none
  | _ => none
def vB (H:Heap) (id off n:Nat):Option (List AV):=
 if off+n≤(H.f id).cs.length then some (((H.f id).cs.drop off).take n) else none
def wN (H:Heap) (id off:Nat):Option AV:=(H.f id).cs[off]?
def splice (cs new:List AV) (off:Nat):List AV:=cs.take off++new++cs.drop (off+new.length)
def vG (H:Heap) (id off:Nat) (new:List AV):Option Heap:=
 match H.f id with
 | .own cs=>if off+new.length≤cs.length∧new.all AV.stor=true then some (H.put id (.own (splice cs new off))) else none
 | _=>none
def xR (place : Nat → Option (Nat × Nat)) (cells : List AV) : List (Nat × List AV) → Option (List AV)
  | [] => some cells
  | (i, v) :: rest =>
    match place i with
    | some (off, size) => if v.length = size ∧ off + v.length ≤ cells.length then xR place (splice cells v off) rest else none
    | none => none
def partsOf (ev : Operand → TV) : List (Nat × Operand) → Option (List (Nat × List AV))
  | [] => some []
  | (i, x) :: r =>
    match (ev x).cells, partsOf ev r with
    | some c, some rs => some ((i, c) :: rs)
    | _, _ => none
def uj (P:Program) (fs:List Field) (i:Nat):Option (Nat × Nat):=
 match fs[i]? with
 | some f=>(tsz P f.type).map fun n=>(f.offset,n)
 | none=>none
def xx (z:List AV):Nat→List AV
 | 0=>[]
 | n+1=>z++xx z n
def xZ (H:Heap) (esz:Nat):AV→Option (Nat × List AV)
 | .nilsl=>some (0,[])
 | .sl id off len esz'=>if esz'=esz then (vB H id off (len*esz)).map fun c=>(len,c) else none
 | .str s=>if esz=1 then some (s.size,s.data.toList.map fun b=>.int .u8 b.toNat) else none
 | _=>none
def vY (H : Heap) (esz bytes : Nat) (s x : AV) : Option (TV × Heap) :=
  if bytes = 0 then none else
  match xZ H esz x with
  | none => none
  | some (n, new) =>
    match s with
    | .nilsl =>
      if n = 0 then some (.v .nilsl, H)
      else if n * bytes ≤ 2 ^ 40 then some (.v (.sl H.n 0 n esz), H.alloc (.own new))
      else none
    | .sl id off len esz' =>
      match H.f id with
      | .own cs =>
        if esz' = esz ∧ off + len * esz = cs.length ∧ (len + n) * bytes ≤ 2 ^ 40 then
          some (.v (.sl H.n 0 (len + n) esz), (H.put id .gone).alloc (.own (cs.drop off ++ new)))
        else none
      | _ => none
    | _ => none
def uq:List AV→Option (List UInt8)
 | []=>some []
 | .int .u8 n::r=>(uq r).map fun t=>UInt8.ofNat n.toNat::t
 | _=>none
def Yr:Option TV→Option (Option Int)
 | none=>some none
 | some (.v (.int _ n))=>some (some n)
 | _=>none
def ut (len:Nat) (lo hi:Option Int):Option (Nat × Nat):=
 let l:=lo.getD 0
 let h:=hi.getD len
 if 0≤l∧l≤h∧h≤len then some (l.toNat,h.toNat) else none
def Z8 (mx : Bool) (x y : AV) : Option AV :=
  match x, y with
  | .int k a, .int k' b => if k = k' then some (.int k (if mx then (if b > a then b else a) else (if b < a then b else a))) else none
  | .flt k a, .flt k' b =>
    if k = k' then
      match k.format.order a b with
      | none => some (.flt k (qnan k))
      | some .lt => some (.flt k (if mx then b else a))
      | some .gt => some (.flt k (if mx then a else b))
      | some .eq => some (.flt k (if (k.decode a).neg then (if mx then b else a) else (if mx then a else b)))
    else none
  | _, _ => none
def q9 (mx : Bool) (x : AV) : List AV → Option AV
  | [] => some x
  | y :: r => match Z8 mx x y with
    | some z => q9 mx z r
    | none => none
def kv:List TV→Option (List AV)
 | []=>some []
 | .v x::r=>(kv r).map (x::·)
 | _=>none
def acopy (H:Heap) (esz n:Nat) (new:List AV):AV→Option (TV × Heap)
 | .nilsl=>some (.v (.int .i64 0),H)
 | .sl id off len esz'=>if esz'≠esz then none else (vG H id off (new.take (min n len*esz))).map fun H'=>(.v (.int .i64 (min n len:Nat)),H')
 | _=>none
def vH (P : Program) (b : Builtin) (tys : Array TypeId) (args : List TV) (H : Heap) : Option (TV × Heap) :=
  match b, args with
  | .len, [.v (.str s)] =>
    match tys[0]? with
    | some t0 => if tstr P t0 then some (.v (.int .i64 s.size), H) else none
    | none => none
  | .len, [.v .nilsl] =>
    match tys[0]? with
    | some t0 => if (zL P t0).isSome then some (.v (.int .i64 0), H) else none
    | none => none
  | .len, [.v (.sl _ _ n _)] =>
    match tys[0]? with
    | some t0 => if (zL P t0).isSome then some (.v (.int .i64 n), H) else none
    | none => none
  | .append, [.v s, .v x] =>
    match tys[0]?, tys[1]? with
    | some t0, some t1 => match zL P t0 with
      | some e => match tsz P e, vJ P e, xz P e with
        | some esz, some bytes, some z => if z.length = esz ∧ tint P t1 = none ∧ (P.underlying t1).isSome then vY H esz bytes s x else none
        | _, _, _ => none
      | none => none
    | _, _ => none
  | .copy, [.v d, .v x] =>
    match tys[0]? with
    | some t0 => match zL P t0 with
      | some e => match tsz P e with
        | some esz => match xZ H esz x with
          | some (n, new) => acopy H esz n new d
          | none => none
        | none => none
      | none => none
    | none => none
  | .max, _ => match kv args with
    | some (x :: r) => (q9 true x r).map fun z => (.v z, H)
    | _ => none
  | .min, _ => match kv args with
    | some (x :: r) => (q9 false x r).map fun z => (.v z, H)
    | _ => none
  | _, _ => none
def ja (ev : Operand → TV) : List Operand → Option (List (Nat × Nat))
  | [] => some []
  | x :: r => match ev x, ja ev r with
    | .v (.ptr i o), some rs => some ((i, o) :: rs)
    | _, _ => none
def zM (P : Program) (ev : Operand → TV) (op : Op) (H : Heap) : Option (TV × Heap) :=
  match op with
  | .move x | .assign x => some (ev x, H)
  | .pick c a b =>
    match ev c with
    | .v (.bool t) => some (if t then ev a else ev b, H)
    | _ => none
  | .alloc e => (xz P e).bind fun z => if z.all AV.stor then some (.v (.ptr H.n 0), H.alloc (.own z)) else none
  | .box e x => (ev x).cells.bind fun c => if (P.info? e).isSome = true ∧ c.all AV.stor = true then some (.v (.ptr H.n 0), H.alloc (.own c)) else none
  | .build t parts =>
    match xz P t, vX P t, partsOf ev parts.toList with
    | some z, some fs, some ps =>
      if fs.all (fun f => (tsz P f.type).isSome) = true ∧ ps.all (fun p => p.2.all AV.stor) = true then (xR (uj P fs) z ps).map fun c => (.g c, H) else none
    | _, _, _ => none
  | .buildSlice t len parts =>
    match zL P t with
    | some e => match tsz P e, xz P e, partsOf ev parts.toList with
      | some n, some z, some ps =>
        if len * n ≤ 2 ^ 24 ∧ z.length = n ∧ ps.all (fun p => p.2.all AV.stor) = true then
          (xR (fun i => some (i * n, n)) (xx z len) ps).bind fun c => if c.all AV.stor then some (.v (.sl H.n 0 len n), H.alloc (.own c)) else none
        else none
      | _, _, _ => none
    | none => none
  | .load t a =>
    match ev a with
    | .v (.ptr id off) =>
      match tagg P t with
      | some true => match tsz P t with
        | some n => (vB H id off n).map fun c => (.g c, H)
        | none => none
      | some false => (wN H id off).map fun c => (.v c, H)
      | none => none
    | _ => none
  | .store t a x =>
    match ev a, (ev x).cells, tsz P t with
    | .v (.ptr id off), some c, some n => if c.length = n then (vG H id off c).map fun H' => (.v .und, H') else none
    | _, _, _ => none
  | .nilCheck x =>
    match ev x with
    | .v (.ptr i o) => some (.v (.ptr i o), H)
    | .v (.fn f c) => some (.v (.fn f c), H)
    | _ => none
  | .binOp op t x y _ =>
    match ev x, ev y with
    | .v a, .v b => ((abin P op t a b).or (aifc P op t y a b)).map fun z => (.v z, H)
    | _, _ => none
  | .unOp op _ x =>
    match ev x with
    | .v a => (aun op a).map fun z => (.v z, H)
    | _ => none
  | .convert src dst x =>
    match ev x with
    | .v (.str s) =>
      if (P.underlying src).isSome = false then none else
      if tstr P dst then some (.v (.str s), H) else
      match zL P dst with
      | some e => if tint P e = some .u8 then some (.v (.sl H.n 0 s.size 1), H.alloc (.own (s.data.toList.map fun b => .int .u8 b.toNat))) else none
      | none => none
    | .v (.sl id off len esz) =>
      match zL P src with
      | some e => if tint P e = some .u8 ∧ tstr P dst = true ∧ esz = 1 then
          ((vB H id off len).bind uq).map fun l => (.v (.str ⟨l.toArray⟩), H)
        else if src = dst ∧ tint P e = some .u8 ∧ 0 < len ∧ (H.f id).isRow = true then some (.v (.sl id off len esz), H) else none
      | none => none
    | .v a => if (P.underlying src).isSome then (kZ P dst a).map fun z => (.v z, H) else none
    | _ => none
  | .makeFunc (.func f) first captured =>
    if first.size = 0 then (ja ev captured.toList).map fun c => (.v (.fn f c), H) else none
  | .makeSlice t l c =>
    match ev l, ev c, zL P t with
    | .v (.int .i64 n), .v (.int .i64 m), some e =>
      match tsz P e, vJ P e, xz P e with
      | some sz, some by_, some z =>
        if 0 ≤ n ∧ n ≤ m ∧ m ≤ 2 ^ 40 ∧ m * by_ ≤ 2 ^ 40 ∧ z.length = sz ∧ z.all AV.stor = true then some (.v (.sl H.n 0 n.toNat sz), H.alloc (.own (xx z n.toNat))) else none
      | _, _, _ => none
    | _, _, _ => none
  | .slice t x lo hi none =>
    match ev x, Yr (lo.map ev), Yr (hi.map ev) with
    | .v (.str s), some l, some h => if tstr P t then (ut s.size l h).map fun (a, b) => (.v (.str (s.extract a b)), H) else none
    | .v (.sl id off len esz), some l, some h =>
      if (zL P t).bind (tsz P) = some esz then (ut len l h).map fun (a, b) => (.v (.sl id (off + a * esz) (b - a) esz), H) else none
    | .v .nilsl, some l, some h => if ((zL P t).bind (tsz P)).isSome then (ut 0 l h).map fun _ => (.v .nilsl, H) else none
    | .v (.ptr id off), some l, some h =>
      match (tarr P t).bind (fun ne => (tsz P ne.2).map (fun sz => (ne.1, sz))), H.f id with
      | some (n, sz), .own cs => if off + n * sz ≤ cs.length then (ut n l h).map fun (a, b) => (.v (.sl id (off + a * sz) (b - a) sz), H) else none
      | _, _ => none
    | _, _, _ => none
  | .makeMap t none => (XK P t).map fun ke => (.v (.mref H.n), H.alloc (.mp ke.1 ke.2 []))
  | .lookup t m x false =>
    match ev m, ev x, XK P t with
    | .v (.mref id), .v (.int k a), some (kk, ek) =>
      match H.f id with
      | .mp kk' ek' l => if kk' = kk ∧ ek' = ek ∧ k = kk ∧ (Lit.int kk a).wf = true then some (.v (.int ek (Yp l a)), H) else none
      | _ => none
    | _, _, _ => none
  | .mapUpdate t m x y =>
    match ev m, ev x, ev y, XK P t with
    | .v (.mref id), .v (.int k a), .v (.int k2 b), some (kk, ek) =>
      match H.f id with
      | .mp kk' ek' l => if kk' = kk ∧ ek' = ek ∧ k = kk ∧ k2 = ek ∧ (Lit.int kk a).wf = true ∧ (Lit.int ek b).wf = true ∧ l.length < 2 ^ 40 then some (.v .und, H.put id (.mp kk ek ((a, b) :: l))) else none
      | _ => none
    | _, _, _, _ => none
  | .makeInterface t x =>
    match ev x with
    | .v (.int k n) => if tint P t = some k then some (.v (.ifc (.num t k n)), H) else none
    | _ => none
  | .fieldAddr st x f =>
    match ev x, (vX P st).bind (·[f]?) with
    | .v (.ptr id off), some fd => if (tsz P fd.type).any (0 < ·) then some (.v (.ptr id (off + fd.offset)), H) else none
    | _, _ => none
  | .field t x f =>
    match ev x, (vX P t).bind (·[f]?) with
    | .g cs, some fd =>
      match tagg P fd.type with
      | some true => match tsz P fd.type with
        | some n => if fd.offset + n ≤ cs.length then some (.g ((cs.drop fd.offset).take n), H) else none
        | none => none
      | some false => (cs[fd.offset]?).map fun c => (.v c, H)
      | none => none
    | _, _ => none
  | .indexAddr t x i =>
    match ev x, ev i with
    | .v (.sl id off len esz), .v (.int _ n) =>
      match (zL P t).bind (tsz P) with
      | some sz => if sz = esz ∧ 0 ≤ n ∧ n < len then some (.v (.ptr id (off + n.toNat * esz)), H) else none
      | none => none
    | .v (.ptr id off), .v (.int _ n) =>
      match tarr P t with
      | some (len, e) => match tsz P e with
        | some sz => if 0 ≤ n ∧ n < len then some (.v (.ptr id (off + n.toNat * sz)), H) else none
        | none => none
      | none => none
    | _, _ => none
  | .index t x i =>
    match ev x, ev i with
    | .v (.str s), .v (.int _ n) => if tstr P t = true ∧ 0 ≤ n then (s[n.toNat]?).map fun b => (.v (.int .u8 b.toNat), H) else none
    | _, _ => none
  | .extract x i =>
    match ev x with
    | .t vs => (vs[i]?).map fun z => (z.up, H)
    | _ => none
  | .call c =>
    match c.callee with
    | .builtin b => vH P b c.argTypes (c.args.toList.map ev) H
    | _ => none
  | _ => none
def aput (s:Nat→TV):Option Tmp→TV→Nat→TV
 | some d,v=>upd s d v
 | none,_=>s
def uZ (ops : List Oper) (s : Nat → TV) (j : Nat) : Option (Option Bool) :=
  match (ops[j]?).bind (·.dst) with
  | some d => match s d with
    | .v (.bool b) => some (some b)
    | .v .und => some none
    | _ => none
  | none => none
def vS (P : Program) (s : Nat → TV) (H : Heap) : List ResultVar → Option (List TV)
  | [] => some []
  | .tmp t :: r => (vS P s H r).map (s t :: ·)
  | .cell a t :: r =>
    match s a with
    | .v (.ptr id off) =>
      match tagg P t with
      | some true => match (tsz P t).bind (vB H id off) with
        | some c => (vS P s H r).map (.g c :: ·)
        | none => none
      | some false => match wN H id off with
        | some c => (vS P s H r).map (.v c :: ·)
        | none => none
      | none => none
    | _ => none
def Zo : List TV → Option (List TV0)
  | [] => some []
  | x :: r => match x.down, Zo r with
    | some y, some ys => some (y :: ys)
    | _, _ => none
def zbd:List TV→Option TV
 | [x]=>some x
 | xs=>(Zo xs).map .t
end Go.Ab
namespace Go.Ab
def All2 {α β:Type} (R:α→β→Prop):List α→List β→Prop
 | [],[]=>True
 | a::as,b::bs=>R a b∧All2 R as bs
 | _,_=>False
theorem All2.len {α β:Type} {R:α→β→Prop}:∀ {as:List α} {bs:List β},All2 R as bs→as.length=bs.length
 | [],[],_=>rfl
 | _::_,_::_,h=>by simp [All2.len h.2]
 | [],_::_,h=>h.elim
 | _::_,[],h=>h.elim
theorem All2.mono {α β:Type} {R S:α→β→Prop} (f:∀ a b,R a b→S a b):∀ {as:List α} {bs:List β},All2 R as bs→All2 S as bs
 | [],[],_=>trivial
 | _::_,_::_,h=>⟨f _ _ h.1,All2.mono f h.2⟩
 | [],_::_,h=>h.elim
 | _::_,[],h=>h.elim
theorem All2.get {α β : Type} {R : α → β → Prop} : ∀ {as : List α} {bs : List β}, All2 R as bs → ∀ (j : Nat) (a : α), as[j]? = some a → ∃ b, bs[j]? = some b ∧ R a b
  | [], [], _, j, a, h => by simp at h
  | x :: as, y :: bs, h, 0, a, e => by simp at e; subst e; exact ⟨y, by simp, h.1⟩
  | x :: as, y :: bs, h, j + 1, a, e => by
    simp at e
    obtain ⟨b, hb, hr⟩ := All2.get h.2 j a e
    exact ⟨b, by simpa using hb, hr⟩
  | [], _ :: _, h, _, _, _ => h.elim
  | _ :: _, [], h, _, _, _ => h.elim
theorem All2.of_get {α β:Type} {R:α→β→Prop}:∀ {as:List α} {bs:List β},as.length=bs.length→(∀ (j:Nat) a b,as[j]?=some a→bs[j]?=some b→R a b)→All2 R as bs
 | [],[],_,_=>trivial
 | x::as,y::bs,h,k=>⟨k 0 x y (by simp) (by simp),All2.of_get (by simpa using h) fun j a b ha hb=>k (j+1) a b (by simpa using ha) (by simpa using hb)⟩
 | [],_::_,h,_=>by simp at h
 | _::_,[],h,_=>by simp at h
theorem All2.append {α β:Type} {R:α→β→Prop}:∀ {as:List α} {bs:List β} {cs:List α} {ds:List β},All2 R as bs→All2 R cs ds→All2 R (as++cs) (bs++ds)
 | [],[],_,_,_,h=>h
 | _::_,_::_,_,_,h,k=>⟨h.1,All2.append h.2 k⟩
 | [],_::_,_,_,h,_=>h.elim
 | _::_,[],_,_,h,_=>h.elim
theorem All2.take {α β:Type} {R:α→β→Prop}:∀ {as:List α} {bs:List β} (n:Nat),All2 R as bs→All2 R (as.take n) (bs.take n)
 | _,_,0,_=>by simp [All2]
 | [],[],n+1,_=>by simp [All2]
 | _::_,_::_,n+1,h=>⟨h.1,All2.take n h.2⟩
 | [],_::_,_+1,h=>h.elim
 | _::_,[],_+1,h=>h.elim
theorem All2.drop {α β:Type} {R:α→β→Prop}:∀ {as:List α} {bs:List β} (n:Nat),All2 R as bs→All2 R (as.drop n) (bs.drop n)
 | _,_,0,h=>by simpa using h
 | [],[],n+1,_=>by simp [All2]
 | _::_,_::_,n+1,h=>by simpa using All2.drop n h.2
 | [],_::_,_+1,h=>h.elim
 | _::_,[],_+1,h=>h.elim
theorem All2.map {α β γ:Type} {R:α→β→Prop} {f:γ→α} {g:γ→β} (h:∀ c,R (f c) (g c)):∀ l:List γ,All2 R (l.map f) (l.map g)
 | []=>trivial
 | c::l=>⟨h c,All2.map h l⟩
structure Loc where
 blk:Nat
 base:Nat
 size:Nat
abbrev Emb:=Nat→Option Loc
def ptrV (l:Loc) (off:Nat):Value:=.pointer (some ⟨l.blk,l.base+off,none⟩)
def IfR:IfV→Value→Prop
 | .nil,v=>v=.nilIface
 | .num t k n,v=>v=.iface t (.int k n)
 | .other,v=>∃ t p,v=.iface t p
theorem IfR.cases {e:IfV} {v:Value} (h:IfR e v):(e.isNil=true∧v=.nilIface)∨(e.isNil=false∧∃ t p,v=.iface t p):=by
 cases e with
 | nil=>exact .inl ⟨rfl,h⟩
 | num t k n=>exact .inr ⟨rfl,_,_,h⟩
 | other=>exact .inr ⟨rfl,h⟩
def VR (β:Emb):AV→Value→Prop
 | .bad,_=>True
 | .und,v=>v=undef
 | .bool b,v=>v=.bool b
 | .int k n,v=>v=.int k n
 | .flt k c,v=>∃ b,v=.float k b∧cz k b=c
 | .str s,v=>v=.string s
 | .nilptr,v=>v=.pointer none
 | .ptr id off,v=>∃ l,β id=some l∧v=ptrV l off
 | .nilsl,v=>v=.slice none 0 0
 | .sl id off len esz,v=>∃ l a cap,β id=some l∧v=.slice a len cap∧len≤cap ∧
   ((a=some ⟨l.blk,l.base+off,none⟩∧off+cap*esz≤l.size)∨(len=0∧cap=0))
 | .ifc e,v=>IfR e v
 | .mref id,v=>∃ l,β id=some l∧v=.map (some l.blk)
 | .fn f caps,v=>∃ us:List Value,v=.func (.func f) #[] us.toArray∧All2 (fun (c:Nat × Nat) u=>∃ l,β c.1=some l∧u=ptrV l c.2) caps us
def VS (β:Emb) (x:AV) (u:Value):Prop:=VR β x u∧x.stor=true
def TV0R (β:Emb):TV0→Value→Prop
 | .v x,u=>VR β x u
 | .g cs,u=>∃ us:List Value,u=.agg us.toArray∧All2 (VR β) cs us
def TVR (β:Emb):TV→Value→Prop
 | .v x,u=>VR β x u
 | .g cs,u=>∃ us:List Value,u=.agg us.toArray∧All2 (VR β) cs us
 | .t vs,u=>∃ us:List Value,u=.tuple us.toArray∧All2 (TV0R β) vs us
def Le (β γ:Emb):Prop:=∀ i l,β i=some l→γ i=some l
theorem Le.refl (β:Emb):Le β β:=fun _ _ h=>h
theorem Le.trans {a b c:Emb} (h:Le a b) (k:Le b c):Le a c:=fun i l e=>k i l (h i l e)
theorem VR.mono {β γ:Emb} (h:Le β γ):∀ {x:AV} {u:Value},VR β x u→VR γ x u
 | .bad,_,_=>trivial
 | .und,_,e=>e
 | .bool _,_,e=>e
 | .int _ _,_,e=>e
 | .flt _ _,_,e=>e
 | .str _,_,e=>e
 | .nilptr,_,e=>e
 | .ifc _,_,e=>e
 | .mref _,_,⟨l,h1,h2⟩=>⟨l,h _ _ h1,h2⟩
 | .ptr _ _,_,⟨l,h1,h2⟩=>⟨l,h _ _ h1,h2⟩
 | .nilsl,_,e=>e
 | .sl _ _ _ _,_,⟨l,a,c,h1,h2⟩=>⟨l,a,c,h _ _ h1,h2⟩
 | .fn _ _,_,⟨us,h1,h2⟩=>⟨us,h1,h2.mono fun _ _ ⟨l,e1,e2⟩=>⟨l,h _ _ e1,e2⟩⟩
theorem VS.mono {β γ:Emb} (h:Le β γ) {x:AV} {u:Value} (e:VS β x u):VS γ x u:=⟨VR.mono h e.1,e.2⟩
theorem TV0R.mono {β γ:Emb} (h:Le β γ):∀ {x:TV0} {u:Value},TV0R β x u→TV0R γ x u
 | .v _,_,e=>VR.mono h e
 | .g _,_,⟨us,h1,h2⟩=>⟨us,h1,h2.mono fun _ _=>VR.mono h⟩
theorem TVR.mono {β γ:Emb} (h:Le β γ):∀ {x:TV} {u:Value},TVR β x u→TVR γ x u
 | .v _,_,e=>VR.mono h e
 | .g _,_,⟨us,h1,h2⟩=>⟨us,h1,h2.mono fun _ _=>VR.mono h⟩
 | .t _,_,⟨us,h1,h2⟩=>⟨us,h1,h2.mono fun _ _=>TV0R.mono h⟩
def Blk.isGone:Blk→Bool
 | .gone=>true
 | _=>false
def qa (β:Emb) (cs:List AV) (ccs:Array Value) (base:Nat):Prop:=
 ∀ (j:Nat) v,cs[j]?=some v→∃ u,ccs[base+j]?=some u∧VS β v u
def NF (fz:Nat × Nat) (n:Nat):Prop:=fz.1=fz.2∨n≤fz.1
theorem NF.not {fz:Nat × Nat} {n:Nat} (h:NF fz n):∀ j,j<n→¬(fz.1≤j∧j<fz.2):=fun j hj=>by rcases h with h|h<;>omega
def MapI (kk ek : IntKind) (m : List (Int × Int)) (es : Array MapEntry) (clock : Nat) : Prop :=
  ∃ (P : Program) (k e : TypeId), P.underlying k = some (.int kk) ∧ P.underlying e = some (.int ek) ∧ Go.WideElems.Fit (H := Unit) P k (plainElem P e) es clock ∧ es.size ≤ m.length ∧
    ∀ a, (Lit.int kk a).wf = true → (DataW.map ((es.toList.map (Go.WideElems.rg (H := Unit) P k (plainElem P e))).foldr DataW.insert [])).atKey (.int kk a) (.lit (.int ek 0)) = .lit (.int ek (Yp m a))
theorem MapI.to {kk ek:IntKind} {m:List (Int × Int)} {es:Array MapEntry} {clock:Nat} (h:MapI kk ek m es clock) {P:Program} {k e:TypeId} (hk:P.underlying k=some (.int kk)) (he:P.underlying e=some (.int ek)) :
  Go.WideElems.Fit (H:=Unit) P k (plainElem P e) es clock∧es.size≤m.length ∧
  ∀ a,(Lit.int kk a).wf=true→(DataW.map ((es.toList.map (Go.WideElems.rg (H:=Unit) P k (plainElem P e))).foldr DataW.insert [])).atKey (.int kk a) (.lit (.int ek 0))=.lit (.int ek (Yp m a)):=by
 obtain⟨P0,k0,e0,hk0,he0,h1,h2,h3⟩:=h;have e1:∀ v,keyOf P k v=keyOf P0 k0 v:=fun v=>by
  simp only [keyOf,hk,hk0,mapKey]
 have e2:plainElem (H:=Unit) P e=plainElem (H:=Unit) P0 e0:=by
  funext v
  simp only [plainElem,he,he0]
 have e3:∀ R,Go.WideElems.rd (H:=Unit) P k R=Go.WideElems.rd (H:=Unit) P0 k0 R:=fun R=>by
  funext x
  simp only [Go.WideElems.rd,e1]
 have e4:Go.WideElems.rg (H:=Unit) P k (plainElem P e)=Go.WideElems.rg (H:=Unit) P0 k0 (plainElem P0 e0):=by
  funext x
  simp only [Go.WideElems.rg,e2,e3]
 exact⟨⟨h1.size,h1.stamped,fun x hx=>by rw [e2,e3];exact h1.reads x hx⟩,h2,by rw [e4];exact h3⟩
def RowR (β:Emb) (w:World) (l:Loc):Blk→Prop
 | .gone=>True
 | .ro cs=>∃ ccs e fz,w.heap[l.blk]?=some (.cells ccs e fz)∧qa β cs ccs l.base
 | .own cs=>∃ ccs e fz,w.heap[l.blk]?=some (.cells ccs e fz)∧qa β cs ccs l.base ∧
   l.base+l.size≤ccs.size∧cs.length≤l.size∧NF fz ccs.size
 | .tab b o=>l.blk=b∧w.heap[b]?=some o
 | .hole=>False
 | .mp kk ek m=>∃ es clock,w.heap[l.blk]?=some (.map es clock)∧MapI kk ek m es clock
structure SR (β:Emb) (H:Heap) (w:World):Prop where
 dom:∀ i,H.n≤i→β i=none
 tot:∀ i,i<H.n→H.f i≠.hole→∃ l,β i=some l
 row:∀ i l,β i=some l→RowR β w l (H.f i)
 apart:∀ i j li lj,i≠j→β i=some li→β j=some lj→(H.f i).isOwn=true→(H.f j).isGone=false→li.blk≠lj.blk
def Owns (β:Emb) (H:Heap) (b:Nat):Prop:=∃ i l,β i=some l∧(H.f i).isOwn=true∧l.blk=b
def wT (H:Heap):Prop:=∀ i b o,H.f i≠.tab b o
def Live (β:Emb) (H:Heap) (b:Nat):Prop:=∃ i l,β i=some l∧(H.f i).isGone=false∧l.blk=b
structure Fr (β:Emb) (H:Heap) (w:World) (β':Emb) (H':Heap) (w':World):Prop where
 os:w'.os=w.os
 tape:w'.tape=w.tape
 output:w'.output=w.output
 size:w.heap.size≤w'.heap.size
 block:∀ b,b<w.heap.size→¬Owns β H b→w'.heap[b]?=w.heap[b]?
 owns:∀ b,b<w.heap.size→Owns β' H' b→Owns β H b
 rng:∀ b,b<w.heap.size→Live β' H' b→Live β H b
 tabs:wT H→wT H'
theorem Live.mk {β:Emb} {H:Heap} {i:Nat} {l:Loc} (e:β i=some l) (h:(H.f i).isGone=false):Live β H l.blk:=⟨i,l,e,h,rfl⟩
theorem Yt {β:Emb} {H:Heap} {id:Nat} {bb:Blk} (h:(H.f id).isGone=false∨bb.isGone=true) {b:Nat} (hl:Live β (H.put id bb) b):Live β H b:=by
 obtain⟨i,l,e,hg,hl⟩:=hl;have hg':(upd H.f id bb i).isGone=false:=hg;unfold upd at hg'
 by_cases hi:i=id
 ·rw [if_pos hi] at hg';rcases h with h|h
  ·exact⟨i,l,e,hi▸h,hl⟩
  ·rw [h] at hg';cases hg'
 ·rw [if_neg hi] at hg';exact⟨i,l,e,hg',hl⟩
theorem vT {b:Blk} (h:b.isOwn=true):b.isGone=false:=by cases b<;>first|rfl|cases h
theorem wT.upd {f:Nat→Blk} {n:Nat} {bb:Blk} (hb:∀ b o,bb≠.tab b o) (h:∀ i b o,f i≠.tab b o):∀ i b o,Go.Ab.upd f n bb i≠.tab b o:=fun i b o e=>by
 unfold Go.Ab.upd at e
 split at e
 ·exact hb _ _ e
 ·exact h _ _ _ e
theorem Fr.refl (β:Emb) (H:Heap) (w:World):Fr β H w β H w:=⟨rfl,rfl,rfl,Nat.le_refl _,fun _ _ _=>rfl,fun _ _ h=>h,fun _ _ h=>h,id⟩
theorem Fr.trans {β β' β'' : Emb} {H H' H'' : Heap} {w w' w'' : World} (h : Fr β H w β' H' w') (k : Fr β' H' w' β'' H'' w'') : Fr β H w β'' H'' w'' :=
  ⟨k.os.trans h.os, k.tape.trans h.tape, k.output.trans h.output, Nat.le_trans h.size k.size,
   fun b hb hn => (k.block b (Nat.lt_of_lt_of_le hb h.size) (fun ho => hn (h.owns b hb ho))).trans (h.block b hb hn),
   fun b hb ho => h.owns b hb (k.owns b (Nat.lt_of_lt_of_le hb h.size) ho),
   fun b hb hl => h.rng b hb (k.rng b (Nat.lt_of_lt_of_le hb h.size) hl), fun hn => k.tabs (h.tabs hn)⟩
theorem RowR.draw {β:Emb} {w:World} {l:Loc} {b:Blk} (n:Nat) (h:RowR β w l b):RowR β { w with drawn:=n } l b:=by
 cases b<;>exact h
theorem SR.draw {β:Emb} {H:Heap} {w:World} (n:Nat) (h:SR β H w):SR β H { w with drawn:=n }:=
 ⟨h.dom,h.tot,fun i l e=>(h.row i l e).draw n,h.apart⟩
theorem Fr.draw {β:Emb} {H:Heap} {w:World} (n:Nat):Fr β H w β H { w with drawn:=n }:=
 ⟨rfl,rfl,rfl,Nat.le_refl _,fun _ _ _=>rfl,fun _ _ h=>h,fun _ _ h=>h,id⟩
def Emb.ext (β:Emb) (i:Nat) (l:Loc):Emb:=upd β i (some l)
theorem Le.ext {β:Emb} {i:Nat} {l:Loc} (h:β i=none):Le β (β.ext i l):=fun j m e=>by
 unfold Emb.ext upd
 split
 ·rename_i hj;subst hj;rw [h] at e;cases e
 ·exact e
theorem SR.lt {β:Emb} {H:Heap} {w:World} (h:SR β H w) {i:Nat} {l:Loc} (e:β i=some l):i<H.n:=by
 rcases Nat.lt_or_ge i H.n with h'|h'
 ·exact h'
 ·rw [h.dom i h'] at e;cases e
theorem RowR.blk_lt {β:Emb} {w:World} {l:Loc} {b:Blk} (h:RowR β w l b) (hg:b.isGone=false):l.blk<w.heap.size:=by
 have key:∀ x:Obj,w.heap[l.blk]?=some x→l.blk<w.heap.size:=fun x hx=>by
  rcases Nat.lt_or_ge l.blk w.heap.size with h'|h'
  ·exact h'
  ·simp [Array.getElem?_eq_none h'] at hx
 cases b with
 | gone=>simp [Blk.isGone] at hg
 | ro cs=>obtain⟨_,_,_,h1,_⟩:=h;exact key _ h1
 | own cs=>obtain⟨_,_,_,h1,_⟩:=h;exact key _ h1
 | tab b o=>exact key o (h.1▸h.2)
 | hole=>exact h.elim
 | mp kk ek m=>obtain⟨_,_,h1,_⟩:=h;exact key _ h1
theorem qa.mono {β γ:Emb} (h:Le β γ) {cs:List AV} {ccs:Array Value} {base:Nat} (hc:qa β cs ccs base):qa γ cs ccs base:=
 fun j v e=>let ⟨u,h1,h2⟩:=hc j v e;⟨u,h1,VS.mono h h2⟩
theorem RowR.mono {β γ:Emb} (h:Le β γ) {w w':World} {l:Loc} {b:Blk} (hw:b.isGone=false→w'.heap[l.blk]?=w.heap[l.blk]?) (hr:RowR β w l b):RowR γ w' l b:=by
 cases b with
 | gone=>trivial
 | ro cs=>obtain⟨ccs,e,fz,h1,h2⟩:=hr;exact⟨ccs,e,fz,(hw rfl).trans h1,h2.mono h⟩
 | own cs=>obtain⟨ccs,e,fz,h1,h2,h3⟩:=hr;exact⟨ccs,e,fz,(hw rfl).trans h1,h2.mono h,h3⟩
 | tab b o=>obtain⟨h1,h2⟩:=hr;subst h1;exact⟨rfl,(hw rfl).trans h2⟩
 | hole=>exact hr.elim
 | mp kk ek m=>obtain⟨es,clock,h1,h2⟩:=hr;exact⟨es,clock,(hw rfl).trans h1,h2⟩
theorem qa.of_all2 {β:Emb} {cs:List AV} {us:List Value} (h:All2 (VS β) cs us) (rest:List Value):qa β cs (us++rest).toArray 0:=fun j v e=>by
 obtain⟨u,h1,h2⟩:=h.get j v e;refine⟨u,?_,h2⟩;have hj:j<us.length:=by
  rcases Nat.lt_or_ge j us.length with h'|h'
  ·exact h'
  ·rw [List.getElem?_eq_none h'] at h1;cases h1
 simp [List.getElem?_append_left hj,h1]
theorem SR.alloc {β:Emb} {H:Heap} {w:World} (h:SR β H w) {cs:List AV} {us rest:List Value} {t:TypeId} {fz:Nat × Nat} (hc:All2 (VS β) cs us)
  (hfz:NF fz (us.length+rest.length)) :
  SR (β.ext H.n ⟨w.heap.size,0,us.length+rest.length⟩) (H.alloc (.own cs)) { w with heap:=w.heap.push (.cells (us++rest).toArray t fz) }:=by
 have hle:Le β (β.ext H.n ⟨w.heap.size,0,us.length+rest.length⟩):=Le.ext (h.dom _ (Nat.le_refl _));have old:∀ i l,i≠H.n→(β.ext H.n ⟨w.heap.size,0,us.length+rest.length⟩) i=some l→β i=some l:=fun i l hi e=>by
  unfold Emb.ext upd at e;rw [if_neg hi] at e;exact e
 have new:∀ l,(β.ext H.n ⟨w.heap.size,0,us.length+rest.length⟩) H.n=some l→l=⟨w.heap.size,0,us.length+rest.length⟩:=fun l e=>by
  unfold Emb.ext upd at e;rw [if_pos rfl] at e;exact (Option.some.inj e).symm
 refine⟨fun i hi=>?_,fun i hi hh=>?_,fun i l e=>?_,fun i j li lj hij ei ej ho hg=>?_⟩
 ·show upd β H.n _ i=none;unfold upd;rw [if_neg (by simp [Heap.alloc] at hi;omega)];exact h.dom i (by simp [Heap.alloc] at hi;omega)
 ·show ∃ l,upd β H.n _ i=some l;unfold upd
  split
  ·exact⟨_,rfl⟩
  ·rename_i hne;exact h.tot i (by simp [Heap.alloc] at hi;omega) (by simpa [Heap.alloc,upd,hne] using hh)
 ·by_cases hi:i=H.n
  ·subst hi;rw [new l e];show RowR _ _ _ (upd H.f H.n (.own cs) H.n);simp only [upd,if_true];refine⟨(us++rest).toArray,t,fz,by simp,(qa.of_all2 hc rest).mono hle,by simp,by simp [hc.len],by simpa using hfz⟩
  ·have e':=old i l hi e;show RowR _ _ _ (upd H.f H.n (.own cs) i);simp only [upd,if_neg hi];refine (h.row i l e').mono hle fun hg=>?_;have:=(h.row i l e').blk_lt hg
   simp [Array.getElem?_push,Nat.ne_of_lt this]
 ·have ho':(upd H.f H.n (.own cs) i).isOwn=true:=ho;have hg':(upd H.f H.n (.own cs) j).isGone=false:=hg
  by_cases hi:i=H.n
  ·subst hi;have hj:j≠H.n:=fun e=>hij e.symm;simp only [upd,if_neg hj] at hg';have:=(h.row j lj (old j lj hj ej)).blk_lt hg';rw [new li ei];exact fun e=>by simp at e;omega
  ·simp only [upd,if_neg hi] at ho'
   by_cases hj:j=H.n
   ·subst hj;have:=(h.row i li (old i li hi ei)).blk_lt (by cases hb:H.f i<;>simp_all [Blk.isOwn,Blk.isGone]);rw [new lj ej];exact fun e=>by simp at e;omega
   ·simp only [upd,if_neg hj] at hg';exact h.apart i j li lj hij (old i li hi ei) (old j lj hj ej) ho' hg'
theorem Yu {β:Emb} {H H1:Heap} {bb:Blk} {s:Nat} {l0:Loc} (h:s≤l0.blk∨Live β H l0.blk) (hf:∀ b,Live β H1 b→Live β H b):∀ b,b<s→Live (β.ext H1.n l0) (H1.alloc bb) b→Live β H b:=fun b hb ⟨i,l,e,hg,hl⟩=>by
 subst hl;have hg':(upd H1.f H1.n bb i).isGone=false:=hg;unfold Emb.ext upd at e;unfold upd at hg'
 by_cases hi:i=H1.n
 ·rw [if_pos hi] at e
  cases e
  rcases h with h|h
  ·omega
  ·exact h
 ·rw [if_neg hi] at e hg';exact hf _ (.mk e hg')
theorem Fr.alloc {β:Emb} {H:Heap} {w:World} (h:SR β H w) {cs:List AV} (o:Obj) (n:Nat) :
  Fr β H w (β.ext H.n ⟨w.heap.size,0,n⟩) (H.alloc (.own cs)) { w with heap:=w.heap.push o }:=by
 refine⟨rfl,rfl,rfl,by simp,fun b hb _=>by simp [Array.getElem?_push,Nat.ne_of_lt hb],fun b hb ⟨i,l,e,ho,hl⟩=>?_,Yu (l0:=⟨w.heap.size,0,n⟩) (.inl (Nat.le_refl _)) (fun _ h=>h),wT.upd fun _ _=>Blk.noConfusion⟩
 by_cases hi:i=H.n
 ·subst hi;unfold Emb.ext upd at e;rw [if_pos rfl] at e;have:=Option.some.inj e;subst this
  simp at hl
  omega
 ·unfold Emb.ext upd at e;rw [if_neg hi] at e;refine⟨i,l,e,?_,hl⟩;have:(upd H.f H.n (.own cs) i).isOwn=true:=ho
  simpa only [upd,if_neg hi] using this
theorem addr_add (b o n:Nat):(⟨b,o,none⟩:Addr).add n=⟨b,o+n,none⟩:=by
 unfold Addr.add
 split
 ·rename_i h;subst h;rfl
 ·rfl
theorem cell_of {β : Emb} {H : Heap} {w : World} (h : SR β H w) {id off : Nat} {l : Loc} {v : AV} (e : β id = some l) (hv : (H.f id).cs[off]? = some v) :
    ∃ u, w.cell? ⟨l.blk, l.base + off, none⟩ = some u ∧ VS β v u := by
  have hr := h.row id l e
  cases hb : H.f id with
  | gone => rw [hb] at hv; simp [Blk.cs] at hv
  | tab b o => rw [hb] at hv; simp [Blk.cs] at hv
  | hole => rw [hb] at hv; simp [Blk.cs] at hv
  | mp _ _ _ => rw [hb] at hv; simp [Blk.cs] at hv
  | ro cs =>
    rw [hb] at hv hr
    obtain ⟨ccs, t, fz, h1, h2⟩ := hr
    obtain ⟨u, hu, hvr⟩ := h2 off v hv
    exact ⟨u, by simp [World.cell?, h1, hu], hvr⟩
  | own cs =>
    rw [hb] at hv hr
    obtain ⟨ccs, t, fz, h1, h2, _⟩ := hr
    obtain ⟨u, hu, hvr⟩ := h2 off v hv
    exact ⟨u, by simp [World.cell?, h1, hu], hvr⟩
theorem run_loadCellsFrom {P : Program} {w : World} (b o : Nat) : ∀ (us : List Value) (i : Nat) (acc : Array Value),
    (∀ j u, us[j]? = some u → w.cell? ⟨b, o + (i + j), none⟩ = some u) →
    (loadCellsFrom ⟨b, o, none⟩ i us.length acc).run P w = .ok (acc ++ us.toArray) w
  | [], i, acc, _ => by simp [loadCellsFrom]
  | u :: us, i, acc, h => by
    have h0 := h 0 u (by simp)
    simp only [Nat.add_zero] at h0
    have ih := run_loadCellsFrom (P := P) (w := w) b o us (i + 1) (acc.push u) (fun j v hv => by
      have := h (j + 1) v (by simpa using hv)
      rw [show i + 1 + j = i + (j + 1) by omega]; exact this)
    simp only [List.length_cons, loadCellsFrom, Sem.run_bind, run_load, addr_add, h0, Result.andThen_ok]
    rw [ih]
    simp
theorem run_loadCells {P:Program} {w:World} (b o:Nat) (us:List Value) (h:∀ j u,us[j]?=some u→w.cell? ⟨b,o+j,none⟩=some u) :
  (loadCells ⟨b,o,none⟩ us.length).run P w=.ok us.toArray w:=by
 unfold loadCells;rw [run_loadCellsFrom b o us 0 #[] (fun j u hu=>by simpa using h j u hu)]
 simp
theorem Yv {β : Emb} {H : Heap} {w : World} (h : SR β H w) {id off n : Nat} {l : Loc} {cs : List AV} (e : β id = some l) (hr : vB H id off n = some cs) :
    ∃ us : List Value, us.length = n ∧ All2 (VS β) cs us ∧ ∀ j u, us[j]? = some u → w.cell? ⟨l.blk, l.base + off + j, none⟩ = some u := by
  unfold vB at hr
  split at hr
  · rename_i hle
    have hcs := (Option.some.inj hr).symm
    have key : ∀ m, m ≤ n → ∃ us : List Value, us.length = m ∧ All2 (VS β) (((H.f id).cs.drop off).take m) us ∧ ∀ j u, us[j]? = some u → w.cell? ⟨l.blk, l.base + off + j, none⟩ = some u := by
      intro m
      induction m with
      | zero => intro _; exact ⟨[], rfl, by simp [All2], fun j u hu => by simp at hu⟩
      | succ m ih =>
        intro hm
        obtain ⟨us, h1, h2, h3⟩ := ih (by omega)
        have hlt : off + m < (H.f id).cs.length := by omega
        have hv : (H.f id).cs[off + m]? = some (H.f id).cs[off + m] := List.getElem?_eq_getElem hlt
        obtain ⟨u, hu, hvr⟩ := cell_of h e hv
        refine ⟨us ++ [u], by simp [h1], ?_, fun j x hx => ?_⟩
        · rw [List.take_succ_eq_append_getElem (by simp; omega)]
          refine h2.append ⟨?_, trivial⟩
          simpa using hvr
        · rcases Nat.lt_or_ge j us.length with hj | hj
          · rw [List.getElem?_append_left hj] at hx; exact h3 j x hx
          · rw [List.getElem?_append_right hj] at hx
            have hj0 : j - us.length = 0 := by
              rcases Nat.eq_zero_or_pos (j - us.length) with h' | h'
              · exact h'
              · rw [List.getElem?_eq_none (by simp; omega)] at hx; cases hx
            rw [hj0] at hx
            simp at hx
            subst hx
            have : j = m := by omega
            subst this
            rw [Nat.add_assoc]; exact hu
    obtain ⟨us, h1, h2, h3⟩ := key n (Nat.le_refl _)
    exact ⟨us, h1, by rw [hcs]; exact h2, h3⟩
  · cases hr
theorem VS.one {β:Emb} {x:AV} {u:Value} (h:VS β x u):u.oneCell'=true:=by
 obtain⟨h,hs⟩:=h
 cases x<;>simp only [VR,AV.stor] at h hs<;>first
  | (cases hs;done)
  | (subst h;rfl)
  | (obtain⟨_,h,_⟩:=h;subst h;rfl)
  | (obtain⟨_,_,h⟩:=h;subst h;rfl)
  | (obtain⟨_,_,_,_,h,_⟩:=h;subst h;rfl)
  | (rcases IfR.cases h with⟨_,h⟩|⟨_,_,_,h⟩<;>(subst h;rfl))
structure Wr (w w':World) (b:Nat) (e:TypeId) (fz:Nat × Nat) (ccs:Array Value) (o:Nat) (us:List Value):Prop where
 os:w'.os=w.os
 tape:w'.tape=w.tape
 output:w'.output=w.output
 size:w'.heap.size=w.heap.size
 other:∀ c,c≠b→w'.heap[c]?=w.heap[c]?
 row:∃ ccs':Array Value,w'.heap[b]?=some (.cells ccs' e fz)∧ccs'.size=ccs.size ∧
  ∀ k,ccs'[k]?=if o≤k∧k<o+us.length then us[k - o]? else ccs[k]?
theorem jH {P : Program} (b o : Nat) (e : TypeId) (fz : Nat × Nat) : ∀ (us : List Value) (i : Nat) (w : World) (ccs : Array Value),
    (∀ u ∈ us, u.oneCell' = true) → w.heap[b]? = some (.cells ccs e fz) → o + i + us.length ≤ ccs.size → (∀ j, j < ccs.size → ¬ (fz.1 ≤ j ∧ j < fz.2)) →
    ∃ w', (storeCells ⟨b, o, none⟩ us i).run P w = .ok () w' ∧ Wr w w' b e fz ccs (o + i) us
  | [], i, w, ccs, _, hb, _, _ => ⟨w, by simp [storeCells], rfl, rfl, rfl, rfl, fun _ _ => rfl, ccs, hb, rfl, fun k => by
      rw [if_neg (by simp)]⟩
  | u :: us, i, w, ccs, h1, hb, hs, hf => by
    have hlt : o + i < ccs.size := by simp at hs; omega
    have hc : w.cell? ⟨b, o + i, none⟩ = some ccs[o + i] := by simp [World.cell?, hb, hlt]
    have hz : w.frozen? ⟨b, o + i, none⟩ = false := by
      have := hf (o + i) hlt
      simp only [World.frozen?, hb]
      rw [Bool.and_eq_false_iff]
      by_cases h : fz.1 ≤ o + i
      · right; simp; omega
      · left; simp; omega
    have hbl : b < w.heap.size := by
      rcases Nat.lt_or_ge b w.heap.size with h' | h'
      · exact h'
      · simp [Array.getElem?_eq_none h'] at hb
    have hb' : (w.setCell ⟨b, o + i, none⟩ u).heap[b]? = some (.cells (ccs.setIfInBounds (o + i) u) e fz) := by
      simp [World.setCell, Array.getElem?_modify, hb]
    obtain ⟨w', hr, hw⟩ := jH (P := P) b o e fz us (i + 1) (w.setCell ⟨b, o + i, none⟩ u) (ccs.setIfInBounds (o + i) u)
      (fun x hx => h1 x (List.mem_cons_of_mem _ hx)) hb' (by simp at hs ⊢; omega) (by simpa using hf)
    refine ⟨w', ?_, hw.os, hw.tape, hw.output, by rw [hw.size]; simp, fun c hcb => ?_, ?_⟩
    · simp only [storeCells, Sem.run_bind, addr_add]
      rw [run_store _ _ _ _ _ (h1 u (by simp)), hc]
      simp only [hz, Bool.false_eq_true, if_false, Result.andThen_ok]
      exact hr
    · rw [hw.other c hcb]
      simp [World.setCell, Array.getElem?_modify, Ne.symm hcb]
    · obtain ⟨ccs', e1, e2, e3⟩ := hw.row
      refine ⟨ccs', e1, by simpa using e2, fun k => ?_⟩
      rw [e3 k]
      by_cases hk : k = o + i
      · subst hk
        rw [if_neg (by omega), if_pos (by simp)]
        simp [hlt]
      · by_cases hk2 : o + (i + 1) ≤ k ∧ k < o + (i + 1) + us.length
        · rw [if_pos hk2, if_pos (by simp; omega)]
          rw [show k - (o + i) = (k - (o + (i + 1))) + 1 by omega]
          simp
        · rw [if_neg hk2, if_neg (by simp; omega)]
          rw [Array.getElem?_setIfInBounds_ne (by omega)]
theorem K3 (cs new:List AV) (off:Nat) (h:off+new.length≤cs.length) (j:Nat) :
  (splice cs new off)[j]?=if off≤j∧j<off+new.length then new[j - off]? else cs[j]?:=by
 unfold splice;have hl:(cs.take off).length=off:=by simp;omega
 rw [List.append_assoc];rcases Nat.lt_or_ge j off with h1|h1
 ·rw [List.getElem?_append_left (by omega),if_neg (by omega),List.getElem?_take_of_lt h1]
 ·rw [List.getElem?_append_right (by omega),hl];rcases Nat.lt_or_ge (j - off) new.length with h2|h2
  ·rw [List.getElem?_append_left h2,if_pos (by omega)]
  ·rw [List.getElem?_append_right h2,if_neg (by omega),List.getElem?_drop]
   congr 1;omega
theorem Yw (cs new:List AV) (off:Nat) (h:off+new.length≤cs.length):(splice cs new off).length=cs.length:=by
 unfold splice;simp;omega
theorem RowR.other {β:Emb} {w w':World} {l:Loc} {b:Blk} (hw:b.isGone=false→w'.heap[l.blk]?=w.heap[l.blk]?) (hr:RowR β w l b):RowR β w' l b:=
 RowR.mono (Le.refl β) hw hr
theorem SR.allocB {β:Emb} {H:Heap} {w:World} (h:SR β H w) (o:Obj) (n:Nat) (bb:Blk) (hb:∀ γ,RowR γ { w with heap:=w.heap.push o } ⟨w.heap.size,0,n⟩ bb) :
  SR (β.ext H.n ⟨w.heap.size,0,n⟩) (H.alloc bb) { w with heap:=w.heap.push o }:=by
 have hle:Le β (β.ext H.n ⟨w.heap.size,0,n⟩):=Le.ext (h.dom _ (Nat.le_refl _));have old:∀ i l,i≠H.n→(β.ext H.n ⟨w.heap.size,0,n⟩) i=some l→β i=some l:=fun i l hi e=>by
  unfold Emb.ext upd at e;rw [if_neg hi] at e;exact e
 have new:∀ l,(β.ext H.n ⟨w.heap.size,0,n⟩) H.n=some l→l=⟨w.heap.size,0,n⟩:=fun l e=>by
  unfold Emb.ext upd at e;rw [if_pos rfl] at e;exact (Option.some.inj e).symm
 refine⟨fun i hi=>?_,fun i hi hh=>?_,fun i l e=>?_,fun i j li lj hij ei ej ho hg=>?_⟩
 ·show upd β H.n _ i=none;unfold upd;rw [if_neg (by simp [Heap.alloc] at hi;omega)];exact h.dom i (by simp [Heap.alloc] at hi;omega)
 ·show ∃ l,upd β H.n _ i=some l;unfold upd
  split
  ·exact⟨_,rfl⟩
  ·rename_i hne;exact h.tot i (by simp [Heap.alloc] at hi;omega) (by simpa [Heap.alloc,upd,hne] using hh)
 ·by_cases hi:i=H.n
  ·subst hi;rw [new l e];show RowR _ _ _ (upd H.f H.n bb H.n);simp only [upd,if_true];exact hb _
  ·have e':=old i l hi e;show RowR _ _ _ (upd H.f H.n bb i);simp only [upd,if_neg hi];refine (h.row i l e').mono hle fun hg=>?_;have:=(h.row i l e').blk_lt hg
   simp [Array.getElem?_push,Nat.ne_of_lt this]
 ·have ho':(upd H.f H.n bb i).isOwn=true:=ho;have hg':(upd H.f H.n bb j).isGone=false:=hg
  by_cases hi:i=H.n
  ·subst hi;have hj:j≠H.n:=fun e=>hij e.symm;simp only [upd,if_neg hj] at hg';have:=(h.row j lj (old j lj hj ej)).blk_lt hg';rw [new li ei];exact fun e=>by simp at e;omega
  ·simp only [upd,if_neg hi] at ho'
   by_cases hj:j=H.n
   ·subst hj;have:=(h.row i li (old i li hi ei)).blk_lt (by cases hb:H.f i<;>simp_all [Blk.isOwn,Blk.isGone]);rw [new lj ej];exact fun e=>by simp at e;omega
   ·simp only [upd,if_neg hj] at hg';exact h.apart i j li lj hij (old i li hi ei) (old j lj hj ej) ho' hg'
theorem Fr.allocB {β:Emb} {H:Heap} {w:World} (h:SR β H w) (bb:Blk) (o:Obj) (n:Nat) (hbb:∀ b o,bb≠.tab b o:=by intro _ _;exact Blk.noConfusion) :
  Fr β H w (β.ext H.n ⟨w.heap.size,0,n⟩) (H.alloc bb) { w with heap:=w.heap.push o }:=by
 refine⟨rfl,rfl,rfl,by simp,fun b hb _=>by simp [Array.getElem?_push,Nat.ne_of_lt hb],fun b hb ⟨i,l,e,ho,hl⟩=>?_,Yu (l0:=⟨w.heap.size,0,n⟩) (.inl (Nat.le_refl _)) (fun _ h=>h),wT.upd hbb⟩
 by_cases hi:i=H.n
 ·subst hi;unfold Emb.ext upd at e;rw [if_pos rfl] at e;have:=Option.some.inj e;subst this
  simp at hl
  omega
 ·unfold Emb.ext upd at e;rw [if_neg hi] at e;refine⟨i,l,e,?_,hl⟩;have:(upd H.f H.n bb i).isOwn=true:=ho
  simpa only [upd,if_neg hi] using this
theorem SR.putB {β:Emb} {H:Heap} {w w':World} (h:SR β H w) {id:Nat} {l:Loc} {bb:Blk} (e:β id=some l) (ho:(H.f id).isOwn=true) (hb:RowR β w' l bb) (hg:bb.isGone=false) (hne:bb≠.hole) (hoth:∀ c,c<w.heap.size→c≠l.blk→w'.heap[c]?=w.heap[c]?) (hbo:bb.isOwn=true):SR β (H.put id bb) w':=by
 have hfi:∀ i,(H.put id bb).f i=if i=id then bb else H.f i:=fun i=>rfl
 refine⟨h.dom,fun i hi hh=>?_,fun i li ei=>?_,fun i j li lj hij ei ej hoi hgj=>?_⟩
 ·by_cases hid:i=id
  ·exact⟨l,by rw [hid];exact e⟩
  ·rw [hfi,if_neg hid] at hh;exact h.tot i hi hh
 ·by_cases hid:i=id
  ·subst hid;rw [e] at ei
   cases ei
   rw [hfi,if_pos rfl];exact hb
  ·rw [hfi,if_neg hid];exact RowR.other (fun hgi=>hoth _ ((h.row i li ei).blk_lt hgi) fun hc=>h.apart id i l li (Ne.symm hid) e ei ho hgi hc.symm) (h.row i li ei)
 ·rw [hfi] at hoi hgj;have hoi':(H.f i).isOwn=true:=by
   by_cases hid:i=id
   ·rw [hid];exact ho
   ·rw [if_neg hid] at hoi;exact hoi
  have hgj':(H.f j).isGone=false:=by
   by_cases hid:j=id
   ·rw [hid];cases hx:H.f id<;>rw [hx] at ho<;>first|rfl|(cases ho)
   ·rw [if_neg hid] at hgj;exact hgj
  exact h.apart i j li lj hij ei ej hoi' hgj'
theorem Fr.putB {β:Emb} {H:Heap} {w w':World} {id:Nat} {l:Loc} {bb:Blk} (e:β id=some l) (ho:(H.f id).isOwn=true) (h1:w'.os=w.os) (h2:w'.tape=w.tape) (h3:w'.output=w.output) (h4:w.heap.size≤w'.heap.size) (hoth:∀ c,c<w.heap.size→c≠l.blk→w'.heap[c]?=w.heap[c]?) (hbb:∀ b o,bb≠.tab b o:=by intro _ _;exact Blk.noConfusion):Fr β H w β (H.put id bb) w':=by
 refine⟨h1,h2,h3,h4,fun b hbs hn=>hoth b hbs fun hc=>hn ⟨id,l,e,ho,hc.symm⟩,fun b _ ⟨i,li,ei,hoi,hl⟩=>?_,fun b _ h=>Yt (.inl (vT ho)) h,wT.upd hbb⟩
 by_cases hid:i=id
 ·subst hid;exact⟨i,li,ei,ho,hl⟩
 ·have:(if i=id then bb else H.f i).isOwn=true:=hoi;rw [if_neg hid] at this;exact⟨i,li,ei,this,hl⟩
theorem qb {b:Blk} {cs:List AV} (h:b=.own cs):b.isOwn=true:=by subst h;rfl
theorem ZK {b:Blk} {cs:List AV} (h:b=.own cs):b.isGone=false:=by subst h;rfl
theorem SR.store {β:Emb} {H:Heap} {w w':World} (h:SR β H w) {id off:Nat} {l:Loc} {cs new:List AV} {us:List Value} {e:TypeId} {fz:Nat × Nat} {ccs:Array Value}
  (hl:β id=some l) (ho:H.f id=.own cs) (hb:w.heap[l.blk]?=some (.cells ccs e fz)) (hlen:off+new.length≤cs.length) (hn:All2 (VS β) new us)
  (hw:Wr w w' l.blk e fz ccs (l.base+off) us):SR β (H.put id (.own (splice cs new off))) w':=by
 refine⟨h.dom,fun i hi hh=>?_,fun i m ei=>?_,fun i j li lj hij ei ej hio hjg=>?_⟩
 ·by_cases e:i=id
  ·exact⟨l,e▸hl⟩
  ·exact h.tot i hi (by simpa [Heap.put,upd,e] using hh)
 ·show RowR β w' m (upd H.f id (.own (splice cs new off)) i)
  by_cases hi:i=id
  ·subst hi;rw [hl] at ei;have:=Option.some.inj ei;subst this;simp only [upd,if_true];have hr:=h.row i l hl;rw [ho] at hr;obtain⟨ccs0,e0,fz0,g1,g2,g3,g4,g5⟩:=hr;rw [hb] at g1;obtain⟨rfl,rfl,rfl⟩:ccs=ccs0∧e=e0∧fz=fz0:=by
    have:=Option.some.inj g1;simp at this;exact⟨this.1,this.2.1,this.2.2⟩
   obtain⟨ccs',k1,k2,k3⟩:=hw.row;refine⟨ccs',e,fz,k1,fun j v hv=>?_,by omega,by rw [Yw cs new off hlen];exact g4,by rw [k2];exact g5⟩;rw [K3 cs new off hlen] at hv;rw [k3]
   split at hv
   ·rename_i hc
    obtain⟨u,hu,hvs⟩:=hn.get _ _ hv;refine⟨u,?_,hvs⟩;rw [if_pos (by rw [←hn.len];omega)];rw [show l.base+j - (l.base+off)=j - off by omega];exact hu
   ·rename_i hc
    obtain⟨u,hu,hvs⟩:=g2 j v hv;exact⟨u,by rw [if_neg (by rw [←hn.len];omega)];exact hu,hvs⟩
  ·simp only [upd,if_neg hi];refine (h.row i m ei).other fun hg=>hw.other _ ?_;exact fun e'=>h.apart id i l m (Ne.symm hi) hl ei (qb ho) hg e'.symm
 ·have hio':(H.f i).isOwn=true:=by
   by_cases hi:i=id
   ·subst hi;exact qb ho
   ·have:(upd H.f id (.own (splice cs new off)) i).isOwn=true:=hio
    simpa only [upd,if_neg hi] using this
  have hjg':(H.f j).isGone=false:=by
   by_cases hj:j=id
   ·subst hj;exact ZK ho
   ·have:(upd H.f id (.own (splice cs new off)) j).isGone=false:=hjg
    simpa only [upd,if_neg hj] using this
  exact h.apart i j li lj hij ei ej hio' hjg'
theorem Fr.store {β:Emb} {H:Heap} {w w':World} {id:Nat} {l:Loc} {cs cs':List AV} {us:List Value} {e:TypeId} {fz:Nat × Nat} {ccs:Array Value} {o:Nat}
  (hl:β id=some l) (ho:H.f id=.own cs) (hw:Wr w w' l.blk e fz ccs o us):Fr β H w β (H.put id (.own cs')) w':=by
 refine⟨hw.os,hw.tape,hw.output,by rw [hw.size];exact Nat.le_refl _,fun b hb hn=>hw.other b fun e'=>hn ⟨id,l,hl,qb ho,e'.symm⟩,fun b hb ⟨i,m,ei,hio,em⟩=>?_,fun b _ h=>Yt (.inl (ZK ho)) h,wT.upd fun _ _=>Blk.noConfusion⟩
 by_cases hi:i=id
 ·subst hi;exact⟨i,m,ei,qb ho,em⟩
 ·refine⟨i,m,ei,?_,em⟩;have:(upd H.f id (.own cs') i).isOwn=true:=hio
  simpa only [upd,if_neg hi] using this
theorem qa.drop {β:Emb} {cs:List AV} {ccs:Array Value} {base:Nat} (off:Nat) (h:qa β cs ccs base):qa β (cs.drop off) ccs (base+off):=fun j v hv=>by
 rw [List.getElem?_drop] at hv;obtain⟨u,h1,h2⟩:=h _ v hv;exact⟨u,by rw [Nat.add_assoc];exact h1,h2⟩
theorem SR.grow {β:Emb} {H:Heap} {w w':World} (h:SR β H w) {id off:Nat} {l:Loc} {cs new:List AV} {us:List Value} {e:TypeId} {fz:Nat × Nat} {ccs:Array Value}
  (hl:β id=some l) (ho:H.f id=.own cs) (hb:w.heap[l.blk]?=some (.cells ccs e fz)) (hoff:off≤cs.length) (hroom:cs.length+new.length≤l.size) (hn:All2 (VS β) new us)
  (hw:Wr w w' l.blk e fz ccs (l.base+cs.length) us) :
  SR (β.ext H.n ⟨l.blk,l.base+off,l.size - off⟩) ((H.put id .gone).alloc (.own (cs.drop off++new))) w':=by
 have hle:Le β (β.ext H.n ⟨l.blk,l.base+off,l.size - off⟩):=Le.ext (h.dom _ (Nat.le_refl _));have hid:id<H.n:=h.lt hl;have old:∀ i m,i≠H.n→(β.ext H.n ⟨l.blk,l.base+off,l.size - off⟩) i=some m→β i=some m:=fun i l hi e=>by
  unfold Emb.ext upd at e;rw [if_neg hi] at e;exact e
 have new_:∀ m,(β.ext H.n ⟨l.blk,l.base+off,l.size - off⟩) H.n=some m→m=⟨l.blk,l.base+off,l.size - off⟩:=fun l e=>by
  unfold Emb.ext upd at e;rw [if_pos rfl] at e;exact (Option.some.inj e).symm
 have fnew:(((H.put id .gone).alloc (.own (cs.drop off++new))).f H.n)=.own (cs.drop off++new):=by simp [Heap.alloc,Heap.put,upd]
 have fid:(((H.put id .gone).alloc (.own (cs.drop off++new))).f id)=.gone:=by simp [Heap.alloc,Heap.put,upd,Nat.ne_of_lt hid]
 have foth:∀ i,i≠H.n→i≠id→(((H.put id .gone).alloc (.own (cs.drop off++new))).f i)=H.f i:=fun i h1 h2=>by simp [Heap.alloc,Heap.put,upd,h1,h2]
 refine⟨fun i hi=>?_,fun i hi hh=>?_,fun i m ei=>?_,fun i j li lj hij ei ej hio hjg=>?_⟩
 ·simp only [Heap.alloc,Heap.put] at hi;unfold Emb.ext upd;rw [if_neg (by omega)];exact h.dom i (by omega)
 ·simp only [Heap.alloc,Heap.put] at hi;unfold Emb.ext upd
  split
  ·exact⟨_,rfl⟩
  ·rename_i hne
   by_cases e:i=id
   ·exact⟨l,e▸hl⟩
   ·exact h.tot i (by omega) (by simpa [Heap.alloc,Heap.put,upd,hne,e] using hh)
 ·by_cases hi:i=H.n
  ·subst hi;rw [new_ m ei,fnew];have hr:=h.row id l hl;rw [ho] at hr;obtain⟨ccs0,e0,fz0,g1,g2,g3,g4,g5⟩:=hr;rw [hb] at g1;obtain⟨rfl,rfl,rfl⟩:ccs=ccs0∧e=e0∧fz=fz0:=by
    have:=Option.some.inj g1;simp at this;exact⟨this.1,this.2.1,this.2.2⟩
   obtain⟨ccs',k1,k2,k3⟩:=hw.row;refine⟨ccs',e,fz,k1,fun j v hv=>?_,by simp;omega,by simp;omega,by rw [k2];exact g5⟩;simp only at *;rw [k3];rcases Nat.lt_or_ge j (cs.drop off).length with hj|hj
   ·rw [List.getElem?_append_left hj] at hv;obtain⟨u,hu,hvs⟩:=(g2.drop off) j v hv;rw [List.length_drop] at hj;exact⟨u,by rw [if_neg (by omega)];exact hu,VS.mono hle hvs⟩
   ·rw [List.getElem?_append_right hj] at hv;obtain⟨u,hu,hvs⟩:=hn.get _ _ hv;have hul:j - (cs.drop off).length<us.length:=by
     rcases Nat.lt_or_ge (j - (cs.drop off).length) us.length with h'|h'
     ·exact h'
     ·rw [List.getElem?_eq_none h'] at hu;cases hu
    rw [List.length_drop] at hj hu hul;refine⟨u,?_,VS.mono hle hvs⟩;rw [if_pos (by omega),show l.base+off+j - (l.base+cs.length)=j - (cs.length - off) by omega];exact hu
  ·have ei':=old i m hi ei
   by_cases hid':i=id
   ·subst hid';rw [fid];exact True.intro
   ·rw [foth i hi hid'];refine (h.row i m ei').mono hle fun hg=>hw.other _ ?_;exact fun e'=>h.apart id i l m (Ne.symm hid') hl ei' (qb ho) hg e'.symm
 ·by_cases hi:i=H.n
  ·subst hi;have hj:j≠H.n:=fun e'=>hij e'.symm;have ej':=old j lj hj ej
   by_cases hjd:j=id
   ·subst hjd;rw [fid] at hjg;simp [Blk.isGone] at hjg
   ·rw [foth j hj hjd] at hjg;rw [new_ li ei];exact h.apart id j l lj (Ne.symm hjd) hl ej' (qb ho) hjg
  ·have ei':=old i li hi ei
   by_cases hid':i=id
   ·subst hid';rw [fid] at hio;simp [Blk.isOwn] at hio
   ·rw [foth i hi hid'] at hio
    by_cases hj:j=H.n
    ·subst hj;rw [new_ lj ej];exact h.apart i id li l hid' ei' hl hio (ZK ho)
    ·have ej':=old j lj hj ej
     by_cases hjd:j=id
     ·subst hjd;rw [fid] at hjg;simp [Blk.isGone] at hjg
     ·rw [foth j hj hjd] at hjg;exact h.apart i j li lj hij ei' ej' hio hjg
theorem Fr.grow {β:Emb} {H:Heap} {w w':World} (h:SR β H w) {id b2 s2:Nat} {l:Loc} {cs cs':List AV} {us:List Value} {e:TypeId} {fz:Nat × Nat} {ccs:Array Value} {o:Nat}
  (hl:β id=some l) (ho:H.f id=.own cs) (hw:Wr w w' l.blk e fz ccs o us):Fr β H w (β.ext H.n ⟨l.blk,b2,s2⟩) ((H.put id .gone).alloc (.own cs')) w':=by
 refine⟨hw.os,hw.tape,hw.output,by rw [hw.size];exact Nat.le_refl _,fun b hb hn=>hw.other b fun e'=>hn ⟨id,l,hl,qb ho,e'.symm⟩,fun b hb ⟨i,m,ei,hio,em⟩=>?_,Yu (H1:=H.put id .gone) (l0:=⟨l.blk,b2,s2⟩) (.inr (show Live β H l.blk from .mk hl (ZK ho))) (fun _ h=>Yt (.inr rfl) h),fun hn=>wT.upd (fun _ _=>Blk.noConfusion) (wT.upd (fun _ _=>Blk.noConfusion) hn)⟩
 by_cases hi:i=H.n
 ·subst hi;unfold Emb.ext upd at ei;rw [if_pos rfl] at ei;have:=Option.some.inj ei;subst this;exact⟨id,l,hl,qb ho,em⟩
 ·unfold Emb.ext upd at ei;rw [if_neg hi] at ei;have hio':(upd (upd H.f id .gone) H.n (.own cs') i).isOwn=true:=hio;simp only [upd,if_neg hi] at hio'
  by_cases hid:i=id
  ·subst hid;simp [Blk.isOwn] at hio'
  ·rw [if_neg hid] at hio';exact⟨i,m,ei,hio',em⟩
theorem SR.giveUp {β:Emb} {H:Heap} {w:World} (h:SR β H w) (id:Nat) (hid:H.f id≠.hole):SR β (H.put id .gone) w:=by
 refine⟨h.dom,fun i hi hh=>?_,fun i m ei=>?_,fun i j li lj hij ei ej hio hjg=>?_⟩
 ·by_cases e:i=id
  ·exact h.tot i hi (e▸hid)
  ·exact h.tot i hi (by simpa [Heap.put,upd,e] using hh)
 ·show RowR β w m (upd H.f id .gone i)
  by_cases hi:i=id
  ·subst hi;simp only [upd,if_true];exact True.intro
  ·simp only [upd,if_neg hi];exact h.row i m ei
 ·have hio':(upd H.f id .gone i).isOwn=true:=hio;have hjg':(upd H.f id .gone j).isGone=false:=hjg
  by_cases hi:i=id
  ·subst hi;simp [upd,Blk.isOwn] at hio'
  ·by_cases hj:j=id
   ·subst hj;simp [upd,Blk.isGone] at hjg'
   ·simp only [upd,if_neg hi] at hio';simp only [upd,if_neg hj] at hjg';exact h.apart i j li lj hij ei ej hio' hjg'
theorem Fr.giveUp {β:Emb} {H:Heap} {w:World} (id:Nat):Fr β H w β (H.put id .gone) w:=by
 refine⟨rfl,rfl,rfl,Nat.le_refl _,fun _ _ _=>rfl,fun b hb ⟨i,m,ei,hio,em⟩=>?_,fun b _ h=>Yt (.inr rfl) h,wT.upd fun _ _=>Blk.noConfusion⟩;have hio':(upd H.f id .gone i).isOwn=true:=hio
 by_cases hi:i=id
 ·subst hi;simp [upd,Blk.isOwn] at hio'
 ·simp only [upd,if_neg hi] at hio';exact⟨i,m,ei,hio',em⟩
end Go.Ab
namespace Go.Ab
section
variable {P:Program} {w:World} {t:TypeId}
theorem wm {n:Nat} (h:tsz P t=some n):(sizeOf t).run P w=.ok n w:=by
 unfold tsz at h
 cases hi:P.info? t with
 | none=>rw [hi] at h;cases h
 | some i=>rw [hi] at h;simp [sizeOf,typeInfo,hi];simpa using h
theorem WR {n:Nat} (h:vJ P t=some n):∃ i,(typeInfo t).run P w=.ok i w∧i.bytes=n:=by
 unfold vJ at h
 cases hi:P.info? t with
 | none=>rw [hi] at h;cases h
 | some i=>rw [hi] at h;exact⟨i,by simp [typeInfo,hi],by simpa using h⟩
theorem kw {z : List AV} (h : xz P t = some z) : ∃ zv, (zeroValue t).run P w = .ok zv w ∧ z = zv.cells.toList.map Zy := by
  unfold xz at h
  cases hi : P.info? t with
  | none => rw [hi] at h; simp at h
  | some i =>
    rw [hi] at h
    cases hz : i.zero with
    | none => simp [hz] at h
    | some zv => exact ⟨zv, by simp [zeroValue, typeInfo, hi, hz], by simpa [hz] using h.symm⟩
theorem zdj {b:Bool} (h:tagg P t=some b):∃ d,P.underlying t=some d∧(match d with|.struct _|.array _ _=>true|_=>false)=b:=by
 unfold tagg at h
 cases hu:P.underlying t with
 | none=>rw [hu] at h;cases h
 | some d=>rw [hu] at h;cases d<;>exact⟨_,rfl,by simpa using h⟩
theorem jI {b:Bool} (h:tagg P t=some b):(isAgg t).run P w=.ok b w:=by
 obtain⟨d,hu,hb⟩:=zdj h;simp only [isAgg,Sem.run_bind,run_underlying hu,Result.andThen_ok]
 cases d<;>simp at hb<;>subst hb<;>rfl
theorem xV {e:TypeId} (h:zL P t=some e):P.underlying t=some (.slice e):=by
 unfold zL at h
 cases hu:P.underlying t with
 | none=>rw [hu] at h;cases h
 | some d=>rw [hu] at h;cases d<;>simp at h;subst h;rfl
theorem jY {fs:List Field} (h:vX P t=some fs):∃ a:Array Field,P.underlying t=some (.struct a)∧fs=a.toList:=by
 unfold vX at h
 cases hu:P.underlying t with
 | none=>rw [hu] at h;cases h
 | some d=>rw [hu] at h;cases d<;>simp at h;subst h;exact⟨_,rfl,rfl⟩
theorem Qp {n:Nat} {e:TypeId} (h:tarr P t=some (n,e)):P.underlying t=some (.array n e):=by
 unfold tarr at h
 cases hu:P.underlying t with
 | none=>rw [hu] at h;cases h
 | some d=>rw [hu] at h;cases d<;>simp at h;obtain⟨rfl,rfl⟩:=h;rfl
theorem uu {k:IntKind} (h:tint P t=some k):P.underlying t=some (.int k):=by
 unfold tint at h
 cases hu:P.underlying t with
 | none=>rw [hu] at h;cases h
 | some d=>rw [hu] at h;cases d<;>simp at h;subst h;rfl
theorem Yx {k:FloatKind} (h:tflt P t=some k):P.underlying t=some (.float k):=by
 unfold tflt at h
 cases hu:P.underlying t with
 | none=>rw [hu] at h;cases h
 | some d=>rw [hu] at h;cases d<;>simp at h;subst h;rfl
theorem zbe (h:Yq P t=true):P.underlying t=some .bool:=by
 unfold Yq at h
 cases hu:P.underlying t with
 | none=>rw [hu] at h;cases h
 | some d=>rw [hu] at h;cases d<;>simp at h;rfl
theorem qM (h:tstr P t=true):P.underlying t=some .string:=by
 unfold tstr at h
 cases hu:P.underlying t with
 | none=>rw [hu] at h;cases h
 | some d=>rw [hu] at h;cases d<;>simp at h;rfl
end
def Done (β:Emb) (H:Heap) (w:World) (r:Result Next) (v:TV) (H':Heap):Prop:=
 ∃ β' u w',(r=.ok (.value u) w'∨(r=.ok .skip w'∧u=undef))∧Le β β'∧SR β' H' w'∧TVR β' v u∧Fr β H w β' H' w'
theorem Done.same {β:Emb} {H:Heap} {w:World} {r:Result Next} {v:TV} {u:Value} (hs:SR β H w) (hr:r=.ok (.value u) w) (hv:TVR β v u):Done β H w r v H:=
 ⟨β,u,w,.inl hr,Le.refl β,hs,hv,Fr.refl β H w⟩
theorem Done.drew {β:Emb} {H:Heap} {w:World} {r:Result Next} {v:TV} {u:Value} (n:Nat) (hs:SR β H w) (hr:r=.ok (.value u) { w with drawn:=n }) (hv:TVR β v u):Done β H w r v H:=
 ⟨β,u,_,.inl hr,Le.refl β,hs.draw n,hv,Fr.draw n⟩
theorem vW (β : Emb) (c : Value) : VR β (Zy c) c := by
  cases c with
  | bool b => rfl
  | int k n => rfl
  | float k b => exact ⟨b, rfl, rfl⟩
  | string s => rfl
  | pointer a => cases a with | none => rfl | some a => trivial
  | slice a l c =>
    cases a with
    | none => cases l with
      | zero => cases c with
        | zero => rfl
        | succ n => trivial
      | succ n => trivial
    | some a => trivial
  | func f a b =>
    cases f with
    | func g =>
      show VR β (if a.size = 0 ∧ b.size = 0 then .fn g [] else .bad) _
      split
      · rename_i h
        have ha : a = #[] := by simpa using h.1
        have hb : b = #[] := by simpa using h.2
        subst ha hb
        exact ⟨[], rfl, trivial⟩
      · trivial
    | _ => trivial
  | nilIface => rfl
  | _ => trivial
theorem jZ (β:Emb):∀ l:List Value,All2 (VR β) (l.map Zy) l
 | []=>trivial
 | c::l=>⟨vW β c,jZ β l⟩
theorem Z6 (β:Emb) (c:Value):TVR β (Ka c) c:=by
 cases c with
 | agg cs=>exact⟨cs.toList,by simp,jZ β _⟩
 | tuple vs=>trivial
 | bool b=>exact vW β (.bool b)
 | int k n=>exact vW β (.int k n)
 | float k b=>exact vW β (.float k b)
 | string s=>exact vW β (.string s)
 | pointer a=>exact vW β (.pointer a)
 | slice a l c=>exact vW β (.slice a l c)
 | func f a b=>exact vW β (.func f a b)
 | complex k a b=>trivial
 | map r=>trivial
 | chan r=>trivial
 | nilFunc=>trivial
 | iface a b=>trivial
 | nilIface=>exact vW β .nilIface
theorem All2.stor {β:Emb}:∀ {cs:List AV} {us:List Value},All2 (VR β) cs us→cs.all AV.stor=true→All2 (VS β) cs us
 | [],[],_,_=>trivial
 | _::_,_::_,h,k=>by simp at k;exact⟨⟨h.1,k.1⟩,All2.stor h.2 (by simpa using k.2)⟩
 | [],_::_,h,_=>h.elim
 | _::_,[],h,_=>h.elim
theorem All2.vr {β:Emb} {cs:List AV} {us:List Value} (h:All2 (VS β) cs us):All2 (VR β) cs us:=h.mono fun _ _ h=>h.1
theorem All2.ones {β : Emb} : ∀ {cs : List AV} {us : List Value}, All2 (VS β) cs us → ∀ u ∈ us, u.oneCell' = true
  | [], [], _, u, hu => by cases hu
  | _ :: _, v :: vs, h, u, hu => by
    cases hu with
    | head => exact h.1.one
    | tail _ hm => exact All2.ones h.2 u hm
  | [], _ :: _, h, _, _ => h.elim
  | _ :: _, [], h, _, _ => h.elim
theorem VR.single {β:Emb} {x:AV} {u:Value} (h:VR β x u) (hs:x.stor=true):u.cells=#[u]:=by
 have:=VS.one ⟨h,hs⟩
 cases u<;>first|rfl|(simp [Value.oneCell'] at this)
theorem TVR.cells {β : Emb} {v : TV} {u : Value} {cs : List AV} (h : TVR β v u) (hc : v.cells = some cs) (hs : cs.all AV.stor = true) :
    ∃ us : List Value, u.cells = us.toArray ∧ All2 (VS β) cs us := by
  cases v with
  | v x =>
    simp [TV.cells] at hc
    subst hc
    simp at hs
    exact ⟨[u], by rw [VR.single h hs], ⟨h, hs⟩, trivial⟩
  | g c =>
    simp [TV.cells] at hc
    subst hc
    obtain ⟨us, rfl, h2⟩ := h
    exact ⟨us, rfl, h2.stor hs⟩
  | t _ => simp [TV.cells] at hc
section
variable {P:Program} {o:Oper} {ρ:Operand→Value} {ev:Operand→TV} {β:Emb} {H H':Heap} {w:World} {v:TV}
theorem d_alloc (e : TypeId) (ho : o.op = .alloc e) (hs : SR β H w) (h : zM P ev (.alloc e) H = some (v, H')) : Done β H w ((execOp ρ o).run P w) v H' := by
  simp only [zM] at h
  cases hz : xz P e with
  | none => rw [hz] at h; cases h
  | some z =>
    rw [hz] at h
    simp only [Option.bind_some] at h
    split at h
    · rename_i hst
      cases h
      obtain ⟨zv, h1, h2⟩ := kw (w := w) hz
      have ha : All2 (VS β) z zv.cells.toList := (h2 ▸ jZ β zv.cells.toList : All2 (VR β) z _).stor hst
      refine ⟨_, .pointer (some ⟨w.heap.size, 0, none⟩), _, .inl ?_, Le.ext (hs.dom _ (Nat.le_refl _)), hs.alloc (t := e) (rest := []) (fz := (0, 0)) ha (.inl rfl), ?_, Fr.alloc hs _ _⟩
      · simp [execOp, ho, Instr.alloc, h1, newVar, newRow]
      · exact ⟨_, if_pos rfl, rfl⟩
    · cases h
theorem d_box (e : TypeId) (x : Operand) (ho : o.op = .box e x) (hs : SR β H w) (hv : TVR β (ev x) (ρ x)) (h : zM P ev (.box e x) H = some (v, H')) : Done β H w ((execOp ρ o).run P w) v H' := by
  simp only [zM] at h
  cases hz : (ev x).cells with
  | none => rw [hz] at h; cases h
  | some z =>
    rw [hz] at h
    simp only [Option.bind_some] at h
    split at h
    · rename_i hst
      cases h
      obtain ⟨us, h1, ha⟩ := hv.cells hz hst.2
      refine ⟨_, .pointer (some ⟨w.heap.size, 0, none⟩), _, .inl ?_, Le.ext (hs.dom _ (Nat.le_refl _)), hs.alloc (t := e) (rest := []) (fz := (0, 0)) ha (.inl rfl), ?_, Fr.alloc hs _ _⟩
      · simp [execOp, ho, Instr.box, h1, newVar, newRow]
      · exact ⟨_, if_pos rfl, rfl⟩
    · cases h
theorem d_load (t : TypeId) (x : Operand) (ho : o.op = .load t x) (hs : SR β H w) (hv : TVR β (ev x) (ρ x)) (h : zM P ev (.load t x) H = some (v, H')) : Done β H w ((execOp ρ o).run P w) v H' := by
  simp only [zM] at h
  split at h
  · rename_i id off he
    rw [he] at hv
    obtain ⟨l, hl, hp⟩ := hv
    split at h
    · rename_i hg
      split at h
      · rename_i n hn
        cases hr : vB H id off n with
        | none => rw [hr] at h; cases h
        | some c =>
          rw [hr] at h
          cases h
          obtain ⟨us, h1, h2, h3⟩ := Yv hs hl hr
          refine Done.same hs (u := .agg us.toArray) ?_ ⟨us, rfl, h2.vr⟩
          have := run_loadCells (P := P) l.blk (l.base + off) us h3
          rw [h1] at this
          simp [execOp, ho, Instr.loadAt, hp, ptrV, Instr.sureAddr, loadVar, jI hg, wm hn, this]
      · cases h
    · rename_i hg
      cases hr : wN H id off with
      | none => rw [hr] at h; cases h
      | some c =>
        rw [hr] at h
        cases h
        obtain ⟨u, h1, h2⟩ := cell_of hs hl hr
        refine Done.same hs (u := u) ?_ h2.1
        simp [execOp, ho, Instr.loadAt, hp, ptrV, Instr.sureAddr, loadVar, jI hg, h1]
    · cases h
  · cases h
theorem Kb (hs:SR β H w) {id:Nat} {l:Loc} {cs:List AV} (hl:β id=some l) (ho:H.f id=.own cs) :
  ∃ ccs e fz,w.heap[l.blk]?=some (.cells ccs e fz)∧l.base+l.size≤ccs.size∧cs.length≤l.size∧∀ j,j<ccs.size→¬(fz.1≤j∧j<fz.2):=by
 have:=hs.row id l hl;rw [ho] at this;obtain⟨ccs,e,fz,h1,_,h3,h4,h5⟩:=this;exact⟨ccs,e,fz,h1,h3,h4,h5.not⟩
theorem Kc (hs:SR β H w) {id off:Nat} {l:Loc} {new:List AV} {us:List Value} (hl:β id=some l) (hn:All2 (VS β) new us) (h:vG H id off new=some H') :
  ∃ w',(storeCells ⟨l.blk,l.base+off,none⟩ us 0).run P w=.ok () w'∧SR β H' w'∧Fr β H w β H' w':=by
 unfold vG at h
 split at h
 ·rename_i cs ho
  split at h
  ·rename_i hc
   cases h
   obtain⟨ccs,e,fz,h1,h2,h3,h4⟩:=Kb hs hl ho;obtain⟨w',hr,hw⟩:=jH (P:=P) l.blk (l.base+off) e fz us 0 w ccs hn.ones h1 (by rw [←hn.len];omega) h4;exact⟨w',hr,hs.store hl ho h1 hc.1 hn (by simpa using hw),Fr.store hl ho hw⟩
  ·cases h
 ·cases h
theorem d_store (t : TypeId) (a x : Operand) (ho : o.op = .store t a x) (hs : SR β H w) (ha : TVR β (ev a) (ρ a)) (hv : TVR β (ev x) (ρ x)) (h : zM P ev (.store t a x) H = some (v, H')) :
    Done β H w ((execOp ρ o).run P w) v H' := by
  simp only [zM] at h
  split at h
  · rename_i id off c n he hc hn
    split at h
    · rename_i hlen
      rw [he] at ha
      obtain ⟨l, hl, hp⟩ := ha
      cases hw : vG H id off c with
      | none => rw [hw] at h; cases h
      | some H2 =>
        rw [hw] at h
        cases h
        have hst : c.all AV.stor = true := by
          unfold vG at hw
          split at hw
          · split at hw
            · rename_i hc'; exact hc'.2
            · cases hw
          · cases hw
        obtain ⟨us, h1, h2⟩ := hv.cells hc hst
        obtain ⟨w', hr, h3, h4⟩ := Kc (P := P) hs hl h2 hw
        refine ⟨β, undef, w', .inr ⟨?_, rfl⟩, Le.refl β, h3, rfl, h4⟩
        have hl2 : us.length = n := by rw [← h2.len]; exact hlen
        simp [execOp, ho, Instr.storeAt, hp, ptrV, Instr.sureAddr, storeVar, h1, wm hn, hl2, hr]
    · cases h
  · cases h
theorem K4 (x:Operand) (ho:o.op=.nilCheck x) (hs:SR β H w) (hv:TVR β (ev x) (ρ x)) (h:zM P ev (.nilCheck x) H=some (v,H')):Done β H w ((execOp ρ o).run P w) v H':=by
 simp only [zM] at h
 split at h
 ·rename_i i f he
  cases h
  rw [he] at hv;obtain⟨l,hl,hp⟩:=hv;refine Done.same hs (u:=ρ x) ?_ ⟨l,hl,hp⟩
  simp [execOp,ho,hp,ptrV]
 ·rename_i f c he
  cases h
  rw [he] at hv;obtain⟨us,hp,ha⟩:=hv;refine Done.same hs (u:=ρ x) ?_ ⟨us,hp,ha⟩
  simp [execOp,ho,hp]
 ·cases h
theorem K5 (f : FuncId) (first captured : Array Operand) (ho : o.op = .makeFunc (.func f) first captured) (hs : SR β H w) (hv : ∀ x ∈ captured.toList, TVR β (ev x) (ρ x))
    (h : zM P ev (.makeFunc (.func f) first captured) H = some (v, H')) : Done β H w ((execOp ρ o).run P w) v H' := by
  simp only [zM] at h
  split at h
  · rename_i hf
    have hf' : first = #[] := by simpa using hf
    have key : ∀ (l : List Operand), (∀ x ∈ l, TVR β (ev x) (ρ x)) → ∀ c, ja ev l = some c → All2 (fun (c : Nat × Nat) u => ∃ m, β c.1 = some m ∧ u = ptrV m c.2) c (l.map ρ) := by
      intro l
      induction l with
      | nil => intro _ c hc; simp [ja] at hc; subst hc; trivial
      | cons x r ih =>
        intro hx c hc
        simp only [ja] at hc
        split at hc
        · rename_i i o' rs he hr
          cases hc
          have := hx x (by simp)
          rw [he] at this
          obtain ⟨m, hm, hp⟩ := this
          exact ⟨⟨m, hm, hp⟩, ih (fun y hy => hx y (by simp [hy])) rs hr⟩
        · cases hc
    cases hc : ja ev captured.toList with
    | none => rw [hc] at h; cases h
    | some c =>
      rw [hc] at h
      cases h
      refine Done.same hs (u := .func (.func f) #[] (captured.map ρ)) ?_ ⟨captured.toList.map ρ, by rw [show captured.map ρ = (captured.toList.map ρ).toArray from Array.ext' (by simp)], key _ hv c hc⟩
      simp [execOp, ho, Instr.makeFunc, hf']
  · cases h
theorem JE (st : TypeId) (x : Operand) (f : Nat) (ho : o.op = .fieldAddr st x f) (hs : SR β H w) (hv : TVR β (ev x) (ρ x)) (h : zM P ev (.fieldAddr st x f) H = some (v, H')) :
    Done β H w ((execOp ρ o).run P w) v H' := by
  simp only [zM] at h
  split at h
  · rename_i id off fd he hf
    split at h
    · rename_i hz
      cases h
      rw [he] at hv
      obtain ⟨l, hl, hp⟩ := hv
      cases hfs : vX P st with
      | none => rw [hfs] at hf; cases hf
      | some fs =>
        rw [hfs] at hf
        obtain ⟨a, hu, rfl⟩ := jY hfs
        simp at hf
        cases hsz : tsz P fd.type with
        | none => rw [hsz] at hz; cases hz
        | some n =>
          rw [hsz] at hz
          simp at hz
          refine Done.same hs (u := ptrV l (off + fd.offset)) ?_ ⟨l, hl, rfl⟩
          simp [execOp, ho, Instr.fieldAt, run_underlying hu, hf, hp, ptrV, Instr.sureAddr, fieldPlace, wm hsz, Nat.ne_of_gt hz, addr_add, Nat.add_assoc]
    · cases h
  · cases h
theorem d_field (t : TypeId) (x : Operand) (f : Nat) (ho : o.op = .field t x f) (hs : SR β H w) (hv : TVR β (ev x) (ρ x)) (h : zM P ev (.field t x f) H = some (v, H')) :
    Done β H w ((execOp ρ o).run P w) v H' := by
  simp only [zM] at h
  split at h
  · rename_i cs fd he hf
    rw [he] at hv
    obtain ⟨us, hp, ha⟩ := hv
    cases hfs : vX P t with
    | none => rw [hfs] at hf; cases hf
    | some fs =>
      rw [hfs] at hf
      obtain ⟨a, hu, rfl⟩ := jY hfs
      simp at hf
      split at h
      · rename_i hg
        split at h
        · rename_i n hn
          split at h
          · rename_i hle
            cases h
            refine Done.same hs (u := .agg ((us.drop fd.offset).take n).toArray) ?_ ⟨_, rfl, (ha.drop _).take _⟩
            have : us.toArray.extract fd.offset (fd.offset + n) = ((us.drop fd.offset).take n).toArray := by
              apply Array.ext'
              simp [List.extract_eq_take_drop]
            simp [execOp, ho, Instr.field, run_underlying hu, hf, hp, asAgg, part, jI hg, wm hn, this]
          · cases h
        · cases h
      · rename_i hg
        cases hc : cs[fd.offset]? with
        | none => rw [hc] at h; cases h
        | some c =>
          rw [hc] at h
          cases h
          obtain ⟨u, h1, h2⟩ := ha.get _ _ hc
          refine Done.same hs (u := u) ?_ h2
          simp [execOp, ho, Instr.field, run_underlying hu, hf, hp, asAgg, part, jI hg, h1]
      · cases h
  · cases h
theorem JG (t : TypeId) (x i : Operand) (ho : o.op = .indexAddr t x i) (hs : SR β H w) (hv : TVR β (ev x) (ρ x)) (hi : TVR β (ev i) (ρ i)) (h : zM P ev (.indexAddr t x i) H = some (v, H')) :
    Done β H w ((execOp ρ o).run P w) v H' := by
  simp only [zM] at h
  split at h
  · rename_i id off len esz k n he hn
    rw [he] at hv
    rw [hn] at hi
    obtain ⟨l, a, cap, hl, hp, hlc, hor⟩ := hv
    have hi' : ρ i = .int k n := hi
    split at h
    · rename_i sz hsz
      split at h
      · rename_i hb
        cases h
        obtain ⟨rfl, h0, h1⟩ := hb
        cases hte : zL P t with
        | none => rw [hte] at hsz; cases hsz
        | some e =>
          rw [hte] at hsz
          simp at hsz
          have hu := xV hte
          rcases hor with ⟨rfl, _⟩ | ⟨hz, _⟩
          · refine Done.same hs (u := ptrV l (off + n.toNat * sz)) ?_ ⟨l, hl, rfl⟩
            simp [execOp, ho, Instr.indexAt, hi', hp, asIntOf, run_underlying hu, h0, h1, wm hsz, addr_add, ptrV, Nat.add_assoc]
          · omega
      · cases h
    · cases h
  · rename_i id off k n he hn
    rw [he] at hv
    rw [hn] at hi
    obtain ⟨l, hl, hp⟩ := hv
    have hi' : ρ i = .int k n := hi
    split at h
    · rename_i len e hta
      split at h
      · rename_i sz hsz
        split at h
        · rename_i hb
          cases h
          have hu := Qp hta
          refine Done.same hs (u := ptrV l (off + n.toNat * sz)) ?_ ⟨l, hl, rfl⟩
          simp [execOp, ho, Instr.indexAt, hi', hp, ptrV, Instr.sureAddr, asIntOf, run_underlying hu, hb.1, hb.2, wm hsz, addr_add, Nat.add_assoc]
        · cases h
      · cases h
    · cases h
  · cases h
theorem WS (t:TypeId) (x:Operand) (ho:o.op=.makeInterface t x) (hs:SR β H w) (hv:TVR β (ev x) (ρ x)) (h:zM P ev (.makeInterface t x) H=some (v,H')):Done β H w ((execOp ρ o).run P w) v H':=by
 simp only [zM] at h
 split at h
 ·rename_i k n he
  rw [he] at hv;have hx:ρ x=.int k n:=hv
  split at h
  ·rename_i ht
   cases h
   have hu:P.underlying t=some (.int k):=by
    unfold tint at ht
    split at ht
    ·rename_i k' e;cases ht;exact e
    ·cases ht
   refine Done.same hs (u:=.iface t (.int k n)) ?_ rfl
   simp [execOp,ho,Instr.makeInterface,run_underlying hu,hx]
  ·cases h
 ·cases h
theorem d_index (t : TypeId) (x i : Operand) (ho : o.op = .index t x i) (hs : SR β H w) (hv : TVR β (ev x) (ρ x)) (hi : TVR β (ev i) (ρ i)) (h : zM P ev (.index t x i) H = some (v, H')) :
    Done β H w ((execOp ρ o).run P w) v H' := by
  simp only [zM] at h
  split at h
  · rename_i s k n he hn
    rw [he] at hv
    rw [hn] at hi
    have hp : ρ x = .string s := hv
    have hi' : ρ i = .int k n := hi
    split at h
    · rename_i hb
      cases hc : s[n.toNat]? with
      | none => rw [hc] at h; cases h
      | some b =>
        rw [hc] at h
        cases h
        refine Done.same hs (u := .int .u8 b.toNat) ?_ rfl
        simp [execOp, ho, Instr.index, hi', hp, asIntOf, run_underlying (qM hb.1), hb.2, hc]
    · cases h
  · cases h
theorem zbf (x : Operand) (i : Nat) (ho : o.op = .extract x i) (hs : SR β H w) (hv : TVR β (ev x) (ρ x)) (h : zM P ev (.extract x i) H = some (v, H')) : Done β H w ((execOp ρ o).run P w) v H' := by
  simp only [zM] at h
  split at h
  · rename_i vs he
    rw [he] at hv
    obtain ⟨us, hp, ha⟩ := hv
    cases hc : vs[i]? with
    | none => rw [hc] at h; cases h
    | some z =>
      rw [hc] at h
      cases h
      obtain ⟨u, h1, h2⟩ := ha.get _ _ hc
      refine Done.same hs (u := u) ?_ (by cases z <;> exact h2)
      simp [execOp, ho, Instr.extract, hp, h1]
  · cases h
end
theorem Qq (f:Ieee.Format) (word:Nat) (h0:f.binade≤f.infRung) (h:f.infRung<word % f.signWeight):(f.read word).isNaN=true:=by
 unfold Ieee.Format.read
 dsimp only
 rw [if_neg (by omega),if_neg (by omega),if_neg (by omega)];rfl
theorem XL (t:Nat):(FloatKind.f32.decode ((t % 2)*2 ^ 31+0x7f800000+1+(t / 2) % (2 ^ 23 - 1))).isNaN=true:=by
 refine Qq Ieee.single _ (by decide) ?_;have h2:(t / 2) % (2 ^ 23 - 1)<2 ^ 23 - 1:=Nat.mod_lt _ (by omega);have h1:t % 2<2:=Nat.mod_lt _ (by omega);show (0x7f800000:Nat)<((t % 2)*2 ^ 31+0x7f800000+1+(t / 2) % (2 ^ 23 - 1)) % 2 ^ 31;generalize t % 2=a at *;generalize (t / 2) % (2 ^ 23 - 1)=c at *;omega
theorem XM (t:Nat):(FloatKind.f64.decode ((t % 2)*2 ^ 63+0x7ff0000000000000+1+(t / 2) % (2 ^ 52 - 1))).isNaN=true:=by
 refine Qq Ieee.double _ (by decide) ?_;have h2:(t / 2) % (2 ^ 52 - 1)<2 ^ 52 - 1:=Nat.mod_lt _ (by omega);have h1:t % 2<2:=Nat.mod_lt _ (by omega);show (0x7ff0000000000000:Nat)<((t % 2)*2 ^ 63+0x7ff0000000000000+1+(t / 2) % (2 ^ 52 - 1)) % 2 ^ 63;generalize t % 2=a at *;generalize (t / 2) % (2 ^ 52 - 1)=c at *;omega
section
variable {P:Program} {o:Oper} {ρ:Operand→Value} {ev:Operand→TV} {β:Emb} {H H':Heap} {w:World} {v:TV}
theorem run_floatArith (op : BinOp) (k : FloatKind) (x y : Nat) (h : op = .add ∨ op = .sub ∨ op = .mul ∨ op = .quo) :
    ∃ r n, (Op.floatArith op k x y).run P w = .ok (.float k r) { w with drawn := n } ∧ cz k r = ((floatBits op k x y).map (cz k)).getD (qnan k) := by
  cases hb : floatBits op k x y with
  | some r =>
    refine ⟨r, w.drawn, ?_, by simp⟩
    have hr : (Op.floatArith op k x y).run P w = .ok (.float k r) w := by
      unfold floatBits at hb
      rcases h with rfl | rfl | rfl | rfl <;> simp only at hb <;> simp [Op.floatArith, hb]
    exact hr
  | none =>
    have hn : ∀ t, (k.decode (Question.cut (.nanBits k x y) t)).isNaN = true := by
      intro t
      cases k
      · exact XL t
      · exact XM t
    refine ⟨Question.cut (.nanBits k x y) (w.tape w.drawn (.nanBits k x y)), w.drawn + 1, ?_, by simp [cz, hn]⟩
    unfold floatBits at hb
    rcases h with rfl | rfl | rfl | rfl <;> simp only at hb <;> simp [Op.floatArith, hb, Question.forced]
theorem wO (k:FloatKind) (b:Nat):(k.decode b).isNaN=true∧(k.decode (cz k b)).isNaN=true∨(k.decode (cz k b))=k.decode b:=by
 unfold cz
 split
 ·rename_i h
  exact .inl ⟨h,by cases k<;>rfl⟩
 ·exact .inr rfl
theorem jb {x y:Ieee.Datum} (h:x.isNaN=true):x.sum y=none:=by
 cases x<;>simp [Ieee.Datum.isNaN] at h
 cases y<;>rfl
theorem qH {x y:Ieee.Datum} (h:y.isNaN=true):x.sum y=none:=by
 cases y<;>simp [Ieee.Datum.isNaN] at h
 cases x<;>rfl
theorem Zz {x y:Ieee.Datum} (h:x.isNaN=true):x.product y=none:=by
 cases x<;>simp [Ieee.Datum.isNaN] at h
 cases y<;>rfl
theorem kR {x y:Ieee.Datum} (h:y.isNaN=true):x.product y=none:=by
 cases y<;>simp [Ieee.Datum.isNaN] at h
 cases x<;>rfl
theorem kS {n:Nat} {x y:Ieee.Datum} (h:x.isNaN=true):x.quotient n y=none:=by
 cases x<;>simp [Ieee.Datum.isNaN] at h
 cases y<;>rfl
theorem ky {n:Nat} {x y:Ieee.Datum} (h:y.isNaN=true):x.quotient n y=none:=by
 cases y<;>simp [Ieee.Datum.isNaN] at h
 cases x<;>rfl
theorem jJ {x y:Ieee.Datum} (h:x.isNaN=true):x.order y=none:=by
 cases x<;>simp [Ieee.Datum.isNaN] at h
 cases y<;>rfl
theorem jc {x y:Ieee.Datum} (h:y.isNaN=true):x.order y=none:=by
 cases y<;>simp [Ieee.Datum.isNaN] at h
 cases x<;>rfl
theorem Xd {y:Ieee.Datum} (h:y.isNaN=true):y.opposite.isNaN=true:=by
 cases y<;>simp [Ieee.Datum.isNaN] at h
 rfl
theorem Qr (k:FloatKind) (a b:Nat):k.format.order (cz k a) (cz k b)=k.format.order a b:=by
 show (k.decode _).order (k.decode _)=(k.decode a).order (k.decode b);rcases wO k a with⟨h1,h2⟩|h1
 ·rw [jJ h1,jJ h2]
 ·rw [h1];rcases wO k b with⟨h3,h4⟩|h3
  ·rw [jc h3,jc h4]
  ·rw [h3]
theorem Qs (op : BinOp) (k : FloatKind) (a b : Nat) : floatBits op k (cz k a) (cz k b) = floatBits op k a b := by
  cases op <;> first
    | rfl
    | (show Option.map _ (Ieee.Datum.sum (k.decode _) (k.decode _)) = Option.map _ (Ieee.Datum.sum (k.decode a) (k.decode b))
       congr 1
       rcases wO k a with ⟨h1, h2⟩ | h1
       · rw [jb h1, jb h2]
       · rw [h1]
         rcases wO k b with ⟨h3, h4⟩ | h3
         · rw [qH h3, qH h4]
         · rw [h3])
    | (show Option.map _ (Ieee.Datum.sum (k.decode _) (k.decode _).opposite) = Option.map _ (Ieee.Datum.sum (k.decode a) (k.decode b).opposite)
       congr 1
       rcases wO k a with ⟨h1, h2⟩ | h1
       · rw [jb h1, jb h2]
       · rw [h1]
         rcases wO k b with ⟨h3, h4⟩ | h3
         · rw [qH (Xd h3), qH (Xd h4)]
         · rw [h3])
    | (show Option.map _ (Ieee.Datum.product (k.decode _) (k.decode _)) = Option.map _ (Ieee.Datum.product (k.decode a) (k.decode b))
       congr 1
       rcases wO k a with ⟨h1, h2⟩ | h1
       · rw [Zz h1, Zz h2]
       · rw [h1]
         rcases wO k b with ⟨h3, h4⟩ | h3
         · rw [kR h3, kR h4]
         · rw [h3])
    | (show Option.map _ (Ieee.Datum.quotient _ (k.decode _) (k.decode _)) = Option.map _ (Ieee.Datum.quotient _ (k.decode a) (k.decode b))
       congr 1
       rcases wO k a with ⟨h1, h2⟩ | h1
       · rw [kS h1, kS h2]
       · rw [h1]
         rcases wO k b with ⟨h3, h4⟩ | h3
         · rw [ky h3, ky h4]
         · rw [h3])
theorem fcmp_cz (op:BinOp) (k:FloatKind) (a b:Nat):fcmp op k (cz k a) (cz k b)=fcmp op k a b:=by
 unfold fcmp;rw [Qr]
theorem fop_cz (op:BinOp) (k:FloatKind) (a b:Nat):fop op k (cz k a) (cz k b)=fop op k a b:=by
 unfold fop;rw [Qs]
theorem run_bin (op : BinOp) (t : TypeId) {x y z : AV} {a b : Value} (hx : VR β x a) (hy : VR β y b) (h : abin P op t x y = some z) :
    ∃ u n, (binOp op t a b).run P w = .ok u { w with drawn := n } ∧ VR β z u := by
  cases x <;> cases y <;> simp only [abin] at h <;> first | (cases h; done) | skip
  case int.int k i k' j =>
    have ha : a = .int k i := hx
    have hb : b = .int k' j := hy
    subst ha hb
    have same : ∀ r, (binOp op t (.int k i) (.int k' j)).run P w = .ok r w → VR β z r →
        ∃ u n, (binOp op t (.int k i) (.int k' j)).run P w = .ok u { w with drawn := n } ∧ VR β z u := fun r h1 h2 => ⟨r, w.drawn, h1, h2⟩
    cases op <;> simp only [WQ, iop] at h <;> first
      | (cases h; done)
      | (split at h
         · cases h
         · rename_i hj
           cases h
           exact same _ (by simp [binOp, Op.shift, hj]) rfl)
      | (split at h
         · rename_i hk
           subst hk
           first
             | (cases h; exact same _ (by simp [binOp, Op.intArith, Op.intBits, Op.intCmp, vL]) rfl)
             | (split at h
                · cases h
                · rename_i hz
                  cases h
                  exact same _ (by simp [binOp, Op.intDiv, hz]) rfl)
         · cases h)
  case flt.flt k i k' j =>
    obtain ⟨a', rfl, ha⟩ := hx
    obtain ⟨b', rfl, hb⟩ := hy
    split at h
    · rename_i hk
      subst hk
      subst ha hb
      have arith : ∀ op', (op' = .add ∨ op' = .sub ∨ op' = .mul ∨ op' = .quo) → op = op' → some (AV.flt k (fop op' k (cz k a') (cz k b'))) = some z →
          ∃ u n, (binOp op t (.float k a') (.float k b')).run P w = .ok u { w with drawn := n } ∧ VR β z u := by
        intro op' hop e hz
        subst e
        cases hz
        obtain ⟨r, n, h1, h2⟩ := run_floatArith (P := P) (w := w) op k a' b' hop
        refine ⟨.float k r, n, ?_, ⟨r, rfl, ?_⟩⟩
        · rcases hop with rfl | rfl | rfl | rfl <;> simp [binOp, h1]
        · rw [fop_cz]; exact h2
      have cmp : ∀ op', op = op' → some (AV.bool (fcmp op' k (cz k a') (cz k b'))) = some z → (op' = .eql ∨ op' = .neq ∨ op' = .lss ∨ op' = .leq ∨ op' = .gtr ∨ op' = .geq) →
          ∃ u n, (binOp op t (.float k a') (.float k b')).run P w = .ok u { w with drawn := n } ∧ VR β z u := by
        intro op' e hz hop
        subst e
        cases hz
        rw [fcmp_cz]
        refine ⟨.bool (fcmp op k a' b'), w.drawn, ?_, rfl⟩
        rcases hop with rfl | rfl | rfl | rfl | rfl | rfl <;> simp [binOp, Op.floatCmp, fcmp]
      cases op <;> simp only at h <;> first
        | (cases h; done)
        | exact arith _ (by simp) rfl h
        | exact cmp _ rfl h (by simp)
    · cases h
  case str.str i j =>
    have ha : a = .string i := hx
    have hb : b = .string j := hy
    subst ha hb
    have same : ∀ r, (binOp op t (.string i) (.string j)).run P w = .ok r w → VR β z r →
        ∃ u n, (binOp op t (.string i) (.string j)).run P w = .ok u { w with drawn := n } ∧ VR β z u := fun r h1 h2 => ⟨r, w.drawn, h1, h2⟩
    cases op <;> simp only [sop] at h <;> first
      | (cases h; done)
      | (cases h; exact same _ (by simp [binOp, Op.stringOp]) rfl)
      | (split at h
         · rename_i hz
           cases h
           refine same _ ?_ rfl
           have hm : IntKind.i64.max = 9223372036854775807 := rfl
           simp [binOp, Op.stringOp, hm]
           omega
         · cases h)
  case bool.bool i j =>
    have ha : a = .bool i := hx
    have hb : b = .bool j := hy
    subst ha hb
    split at h
    · rename_i ht
      have hu := zbe ht
      have same : ∀ r, (binOp op t (.bool i) (.bool j)).run P w = .ok r w → VR β z r →
          ∃ u n, (binOp op t (.bool i) (.bool j)).run P w = .ok u { w with drawn := n } ∧ VR β z u := fun r h1 h2 => ⟨r, w.drawn, h1, h2⟩
      have he : (Op.equal t (.bool i) (.bool j)).run P w = .ok (i == j) w := by
        have key : ∀ d, (Op.equalIn (d + 1) t (.bool i) (.bool j)).run P w = .ok (i == j) w := fun d => by simp [Op.equalIn, run_underlying hu]
        exact key 9999
      cases op <;> simp only at h <;> first
        | (cases h; done)
        | (cases h; exact same _ (by simp [binOp, he]) rfl)
    · cases h
theorem JH (op:BinOp) (t:TypeId) (xo yo:Operand) {x y z:AV} {a b:Value} (hx:VR β x a) (hy:VR β y b) (h:abin P op t x y=some z) :
  (eqGuard op t xo yo a b).run P w=.ok () w:=by
 cases x<;>cases y<;>simp only [abin] at h<;>first|(cases h;done)|skip
 ·have ha:a=_:=hx;have hb:b=_:=hy;subst ha hb;cases op<;>rfl
 ·have ha:a=_:=hx;have hb:b=_:=hy;subst ha hb;cases op<;>rfl
 ·obtain⟨_,rfl,_⟩:=hx;obtain⟨_,rfl,_⟩:=hy;cases op<;>rfl
 ·have ha:a=_:=hx;have hb:b=_:=hy;subst ha hb;cases op<;>rfl
theorem K6 {t:TypeId} {ms:Array (String × TypeId)} (hu:P.underlying t=some (.interface ms)) {a:Value} {p:Bool} (ha:(p=true∧a=.nilIface)∨(p=false∧∃ t p,a=.iface t p)):(Op.equal t a .nilIface).run P w=.ok p w:=by
 unfold Op.equal;rw [show Op.maxDepth=9999+1 from rfl,Op.equalIn];rcases ha with⟨rfl,rfl⟩|⟨rfl,tt,pp,rfl⟩
 ·simp only [Sem.run_bind,run_underlying hu,Result.andThen_ok];rfl
 ·simp only [Sem.run_bind,run_underlying hu,Result.andThen_ok];rfl
theorem U8 (op:BinOp) (t:TypeId) (x:Operand) (c:Value) {a:Value} {p:Bool} (ha:(p=true∧a=.nilIface)∨(p=false∧∃ t p,a=.iface t p)):(eqGuard op t x (.const c) a .nilIface).run P w=.ok () w:=by
 rcases ha with⟨rfl,rfl⟩|⟨rfl,tt,pp,rfl⟩
 ·cases op<;>first|rfl|(unfold eqGuard;cases x<;>rfl)
 ·cases op<;>rfl
theorem d_binOp (op : BinOp) (t t2 : TypeId) (x y : Operand) (ho : o.op = .binOp op t x y t2) (hs : SR β H w) (hx : TVR β (ev x) (ρ x)) (hy : TVR β (ev y) (ρ y))
    (h : zM P ev (.binOp op t x y t2) H = some (v, H')) : Done β H w ((execOp ρ o).run P w) v H' := by
  simp only [zM] at h
  split at h
  · rename_i a b ea eb
    rw [ea] at hx
    rw [eb] at hy
    cases hz : abin P op t a b with
    | none =>
      rw [hz, Option.none_or] at h
      cases hf : aifc P op t y a b with
      | none => rw [hf] at h; cases h
      | some z =>
        rw [hf] at h
        cases h
        unfold aifc at hf
        split at hf <;> first | (cases hf; done) | skip
        rename_i c p
        split at hf <;> first | (cases hf; done) | skip
        rename_i ht
        have hu : ∃ ms, P.underlying t = some (.interface ms) := by
          unfold tif at ht
          split at ht
          · exact ⟨_, by assumption⟩
          · cases ht
        obtain ⟨ms, hu⟩ := hu
        have hy' : ρ (.const c) = .nilIface := hy
        have hx := IfR.cases hx
        have he := K6 (P := P) (w := w) hu hx
        have hg := U8 (P := P) (w := w) op t x c hx
        rw [← hy'] at hg he
        cases op <;> first | (cases hf; done) | skip
        · cases hf
          refine Done.same hs (u := .bool p.isNil) ?_ rfl
          rcases hx with ⟨_, hx'⟩ | ⟨_, tt, pp, hx'⟩ <;> (rw [hx', hy'] at he hg; simp [execOp, ho, hx', hy', hg, binOp, he])
        · cases hf
          refine Done.same hs (u := .bool (!p.isNil)) ?_ rfl
          rcases hx with ⟨_, hx'⟩ | ⟨_, tt, pp, hx'⟩ <;> (rw [hx', hy'] at he hg; simp [execOp, ho, hx', hy', hg, binOp, he])
    | some z =>
      rw [hz, Option.some_or] at h
      cases h
      obtain ⟨u, n, h1, h2⟩ := run_bin (P := P) (w := w) op t hx hy hz
      refine Done.drew n hs (u := u) ?_ h2
      simp [execOp, ho, JH (P := P) (w := w) op t x y hx hy hz, h1]
  · cases h
theorem jd (k:FloatKind) (b:Nat):(k.decode (Op.negFloat k b)).isNaN=(k.decode b).isNaN:=by
 have key:∀ (f:Ieee.Format) (m:Nat),f.exponentBits+f.fractionBits=m→(f.read (b ^^^ 2 ^ m)).isNaN=(f.read b).isNaN:=by
  intro f m hm;unfold Ieee.Format.read Ieee.Format.signWeight;rw [hm];have h2:(b ^^^ 2 ^ m) % 2 ^ m=b % 2 ^ m:=by
   rw [Nat.xor_mod_two_pow]
   simp
  rw [h2]
  dsimp only
  split
  ·rfl
  ·split
   ·rfl
   ·split<;>rfl
 cases k
 ·exact key Ieee.single 31 rfl
 ·exact key Ieee.double 63 rfl
theorem d_unOp (op : UnOp) (t : TypeId) (x : Operand) (ho : o.op = .unOp op t x) (hs : SR β H w) (hx : TVR β (ev x) (ρ x)) (h : zM P ev (.unOp op t x) H = some (v, H')) :
    Done β H w ((execOp ρ o).run P w) v H' := by
  simp only [zM] at h
  split at h
  · rename_i a ea
    rw [ea] at hx
    cases hz : aun op a with
    | none => rw [hz] at h; cases h
    | some z =>
      rw [hz] at h
      cases h
      unfold aun at hz
      split at hz <;> first | (cases hz; done) | skip
      · rename_i k n
        have hx' : ρ x = .int k n := hx
        cases hz
        exact Done.same hs (u := .int k (k.wrap (0 - n))) (by simp [execOp, ho, hx', Op.unary, Op.intArith]) rfl
      · rename_i k n
        have hx' : ρ x = .int k n := hx
        cases hz
        exact Done.same hs (u := .int k _) (by simp [execOp, ho, hx', Op.unary, Op.intBits, vL]) rfl
      · rename_i k b
        obtain ⟨b', hx', hb⟩ := hx
        cases hz
        refine Done.same hs (u := .float k (Op.negFloat k b')) (by simp [execOp, ho, hx', Op.unary]) ⟨_, rfl, ?_⟩
        subst hb
        rcases wO k b' with ⟨h1, h2⟩ | h1
        · unfold cz
          rw [jd, jd, h1, if_pos rfl, if_pos (by simpa [cz, h1] using h2)]
        · have : cz k b' = b' ∨ (k.decode b').isNaN = true := by
            unfold cz
            split
            · rename_i h; exact .inr h
            · exact .inl rfl
          rcases this with h3 | h3
          · rw [h3]
          · unfold cz
            rw [jd, jd, h3, if_pos rfl, if_pos]
            have : (k.decode (qnan k)).isNaN = true := by cases k <;> rfl
            simpa [h3] using this
      · rename_i b
        have hx' : ρ x = .bool b := hx
        cases hz
        exact Done.same hs (u := .bool (!b)) (by simp [execOp, ho, hx', Op.unary]) rfl
  · cases h
theorem UA {d:Ieee.Datum} {way:Ieee.Toward} (h:d.isNaN=true):d.toInt way=none:=by
 cases d<;>simp [Ieee.Datum.isNaN] at h
 rfl
theorem Ws (s:FloatKind) (b:Nat) (k:IntKind):floatToIntVal s (cz s b) k=floatToIntVal s b k:=by
 unfold floatToIntVal;rcases wO s b with⟨h1,h2⟩|h1
 ·rw [UA h1,UA h2]
 ·rw [h1]
theorem Qt (src dst:TypeId) (q k:IntKind) (n:Int) (hs:(P.underlying src).isSome=true) (hd:P.underlying dst=some (.int k)) :
  (convert src dst (.int q n)).run P w=.ok (.int k (k.wrap n)) w:=by
 obtain⟨u,hs'⟩:=Option.isSome_iff_exists.1 hs
 cases u<;>simp [convert,run_underlying hs',run_underlying hd,Conv.intToInt]
theorem VP (src dst : TypeId) (s k : FloatKind) (b r : Nat) (hs : (P.underlying src).isSome = true) (hd : P.underlying dst = some (.float k)) (h : qG s (cz s b) k = some r) :
    ∃ r' n, (convert src dst (.float s b)).run P w = .ok (.float k r') { w with drawn := n } ∧ cz k r' = r := by
  obtain ⟨u, hs'⟩ := Option.isSome_iff_exists.1 hs
  have hc : ∀ x, (Conv.floatToFloat s b k).run P w = x → (convert src dst (.float s b)).run P w = x := fun x hx => by
    cases u <;> simp [convert, run_underlying hs', run_underlying hd, hx]
  unfold qG at h
  split at h
  · rename_i e
    subst e
    cases h
    exact ⟨b, w.drawn, hc _ (by simp [Conv.floatToFloat]), rfl⟩
  · rename_i ne
    rcases wO s b with ⟨h1, h2⟩ | h1
    · cases hd1 : s.decode (cz s b) with
      | nan g t =>
        rw [hd1] at h
        cases h
        have hn : ∀ t, (k.decode (Question.cut (.nanConv k b) t)).isNaN = true := by
          intro t
          cases k
          · exact XL t
          · exact XM t
        refine ⟨Question.cut (.nanConv k b) (w.tape w.drawn (.nanConv k b)), w.drawn + 1, hc _ ?_, by simp [cz, hn]⟩
        cases hd2 : s.decode b with
        | nan g t => simp [Conv.floatToFloat, ne, hd2, Question.forced]
        | infinity g => rw [hd2] at h1; simp [Ieee.Datum.isNaN] at h1
        | number a b c => rw [hd2] at h1; simp [Ieee.Datum.isNaN] at h1
      | infinity g => rw [hd1] at h2; simp [Ieee.Datum.isNaN] at h2
      | number a b c => rw [hd1] at h2; simp [Ieee.Datum.isNaN] at h2
    · rw [h1] at h
      cases hd2 : s.decode b with
      | nan g t =>
        rw [hd2] at h
        cases h
        have hn : ∀ t, (k.decode (Question.cut (.nanConv k b) t)).isNaN = true := by
          intro t
          cases k
          · exact XL t
          · exact XM t
        exact ⟨Question.cut (.nanConv k b) (w.tape w.drawn (.nanConv k b)), w.drawn + 1, hc _ (by simp [Conv.floatToFloat, ne, hd2, Question.forced]), by simp [cz, hn]⟩
      | infinity g =>
        rw [hd2] at h
        cases h
        exact ⟨k.encode (.infinity g), w.drawn, hc _ (by simp [Conv.floatToFloat, ne, hd2]), rfl⟩
      | number g m e =>
        rw [hd2] at h
        simp only at h
        split at h
        · cases h
        · rename_i hi
          cases h
          exact ⟨k.encode (.number g m e), w.drawn, hc _ (by simp [Conv.floatToFloat, ne, hd2, hi]), rfl⟩
theorem Z9 {β : Emb} : ∀ {cs : List AV} {us : List Value} {l : List UInt8}, All2 (VS β) cs us → uq cs = some l →
    ∃ ns : List Int, us = ns.map (Value.int .u8) ∧ l = ns.map fun n => UInt8.ofNat n.toNat
  | [], [], l, _, h => by simp [uq] at h; subst h; exact ⟨[], rfl, rfl⟩
  | c :: cs, u :: us, l, h, hl => by
    unfold uq at hl
    split at hl
    · rename_i e; cases e
    · rename_i n r e
      cases e
      cases hr : uq cs with
      | none => rw [hr] at hl; cases hl
      | some t =>
        rw [hr] at hl
        cases hl
        obtain ⟨ns, h1, h2⟩ := Z9 h.2 hr
        have : u = .int .u8 n := h.1.1
        exact ⟨n :: ns, by simp [this, h1], by simp [h2]⟩
    · cases hl
  | [], _ :: _, _, h, _ => h.elim
  | _ :: _, [], _, h, _ => h.elim
theorem K7 (ns : List Int) (acc : ByteArray) :
    (ns.foldl (fun (r : ByteArray) n => r.push (UInt8.ofNat n.toNat)) acc) = ⟨acc.data ++ (ns.map fun n => UInt8.ofNat n.toNat).toArray⟩ := by
  induction ns generalizing acc with
  | nil => simp
  | cons n ns ih =>
    rw [List.foldl_cons, ih]
    simp [ByteArray.push]
theorem JI {α:Type} (a:Array α) (x:α) (f:α→α):(a.push x).modify a.size f=a.push (f x):=by
 apply Array.ext (by simp);intro i h1 h2;rw [Array.getElem_modify]
 by_cases hi:a.size=i
 ·subst hi;simp
 ·simp only [hi,if_false]
  simp at h1
  rw [Array.getElem_push_lt (by omega),Array.getElem_push_lt (by omega)]
theorem zbg (src dst : TypeId) (x : Operand) (ho : o.op = .convert src dst x) (hs : SR β H w) (hx : TVR β (ev x) (ρ x)) (h : zM P ev (.convert src dst x) H = some (v, H')) :
    Done β H w ((execOp ρ o).run P w) v H' := by
  simp only [zM] at h
  split at h
  · rename_i s es
    rw [es] at hx
    have hx' : ρ x = .string s := hx
    split at h
    · cases h
    · rename_i hsr
      have hsr' : (P.underlying src).isSome = true := by
        cases hh : (P.underlying src).isSome with
        | true => rfl
        | false => exact absurd hh hsr
      obtain ⟨u, hu⟩ := Option.isSome_iff_exists.1 hsr'
      split at h
      · rename_i hd
        cases h
        refine Done.same hs (u := .string s) ?_ rfl
        cases u <;> simp [execOp, ho, hx', convert, run_underlying hu, run_underlying (qM hd)]
      · split at h
        · rename_i e he
          split at h
          · rename_i hk
            cases h
            have hd := xV he
            have hk' := uu hk
            let cap := Question.cut (.appendCap s.size 0 e) (w.tape w.drawn (.appendCap s.size 0 e))
            have ha : All2 (VS β) (s.data.toList.map fun b => AV.int .u8 b.toNat) (s.data.toList.map fun b => Value.int .u8 b.toNat) :=
              All2.map (fun b => ⟨rfl, rfl⟩) _
            have hsz : (s.data.toList.map fun b => Value.int .u8 b.toNat).length = s.size := by
              rw [List.length_map]; rfl
            have hcap : s.size ≤ cap := by
              show s.size ≤ s.size + _
              omega
            refine ⟨_, .slice (some ⟨w.heap.size, 0, none⟩) s.size cap, _, .inl ?_, Le.ext (hs.dom _ (Nat.le_refl _)),
              (hs.draw (w.drawn + 1)).alloc (t := e) (rest := List.replicate (cap - s.size) (Value.int .u8 0)) (fz := ((s.data.toList.map fun b => Value.int .u8 b.toNat).length + (List.replicate (cap - s.size) (Value.int .u8 0)).length, (s.data.toList.map fun b => Value.int .u8 b.toNat).length + (List.replicate (cap - s.size) (Value.int .u8 0)).length + 1)) ha (.inr (Nat.le_refl _)),
              ?_, ?_⟩
            · have hrun : (Conv.stringToBytes e s).run P w = .ok (.slice (some ⟨w.heap.size, 0, none⟩) s.size cap)
                  { ({ w with drawn := w.drawn + 1 } : World) with heap := w.heap.push (.cells ((s.data.toList.map fun b => Value.int .u8 b.toNat) ++ List.replicate (cap - s.size) (Value.int .u8 0)).toArray e
                    ((s.data.toList.map fun b => Value.int .u8 b.toNat).length + (List.replicate (cap - s.size) (Value.int .u8 0)).length, (s.data.toList.map fun b => Value.int .u8 b.toNat).length + (List.replicate (cap - s.size) (Value.int .u8 0)).length + 1)) } := by
                have harr : (s.data.map fun b => Value.int .u8 b.toNat) ++ Array.replicate (cap - s.size) (Value.int .u8 0) =
                    ((s.data.toList.map fun b => Value.int .u8 b.toNat) ++ List.replicate (cap - s.size) (Value.int .u8 0)).toArray := Array.ext' (by simp)
                simp only [Conv.stringToBytes, Sem.run_bind, run_choose, Question.forced, Bool.false_eq_true, if_false, Result.andThen_ok, newRow, Sem.run_map, run_newObj, Sem.run_pure, markStringish, run_shape]
                rw [show (Question.cut (.appendCap s.size 0 e) (w.tape w.drawn (.appendCap s.size 0 e))) = cap from rfl, harr]
                have hsh : ({ ({ w with drawn := w.drawn + 1 } : World) with heap := w.heap.push (.cells ((s.data.toList.map fun b => Value.int .u8 b.toNat) ++ List.replicate (cap - s.size) (Value.int .u8 0)).toArray e) } : World).shape? w.heap.size =
                    some (e, (s.data.toList.map fun b => Value.int .u8 b.toNat).length + (List.replicate (cap - s.size) (Value.int .u8 0)).length) := by
                  simp [World.shape?]
                dsimp only at hsh
                rw [hsh]
                simp [World.freeze, JI]
              cases u <;> simp [execOp, ho, hx', convert, run_underlying hu, run_underlying hd, run_underlying hk', hrun]
            · exact ⟨_, _, cap, if_pos rfl, rfl, hcap, .inl ⟨rfl, by simp; omega⟩⟩
            · exact (Fr.draw (w.drawn + 1)).trans (Fr.alloc (hs.draw (w.drawn + 1)) _ _)
          · cases h
        · cases h
  · rename_i id off len esz es
    rw [es] at hx
    obtain ⟨l, a, cap, hl, hx', hlc, hor⟩ := hx
    split at h
    · rename_i e he
      split at h
      · rename_i hk
        obtain ⟨hk1, hk2, rfl⟩ := hk
        cases hr : vB H id off len with
        | none => rw [hr] at h; cases h
        | some cs =>
          rw [hr] at h
          simp only [Option.bind_some] at h
          cases hst : uq cs with
          | none => rw [hst] at h; cases h
          | some bl =>
            rw [hst] at h
            cases h
            obtain ⟨us, h1, h2, h3⟩ := Yv hs hl hr
            obtain ⟨ns, h4, h5⟩ := Z9 h2 hst
            refine Done.same hs (u := .string ⟨bl.toArray⟩) ?_ rfl
            have hconv : (convert src dst (.slice a len cap)).run P w = (Conv.bytesToString (.slice a len cap)).run P w := by
              simp [convert, run_underlying (xV he), run_underlying (qM hk2), run_underlying (uu hk1)]
            have hbs : (Conv.bytesToString (.slice a len cap)).run P w = .ok (.string ⟨bl.toArray⟩) w := by
              rcases hor with ⟨rfl, _⟩ | ⟨rfl, rfl⟩
              · have hload : (loadCells ⟨l.blk, l.base + off, none⟩ len).run P w = .ok (ns.map (Value.int .u8)).toArray w := by
                  have := run_loadCells (P := P) l.blk (l.base + off) us h3
                  rw [h1, h4] at this; exact this
                rw [run_bytesToString w _ len cap ns hload, K7, h5]
                simp
              · have hcs : us = [] := List.length_eq_zero_iff.1 h1
                have hns : ns = [] := by rw [hcs] at h4; simpa using h4.symm
                subst hns
                subst h5
                cases a with
                | none => simp [Conv.bytesToString]; rfl
                | some ad => rw [run_bytesToString w ad 0 0 [] (by simp [loadCells, loadCellsFrom])]; rfl
            simp [execOp, ho, hx', hconv, hbs]
      · split at h
        · rename_i hk
          obtain ⟨rfl, hk1, hlen, hown⟩ := hk
          cases h
          rcases hor with ⟨rfl, _⟩ | ⟨h0, _⟩
          case inr => omega
          obtain ⟨cs, hcs⟩ : ∃ cs, H.f id = .own cs := by
            cases hb : H.f id with
            | own cs => exact ⟨cs, rfl⟩
            | ro cs => rw [hb] at hown; cases hown
            | gone => rw [hb] at hown; cases hown
            | tab b o => rw [hb] at hown; cases hown
            | hole => rw [hb] at hown; cases hown
            | mp _ _ _ => rw [hb] at hown; cases hown
          have hrow := hs.row id l hl
          rw [hcs] at hrow
          obtain ⟨ccs, t, fz, g1, g2, g3, g4, g5⟩ := hrow
          have hblt : l.blk < w.heap.size := by
            rcases Nat.lt_or_ge l.blk w.heap.size with h' | h'
            · exact h'
            · simp [Array.getElem?_eq_none h'] at g1
          let w' : World := w.freeze { block := l.blk, off := ccs.size } 1
          have hw' : ∀ b, b ≠ l.blk → w'.heap[b]? = w.heap[b]? := fun b hb => by
            simp [w', World.freeze, Array.getElem?_modify, Ne.symm hb]
          have hwb : ∃ fz', w'.heap[l.blk]? = some (.cells ccs t fz') ∧ NF fz' ccs.size := by
            refine ⟨if fz.1 == fz.2 then (ccs.size, ccs.size + 1) else (min fz.1 ccs.size, max fz.2 (ccs.size + 1)), ?_, ?_⟩
            · simp [w', World.freeze, Array.getElem?_modify, g1]
            · by_cases hz : fz.1 = fz.2
              · simp only [hz, BEq.rfl, if_true]; exact .inr (Nat.le_refl _)
              · rcases g5 with g5 | g5
                · exact absurd g5 hz
                · have : (fz.1 == fz.2) = false := by simpa using hz
                  rw [this]
                  exact .inr (by simp; omega)
          have hsame : ∀ i m, β i = some m → (H.f i).isGone = false → i ≠ id → m.blk ≠ l.blk := fun i m ei hg hne e =>
            hs.apart id i l m (Ne.symm hne) hl ei (by rw [hcs]; rfl) hg e.symm
          have hs' : SR β H w' := by
            refine ⟨hs.dom, hs.tot, fun i m ei => ?_, hs.apart⟩
            by_cases hi : i = id
            · subst hi
              obtain rfl : m = l := by rw [hl] at ei; exact (Option.some.inj ei).symm
              rw [hcs]
              obtain ⟨fz', k1, k2⟩ := hwb
              exact ⟨ccs, t, fz', k1, g2, g3, g4, k2⟩
            · cases hg : (H.f i).isGone with
              | true => cases hb : H.f i <;> rw [hb] at hg <;> first | trivial | cases hg
              | false => exact RowR.other (fun _ => hw' _ (hsame i m ei hg hi)) (hs.row i m ei)
          have hsz : w'.heap.size = w.heap.size := by simp [w', World.freeze]
          have hfr : Fr β H w β H w' := ⟨rfl, rfl, rfl, by rw [hsz]; exact Nat.le_refl _, fun b hb hn => hw' b fun e => hn ⟨id, l, hl, by rw [hcs]; rfl, e.symm⟩, fun _ _ h => h, fun _ _ h => h, fun h => h⟩
          have hshp : w.shape? l.blk = some (t, ccs.size) := by simp [World.shape?, g1]
          refine ⟨β, .slice (some ⟨l.blk, l.base + off, none⟩) len cap, w', .inl ?_, Le.refl β, hs', ⟨l, _, cap, hl, rfl, hlc, .inl ⟨rfl, by assumption⟩⟩, hfr⟩
          simp [execOp, ho, hx', convert, run_underlying (xV he), run_underlying (uu hk1), markStringish, hshp, w']
        · cases h
    · cases h
  · rename_i a hq1 hq2 ea
    clear hq1 hq2
    rw [ea] at hx
    split at h
    · rename_i hsr
      cases hz : kZ P dst a with
      | none => rw [hz] at h; cases h
      | some z =>
        rw [hz] at h
        cases h
        cases a <;> simp only [kZ] at hz <;> first | (cases hz; done) | skip
        case int q n =>
          have hx' : ρ x = .int q n := hx
          split at hz
          · rename_i k hk
            cases hz
            exact Done.same hs (u := .int k (k.wrap n)) (by simp [execOp, ho, hx', Qt src dst q k n hsr (uu hk)]) rfl
          · split at hz
            · rename_i k hk
              cases hz
              exact Done.same hs (u := .float k (floatOfInt k n)) (by simp [execOp, ho, hx', run_convert_int_float w src dst q k n hsr (Yx hk)]) ⟨_, rfl, rfl⟩
            · cases hz
        case flt s b =>
          obtain ⟨b', hx', hb⟩ := hx
          split at hz
          · rename_i k hk
            subst hb
            rw [Ws] at hz
            cases hf : floatToIntVal s b' k with
            | none => rw [hf] at hz; cases hz
            | some n =>
              rw [hf] at hz
              cases hz
              exact Done.same hs (u := .int k n) (by simp [execOp, ho, hx', run_convert_float_int w src dst s k b' n hsr (uu hk) hf]) rfl
          · split at hz
            · rename_i k hk
              cases hf : qG s b k with
              | none => rw [hf] at hz; cases hz
              | some r =>
                rw [hf] at hz
                cases hz
                subst hb
                obtain ⟨r', n, h1, h2⟩ := VP (P := P) (w := w) src dst s k b' r hsr (Yx hk) hf
                exact Done.drew n hs (u := .float k r') (by simp [execOp, ho, hx', h1]) ⟨_, rfl, h2⟩
            · cases hz
    · cases h
  · cases h
theorem kz {t : TypeId} {kk ek : IntKind} (h : XK P t = some (kk, ek)) : ∃ k e, P.underlying t = some (.map k e) ∧ P.underlying k = some (.int kk) ∧ P.underlying e = some (.int ek) ∧ ∀ w : World, (zeroValue e).run P w = .ok (.int ek 0) w := by
  unfold XK at h
  split at h
  · rename_i k e hu
    have ti : ∀ x q, tint P x = some q → P.underlying x = some (.int q) := fun x q h => by
      unfold tint at h
      split at h
      · rename_i k' e'; cases h; exact e'
      · cases h
    cases h1 : tint P k with
    | none => rw [h1] at h; cases h
    | some a =>
      rw [h1, Option.bind_some] at h
      cases h2 : tint P e with
      | none => rw [h2] at h; cases h
      | some b =>
        rw [h2, Option.bind_some] at h
        split at h
        · rename_i q z hz
          split at h
          · rename_i hq
            obtain ⟨rfl, rfl⟩ := hq
            cases h
            refine ⟨k, e, hu, ti k _ h1, ti e _ h2, fun w => ?_⟩
            cases hi : P.info? e with
            | none => rw [hi] at hz; cases hz
            | some i =>
              rw [hi, Option.bind_some] at hz
              simp [zeroValue, typeInfo, hi, hz]
          · cases h
        · cases h
  · cases h
theorem zbh (t : TypeId) (ho : o.op = .makeMap t none) (hs : SR β H w) (h : zM P ev (.makeMap t none) H = some (v, H')) : Done β H w ((execOp ρ o).run P w) v H' := by
  simp only [zM] at h
  cases ht : XK P t with
  | none => rw [ht] at h; cases h
  | some ke =>
    obtain ⟨kk, ek⟩ := ke
    rw [ht] at h
    cases h
    obtain ⟨k, e, h1, h2, h3, _⟩ := kz ht
    have hown := World.ownsMap_made (H := Unit) w P k (plainElem P e)
    obtain ⟨es, clock, hb, F, hsz, hD⟩ := hown
    have hnew : (w.alloc (.map #[] 0)).heap[w.heap.size]? = some (.map #[] 0) := heap_alloc_new w _
    rw [hnew] at hb
    cases hb
    refine ⟨_, .map (some w.heap.size), _, .inl ?_, Le.ext (hs.dom _ (Nat.le_refl _)), hs.allocB (.map #[] 0) 0 (.mp kk ek []) (fun γ => ⟨#[], 0, by simp, P, k, e, h2, h3, F, Nat.zero_le _, fun a _ => ?_⟩), ?_, Fr.allocB hs _ _ _⟩
    · simp [execOp, ho, Instr.makeMap]
    · rfl
    · exact ⟨_, if_pos rfl, rfl⟩
theorem zdk (t:TypeId) (m x:Operand) (ho:o.op=.lookup t m x false) (hs:SR β H w) (hm:TVR β (ev m) (ρ m)) (hx:TVR β (ev x) (ρ x)) (h:zM P ev (.lookup t m x false) H=some (v,H')):Done β H w ((execOp ρ o).run P w) v H':=by
 simp only [zM] at h
 split at h
 ·rename_i id k a kk ek em ex ht
  rw [em] at hm;rw [ex] at hx;obtain⟨l,hl,hm'⟩:=hm;have hx':ρ x=.int k a:=hx
  split at h
  ·rename_i kk' ek' ml hf
   split at h
   ·rename_i hc
    obtain⟨rfl,rfl,rfl,hw⟩:=hc
    cases h
    obtain⟨kt,et,g1,g2,g3,g4⟩:=kz ht;have hrow:=hs.row id l hl;rw [hf] at hrow;obtain⟨es,clock,hb,hM⟩:=hrow;obtain⟨F,hsz,hat⟩:=hM.to g2 g3;have hown:w.ownsMap (H:=Unit) P kt (plainElem P et) l.blk ml.length (.map ((es.toList.map (Go.WideElems.rg P kt (plainElem P et))).foldr DataW.insert [])):=⟨es,clock,hb,F,hsz,rfl⟩;obtain⟨c,hrun,hc,_⟩:=hown.lookup_int (Go.Maps.int_keyed g2) g1 g3 (g4 w) (Go.Maps.keyOf_int_mk g2 hw);rw [hat a hw] at hc
    cases hc
    refine Done.same hs (u:=.int ek' (Yp ml a)) ?_ rfl
    simp [execOp,ho,hm',hx',hrun]
   ·cases h
  ·cases h
 ·cases h
theorem JJ (t:TypeId) (m x y:Operand) (ho:o.op=.mapUpdate t m x y) (hs:SR β H w) (hm:TVR β (ev m) (ρ m)) (hx:TVR β (ev x) (ρ x)) (hy:TVR β (ev y) (ρ y)) (h:zM P ev (.mapUpdate t m x y) H=some (v,H')):Done β H w ((execOp ρ o).run P w) v H':=by
 simp only [zM] at h
 split at h
 ·rename_i id k a k2 b kk ek em ex ey ht
  rw [em] at hm;rw [ex] at hx;rw [ey] at hy;obtain⟨l,hl,hm'⟩:=hm;have hx':ρ x=.int k a:=hx;have hy':ρ y=.int k2 b:=hy
  split at h
  ·rename_i kk' ek' ml hf
   split at h
   ·rename_i hc
    obtain⟨rfl,rfl,rfl,rfl,hw,hw2,hlen⟩:=hc
    cases h
    obtain⟨kt,et,g1,g2,g3,g4⟩:=kz ht;have hrow:=hs.row id l hl;rw [hf] at hrow;obtain⟨es,clock,hb,hM⟩:=hrow;obtain⟨F,hsz,hat⟩:=hM.to g2 g3;have hown:w.ownsMap (H:=Unit) P kt (plainElem P et) l.blk ml.length (.map ((es.toList.map (Go.WideElems.rg P kt (plainElem P et))).foldr DataW.insert [])):=⟨es,clock,hb,F,hsz,rfl⟩;have K:=Go.Maps.int_keyed g2;obtain⟨w',hrun,hown',hgr⟩:=hown.update K g1 (by unfold maxLen;omega) (Go.Maps.keyOf_int_mk g2 hw) (plainElem_int (H:=Unit) g3 hw2);have hisM:=hown.isMap;obtain⟨es',clock',hb',F',hsz',hD'⟩:=hown';have hoth:∀ c,c<w.heap.size→c≠l.blk→w'.heap[c]?=w.heap[c]?:=fun c hc hne=>hgr.block c hc (fun e=>hne (Option.some.inj e));refine⟨β,undef,w',.inr ⟨?_,rfl⟩,Le.refl β,hs.putB hl (by rw [hf];rfl) ⟨es',clock',hb',P,kt,et,g2,g3,F',hsz',fun a' hw'=>?_⟩ rfl (fun e=>by cases e) hoth rfl,rfl,Fr.putB hl (by rw [hf];rfl) hgr.os hgr.tape hgr.output hgr.size hoth⟩
    ·simp [execOp,ho,hm',hx',hy',hrun]
    ·rw [←hD']
     by_cases haa:a'=a
     ·subst haa;rw [Go.Maps.atKey_put_same hisM (by exact⟨⟩),Yp,if_pos rfl]
     ·rw [Go.Maps.atKey_put_other (fun e=>haa (by cases e;rfl)),Yp,if_neg haa];exact hat a' hw'
   ·cases h
  ·cases h
 ·cases h
end
end Go.Ab
