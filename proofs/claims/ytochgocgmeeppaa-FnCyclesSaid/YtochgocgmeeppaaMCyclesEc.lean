/-
  The engine: abstract values, heaps of pieces, what the operations do; only what this claim leans on. Nothing here is trusted.
-/
import Derived.Test.YtochgocgmeeppaaMCyclesEb
set_option linter.unusedVariables false
set_option linter.unusedSimpArgs false
set_option linter.unusedSectionVars false
namespace Go.Ab
open Ieee
theorem Vj {m:Nat} (hm:m≠0) (a:Nat):(m*2 ^ a).log2=m.log2+a:=by
 have h1:2 ^ m.log2≤m:=Nat.log2_self_le hm;have h2:m<2 ^ (m.log2+1):=Nat.lt_log2_self;have hp:=Nat.two_pow_pos a;have hne:m*2 ^ a≠0:=Nat.mul_ne_zero hm (by omega);apply Nat.le_antisymm
 ·have:(m*2 ^ a).log2<m.log2+a+1:=(Nat.log2_lt hne).2 (by
   rw [show m.log2+a+1=m.log2+1+a by omega,Nat.pow_add];exact Nat.mul_lt_mul_of_pos_right h2 hp)
  omega
 ·have:¬(m*2 ^ a).log2<m.log2+a:=fun h=>by
   have:=(Nat.log2_lt hne).1 h;rw [Nat.pow_add] at this;have:=Nat.mul_le_mul_right (2 ^ a) h1;omega
  omega
theorem QM (neg:Bool) (n drop:Nat):Toward.even.cut neg n drop=n / (2 ^ min drop (n.log2+2)) +
  (decide (2 ^ min drop (n.log2+2)<2*(n % 2 ^ min drop (n.log2+2))) || (2 ^ min drop (n.log2+2) == 2*(n % 2 ^ min drop (n.log2+2))&&n / (2 ^ min drop (n.log2+2)) % 2 == 1)).toNat:=by
 simp only [Toward.cut,Nat.shiftLeft_eq,Nat.one_mul]
theorem UM (neg:Bool) {m:Nat} (hm:m≠0) (a d:Nat):Toward.even.cut neg (m*2 ^ a) (d+a)=Toward.even.cut neg m d:=by
 rw [QM,QM,Vj hm];have hmin:min (d+a) (m.log2+a+2)=min d (m.log2+2)+a:=by omega
 rw [hmin];generalize min d (m.log2+2)=g;have hp:=Nat.two_pow_pos a;have e1:2 ^ (g+a)=2 ^ g*2 ^ a:=Nat.pow_add ..;rw [e1,Nat.mul_div_mul_right _ _ hp,Nat.mul_mod_mul_right];have e2:2*(m % 2 ^ g*2 ^ a)=(2*(m % 2 ^ g))*2 ^ a:=by rw [Nat.mul_assoc]
 rw [e2];have e3:decide (2 ^ g*2 ^ a<2*(m % 2 ^ g)*2 ^ a)=decide (2 ^ g<2*(m % 2 ^ g)):=by
  congr 1
  exact propext (Nat.mul_lt_mul_right hp)
 have e4:(2 ^ g*2 ^ a == 2*(m % 2 ^ g)*2 ^ a)=(2 ^ g == 2*(m % 2 ^ g)):=by
  rw [Bool.eq_iff_iff,beq_iff_eq,beq_iff_eq];exact⟨fun h=>Nat.eq_of_mul_eq_mul_right hp h,fun h=>congrArg (·*2 ^ a) h⟩
 rw [e3,e4]
theorem zb1 (neg:Bool) {m:Nat} (hm:m≠0) {a c:Nat} (h:c≤a):Toward.even.cut neg (m*2 ^ a) c=m*2 ^ (a - c):=by
 have:=UM neg (m:=m*2 ^ (a - c)) (Nat.mul_ne_zero hm (by have:=Nat.two_pow_pos (a - c);omega)) c 0;rw [Nat.zero_add,Nat.mul_assoc,←Nat.pow_add,Nat.sub_add_cancel h,cut_zero] at this;exact this
theorem YY (f:Format) (neg:Bool) (m a:Nat) (p:Int):f.nearest neg (m*2 ^ a) p=f.nearest neg m (p+a):=by
 have hp:=Nat.two_pow_pos a;unfold Format.nearest
 by_cases hm:m=0
 ·subst hm;simp
 ·have hne:m*2 ^ a≠0:=Nat.mul_ne_zero hm (by omega);rw [if_neg hm,if_neg hne,Vj hm];have hl:max (p+((m.log2+a:Nat):Int) - f.fractionBits) f.leastPlace=max (p+a+(m.log2:Int) - f.fractionBits) f.leastPlace:=by
   rw [Int.natCast_add];congr 2;omega
  simp only [hl];generalize max (p+a+(m.log2:Int) - f.fractionBits) f.leastPlace=last;have hk:Toward.even.cut neg ((m*2 ^ a) <<< (p - last).toNat) (last - p).toNat=Toward.even.cut neg (m <<< (p+a - last).toNat) (last - (p+a)).toNat:=by
   simp only [Nat.shiftLeft_eq]
   by_cases h1:last≤p
   ·have e1:(last - p).toNat=0:=by omega
    have e2:(last - (p+a)).toNat=0:=by omega
    have e3:(p+a - last).toNat=a+(p - last).toNat:=by omega
    rw [e1,e2,cut_zero,cut_zero,e3,Nat.pow_add,Nat.mul_assoc]
   ·have e0:(p - last).toNat=0:=by omega
    rw [e0,Nat.pow_zero,Nat.mul_one]
    by_cases h2:p+a≤last
    ·have e1:(p+a - last).toNat=0:=by omega
     have e2:(last - p).toNat=(last - (p+a)).toNat+a:=by omega
     rw [e1,Nat.pow_zero,Nat.mul_one,e2,UM neg hm]
    ·have e1:(last - (p+a)).toNat=0:=by omega
     rw [e1,cut_zero,zb1 neg hm (by omega)]
     congr 2;omega
  rw [hk]
theorem zdv:single.read 1073741824=.number false 8388608 (-22):=by decide +kernel
theorem zb2:single.read 1056964608=.number false 8388608 (-24):=by decide +kernel
theorem div_two (x:Nat):single.div x 1073741824=single.mul 1056964608 x:=by
 unfold Format.div Format.mul;rw [zdv,zb2];rcases Wm x with⟨s,t,h⟩|⟨s,h⟩|⟨s,m,e,h,hm,_,_⟩
 ·rw [h];rfl
 ·rw [h];simp [Datum.quotient,Datum.product]
 ·rw [h];have hl:=UL hm;have h25:single.fractionBits+2=25:=rfl;have hn:(8388608:Nat).log2=23:=by decide +kernel
  simp only [Datum.quotient,Datum.product,h25,hn,Bool.xor_false,Bool.false_xor,Option.map_some];rw [if_neg (by decide)];simp only [Option.map_some,Format.write]
  congr 1
  have hmore:25+23 - m.log2=(25 - m.log2)+23:=by omega
  have hdiv:m <<< (25+23 - m.log2)=(m*2 ^ (25 - m.log2))*8388608:=by
   rw [Nat.shiftLeft_eq,hmore,Nat.pow_add,Nat.mul_assoc]
  rw [hdiv,Nat.mul_div_cancel _ (by decide),Nat.mul_mod_left];have e1:2*(m*2 ^ (25 - m.log2))+(0 != 0).toNat=m*2 ^ (25 - m.log2+1):=by
   simp only [bne_self_eq_false,Bool.toNat_false,Nat.add_zero,Nat.pow_succ];rw [←Nat.mul_assoc,Nat.mul_comm 2,Nat.mul_assoc,Nat.mul_comm 2,←Nat.mul_assoc]
  have e2:8388608*m=m*2 ^ 23:=by rw [Nat.mul_comm]
  rw [e1,e2,YY,YY]
  congr 1
  omega
theorem quo_two (x:Nat):fop .quo .f32 x 1073741824=fop .mul .f32 1056964608 x:=by
 unfold fop;have:floatBits .quo .f32 x 1073741824=floatBits .mul .f32 1056964608 x:=div_two x;rw [this]
end Go.Ab
namespace Go.Ab
open Go.Conc
def OkQ (P:Program) [Cls P] (f:FuncId) (args:List TV) (H:Heap) (Q:TV→Heap→Prop):Prop:=∃ r H2,Ok P f args H r H2∧Q r H2
theorem OkQ.mono {P:Program} [Cls P] {f:FuncId} {args:List TV} {H:Heap} {Q Q':TV→Heap→Prop} (h:OkQ P f args H Q) (k:∀ r H2,Q r H2→Q' r H2):OkQ P f args H Q':=by
 obtain⟨r,H2,h1,h2⟩:=h;exact⟨r,H2,h1,k _ _ h2⟩
section
variable {P:Program} [Cls P]
theorem zdw {ev:Operand→TV} {op:Op} {H:Heap} {K:TV→Heap→Prop} (h:wop P ev op H K):∃ v H',K v H'∧wop P ev op H (fun a b=>a=v∧b=H'):=by
 unfold wop at h
 split at h
 ·rename_i f args hc
  split at h
  ·rename_i g caps he
   obtain⟨r,H2,h1,h2⟩:=h;refine⟨r,H2,h2,?_⟩;unfold wop;rw [hc];simp only [he];exact⟨r,H2,h1,rfl,rfl⟩
  ·exact h.elim
 ·rename_i hc
  split at h
  ·rename_i v H' he
   refine⟨v,H',h,?_⟩;unfold wop;rw [hc];rw [he];exact⟨rfl,rfl⟩
  ·exact h.elim
theorem YL {q : Bool} {ops : List Oper} : ∀ (l : List Oper) (i : Nat) (s : Nat → TV) (H : Heap) (K : (Nat → TV) → Heap → Prop), wops P q ops l i s H K →
    ∃ s' H', K s' H' ∧ wops P q ops l i s H (fun a b => a = s' ∧ b = H')
  | [], i, s, H, K, h => ⟨s, H, h, rfl, rfl⟩
  | o :: r, i, s, H, K, h => by
    have go : wop P (zK s) o.op H (fun v H' => (q = true → H' = H ∨ yY ops i = true) ∧ wops P q ops r (i + 1) (aput s o.dst v) H' K) →
        ∃ s' H', K s' H' ∧ wop P (zK s) o.op H (fun v G => (q = true → G = H ∨ yY ops i = true) ∧ wops P q ops r (i + 1) (aput s o.dst v) G (fun a b => a = s' ∧ b = H')) := fun h => by
      obtain ⟨v, H', ⟨h1, h2⟩, h3⟩ := zdw h
      obtain ⟨s2, H2, h4, h5⟩ := YL r _ _ _ _ h2
      refine ⟨s2, H2, h4, ZE (fun a b hab => ?_) h3⟩
      obtain ⟨rfl, rfl⟩ := hab
      exact ⟨h1, h5⟩
    rw [wops] at h
    split at h
    · rename_i hg
      obtain ⟨s', H', h1, h2⟩ := go h
      refine ⟨s', H', h1, ?_⟩
      rw [wops, hg]
      exact h2
    · rename_i j want hg
      split at h
      · rename_i y hy
        split at h
        · rename_i hyw
          obtain ⟨s', H', h1, h2⟩ := go h
          refine ⟨s', H', h1, ?_⟩
          rw [wops, hg]
          simp only [hy, if_pos hyw]
          exact h2
        · rename_i hyw
          obtain ⟨s', H', h1, h2⟩ := YL r _ _ _ _ h
          refine ⟨s', H', h1, ?_⟩
          rw [wops, hg]
          simp only [hy, if_neg hyw]
          exact h2
      · exact h.elim
theorem jl {F : List Nat} {ops : List Oper} : ∀ (l : List Oper) (i : Nat) (past : List (Nat × Heap)) (pend : List (Nat × Oper × (Nat → TV) × TV)) (c : Nat) (s : Nat → TV) (H : Heap) (K : (Nat → TV) → Heap → Prop), wopf P F ops l i past pend c s H K →
    ∃ s' H', K s' H' ∧ wopf P F ops l i past pend c s H (fun a b => a = s' ∧ b = H')
  | [], _, _, _, _, s, H, _, h => ⟨s, H, h, rfl, rfl⟩
  | o :: r, i, past, pend, c, s, H, K, hw => by
    rw [wopf] at hw
    rcases hw with ⟨h1, hb, v, h2, h3⟩ | ⟨hb, v, h1, h2⟩ | ⟨hb, v, h1, h1', h2⟩ | ⟨h0, v, H', h1, h2, h3⟩
    · obtain ⟨s', H2, k1, k2⟩ := jl r _ _ _ _ _ _ _ h3; exact ⟨s', H2, k1, by rw [wopf]; exact .inl ⟨h1, hb, v, h2, k2⟩⟩
    · obtain ⟨s', H2, k1, k2⟩ := jl r _ _ _ _ _ _ _ h2; exact ⟨s', H2, k1, by rw [wopf]; exact .inr (.inl ⟨hb, v, h1, k2⟩)⟩
    · obtain ⟨s', H2, k1, k2⟩ := jl r _ _ _ _ _ _ _ h2; exact ⟨s', H2, k1, by rw [wopf]; exact .inr (.inr (.inl ⟨hb, v, h1, h1', k2⟩))⟩
    · obtain ⟨s', H2, k1, k2⟩ := jl r _ _ _ _ _ _ _ h3; exact ⟨s', H2, k1, by rw [wopf]; exact .inr (.inr (.inr ⟨h0, v, H', h1, h2, k2⟩))⟩
theorem zdx : ∀ (k : Nat) (todo : List Item) (s : Nat → TV) (H : Heap) (R : (Nat → TV) → Heap → Prop), fin P k todo s H R → ∃ s' H', R s' H' ∧ fin P k todo s H (fun a b => a = s' ∧ b = H') := by
  intro k
  induction k with
  | zero => intro todo s H R h; exact h.elim
  | succ k ih =>
    intro todo s H R h
    unfold fin at h
    split at h
    · exact ⟨s, H, h, rfl, rfl⟩
    · rename_i c t
      split at h
      · obtain ⟨s', H', h1, h2⟩ := ih _ _ _ _ h; exact ⟨s', H', h1, by unfold fin; exact h2⟩
      · obtain ⟨s', H', h1, h2⟩ := ih _ _ _ _ h; exact ⟨s', H', h1, by unfold fin; exact h2⟩
      · obtain ⟨s', H', h1, h2⟩ := ih _ _ _ _ h; exact ⟨s', H', h1, by unfold fin; exact h2⟩
      · rename_i cnd x y
        split at h
        · rename_i b he
          cases b with
          | true =>
            rw [if_pos rfl] at h
            obtain ⟨s', H', h1, h2⟩ := ih _ _ _ _ h
            exact ⟨s', H', h1, by unfold fin; simp only [he, if_pos]; exact h2⟩
          | false =>
            rw [if_neg (by simp)] at h
            obtain ⟨s', H', h1, h2⟩ := ih _ _ _ _ h
            exact ⟨s', H', h1, by unfold fin; simp only [he]; rw [if_neg (by simp)]; exact h2⟩
        · exact h.elim
      · obtain ⟨s', H', h1, h2⟩ := ih _ _ _ _ h; exact ⟨s', H', h1, by unfold fin; exact h2⟩
      · obtain ⟨s', H', h1, h2⟩ := ih _ _ _ _ h; exact ⟨s', H', h1, by unfold fin; exact h2⟩
      · split at h
        · rename_i t' he
          obtain ⟨s', H', h1, h2⟩ := ih _ _ _ _ h
          exact ⟨s', H', h1, by unfold fin; simp only [he]; exact h2⟩
        · exact h.elim
      · exact ⟨s, H, h, by unfold fin; exact ⟨rfl, rfl⟩⟩
      · rcases h with h | ⟨hd, ⟨F, h⟩ | ⟨C, Hm, nh, hC, hH, h⟩⟩
        · obtain ⟨s', H', h1, h2⟩ := YL _ _ _ _ _ h
          obtain ⟨s2, H2, h3, h4⟩ := ih _ _ _ _ h1
          refine ⟨s2, H2, h3, ?_⟩
          unfold fin
          refine .inl (kE (fun a b hab => ?_) _ _ _ _ h2)
          obtain ⟨rfl, rfl⟩ := hab
          exact h4
        · obtain ⟨s', H', h1, h2⟩ := jl _ _ _ _ _ _ _ _ h
          obtain ⟨s2, H2, h3, h4⟩ := ih _ _ _ _ h1
          refine ⟨s2, H2, h3, ?_⟩
          unfold fin
          refine .inr ⟨hd, .inl ⟨F, qW (fun a b hab => ?_) _ _ _ _ _ _ _ h2⟩⟩
          obtain ⟨rfl, rfl⟩ := hab
          exact h4
        · obtain ⟨s', H', h1, h2⟩ := zbr _ _ _ h
          obtain ⟨s2, H2, h3, h4⟩ := ih _ _ _ _ h1
          refine ⟨s2, H2, h3, ?_⟩
          unfold fin
          refine .inr ⟨hd, .inr ⟨C, Hm, nh, hC, hH, ZM (fun a b hab => ?_) _ _ _ h2⟩⟩
          obtain ⟨rfl, rfl⟩ := hab
          exact h4
      · exact h.elim
    · obtain ⟨s', H', h1, h2⟩ := ih _ _ _ _ h; exact ⟨s', H', h1, by unfold fin; exact h2⟩
    · obtain ⟨s', H', h1, h2⟩ := ih _ _ _ _ h; exact ⟨s', H', h1, by unfold fin; exact h2⟩
    · exact h.elim
theorem jN {α:Type} {s:Sem α} (hp:Plain P s) {β:Emb} {H:Heap} {w w':World} (hs:SR β H w) (hn:wT H) {r:α} (hr:s.run P w=.ok r w') (hex:∃ x w1,s.run P (bare β H w)=.ok x w1) :
  ∀ e∈s.events P w #[],uA (Owns β H) (Live β H) w.heap.size w'.heap.size e:=by
 obtain⟨x,w1,hx⟩:=hex;obtain⟨w2,g1,_,_,g4⟩:=hp.lcl w _ (Hid.bare hs) x w1 hx;rw [hr] at g1
 cases g1
 exact g4 #[] (fun e he=>by simp at he)
theorem YM (fn:Func) (tmps:Array Value):Plain P (results fn tmps):=by
 have hres:results fn tmps=(do
   let vs ←fn.results.mapM (kD tmps)
   pure (if h:vs.size=1 then vs[0] else .tuple vs)):=by
  unfold results
  congr 1
 rw [hres];refine Plain.bind (J8 _ (fun x=>?_) _) fun _=>.pure _;unfold kD
 split
 ·exact .pure _
 ·exact Plain.bind (yG _) fun _=>zX _ _
theorem Xl {main:Bool} {b:Frame} {a:Act} {cs:List Frame} {w:World} {fn:Func} {todo:List Item} {c:Frame} {v:Value} (hn:b.kind=.normal) (hd:a.defers=[]) (hf:P.funcs[b.fn]?=some fn)
  (hr:(results fn a.tmps).run P w=.ok v w) :
  stepG P main (G { b.at a todo with mode:=.returning } (c::cs)) w=.go (G (c.finish v) cs) w (seen P b.fn ((results fn a.tmps).events P w #[])):=by
 simp [G,stepG,unwind,doReturn,Frame.at,hn,hd,hf,hr,GStep.after]
theorem ZO {f:FuncId} {fn:Func} {c:Code} (hf:P.funcs[f]?=some fn) (hb:fn.body=some c) (as:Array Value) (w:World):(callFunc f as).events P w #[]=#[]:=by
 unfold callFunc;simp only [Sem.events_bind,run_program,Result.evThen_ok,events_program,hf,hb]
 split<;>simp
theorem OkQ.of_fin {f:FuncId} {fn:Func} {c:Code} {args:List TV} {H:Heap} {Q:TV→Heap→Prop} (hm:P.follows .mixedOrders=true) (hf:P.funcs[f]?=some fn) (hb:fn.body=some c)
  (hcall:∀ (as:Array Value) (w:World),(callFunc f as).run P w=.ok (.enter f as) w) (hok:wY fn.ntmps c=true) (hn:args.length≤fn.ntmps)
  (h:Fin P [.code c] (init args) H fun s' H'=>∃ r',vg P fn s' H'=some r'∧Q r' H'):OkQ P f args H Q:=by
 obtain⟨k,hk⟩:=h;obtain⟨s2,H2,⟨r,hr,hq⟩,hk⟩:=zdx k _ _ _ _ hk;refine⟨r,H2,?_,hq⟩;intro T hT β us w hs hargs;rw [hcall];simp only;refine⟨trivial,ZO hf hb _ _,fun c0 cs hB=>?_⟩
 let b:Frame:={ (default:Frame) with fn:=f,kind:=.normal }
 let a:Act:={ tmps:=us.toArray++Array.replicate (fn.ntmps - us.toArray.size) undef,defers:=[] }
 have hlen:us.length=args.length:=hargs.len.symm;have henter:Frame.enter P f us.toArray .normal=b.at a [.code c]:=by
  simp [Frame.enter,Frame.at,hf,hb,b,a]
 have ha:AR β (init args) a fn.ntmps:=by
  refine⟨by simp [a];omega,fun t=>?_,rfl⟩;unfold init;rcases Nat.lt_or_ge t us.length with ht|ht
  ·obtain⟨x,hx⟩:∃ x,args[t]?=some x:=⟨args[t]'(by omega),by simp⟩;obtain⟨u,hu,hxu⟩:=hargs.get t x hx;have e1:args.getD t (.v .und)=x:=by simp [List.getD_eq_getElem?_getD,hx]
   have e2:a.tmps.getD t undef=u:=by
    simp [a,Array.getD_eq_getD_getElem?,Array.getElem?_append_left,ht] at hu ⊢
    exact hu
   rw [e1,e2];exact hxu
  ·have e1:args.getD t (.v .und)=.v .und:=by simp [List.getD_eq_getElem?_getD,List.getElem?_eq_none (show args.length≤t by omega)]
   have e2:a.tmps.getD t undef=undef:=by
    simp only [a,Array.getD_eq_getD_getElem?];rw [Array.getElem?_append_right (by simpa using ht)];simp only [Array.getElem?_replicate]
    split<;>rfl
   rw [e1,e2];rfl
 rw [henter];refine Xh (N:=fn.ntmps) (b:=b) hT (fun h=>by cases h) hm k _ _ _ _ hk (by simp [wZ,hok]) β a w ha hs fun β' s' H' a' w' todo' hR h1 h2 h3 h4=>?_;obtain⟨rfl,rfl⟩:=hR;refine Cls.closed T hT _ _ _ rfl fun w1 hk1=>?_;have h3':=h3.keep hk1;obtain⟨rv,hrv,hrr⟩:=uC h2 h3'.sr hr;obtain⟨rv',hrv',_⟩:=uC h2 (h3'.sr.bare h3'.inn.tabs) hr;refine⟨_,_,_,_,Xl rfl h2.defers hf hrv,rfl,?_,hB β' rv w1 h1 h3' hrr (h4.trans (FrC.grew hk1.size))⟩;exact Does.of h3'.inn h3'.sr (Fr.refl _ _ _) fun e he=>jN (YM fn a'.tmps) h3'.sr h3'.inn.tabs hrv ⟨_,_,hrv'⟩ e (mem_seen he)
end
end Go.Ab
namespace Go.Ab
def AV.id0:AV→Nat
 | .sl id _ _ _=>id
 | .ptr id _=>id
 | _=>0
def AV.of0:AV→Nat
 | .sl _ off _ _=>off
 | .ptr _ off=>off
 | _=>0
def yf (H:Heap) (v:AV) (n:Nat) (cs:List AV):Prop:=(v=.nilsl∧cs=[])∨∃ id off len,v=.sl id off len n∧cs.length=len*n∧Row H id off cs
inductive Pc where
 | osl (v:AV) (n:Nat) (cs:List AV)
 | box (id:Nat) (cs:List AV)
 | keep (S:Nat→Prop) (φ:Heap→Prop)
 | ex (S:Nat→Prop) (φ:Heap→Prop)
 | hole (id:Nat)
 | mp (id:Nat) (kk ek:IntKind) (m:List (Int × Int))
def Pc.isOwn:Pc→Bool
 | .keep ..=>false
 | _=>true
def Pc.at:Pc→Nat→Prop
 | .osl v _ _,i=>∃ off len n,v=.sl i off len n
 | .box id _,i=>i=id
 | .keep S _,i=>S i
 | .ex S _,i=>S i
 | .hole id,i=>i=id
 | .mp id _ _ _,i=>i=id
def Pc.holds (H:Heap):Pc→Prop
 | .osl v n cs=>(v=.nilsl∧cs=[])∨∃ id off len pre,v=.sl id off len n∧pre.length=off∧cs.length=len*n∧id<H.n∧H.f id=.own (pre++cs)
 | .box id cs=>id<H.n∧H.f id=.own cs
 | .keep S φ=>(∀ i,S i→i<H.n)∧φ H∧∀ H':Heap,H.n≤H'.n→(∀ i,S i→H'.f i=H.f i)→φ H'
 | .ex S φ=>(∀ i,S i→i<H.n)∧φ H∧∀ H':Heap,H.n≤H'.n→(∀ i,S i→H'.f i=H.f i)→φ H'
 | .hole id=>id<H.n∧H.f id=.hole
 | .mp id kk ek m=>id<H.n∧H.f id=.mp kk ek m
def Pc.apart (p q:Pc):Prop:=(p.isOwn=true∨q.isOwn=true)→∀ i,p.at i→q.at i→False
theorem Pc.apart.symm {p q:Pc} (h:p.apart q):q.apart p:=fun ho i hq hp=>h ho.symm i hp hq
def Sep (H:Heap):List Pc→Prop
 | []=>True
 | p::l=>p.holds H∧(∀ q∈l,p.apart q)∧Sep H l
def nth:List Pc→Nat→Option Pc
 | [],_=>none
 | p::_,0=>some p
 | _::l,k+1=>nth l k
def putP:List Pc→Nat→Pc→List Pc
 | [],_,_=>[]
 | _::l,0,q=>q::l
 | p::l,k+1,q=>p::putP l k q
def delP:List Pc→Nat→List Pc
 | [],_=>[]
 | _::l,0=>l
 | p::l,k+1=>p::delP l k
theorem Pc.at_lt {H : Heap} {p : Pc} (h : p.holds H) {i : Nat} (hi : p.at i) : i < H.n := by
  cases p with
  | osl v n cs =>
    obtain ⟨off, len, m, rfl⟩ := hi
    rcases h with ⟨h, _⟩ | ⟨id, off', len', pre, h, _, _, h2, _⟩
    · cases h
    · cases h; exact h2
  | box id cs => cases hi; exact h.1
  | keep S φ => exact h.1 i hi
  | ex S φ => exact h.1 i hi
  | hole id => cases hi; exact h.1
  | mp id _ _ _ => cases hi; exact h.1
theorem Pc.frame {H H' : Heap} {p : Pc} (h : p.holds H) (hn : H.n ≤ H'.n) (hf : ∀ i, p.at i → H'.f i = H.f i) : p.holds H' := by
  cases p with
  | osl v n cs =>
    rcases h with h | ⟨id, off, len, pre, rfl, h1, h2, h3, h4⟩
    · exact .inl h
    · exact .inr ⟨id, off, len, pre, rfl, h1, h2, Nat.lt_of_lt_of_le h3 hn, by rw [hf id ⟨_, _, _, rfl⟩]; exact h4⟩
  | box id cs => exact ⟨Nat.lt_of_lt_of_le h.1 hn, by rw [hf id rfl]; exact h.2⟩
  | keep S φ =>
    exact ⟨fun i hi => Nat.lt_of_lt_of_le (h.1 i hi) hn, h.2.2 H' hn hf, fun H2 hn2 hf2 => h.2.2 H2 (Nat.le_trans hn hn2) fun i hi => (hf2 i hi).trans (hf i hi)⟩
  | ex S φ =>
    exact ⟨fun i hi => Nat.lt_of_lt_of_le (h.1 i hi) hn, h.2.2 H' hn hf, fun H2 hn2 hf2 => h.2.2 H2 (Nat.le_trans hn hn2) fun i hi => (hf2 i hi).trans (hf i hi)⟩
  | hole id => exact ⟨Nat.lt_of_lt_of_le h.1 hn, by rw [hf id rfl]; exact h.2⟩
  | mp id kk ek m => exact ⟨Nat.lt_of_lt_of_le h.1 hn, by rw [hf id rfl]; exact h.2⟩
theorem Sep.hd {H:Heap} {p:Pc} {l:List Pc} (h:Sep H (p::l)):p.holds H:=h.1
theorem Sep.tl {H:Heap} {p:Pc} {l:List Pc} (h:Sep H (p::l)):Sep H l:=h.2.2
theorem Sep.mem {H : Heap} : ∀ {l : List Pc}, Sep H l → ∀ p ∈ l, p.holds H
  | _ :: l, h, p, hp => by
    rcases List.mem_cons.1 hp with rfl | hp
    · exact h.1
    · exact Sep.mem h.2.2 p hp
theorem qj:∀ {l:List Pc} {k:Nat} {p:Pc},nth l k=some p→p∈l
 | _::_,0,p,h=>by cases h;exact List.mem_cons_self ..
 | _::l,k+1,p,h=>List.mem_cons_of_mem _ (qj (l:=l) (k:=k) h)
theorem Sep.nth {H:Heap} {l:List Pc} (h:Sep H l) {k:Nat} {p:Pc} (hk:nth l k=some p):p.holds H:=h.mem p (qj hk)
theorem QN : ∀ {l : List Pc} {k : Nat} {q : Pc}, q ∈ delP l k → q ∈ l
  | p :: l, 0, q, h => List.mem_cons_of_mem _ h
  | p :: l, k + 1, q, h => by
    rcases List.mem_cons.1 h with rfl | h
    · exact List.mem_cons_self ..
    · exact List.mem_cons_of_mem _ (QN (l := l) h)
theorem Sep.del {H:Heap}:∀ {l:List Pc} (k:Nat),Sep H l→Sep H (delP l k)
 | [],k,_=>trivial
 | p::l,0,h=>h.2.2
 | p::l,k+1,h=>⟨h.1,fun q hq=>h.2.1 q (QN hq),Sep.del k h.2.2⟩
theorem Sep.dropn {H:Heap}:∀ {l:List Pc} (k:Nat),Sep H l→Sep H (l.drop k)
 | [],0,_=>trivial
 | [],k+1,_=>trivial
 | p::l,0,h=>h
 | p::l,k+1,h=>Sep.dropn (l:=l) k h.2.2
theorem qY {H : Heap} : ∀ {l : List Pc} {k : Nat} {p : Pc}, Sep H l → Go.Ab.nth l k = some p → ∀ q ∈ delP l k, p.apart q
  | _ :: l, 0, p, h, hk, q, hq => by cases hk; exact h.2.1 q hq
  | x :: l, k + 1, p, h, hk, q, hq => by
    rcases List.mem_cons.1 hq with rfl | hq
    · exact (h.2.1 p (qj (l := l) (k := k) hk)).symm
    · exact qY (l := l) (k := k) h.2.2 hk q hq
theorem Sep.front {H:Heap} {l:List Pc} {p:Pc} (k:Nat) (h:Sep H l) (hk:Go.Ab.nth l k=some p):Sep H (p::delP l k):=⟨h.nth hk,qY h hk,h.del k⟩
theorem Sep.frame {H H':Heap}:∀ {l:List Pc},Sep H l→H.n≤H'.n→(∀ p∈l,∀ i,p.at i→H'.f i=H.f i)→Sep H' l
 | [],_,_,_=>trivial
 | p::l,h,hn,hf=>⟨Pc.frame h.1 hn (hf p (List.mem_cons_self ..)),h.2.1,Sep.frame h.2.2 hn fun q hq=>hf q (List.mem_cons_of_mem _ hq)⟩
theorem Sep.add {H H':Heap} {l:List Pc} {q:Pc} (h:Sep H l) (hn:H.n≤H'.n) (hf:∀ i,i<H.n→H'.f i=H.f i) (hq:q.holds H') (hat:∀ i,q.at i→H.n≤i):Sep H' (q::l):=
 ⟨hq,fun p hp _ i h1 h2=>absurd (Pc.at_lt (h.mem p hp) h2) (Nat.not_lt.2 (hat i h1)),h.frame hn fun p hp i hi=>hf i (Pc.at_lt (h.mem p hp) hi)⟩
theorem Kj {q : Pc} : ∀ {l : List Pc} {k : Nat} {y : Pc}, y ∈ putP l k q → y = q ∨ y ∈ l
  | [], k, y, h => absurd h (by cases k <;> exact List.not_mem_nil)
  | x :: l, 0, y, h => by
    rcases List.mem_cons.1 h with h | h
    · exact .inl h
    · exact .inr (List.mem_cons_of_mem _ h)
  | x :: l, k + 1, y, h => by
    rcases List.mem_cons.1 h with h | h
    · exact .inr (h ▸ List.mem_cons_self ..)
    · rcases Kj (l := l) (k := k) h with h | h
      · exact .inl h
      · exact .inr (List.mem_cons_of_mem _ h)
theorem Sep.change {H H' : Heap} {l : List Pc} {k : Nat} {p q : Pc} (h : Sep H l) (hk : Go.Ab.nth l k = some p) (ho : p.isOwn = true) (hn : H.n ≤ H'.n) (hf : ∀ i, i < H.n → ¬ p.at i → H'.f i = H.f i) (hq : q.holds H') (hat : ∀ i, q.at i → p.at i ∨ H.n ≤ i) : Sep H' (putP l k q) := by
  induction l generalizing k with
  | nil => cases hk
  | cons x l ih =>
    cases k with
    | zero =>
      cases hk
      refine ⟨hq, fun r hr _ i h1 h2 => ?_, Sep.frame h.2.2 hn fun r hr i hi => hf i (Pc.at_lt (Sep.mem h.2.2 r hr) hi) fun hx => h.2.1 r hr (.inl ho) i hx hi⟩
      rcases hat i h1 with h3 | h3
      · exact h.2.1 r hr (.inl ho) i h3 h2
      · exact absurd (Pc.at_lt (Sep.mem h.2.2 r hr) h2) (Nat.not_lt.2 h3)
    | succ k =>
      have hk' : Go.Ab.nth l k = some p := hk
      have hxp := h.2.1 p (qj hk')
      refine ⟨Pc.frame h.1 hn fun i hi => hf i (Pc.at_lt h.1 hi) fun hx => hxp (.inr ho) i hi hx, fun r hr => ?_, ih h.2.2 hk'⟩
      rcases Kj hr with rfl | hr'
      · intro _ i h1 h2
        rcases hat i h2 with h3 | h3
        · exact hxp (.inr ho) i h1 h3
        · exact absurd (Pc.at_lt h.1 h1) (Nat.not_lt.2 h3)
      · exact h.2.1 r hr'
theorem yf.of_own {H:Heap} {v:AV} {n:Nat} {cs:List AV} (h:(Pc.osl v n cs).holds H):yf H v n cs:=by
 rcases h with⟨h1,h2⟩|⟨id,off,len,pre,rfl,h1,h2,h3,h4⟩
 ·exact .inl ⟨h1,h2⟩
 ·refine .inr ⟨id,off,len,rfl,h2,h3,by rw [h4,QL,List.length_append];omega,?_⟩;rw [h4,QL,←h1,List.drop_left,List.take_length]
theorem Sep.shows {H:Heap} {l:List Pc} (h:Sep H l) (k:Nat) {v:AV} {n:Nat} {cs:List AV} (hk:Go.Ab.nth l k=some (.osl v n cs)):yf H v n cs:=.of_own (h.nth hk)
theorem yf.frame {H H':Heap} {v:AV} {n:Nat} {cs:List AV} (h:yf H v n cs) (hn:H.n≤H'.n) (hf:∀ off len,v=.sl v.id0 off len n→H'.f v.id0=H.f v.id0):yf H' v n cs:=by
 rcases h with h|⟨id,off,len,rfl,h1,h2⟩
 ·exact .inl h
 ·exact .inr ⟨id,off,len,rfl,h1,h2.mono hn (hf off len rfl)⟩
theorem Sep.freeze {H:Heap} {l:List Pc} (h:Sep H l) (k:Nat) {v:AV} {n:Nat} {cs:List AV} (hk:Go.Ab.nth l k=some (.osl v n cs)) :
  Sep H (putP l k (.keep (fun i=>∃ off len n,v=.sl i off len n) fun H=>yf H v n cs)):=by
 refine Sep.change h hk rfl (Nat.le_refl _) (fun _ _ _=>rfl) ⟨fun i hi=>Pc.at_lt (h.nth hk) hi,h.shows k hk,fun H' hn hf=>?_⟩ (fun i hi=>.inl hi);refine (h.shows k hk).frame hn fun off len e=>hf _ ⟨off,len,n,e⟩
section
variable {α:Type} {e:α→List AV} {n:Nat}
theorem yf.len {H : Heap} {v : AV} {xs : List α} (he : ∀ x, (e x).length = n) (h : yf H v n (enc e xs)) (hn : 0 < n) : (v = .nilsl ∧ xs = []) ∨ ∃ id off, v = .sl id off xs.length n ∧ Row H id off (enc e xs) := by
  rcases h with ⟨h1, h2⟩ | ⟨id, off, len, rfl, h1, h2⟩
  · refine .inl ⟨h1, ?_⟩
    cases xs with
    | nil => rfl
    | cons x xs =>
      have := congrArg List.length h2
      rw [y9 he, List.length_cons, List.length_nil, Nat.succ_mul] at this
      omega
  · rw [y9 he] at h1
    have : xs.length = len := Nat.eq_of_mul_eq_mul_right hn h1
    subst this
    exact .inr ⟨id, off, rfl, h2⟩
theorem yf.at {H:Heap} {v:AV} {xs:List α} (he:∀ x,(e x).length=n) (h:yf H v n (enc e xs)) (hn:0<n) {z:Int} (h0:0≤z∧z<xs.length):v=.sl v.id0 v.of0 xs.length n∧Row H v.id0 v.of0 (enc e xs):=by
 rcases h.len he hn with⟨_,rfl⟩|⟨id,off,rfl,h1⟩
 ·simp at h0;omega
 ·exact⟨rfl,h1⟩
theorem getD_lt {xs:List α} {z:Int} (h0:0≤z∧z<xs.length) (d:α):∃ h:z.toNat<xs.length,xs.getD z.toNat d=xs[z.toNat]:=⟨by omega,by rw [List.getD_eq_getElem?_getD,List.getElem?_eq_getElem (by omega)];rfl⟩
theorem yf.cell {H:Heap} {v:AV} {xs:List α} (he:∀ x,(e x).length=n) (h:yf H v n (enc e xs)) {z:Int} (h0:0≤z∧z<xs.length) (d:α) {j:Nat} {c:α→AV} (hj:∀ x,(e x)[j]?=some (c x)) :
  wN H v.id0 (v.of0+z.toNat*n+j)=some (c (xs.getD z.toNat d)):=by
 obtain⟨h1,h2⟩:=getD_lt h0 d;have hjn:j<n:=by
  have:=hj (xs.getD z.toNat d);obtain⟨h3,_⟩:=List.getElem?_eq_some_iff.1 this;rw [he] at h3;exact h3
 obtain⟨_,h4⟩:=h.at he (by omega) h0;rw [kF,Nat.add_assoc,h4.cell he h1 hjn,hj,h2]
theorem yf.elem {H:Heap} {v:AV} {xs:List α} (he:∀ x,(e x).length=n) (h:yf H v n (enc e xs)) (hn:0<n) {z:Int} (h0:0≤z∧z<xs.length) (d:α) :
  vB H v.id0 (v.of0+z.toNat*n) n=some (e (xs.getD z.toNat d)):=by
 obtain⟨h1,h2⟩:=getD_lt h0 d;obtain⟨_,h4⟩:=h.at he hn h0;have:=h4.agg he h1;rw [Zf,if_pos (by rw [Nat.add_assoc,this.1];trivial),this.2,h2]
def AV.cut (n a b:Nat):AV→AV
 | .sl id off _ _=>.sl id (off+a*n) (b - a) n
 | v=>v
theorem yf.cut {H:Heap} {v:AV} {xs:List α} (he:∀ x,(e x).length=n) (h:yf H v n (enc e xs)) (hn:0<n) {a b:Nat} (hab:a≤b∧b≤xs.length):yf H (v.cut n a b) n (enc e ((xs.drop a).take (b - a))):=by
 rcases h.len he hn with⟨rfl,rfl⟩|⟨id,off,rfl,h1⟩
 ·exact .inl ⟨rfl,by simp [enc]⟩
 ·refine .inr ⟨id,off+a*n,b - a,rfl,?_,h1.slice he (by omega)⟩;rw [y9 he,List.length_take,List.length_drop,Nat.min_eq_left (by omega)]
end
theorem Sep.alloc {H:Heap} {l:List Pc} (h:Sep H l) (cs:List AV):Sep (H.alloc (.own cs)) (.box H.n cs::l):=
 h.add (Nat.le_succ _) (fun i hi=>by rw [wH,if_neg (Nat.ne_of_lt hi)]) ⟨Nat.lt_succ_self _,by rw [wH,if_pos rfl]⟩ fun i hi=>by cases hi;exact Nat.le_refl _
theorem Sep.allocS {H:Heap} {l:List Pc} (h:Sep H l) {len n:Nat} {cs:List AV} (hc:cs.length=len*n):Sep (H.alloc (.own cs)) (.osl (.sl H.n 0 len n) n cs::l):=
 h.add (Nat.le_succ _) (fun i hi=>by rw [wH,if_neg (Nat.ne_of_lt hi)]) (.inr ⟨H.n,0,len,[],rfl,rfl,hc,Nat.lt_succ_self _,by rw [wH,if_pos rfl];rfl⟩) fun i hi=>by obtain⟨_,_,_,hi⟩:=hi;cases hi;exact Nat.le_refl _
theorem Sep.nil {H:Heap} {l:List Pc} (h:Sep H l) (n:Nat):Sep H (.osl .nilsl n []::l):=
 h.add (Nat.le_refl _) (fun _ _=>rfl) (.inl ⟨rfl,rfl⟩) fun i hi=>by obtain⟨_,_,_,hi⟩:=hi;cases hi
theorem Vk (pre cs new:List AV) (off j:Nat) (h:pre.length=off):splice (pre++cs) new (off+j)=pre++splice cs new j:=by
 subst h;rw [splice,splice,List.take_append,List.take_of_length_le (by omega),show pre.length+j - pre.length=j by omega,List.append_assoc,List.append_assoc]
 congr 1
 rw [List.append_assoc,show pre.length+j+new.length=pre.length+(j+new.length) by omega,List.drop_append];rw [List.drop_eq_nil_of_le (show pre.length≤pre.length+(j+new.length) by omega),show pre.length+(j+new.length) - pre.length=j+new.length by omega,List.nil_append]
theorem Sep.write {H:Heap} {l:List Pc} (h:Sep H l) (k:Nat) {v:AV} {n j:Nat} {cs new:List AV} (hk:Go.Ab.nth l k=some (.osl v n cs)) (hj:j+new.length≤cs.length) (h0:0<new.length) (hs:new.all AV.stor=true) :
  ∃ H',vG H v.id0 (v.of0+j) new=some H'∧Sep H' (putP l k (.osl v n (splice cs new j))):=by
 have hp:=h.nth hk;rcases hp with⟨rfl,rfl⟩|⟨id,off,len,pre,rfl,h1,h2,h3,h4⟩
 ·rw [List.length_nil] at hj;omega
 ·refine⟨_,qz h4 (by show off+j+_≤_;rw [List.length_append];omega) hs,?_⟩;show Sep (H.put id (.own (splice (pre++cs) new (off+j)))) _;rw [Vk pre cs new off j h1];refine h.change hk rfl (Nat.le_refl _) (fun i hi hne=>?_) (.inr ⟨id,off,len,pre,rfl,h1,by rw [Yw _ _ _ hj];exact h2,h3,by rw [qi,if_pos rfl]⟩) fun i hi=>.inl hi;rw [qi,if_neg];rintro rfl;exact hne ⟨_,_,_,rfl⟩
theorem Sep.set {α:Type} {e:α→List AV} {n:Nat} {H:Heap} {l:List Pc} (h:Sep H l) (k:Nat) {v:AV} {xs:List α} (hk:Go.Ab.nth l k=some (.osl v n (enc e xs))) (he:∀ x,(e x).length=n) (hn:0<n) {z:Int} (h0:0≤z∧z<xs.length) (x:α) (hs:(e x).all AV.stor=true) :
  ∃ H',vG H v.id0 (v.of0+z.toNat*n) (e x)=some H'∧Sep H' (putP l k (.osl v n (enc e (xs.set z.toNat x)))):=by
 obtain⟨h1,_⟩:=getD_lt h0 x;have hm:z.toNat*n+n≤xs.length*n:=by rw [←Nat.succ_mul];exact Nat.mul_le_mul_right _ h1
 obtain⟨H',h2,h3⟩:=h.write k hk (j:=z.toNat*n) (new:=e x) (by rw [he,y9 he];exact hm) (by rw [he];exact hn) hs;exact⟨H',h2,by rw [zax he xs _ x h1] at h3;exact h3⟩
theorem Sep.ld {H:Heap} {l:List Pc} (h:Sep H l) (k:Nat) {id j:Nat} {cs:List AV} {c:AV} (hk:Go.Ab.nth l k=some (.box id cs)) (hc:cs[j]?=some c):wN H id j=some c:=by
 have hp:=h.nth hk;rw [kF,hp.2,QL];exact hc
theorem Sep.st {H:Heap} {l:List Pc} (h:Sep H l) (k:Nat) {id j:Nat} {cs new cs':List AV} (hk:Go.Ab.nth l k=some (.box id cs)) (hl:j+new.length≤cs.length) (hs:new.all AV.stor=true) (hc:splice cs new j=cs') :
  ∃ H',vG H id j new=some H'∧Sep H' (putP l k (.box id cs')):=by
 have hp:=h.nth hk;refine⟨_,qz hp.2 hl hs,?_⟩;rw [hc];refine h.change hk rfl (Nat.le_refl _) (fun i hi hne=>?_) ⟨hp.1,by rw [qi,if_pos rfl]⟩ fun i hi=>.inl hi;rw [qi,if_neg];rintro rfl;exact hne rfl
theorem Sep.app {H:Heap} {l:List Pc} (h:Sep H l) (k:Nat) {v x:AV} {n m len bytes:Nat} {cs new:List AV} (hk:Go.Ab.nth l k=some (.osl v n cs)) (hl:cs.length=len*n) (hn:0<n) (hx:xZ H n x=some (m,new)) (hm:new.length=m*n)
  (hb:(len+m)*bytes≤2 ^ 40) (h5:bytes≠0):∃ v' H',vY H n bytes v x=some (.v v',H')∧(v≠.nilsl→v'≠.nilsl)∧Sep H' (putP l k (.osl v' n (cs++new))):=by
 have hp:=h.nth hk;rcases hp with⟨rfl,rfl⟩|⟨id,off,len',pre,rfl,h1,h2,h3,h4⟩
 ·have hl0:len=0:=by
   cases len with
   | zero=>rfl
   | succ len=>rw [Nat.succ_mul] at hl;simp at hl;omega
  subst hl0
  by_cases h0:m=0
  ·subst h0;refine⟨.nilsl,H,by simp [vY,h5,hx],fun c=>c,?_⟩;have:new=[]:=List.eq_nil_of_length_eq_zero (by rw [hm,Nat.zero_mul]);subst this;exact h.change hk rfl (Nat.le_refl _) (fun _ _ _=>rfl) (.inl ⟨rfl,rfl⟩) fun i hi=>.inl hi
  ·refine⟨_,_,JX hx h0 (by rw [Nat.zero_add] at hb;exact hb) h5,fun c=>absurd rfl c,?_⟩;refine h.change hk rfl (Nat.le_succ _) (fun i hi _=>by rw [wH,if_neg (Nat.ne_of_lt hi)]) (.inr ⟨H.n,0,m,[],rfl,rfl,hm,Nat.lt_succ_self _,by rw [wH,if_pos rfl];rfl⟩) fun i hi=>?_;obtain⟨_,_,_,hi⟩:=hi
   cases hi
   exact .inr (Nat.le_refl _)
 ·have e:len=len':=Nat.eq_of_mul_eq_mul_right hn (hl.symm.trans h2);subst e;refine⟨_,_,Vg h4 (by rw [List.length_append];omega) hx hb h5,(fun _ c=>by cases c),?_⟩;rw [←h1,List.drop_left];refine h.change hk rfl (Nat.le_succ _) (fun i hi hne=>?_) (.inr ⟨H.n,0,len+m,[],rfl,rfl,by rw [List.length_append,h2,hm,Nat.add_mul],Nat.lt_succ_self _,by rw [wH];exact if_pos rfl⟩) fun i hi=>?_
  ·have hne':i≠id:=fun e=>hne (by subst e;exact⟨_,_,_,rfl⟩);rw [wH,if_neg (by show i≠H.n;omega),qi,if_neg hne']
  ·obtain⟨_,_,_,hi⟩:=hi
   cases hi
   exact .inr (Nat.le_refl _)
theorem yf.arg {α:Type} {e:α→List AV} {n:Nat} {H:Heap} {x:AV} {ys:List α} (he:∀ x,(e x).length=n) (hn:0<n) (h:yf H x n (enc e ys)):xZ H n x=some (ys.length,enc e ys):=by
 rcases h.len he hn with⟨rfl,rfl⟩|⟨id,off,rfl,h1⟩
 ·rfl
 ·refine arg_sl ?_;have hl:=y9 he ys;rw [Zf,←hl,if_pos h1.2.1,h1.2.2]
theorem Sep.append {α:Type} {e:α→List AV} {n bytes:Nat} {H:Heap} {l:List Pc} (h:Sep H l) (k:Nat) {v x:AV} {xs ys:List α} (hk:Go.Ab.nth l k=some (.osl v n (enc e xs))) (he:∀ x,(e x).length=n) (hn:0<n) (hx:yf H x n (enc e ys))
  (hb:(xs.length+ys.length)*bytes≤2 ^ 40) (h5:bytes≠0):∃ v' H',vY H n bytes v x=some (.v v',H')∧(v≠.nilsl→v'≠.nilsl)∧Sep H' (putP l k (.osl v' n (enc e (xs++ys)))):=by
 rw [YJ];exact h.app k hk (y9 he xs) hn (hx.arg he hn) (y9 he ys) hb h5
end Go.Ab
namespace Go.Ab
section
variable {P:Program} [Cls P] {t:List Item} {s:Nat→TV} {H:Heap} {R:(Nat→TV)→Heap→Prop}
theorem zf {a b:Code} (h:Fin P (.code a::.code b::t) s H R):Fin P (.code (.seq a b)::t) s H R:=by rw [Fin_seq];exact h
theorem zN (h:Fin P t s H R):Fin P (.code .skip::t) s H R:=by rw [zdp];exact h
theorem yh {id:Nat} {c:Code} (h:Fin P (.code c::.inBlock id::t) s H R):Fin P (.code (.block id c)::t) s H R:=by rw [zbs];exact h
theorem yN {id:Nat} (h:Fin P t s H R):Fin P (.inBlock id::t) s H R:=by rw [JS];exact h
theorem xc {c:Code} (h:Fin P (.code c::.inLoop c::t) s H R):Fin P (.inLoop c::t) s H R:=by rw [zan];exact h
theorem xH {c:Code} (h:Fin P (.inLoop c::t) s H R):Fin P (.code (.loop c)::t) s H R:=by rw [zdq];exact h
theorem QO (h:R s H):Fin P (.code .ret::t) s H R:=by rw [Fin_ret];exact h
theorem xE {id:Nat} {t':List Item} (e:exitTo id t=some t') (h:Fin P t' s H R):Fin P (.code (.exit id)::t) s H R:=by rw [zdr,e];exact h
theorem ze {id:Nat} {ops:List Oper} {d:Bool} (h:wops P d ops ops 0 s H (FinK P t R)):Fin P (.code (.region id ops.toArray d)::t) s H R:=by rw [Vb];exact .inl h
theorem fi_many (C:List Nat) (Hm:List Bool→Heap) (nh:Nat) {id:Nat} {ops:List Oper} (hC:∀ k∈C,k<ops.length) (hH:Hm (C.map fun _=>false)=holes nh H) (h:wopm P ops C Hm ops 0 s (FinK P t R)):Fin P (.code (.region id ops.toArray true)::t) s H R:=by rw [Vb];exact .inr ⟨rfl,.inr ⟨C,Hm,nh,hC,hH,h⟩⟩
theorem zo {c:Operand} {a b:Code} {x:Bool} (hx:zK s c=.v (.bool x)) (hb:x=true) (h1:Fin P (.code a::t) s H R):Fin P (.code (.cond c a b)::t) s H R:=by
 subst hb;rw [QG,hx,zao];exact h1
theorem zy {c:Operand} {a b:Code} {x:Bool} (hx:zK s c=.v (.bool x)) (hb:x=false) (h1:Fin P (.code b::t) s H R):Fin P (.code (.cond c a b)::t) s H R:=by
 subst hb;rw [QG,hx,JU];exact h1
def updL (s:Nat→TV):List (Nat × TV)→Nat→TV
 | []=>s
 | p::l=>upd (updL s l) p.1 p.2
def agrees (s:Nat→TV):List (Nat × TV)→Prop
 | []=>True
 | p::l=>s p.1=p.2∧agrees s l
theorem UN : ∀ {s : Nat → TV} {l : List (Nat × TV)}, agrees s l → updL s l = s
  | s, [], _ => rfl
  | s, p :: l, h => by
    rw [updL, UN h.2]
    funext j
    simp only [upd]
    split
    · rename_i e; subst e; exact h.1.symm
    · rfl
theorem yS (l:List (Nat × TV)) (hl:agrees s l) (h:Fin P t (updL s l) H R):Fin P t s H R:=by rw [UN hl] at h;exact h
end
theorem zz {b:Bool} (h:b=false):(!b)=true:=by rw [h];rfl
theorem zA {b:Bool} (h:b=true):(!b)=false:=by rw [h];rfl
section
variable {P:Program} [Cls P] {q:Bool} {ops r:List Oper} {i:Nat} {s:Nat→TV} {H:Heap} {K:(Nat→TV)→Heap→Prop} {dst:Option Tmp} {ty:TypeId} {pos:String} {after:Array Edge}
theorem zg {t:List Item} {R:(Nat→TV)→Heap→Prop} (h:Fin P t s H R):wops P q ops [] i s H (FinK P t R):=h
theorem za {x:Operand} {v:TV} (hx:zK s x=v) (h:wops P q ops r (i+1) (aput s dst v) H K):wops P q ops ({ dst,op:=.move x,type:=ty,pos,after,guard:=none }::r) i s H K:=by rw [zbv,hx];exact h
theorem zb {x:Operand} {v:TV} (hx:zK s x=v) (h:wops P q ops r (i+1) (aput s dst v) H K):wops P q ops ({ dst,op:=.assign x,type:=ty,pos,after,guard:=none }::r) i s H K:=by rw [JW,hx];exact h
theorem zl {c x y:Operand} {b:Bool} {v:TV} (hc:zK s c=.v (.bool b)) (hb:b=true) (hx:zK s x=v) (h:wops P q ops r (i+1) (aput s dst v) H K):wops P q ops ({ dst,op:=.pick c x y,type:=ty,pos,after,guard:=none }::r) i s H K:=by
 subst hb;rw [UJ,hc,Ve,if_pos rfl,Zd,hx];exact h
theorem zP {c x y:Operand} {b:Bool} {v:TV} (hc:zK s c=.v (.bool b)) (hb:b=false) (hx:zK s y=v) (h:wops P q ops r (i+1) (aput s dst v) H K):wops P q ops ({ dst,op:=.pick c x y,type:=ty,pos,after,guard:=none }::r) i s H K:=by
 subst hb;rw [UJ,hc,Ve,if_neg (by simp),Zd,hx];exact h
theorem zi {op:BinOp} {t t2:TypeId} {x y:Operand} {a b c:AV} (hx:zK s x=.v a) (hy:zK s y=.v b) (he:abin P op t a b=some c) (h:wops P q ops r (i+1) (aput s dst (.v c)) H K) :
  wops P q ops ({ dst,op:=.binOp op t x y t2,type:=ty,pos,after,guard:=none }::r) i s H K:=by
 rw [zds,hx,hy];simp only [tbin,he,Option.some_or,Option.map_some,Zd];exact h
theorem xh {op:UnOp} {t:TypeId} {x:Operand} {a c:AV} (hx:zK s x=.v a) (he:aun op a=some c) (h:wops P q ops r (i+1) (aput s dst (.v c)) H K) :
  wops P q ops ({ dst,op:=.unOp op t x,type:=ty,pos,after,guard:=none }::r) i s H K:=by
 rw [wops_un,hx];simp only [tun,he,Option.map_some,Zd];exact h
theorem vV {o:Oper} {v:TV} {H':Heap} {z:Option (TV × Heap)} (hw:wops P q ops (o::r) i s H K=wC P q ops r i s dst H K z) (hz:z=some (v,H')) (hq:q=true→H'=H∨yY ops i=true) (h:wops P q ops r (i+1) (aput s dst v) H' K):wops P q ops (o::r) i s H K:=by
 rw [hw,hz];exact⟨hq,h⟩
theorem V3 {src d:TypeId} {x:Operand} {a v:TV} {H':Heap} (hx:zK s x=a) (hz:ZN P src d H a=some (v,H')) (hq:q=true→H'=H∨yY ops i=true) (h:wops P q ops r (i+1) (aput s dst v) H' K) :
  wops P q ops ({ dst,op:=.convert src d x,type:=ty,pos,after,guard:=none }::r) i s H K:=vV (zbw.trans (by rw [hx])) hz hq h
theorem Zp {t:TypeId} {x:Operand} {id off:Nat} {c:AV} (hx:zK s x=.v (.ptr id off)) (ht:tagg P t=some false) (hc:wN H id off=some c) (h:wops P q ops r (i+1) (aput s dst (.v c)) H K) :
  wops P q ops ({ dst,op:=.load t x,type:=ty,pos,after,guard:=none }::r) i s H K:=vV (zby.trans (by rw [hx])) (zas ht hc) (fun _=>.inl rfl) h
theorem Ww {t:TypeId} {x y:Operand} {id off n:Nat} {v:TV} {c:List AV} {H':Heap} (hx:zK s x=.v (.ptr id off)) (hy:zK s y=v) (hc:v.cells=some c) (hn:tsz P t=some n) (hl:c.length=n) (hw:vG H id off c=some H')
  (hq:q=true→H'=H∨yY ops i=true) (h:wops P q ops r (i+1) (aput s dst (.v .und)) H' K):wops P q ops ({ dst,op:=.store t x y,type:=ty,pos,after,guard:=none }::r) i s H K:=
 vV (zat.trans (by rw [hx,hy])) (Z7 hc hn hl hw) hq h
theorem xI {x:Operand} {id off:Nat} (hx:zK s x=.v (.ptr id off)) (h:wops P q ops r (i+1) (aput s dst (.v (.ptr id off))) H K):wops P q ops ({ dst,op:=.nilCheck x,type:=ty,pos,after,guard:=none }::r) i s H K:=
 vV (Qb.trans (by rw [hx])) Qc (fun _=>.inl rfl) h
theorem so_idx {t:TypeId} {x y:Operand} {v:AV} {α:Type} {e:α→List AV} {xs:List α} {n:Nat} {k:IntKind} {z:Int} (hx:zK s x=.v v) (hy:zK s y=.v (.int k z)) (ht:(zL P t).bind (tsz P)=some n) (he:∀ x,(e x).length=n) (hn:0<n)
  (hv:yf H v n (enc e xs)) (h0:0≤z∧z<xs.length) (h:wops P q ops r (i+1) (aput s dst (.v (.ptr v.id0 (v.of0+z.toNat*n)))) H K) :
  wops P q ops ({ dst,op:=.indexAddr t x y,type:=ty,pos,after,guard:=none }::r) i s H K:=by
 obtain⟨h1,_⟩:=hv.at he hn h0;refine vV (qh.trans (by rw [hx,hy])) (v:=.v (.ptr v.id0 (v.of0+z.toNat*n))) (H':=H) ?_ (fun _=>.inl rfl) h
 conv=>lhs;rw [h1]
 exact qI ht h0.1 h0.2
theorem zC {j:Nat} {x:Operand} {vs:List TV0} {z:TV0} {v:TV} (hx:zK s x=.t vs) (hz:vs[j]?=some z) (hv:z.up=v) (h:wops P q ops r (i+1) (aput s dst v) H K):wops P q ops ({ dst,op:=.extract x j,type:=ty,pos,after,guard:=none }::r) i s H K:=
 vV (QI.trans (by rw [hx])) (by simp only [QH,hz,Option.map_some,hv]) (fun _=>.inl rfl) h
theorem xB {st:TypeId} {f o n:Nat} {b:Bool} {x:Operand} {id off:Nat} (hx:zK s x=.v (.ptr id off)) (ht:Ye P st f=some (o,n,b)) (h:wops P q ops r (i+1) (aput s dst (.v (.ptr id (off+o)))) H K) :
  wops P q ops ({ dst,op:=.fieldAddr st x f,type:=ty,pos,after,guard:=none }::r) i s H K:=vV (VX.trans (by rw [hx])) (Vf ht) (fun _=>.inl rfl) h
theorem QP {t:TypeId} {z:List AV} (ht:xz P t=some z) (hs:z.all AV.stor=true) (hq:q=true→H.alloc (.own z)=H∨yY ops i=true) (h:wops P q ops r (i+1) (aput s dst (.v (.ptr H.n 0))) (H.alloc (.own z)) K) :
  wops P q ops ({ dst,op:=.alloc t,type:=ty,pos,after,guard:=none }::r) i s H K:=vV zaw (al_ ht hs) hq h
theorem uD {t:TypeId} {x:Operand} {v:TV} {c:List AV} (hx:zK s x=v) (hc:v.cells=some c) (ht:(P.info? t).isSome=true) (hs:c.all AV.stor=true) (hq:q=true→H.alloc (.own c)=H∨yY ops i=true)
  (h:wops P q ops r (i+1) (aput s dst (.v (.ptr H.n 0))) (H.alloc (.own c)) K):wops P q ops ({ dst,op:=.box t x,type:=ty,pos,after,guard:=none }::r) i s H K:=
 vV zdt (by rw [hx];simp only [tbox,hc,Option.bind_some,ht,hs,and_self,if_true]) hq h
theorem Kk {t e:TypeId} {sz bys:Nat} {z:List AV} {x y:Operand} {n m:Int} (hx:zK s x=.v (.int .i64 n)) (hy:zK s y=.v (.int .i64 m)) (h1:zL P t=some e) (h2:tsz P e=some sz) (h3:vJ P e=some bys) (h4:xz P e=some z) (h5:z.length=sz) (h6:z.all AV.stor=true)
  (h7:0≤n∧n≤m∧m≤2 ^ 40∧m*bys≤2 ^ 40) (hq:q=true→H.alloc (.own (xx z n.toNat))=H∨yY ops i=true) (h:wops P q ops r (i+1) (aput s dst (.v (.sl H.n 0 n.toNat sz))) (H.alloc (.own (xx z n.toNat))) K) :
  wops P q ops ({ dst,op:=.makeSlice t x y,type:=ty,pos,after,guard:=none }::r) i s H K:=
 vV (VY.trans (by rw [hx,hy])) (mk_ h1 h2 h3 h4 h5 h6 n m h7.1 h7.2.1 h7.2.2.1 h7.2.2.2) hq h
theorem QQ {n : Nat} {z : List AV} (hz : z.length = n) : ∀ (css : List (List AV)) (k : Nat) (done : List AV), done.length = k * n → (∀ c ∈ css, c.length = n) →
    xR (fun i => some (i * n, n)) (done ++ xx z css.length) ((css.zipIdx k).map fun p => (p.2, p.1)) = some (done ++ css.flatten)
  | [], k, done, _, _ => by simp [xR, xx]
  | c :: css, k, done, hd, hc => by
    have hcl := hc c (List.mem_cons_self ..)
    have hl : (xx z (css.length + 1)).length = (css.length + 1) * n := by
      have : ∀ m, (xx z m).length = m * n := fun m => by
        induction m with
        | zero => simp [xx]
        | succ m ih => rw [xx, List.length_append, ih, hz, Nat.succ_mul]; omega
      exact this _
    simp only [List.zipIdx_cons, List.map_cons, xR, List.length_cons]
    rw [if_pos ⟨hcl, by rw [List.length_append, hl, hd, hcl, Nat.succ_mul]; omega⟩]
    have e : splice (done ++ xx z (css.length + 1)) c (k * n) = (done ++ c) ++ xx z css.length := by
      have := Vk done (xx z (css.length + 1)) c (k * n) 0 hd
      have this : splice (done ++ xx z (css.length + 1)) c (k * n) = done ++ splice (xx z (css.length + 1)) c 0 := this
      rw [this, JY, xx, hcl, ← hz, List.drop_left, List.append_assoc]
    rw [e, QQ hz css (k + 1) (done ++ c) (by rw [List.length_append, hd, hcl, Nat.succ_mul]) fun c hc' => hc c (List.mem_cons_of_mem _ hc')]
    simp
theorem Xm {t e:TypeId} {n len:Nat} {z:List AV} {ps:List (Nat × Operand)} {css:List (List AV)} {cs:List AV} (h1:zL P t=some e) (h2:tsz P e=some n) (h3:xz P e=some z) (h4:z.length=n)
  (hp:jk (ps.map fun p=>(p.1,zK s p.2))=some ((css.zipIdx 0).map fun p=>(p.2,p.1))) (hlen:css.length=len) (hc:∀ c∈css,c.length=n) (hs:∀ c∈css,c.all AV.stor=true) (hb:len*n≤2 ^ 24) (hf:css.flatten=cs)
  (hq:q=true→H.alloc (.own cs)=H∨yY ops i=true) (h:wops P q ops r (i+1) (aput s dst (.v (.sl H.n 0 len n))) (H.alloc (.own cs)) K) :
  wops P q ops ({ dst,op:=.buildSlice t len ps.toArray,type:=ty,pos,after,guard:=none }::r) i s H K:=by
 refine vV Vh (v:=.v (.sl H.n 0 len n)) (H':=H.alloc (.own cs)) ?_ hq h;have h7:=QQ h4 css 0 [] (by simp) hc;rw [List.nil_append,hlen,List.nil_append] at h7;have h8:((css.zipIdx 0).map fun p=>(p.2,p.1)).all (fun p=>p.2.all AV.stor)=true:=by
  rw [List.all_eq_true];intro p hp';obtain⟨x,hx,rfl⟩:=List.mem_map.1 hp';exact hs x.1 (by have:=List.mem_zipIdx hx;rw [this.2.2];simp)
 have h9:css.flatten.all AV.stor=true:=by
  rw [List.all_eq_true];intro c hc';obtain⟨l,hl,hcl⟩:=List.mem_flatten.1 hc';exact List.all_eq_true.1 (hs l hl) c hcl
 subst hf;simp only [tbs,h1,h2,h3,hp];rw [if_pos ⟨hb,h4,h8⟩,h7,Option.bind_some,if_pos h9]
def places (P : Program) : List Field → Option (List (Nat × Nat))
  | [] => some []
  | f :: r => match tsz P f.type, places P r with
    | some n, some rs => some ((f.offset, n) :: rs)
    | _, _ => none
def bplan (P : Program) (t : TypeId) : Option (List AV × List (Nat × Nat)) :=
  match xz P t, vX P t with
  | some z, some fs => match places P fs with
    | some pl => some (z, pl)
    | none => none
  | _, _ => none
theorem Vm {P : Program} [Cls P] : ∀ {fs : List Field} {pl : List (Nat × Nat)}, places P fs = some pl → fs.all (fun f => (tsz P f.type).isSome) = true ∧ ∀ (i : Nat) p, pl[i]? = some p → uj P fs i = some p
  | [], pl, h => by cases h; exact ⟨rfl, fun i p h => by simp at h⟩
  | f :: r, pl, h => by
    simp only [places] at h
    split at h
    · rename_i n rs h1 h2
      cases h
      obtain ⟨a, b⟩ := Vm h2
      refine ⟨by simp only [List.all_cons, h1, a, Option.isSome_some, Bool.and_self], fun i p hp => ?_⟩
      cases i with
      | zero => simp only [List.getElem?_cons_zero, Option.some.injEq] at hp; subst hp; simp [uj, h1]
      | succ i => simp only [List.getElem?_cons_succ] at hp; have := b i p hp; simpa [uj] using this
    · cases h
theorem Kl {p1 p2 : Nat → Option (Nat × Nat)} (hp : ∀ i p, p1 i = some p → p2 i = some p) : ∀ {ps : List (Nat × List AV)} {z c : List AV}, xR p1 z ps = some c → xR p2 z ps = some c
  | [], z, c, h => h
  | (i, v) :: r, z, c, h => by
    simp only [xR] at h ⊢
    cases h1 : p1 i with
    | none => rw [h1] at h; cases h
    | some p =>
      rw [h1] at h; rw [hp i p h1]
      simp only at h ⊢
      split at h
      · rename_i hc; rw [if_pos hc]; exact Kl hp h
      · cases h
theorem zdy {t:TypeId} {ps:List (Nat × Operand)} {z c:List AV} {pl:List (Nat × Nat)} {cps:List (Nat × List AV)} (hb:bplan P t=some (z,pl)) (hp:jk (ps.map fun p=>(p.1,zK s p.2))=some cps) (hs:∀ x∈cps.map (·.2),x.all AV.stor=true)
  (hf:xR (fun i=>pl[i]?) z cps=some c) (h:wops P q ops r (i+1) (aput s dst (.g c)) H K) :
  wops P q ops ({ dst,op:=.build t ps.toArray,type:=ty,pos,after,guard:=none }::r) i s H K:=by
 refine vV zav (v:=.g c) (H':=H) ?_ (fun _=>.inl rfl) h;have e:partsOf (zK s) ps=some cps:=by rw [Xj];exact hp
 simp only [bplan] at hb
 split at hb
 ·rename_i z' fs h1 h2
  split at hb
  ·rename_i pl' h3
   cases hb
   obtain⟨ha,hq⟩:=Vm h3;have h8:cps.all (fun p=>p.2.all AV.stor)=true:=by
    rw [List.all_eq_true];intro p hp';exact hs p.2 (List.mem_map.2 ⟨p,hp',rfl⟩)
   simp only [zM,h1,h2,e];rw [if_pos ⟨ha,h8⟩,Kl hq hf,Option.map_some]
  ·cases hb
 ·cases hb
theorem zb3 {b0 b1:TypeId} {x y:Operand} {n bytes:Nat} {v w v':AV} {H':Heap} (hx:zK s x=.v v) (hy:zK s y=.v w) (ht:tapp P b0 b1=some (n,bytes)) (ha:vY H n bytes v w=some (.v v',H')) (hq:q=true→H'=H∨yY ops i=true)
  (h:wops P q ops r (i+1) (aput s dst (.v v')) H' K):wops P q ops ({ dst,op:=.call { callee:=.builtin .append,args:=[x,y].toArray,argTypes:=[b0,b1].toArray },type:=ty,pos,after,guard:=none }::r) i s H K:=
 vV ji (by simp only [List.map_cons,List.map_nil,hx,hy];rw [zau ht];exact ha) hq h
theorem so_len {b0:TypeId} {x:Operand} {v:AV} {α:Type} {e:α→List AV} {xs:List α} {n:Nat} (hx:zK s x=.v v) (ht:(zL P b0).isSome=true) (he:∀ x,(e x).length=n) (hn:0<n) (hv:yf H v n (enc e xs)) (h:wops P q ops r (i+1) (aput s dst (.v (.int .i64 (xs.length:Int)))) H K) :
  wops P q ops ({ dst,op:=.call { callee:=.builtin .len,args:=[x].toArray,argTypes:=[b0].toArray },type:=ty,pos,after,guard:=none }::r) i s H K:=by
 refine vV ji (v:=.v (.int .i64 (xs.length:Int))) (H':=H) ?_ (fun _=>.inl rfl) h;simp only [List.map_cons,List.map_nil,hx];rcases hv.len he hn with⟨rfl,rfl⟩|⟨id,off,rfl,_⟩
 ·exact QJ ht
 ·exact Ki ht
theorem uT {f:Operand} {as:List Operand} {tys:Array TypeId} {g:FuncId} {args:List TV} {v:TV} {H':Heap} (hf:zK s f=.v (.fn g [])) (ha:as.map (zK s)=args) (ho:Ok P g args H v H') (hq:q=true→H'=H∨yY ops i=true)
  (h:wops P q ops r (i+1) (aput s dst v) H' K):wops P q ops ({ dst,op:=.call { callee:=.value f,args:=as.toArray,argTypes:=tys },type:=ty,pos,after,guard:=none }::r) i s H K:=by
 rw [zbu,hf,ha];exact JV ho ⟨hq,h⟩
theorem zk {op:Op} {j:Nat} {want b:Bool} (hy:uZ ops s j=some (some b)) (hb:b=want) (h:wops P q ops ({ dst,op,type:=ty,pos,after,guard:=none }::r) i s H K) :
  wops P q ops ({ dst,op,type:=ty,pos,after,guard:=some (j,want) }::r) i s H K:=by
 rw [YG,hy];simp only [Vd,hb,if_true];exact h
theorem zh {op:Op} {j:Nat} {want b:Bool} (hy:uZ ops s j=some (some b)) (hb:b=!want) (h:wops P q ops r (i+1) (aput s dst (.v .und)) H K) :
  wops P q ops ({ dst,op,type:=ty,pos,after,guard:=some (j,want) }::r) i s H K:=by
 rw [YG,hy];subst hb;cases want<;>exact h
theorem xm {op:Op} {j:Nat} {want:Bool} (hy:uZ ops s j=some none) (h:wops P q ops r (i+1) (aput s dst (.v .und)) H K) :
  wops P q ops ({ dst,op,type:=ty,pos,after,guard:=some (j,want) }::r) i s H K:=by
 rw [YG,hy];exact h
end
section
variable {P:Program} [Cls P] {t:TypeId} {k:IntKind} {f:FloatKind} {a b:Int} {x y:Nat}
theorem yU:abin P .add t (.int k a) (.int k b)=some (.int k (k.wrap (a+b))):=by simp [abin,iop]
theorem vk:abin P .sub t (.int k a) (.int k b)=some (.int k (k.wrap (a - b))):=by simp [abin,iop]
theorem ZF:abin P .mul t (.int k a) (.int k b)=some (.int k (k.wrap (a*b))):=by simp [abin,iop]
theorem Vn (h:b≠0):abin P .quo t (.int k a) (.int k b)=some (.int k (k.wrap (a.tdiv b))):=by simp [abin,iop,h]
theorem Xn (h:b≠0):abin P .rem t (.int k a) (.int k b)=some (.int k (a.tmod b)):=by simp [abin,iop,h]
theorem QR:abin P .and t (.int k a) (.int k b)=some (.int k (vL .and k a b)):=by simp [abin,iop]
theorem uE:abin P .eql t (.int k a) (.int k b)=some (.bool (decide (a=b))):=by simp [abin,iop];rfl
theorem Yf:abin P .neq t (.int k a) (.int k b)=some (.bool (!decide (a=b))):=by simp [abin,iop];rfl
theorem xG:abin P .lss t (.int k a) (.int k b)=some (.bool (decide (a<b))):=by simp [abin,iop]
theorem qA:abin P .leq t (.int k a) (.int k b)=some (.bool (decide (a≤b))):=by simp [abin,iop]
theorem uR:abin P .gtr t (.int k a) (.int k b)=some (.bool (decide (b<a))):=by simp [abin,iop]
theorem ZG:abin P .geq t (.int k a) (.int k b)=some (.bool (decide (b≤a))):=by simp [abin,iop]
theorem zb4 {k2:IntKind} (h:0≤b):abin P .shr t (.int k a) (.int k2 b)=some (.int k (a.fdiv (2 ^ (min b.toNat k.bits)))):=by simp [abin,WQ,Int.not_lt.2 h]
theorem vM:abin P .add t (.flt f x) (.flt f y)=some (.flt f (fop .add f x y)):=by simp [abin]
theorem um:abin P .sub t (.flt f x) (.flt f y)=some (.flt f (fop .sub f x y)):=by simp [abin]
theorem xP:abin P .mul t (.flt f x) (.flt f y)=some (.flt f (fop .mul f x y)):=by simp [abin]
theorem uU:abin P .quo t (.flt f x) (.flt f y)=some (.flt f (fop .quo f x y)):=by simp [abin]
theorem V4:abin P .eql t (.flt f x) (.flt f y)=some (.bool (fcmp .eql f x y)):=by simp [abin]
theorem Km:abin P .neq t (.flt f x) (.flt f y)=some (.bool (fcmp .neq f x y)):=by simp [abin]
theorem Kn:abin P .lss t (.flt f x) (.flt f y)=some (.bool (fcmp .lss f x y)):=by simp [abin]
theorem XO:abin P .leq t (.flt f x) (.flt f y)=some (.bool (fcmp .leq f x y)):=by simp [abin]
theorem V5:abin P .gtr t (.flt f x) (.flt f y)=some (.bool (fcmp .gtr f x y)):=by simp [abin]
theorem Ko:abin P .geq t (.flt f x) (.flt f y)=some (.bool (fcmp .geq f x y)):=by simp [abin]
theorem ab_beql {c d:Bool} (h:Yq P t=true):abin P .eql t (.bool c) (.bool d)=some (.bool (c == d)):=by simp [abin,h]
theorem ab_bneq {c d:Bool} (h:Yq P t=true):abin P .neq t (.bool c) (.bool d)=some (.bool (!(c == d))):=by simp [abin,h]
theorem y5 {b:Bool}:aun .not (.bool b)=some (.bool (!b)):=rfl
end
section
variable {P:Program} [Cls P] {q:Bool} {ops r:List Oper} {i:Nat} {s:Nat→TV} {H:Heap} {K:(Nat→TV)→Heap→Prop} {dst:Option Tmp} {ty:TypeId} {pos:String} {after:Array Edge} {t:TypeId} {l m:List UInt8}
end
section
variable {P:Program} [Cls P] {F:List Nat} {ops r:List Oper} {i:Nat} {past:List (Nat × Heap)} {pend:List (Nat × Oper × (Nat→TV) × TV)} {c:Nat} {s:Nat→TV} {H:Heap} {K:(Nat→TV)→Heap→Prop} {o:Oper}
theorem QS {K1:(Nat→TV)→Heap→Prop} (h:wops P false ops [o] i s H K1):∃ v H',StepR P ops s H o v H'∧K1 (aput s o.dst v) H':=by
 rw [wops] at h
 split at h
 ·rename_i hg
  obtain⟨v,H',h1,h2,h3⟩:=kC h;exact⟨v,H',.plain (.inl hg) h1,h3⟩
 ·rename_i j want hg
  split at h
  ·rename_i y hy
   split at h
   ·rename_i hyw
    subst hyw;obtain⟨v,H',h1,h2,h3⟩:=kC h;exact⟨v,H',.plain (.inr ⟨j,want,hg,hy⟩) h1,h3⟩
   ·rename_i hyw
    exact⟨_,_,.skip hg hy hyw,h⟩
  ·exact h.elim
theorem zb5 {K1:(Nat→TV)→Heap→Prop} (hp:vU o.op=true) (h:wops P false ops [o] i s H K1):∃ v,(∀ G,StepR P ops s G o v G)∧K1 (aput s o.dst v) H:=by
 rw [wops] at h
 split at h
 ·rename_i hg
  obtain⟨v,h1,h2,h3⟩:=ZB hp h;exact⟨v,fun G=>.plain (.inl hg) (h1 G),h3⟩
 ·rename_i j want hg
  split at h
  ·rename_i y hy
   split at h
   ·rename_i hyw
    subst hyw;obtain⟨v,h1,h2,h3⟩:=ZB hp h;exact⟨v,fun G=>.plain (.inr ⟨j,want,hg,hy⟩) (h1 G),h3⟩
   ·rename_i hyw
    exact⟨_,fun _=>.skip hg hy hyw,h⟩
  ·exact h.elim
theorem jm {d:Tmp} {v:TV} {G:Heap} (hd:o.dst=some d) (h:wops P false ops [o] i s G (fun s' H'=>H'=G∧s' d=v)):StepR P ops s G o v G:=by
 obtain⟨v',H',h1,rfl,h2⟩:=QS h;rw [hd,qX,upd_same] at h2;subst h2;exact h1
theorem yP {q:Bool} {K1:(Nat→TV)→Heap→Prop} (h:K1 s H):wops P q ops [] i s H K1:=h
end
end Go.Ab
namespace Go.Ab
def eInt (k:IntKind) (n:Int):List AV:=[.int k n]
def eFlt (k:FloatKind) (b:Nat):List AV:=[.flt k b]
def Zg (b:Bool):List AV:=[.bool b]
def fneg (f:FloatKind) (b:Nat):Nat:=cz f (Op.negFloat f b)
theorem au_fneg' {f:FloatKind} {x:Nat}:aun .neg (.flt f x)=some (.flt f (fneg f x)):=rfl
section
variable {P:Program} [Cls P] {q:Bool} {ops r:List Oper} {i:Nat} {s:Nat→TV} {H:Heap} {K:(Nat→TV)→Heap→Prop} {dst:Option Tmp} {ty:TypeId} {pos:String} {after:Array Edge} {l:List Pc}
theorem yQ {t:TypeId} {x y:Operand} {v:AV} {α:Type} {e:α→List AV} {xs:List α} {n:Nat} {k:IntKind} {z:Int} (hv:yf H v n (enc e xs)) (h0:0≤z∧z<xs.length) (he:∀ x,(e x).length=n) (hn:0<n) (hx:zK s x=.v v) (hy:zK s y=.v (.int k z)) (ht:(zL P t).bind (tsz P)=some n)
  (h:wops P q ops r (i+1) (aput s dst (.v (.ptr v.id0 (v.of0+z.toNat*n)))) H K) :
  wops P q ops ({ dst,op:=.indexAddr t x y,type:=ty,pos,after,guard:=none }::r) i s H K:=so_idx hx hy ht he hn hv h0 h
theorem yM {t:TypeId} {x:Operand} {v:AV} {α:Type} {e:α→List AV} {xs:List α} {n:Nat} {z:Int} (hv:yf H v n (enc e xs)) (h0:0≤z∧z<xs.length) (d:α) (j:Nat) (c:α→AV) (he:∀ x,(e x).length=n) (hj:∀ x,(e x)[j]?=some (c x))
  (hx:zK s x=.v (.ptr v.id0 (v.of0+z.toNat*n+j))) (ht:tagg P t=some false) (h:wops P q ops r (i+1) (aput s dst (.v (c (xs.getD z.toNat d)))) H K) :
  wops P q ops ({ dst,op:=.load t x,type:=ty,pos,after,guard:=none }::r) i s H K:=Zp hx ht (hv.cell he h0 d hj) h
theorem Yg {t:TypeId} {a y:Operand} (hs:Sep H l) (k:Nat) {v:AV} {α:Type} {e:α→List AV} {xs:List α} {n:Nat} {z:Int} {w:TV} (hk:nth l k=some (.osl v n (enc e xs))) (h0:0≤z∧z<xs.length) (x:α) (he:∀ x,(e x).length=n) (hn:0<n) (hst:(e x).all AV.stor=true)
  (hx:zK s a=.v (.ptr v.id0 (v.of0+z.toNat*n))) (hy:zK s y=w) (hc:w.cells=some (e x)) (ht:tsz P t=some n) (hq:q=true→yY ops i=true)
  (h:∀ H',Sep H' (putP l k (.osl v n (enc e (xs.set z.toNat x))))→wops P q ops r (i+1) (aput s dst (.v .und)) H' K) :
  wops P q ops ({ dst,op:=.store t a y,type:=ty,pos,after,guard:=none }::r) i s H K:=by
 obtain⟨H',h1,h2⟩:=hs.set k hk he hn h0 x hst;exact Ww hx hy hc ht (he x) h1 (fun hh=>.inr (hq hh)) (h H' h2)
theorem uX {t:TypeId} {x:Operand} (hs:Sep H l) (k:Nat) {id j:Nat} {cs:List AV} {c:AV} (hk:nth l k=some (.box id cs)) (hx:zK s x=.v (.ptr id j)) (hc:cs[j]?=some c) (ht:tagg P t=some false) (h:wops P q ops r (i+1) (aput s dst (.v c)) H K) :
  wops P q ops ({ dst,op:=.load t x,type:=ty,pos,after,guard:=none }::r) i s H K:=Zp hx ht (hs.ld k hk hc) h
theorem Qh {t:TypeId} {a y:Operand} (hs:Sep H l) (k:Nat) {id j m:Nat} {cs c cs':List AV} {w:TV} (hk:nth l k=some (.box id cs)) (hx:zK s a=.v (.ptr id j)) (hy:zK s y=w) (hc:w.cells=some c) (ht:tsz P t=some m) (hm:c.length=m) (hst:c.all AV.stor=true) (hl:j+c.length≤cs.length) (hsp:splice cs c j=cs')
  (hq:q=true→yY ops i=true) (h:∀ H',Sep H' (putP l k (.box id cs'))→wops P q ops r (i+1) (aput s dst (.v .und)) H' K) :
  wops P q ops ({ dst,op:=.store t a y,type:=ty,pos,after,guard:=none }::r) i s H K:=by
 obtain⟨H',h1,h2⟩:=hs.st k hk hl hst hsp;exact Ww hx hy hc ht hm h1 (fun hh=>.inr (hq hh)) (h H' h2)
theorem sv_box {t:TypeId} {x:Operand} {v:TV} {c:List AV} (hs:Sep H l) (hx:zK s x=v) (hc:v.cells=some c) (ht:(P.info? t).isSome=true) (hst:c.all AV.stor=true) (hq:q=true→yY ops i=true) (h:∀ id H',Sep H' (.box id c::l)→wops P q ops r (i+1) (aput s dst (.v (.ptr id 0))) H' K) :
  wops P q ops ({ dst,op:=.box t x,type:=ty,pos,after,guard:=none }::r) i s H K:=uD hx hc ht hst (fun hh=>.inr (hq hh)) (h _ _ (hs.alloc c))
theorem Zq {t e:TypeId} {sz bys:Nat} {z:List AV} {x y:Operand} {n m:Int} {α:Type} (hs:Sep H l) (en:α→List AV) (z0:α) (h7:0≤n∧n≤m∧m≤2 ^ 40∧m*bys≤2 ^ 40) (he:∀ x,(en x).length=sz) (hx:zK s x=.v (.int .i64 n)) (hy:zK s y=.v (.int .i64 m)) (h1:zL P t=some e) (h2:tsz P e=some sz) (h3:vJ P e=some bys) (h4:xz P e=some z) (hz:z=en z0)
  (h6:z.all AV.stor=true) (hq:q=true→yY ops i=true) (h:∀ v H',v≠.nilsl→Sep H' (.osl v sz (enc en (List.replicate n.toNat z0))::l)→wops P q ops r (i+1) (aput s dst (.v v)) H' K) :
  wops P q ops ({ dst,op:=.makeSlice t x y,type:=ty,pos,after,guard:=none }::r) i s H K:=by
 subst hz;refine Kk hx hy h1 h2 h3 h4 (he z0) h6 h7 (fun hh=>.inr (hq hh)) ?_;rw [Wl];exact h _ _ (by simp) (hs.allocS (by rw [y9 he,List.length_replicate]))
theorem xe {t e:TypeId} {n len:Nat} {z:List AV} {ps:List (Nat × Operand)} {α:Type} (hs:Sep H l) (en:α→List AV) (xs:List α) (css:List (List AV)) (h1:zL P t=some e) (h2:tsz P e=some n) (h3:xz P e=some z) (h4:z.length=n)
  (hp:jk (ps.map fun p=>(p.1,zK s p.2))=some ((css.zipIdx 0).map fun p=>(p.2,p.1))) (hxs:css=xs.map en) (hlen:xs.length=len) (he:∀ x,(en x).length=n) (hst:(enc en xs).all AV.stor=true) (hb:len*n≤2 ^ 24)
  (hq:q=true→yY ops i=true) (h:∀ v H',v≠.nilsl→Sep H' (.osl v n (enc en xs)::l)→wops P q ops r (i+1) (aput s dst (.v v)) H' K) :
  wops P q ops ({ dst,op:=.buildSlice t len ps.toArray,type:=ty,pos,after,guard:=none }::r) i s H K:=by
 have hf:css.flatten=enc en xs:=by rw [hxs,enc,List.flatMap]
 refine Xm h1 h2 h3 h4 hp (by rw [hxs,List.length_map,hlen]) (fun c hc=>?_) (fun c hc=>?_) hb hf (fun hh=>.inr (hq hh)) (h _ _ (by simp) (hs.allocS (by rw [y9 he,hlen])))
 ·rw [hxs] at hc;obtain⟨x,_,rfl⟩:=List.mem_map.1 hc;exact he x
 ·rw [List.all_eq_true] at hst ⊢;exact fun y hy=>hst y (by rw [←hf];exact List.mem_flatten.2 ⟨c,hc,hy⟩)
theorem uk {b0 b1:TypeId} {x y:Operand} {n bytes:Nat} {v w:AV} {α:Type} {e:α→List AV} {xs ys:List α} (hs:Sep H l) (k:Nat) (hk:nth l k=some (.osl v n (enc e xs))) (hw:yf H w n (enc e ys)) (he:∀ x,(e x).length=n) (hn:0<n) (ht:tapp P b0 b1=some (n,bytes)) (h5:bytes≠0)
  (hb:(xs.length+ys.length)*bytes≤2 ^ 40) (hx:zK s x=.v v) (hy:zK s y=.v w) (hq:q=true→yY ops i=true)
  (h:∀ v' H',(v≠.nilsl→v'≠.nilsl)→Sep H' (putP l k (.osl v' n (enc e (xs++ys))))→wops P q ops r (i+1) (aput s dst (.v v')) H' K) :
  wops P q ops ({ dst,op:=.call { callee:=.builtin .append,args:=[x,y].toArray,argTypes:=[b0,b1].toArray },type:=ty,pos,after,guard:=none }::r) i s H K:=by
 obtain⟨v',H',h1,h3,h2⟩:=hs.append k hk he hn hw hb h5;exact zb3 hx hy ht h1 (fun hh=>.inr (hq hh)) (h v' H' h3 h2)
theorem yJ {b0:TypeId} {x:Operand} {v:AV} {α:Type} {e:α→List AV} {xs:List α} {n:Nat} (hv:yf H v n (enc e xs)) (he:∀ x,(e x).length=n) (hn:0<n) (hx:zK s x=.v v) (ht:(zL P b0).isSome=true) (h:wops P q ops r (i+1) (aput s dst (.v (.int .i64 (xs.length:Int)))) H K) :
  wops P q ops ({ dst,op:=.call { callee:=.builtin .len,args:=[x].toArray,argTypes:=[b0].toArray },type:=ty,pos,after,guard:=none }::r) i s H K:=so_len hx ht he hn hv h
theorem y7 {f:Operand} {as:List Operand} {tys:Array TypeId} {g:FuncId} {args:List TV} {Q:TV→Heap→Prop} (ho:OkQ P g args H Q) (hf:zK s f=.v (.fn g [])) (ha:as.map (zK s)=args) (hq:q=true→yY ops i=true)
  (h:∀ v H',Q v H'→wops P q ops r (i+1) (aput s dst v) H' K):wops P q ops ({ dst,op:=.call { callee:=.value f,args:=as.toArray,argTypes:=tys },type:=ty,pos,after,guard:=none }::r) i s H K:=by
 obtain⟨v,H',h1,h2⟩:=ho;exact uT hf ha h1 (fun hh=>.inr (hq hh)) (h v H' h2)
theorem zS {f:Operand} {as:List Operand} {tys:Array TypeId} {g:FuncId} {args:List TV} {Q:TV→Heap→Prop} (ho:OkQ P g args H Q) (hQ:∀ v H',Q v H'→H=H') (hf:zK s f=.v (.fn g [])) (ha:as.map (zK s)=args)
  (h:∀ v H',Q v H'→wops P q ops r (i+1) (aput s dst v) H' K):wops P q ops ({ dst,op:=.call { callee:=.value f,args:=as.toArray,argTypes:=tys },type:=ty,pos,after,guard:=none }::r) i s H K:=by
 obtain⟨v,H',h1,h2⟩:=ho;exact uT hf ha h1 (fun _=>.inl (hQ v H' h2).symm) (h v H' h2)
theorem YN {src d:TypeId} {x:Operand} {k k':IntKind} {n:Int} (hx:zK s x=.v (.int k n)) (h1:(P.underlying src).isSome=true) (h2:tint P d=some k') (h:wops P q ops r (i+1) (aput s dst (.v (.int k' (k'.wrap n)))) H K) :
  wops P q ops ({ dst,op:=.convert src d x,type:=ty,pos,after,guard:=none }::r) i s H K:=V3 hx (zbx h1 h2) (fun _=>.inl rfl) h
def itof (f:FloatKind) (n:Int):Nat:=cz f (floatOfInt f n)
theorem sv_if {src d:TypeId} {x:Operand} {k:IntKind} {f:FloatKind} {n:Int} (hx:zK s x=.v (.int k n)) (h1:(P.underlying src).isSome=true) (h2:tint P d=none) (h3:tflt P d=some f) (h:wops P q ops r (i+1) (aput s dst (.v (.flt f (itof f n)))) H K) :
  wops P q ops ({ dst,op:=.convert src d x,type:=ty,pos,after,guard:=none }::r) i s H K:=V3 hx (zaq h1 h2 h3) (fun _=>.inl rfl) h
theorem QU {src d:TypeId} {x:Operand} {b:Nat} (hx:zK s x=.v (.flt .f32 b)) (h1:(P.underlying src).isSome=true) (h2:tint P d=none) (h3:tflt P d=some .f64) (h:wops P q ops r (i+1) (aput s dst (.v (.flt .f64 (widen b)))) H K) :
  wops P q ops ({ dst,op:=.convert src d x,type:=ty,pos,after,guard:=none }::r) i s H K:=V3 hx (zar h1 h2 h3 (zdu b)) (fun _=>.inl rfl) h
def mxF (k:FloatKind) (a b:Nat):Nat:=match k.format.order a b with
 | none=>qnan k
 | some .lt=>b
 | some .gt=>a
 | some .eq=>if (k.decode a).neg then b else a
theorem Kq {x y:Operand} {tys:Array TypeId} {k:FloatKind} {a b:Nat} (hx:zK s x=.v (.flt k a)) (hy:zK s y=.v (.flt k b)) (h:wops P q ops r (i+1) (aput s dst (.v (.flt k (mxF k a b)))) H K) :
  wops P q ops ({ dst,op:=.call { callee:=.builtin .max,args:=[x,y].toArray,argTypes:=tys },type:=ty,pos,after,guard:=none }::r) i s H K:=
 vV ji (by
  have e:Z8 true (.flt k a) (.flt k b)=some (.flt k (mxF k a b)):=by
   unfold Z8 mxF;simp only [if_true]
   cases k.format.order a b with
   | none=>rfl
   | some o=>cases o<;>rfl
  simp [hx,hy,vH,kv,q9,e]) (fun _=>.inl rfl) h
end
theorem yI {P:Program} [Cls P] {f:FuncId} {args:List TV} {H:Heap} {Q:TV→Heap→Prop} (fn:Func) {c:Code} (hm:P.follows .mixedOrders=true) (hf:P.funcs[f]?=some fn) (hb:fn.body=some c)
  (hcall:∀ (as:Array Value) (w:World),(callFunc f as).run P w=.ok (.enter f as) w) (hok:wY fn.ntmps c=true) (hn:args.length≤fn.ntmps)
  (h:Fin P [.code c] (init args) H fun s' H'=>∃ r',vg P fn s' H'=some r'∧Q r' H'):OkQ P f args H Q:=OkQ.of_fin hm hf hb hcall hok hn h
theorem zm {P:Program} [Cls P] {fn:Func} {Q:TV→Heap→Prop} {t:List Item} {s:Nat→TV} {H:Heap} {r:TV} (hr:vg P fn s H=some r) (h:Q r H):Fin P (.code .ret::t) s H fun s' H'=>∃ r',vg P fn s' H'=some r'∧Q r' H':=QO ⟨r,hr,h⟩
end Go.Ab
namespace Go.Ab
theorem ofP {p A B:Prop} (h:(p→A)∧(¬p→B)):(p∧A)∨(¬p∧B):=(Classical.em p).elim (fun c=>.inl ⟨c,h.1 c⟩) (fun c=>.inr ⟨c,h.2 c⟩)
theorem ofT {b:Bool} {A B:Prop} (h:(b=true→A)∧(b=false→B)):(b=true∧A)∨(b=false∧B):=by
 cases b with
 | true=>exact .inl ⟨rfl,h.1 rfl⟩
 | false=>exact .inr ⟨rfl,h.2 rfl⟩
end Go.Ab
namespace Go.Ab
open Go.Conc
theorem yf.stor {H:Heap} {v:AV} {n:Nat} {cs:List AV} (h:yf H v n cs):v.stor=true:=by
 rcases h with⟨rfl,_⟩|⟨_,_,_,rfl,_⟩<;>simp [AV.stor]
theorem stc {c:AV} {l:List AV} (h:c.stor=true) (k:l.all AV.stor=true):(c::l).all AV.stor=true:=by simp [h,k]
theorem stn:([]:List AV).all AV.stor=true:=rfl
def PtAt (H:Heap) (id off:Nat) (cs:List AV):Prop:=id<H.n∧∀ j c,cs[j]?=some c→wN H id (off+j)=some c
theorem PtAt.many {H:Heap} {id off:Nat} {cs:List AV} (h:PtAt H id off cs) (j m:Nat) {c:List AV} (hl:j+m≤cs.length) (h0:0<m) (hc:(cs.drop j).take m=c):vB H id (off+j) m=some c:=by
 have key:∀ i,i<m→(H.f id).cs[off+j+i]?=cs[j+i]?:=fun i hi=>by
  have h1:cs[j+i]?=some cs[j+i]:=List.getElem?_eq_getElem (by omega);have:=h.2 (j+i) _ h1;rw [kF] at this;rw [h1,←this,Nat.add_assoc]
 have hlen:off+j+m≤(H.f id).cs.length:=by
  have:=key (m - 1) (by omega);rw [List.getElem?_eq_getElem (by omega:j+(m - 1)<cs.length)] at this;have:=(List.getElem?_eq_some_iff.1 this).1;omega
 rw [Zf,if_pos hlen,←hc]
 congr 1
 apply List.ext_getElem?;intro i;rw [List.getElem?_take,List.getElem?_take]
 by_cases hi:i<m
 ·rw [if_pos hi,if_pos hi,List.getElem?_drop,List.getElem?_drop,key i hi]
 ·rw [if_neg hi,if_neg hi]
theorem PtAt.sub {H:Heap} {id off:Nat} {cs:List AV} (h:PtAt H id off cs) (j m:Nat) {c:List AV} (hc:(cs.drop j).take m=c):PtAt H id (off+j) c:=⟨h.1,fun i x hx=>by
 rw [←hc,List.getElem?_take] at hx
 by_cases hi:i<m
 ·rw [if_pos hi,List.getElem?_drop] at hx;have:=h.2 (j+i) x hx;rw [←Nat.add_assoc] at this;exact this
 ·rw [if_neg hi] at hx;cases hx⟩
theorem Sep.ptat {H:Heap} {l:List Pc} (h:Sep H l) (k:Nat) {id:Nat} {cs:List AV} (hk:Go.Ab.nth l k=some (.box id cs)):PtAt H id 0 cs:=⟨Pc.at_lt (h.nth hk) rfl,fun j c hc=>by rw [Nat.zero_add];exact h.ld k hk hc⟩
theorem yf.ptat {α:Type} {e:α→List AV} {n:Nat} {H:Heap} {v:AV} {xs:List α} (h:yf H v n (enc e xs)) {z:Int} (h0:0≤z∧z<xs.length) (d:α) (he:∀ x,(e x).length=n) (hn:0<n):PtAt H v.id0 (v.of0+z.toNat*n) (e (xs.getD z.toNat d)):=by
 obtain⟨h1,h2⟩:=getD_lt h0 d;obtain⟨h3,h4⟩:=h.at he hn h0;refine⟨h4.lt,fun j c hc=>?_⟩;have hjn:j<n:=by rw [←he (xs.getD z.toNat d)];exact (List.getElem?_eq_some_iff.1 hc).1
 rw [kF,Nat.add_assoc,h4.cell he h1 hjn,←h2,hc]
section
variable {P:Program} [Cls P] {q:Bool} {ops r:List Oper} {i:Nat} {s:Nat→TV} {H:Heap} {K:(Nat→TV)→Heap→Prop} {dst:Option Tmp} {ty:TypeId} {pos:String} {after:Array Edge} {l:List Pc}
theorem wU {t:TypeId} {x:Operand} {id off:Nat} {cs:List AV} (hp:PtAt H id off cs) (j:Nat) {c:AV} (hc:cs[j]?=some c) (hx:zK s x=.v (.ptr id (off+j))) (ht:tagg P t=some false) (h:wops P q ops r (i+1) (aput s dst (.v c)) H K) :
  wops P q ops ({ dst,op:=.load t x,type:=ty,pos,after,guard:=none }::r) i s H K:=Zp hx ht (hp.2 j c hc) h
end
section
variable {P:Program} [Cls P] {s:Nat→TV} {H:Heap} {r:List ResultVar} {vs:List TV}
end
theorem QV {P:Program} [Cls P] {f:FuncId} {fn:Func} {e:Array Value→Sem Value} (hf:P.funcs[f]?=some fn) (hn:(fn.name == "runtime.NumGoroutine")=false) (hb:fn.body=none) (h1:(Extern.findNext fn).isNone=true) (h2:Extern.find fn=some e) (as:Array Value) (w:World) {v:Value} (hv:e as=pure v) :
  (callFunc f as).run P w=.ok (.value v) w:=by
 have h1':=Option.isNone_iff_eq_none.1 h1;have hb':fn.body.isNone=true:=by rw [hb];rfl
 unfold callFunc;simp only [program,Sem.run_bind];have hn':¬fn.name="runtime.NumGoroutine":=by simpa using hn
 simp [Sem.run,hf,hn',hb,h1',h2,hv,mark]
def num (k:FloatKind) (x:Nat):Bool:=!(k.decode x).isNaN
theorem num_cz {k:FloatKind} {b x:Nat} (h:cz k b=x) (hx:num k x=true):b=x:=by
 unfold cz at h
 split at h
 ·rename_i hb
  subst h
  exfalso
  cases k<;>revert hx<;>decide +kernel
 ·exact h
section
variable {P:Program} [Cls P] {f:FuncId} {fn:Func} {H:Heap}
theorem zay {e:Array Value→Sem Value} (hf:P.funcs[f]?=some fn) (hn:(fn.name == "runtime.NumGoroutine")=false) (hb:fn.body=none) (h1:(Extern.findNext fn).isNone=true) (h2:Extern.find fn=some e) (as:Array Value) (w:World)
  (he:∀ es,(e as).events P w es=es) {β:Emb} {H:Heap} {n m:Nat}:∀ x∈(callFunc f as).events P w #[],uA (Owns β H) (Live β H) n m x:=by
 have h1':=Option.isNone_iff_eq_none.1 h1;have hn':¬fn.name="runtime.NumGoroutine":=by simpa using hn
 have key:(callFunc f as).events P w #[]=#[⟨.mark (.extern f),false,true⟩]:=by
  unfold callFunc
  simp [Sem.events_bind,hf,hn',hb,h1',h2,he,mark,Sem.run]
  try rfl
 intro x hx;rw [key] at hx
 simp at hx
 subst hx;trivial
theorem ext_ok {e:Array Value→Sem Value} (hf:P.funcs[f]?=some fn) (hn:(fn.name == "runtime.NumGoroutine")=false) (hb:fn.body=none) (h1:(Extern.findNext fn).isNone=true) (h2:Extern.find fn=some e) {args:List TV} {r:TV}
  (h:∀ β us,All2 (TVR β) args us→∃ v,e us.toArray=pure v∧TVR β r v):Ok P f args H r H:=by
 intro T hT β us w hs ha;obtain⟨v,h3,h4⟩:=h β us ha;have hr:=QV hf hn hb h1 h2 us.toArray w h3;rw [hr];exact⟨β,v,w,.inl hr,Le.refl β,hs.sr,h4,Fr.refl β H w,zay hf hn hb h1 h2 _ _ fun es=>by rw [h3];rfl⟩
theorem zaz (hf : P.funcs[f]? = some fn) (hn : (fn.name == "runtime.NumGoroutine") = false) (hb : fn.body = none) (h1 : (Extern.findNext fn).isNone = true) (h2 : Extern.find fn = some Extern.MathFloatBits.float32bits) (x : Nat) (hx : num .f32 x = true) : Ok P f [.v (.flt .f32 x)] H (.v (.int .u32 (x : Int))) H := by
  refine ext_ok hf hn hb h1 h2 fun β us ha => ?_
  match us, ha with
  | [u], ⟨⟨b, hu, hc⟩, _⟩ =>
    subst hu
    have := num_cz hc hx
    subst this
    exact ⟨_, rfl, rfl⟩
end
structure DSh {α:Type} (H:Heap) (v:AV) (n:Nat) (R:Heap→α→List AV→Prop) (xs:List α) (ws:List (List AV)):Prop where
 shows:yf H v n (enc id ws)
 size:∀ c∈ws,c.length=n
 all:All2 (R H) xs ws
theorem DSh.stor {α:Type} {H:Heap} {v:AV} {n:Nat} {R:Heap→α→List AV→Prop} {xs:List α} {ws:List (List AV)} (h:DSh H v n R xs ws):v.stor=true:=h.1.stor
theorem DSh.at {α : Type} {H : Heap} {v : AV} {n : Nat} {R : Heap → α → List AV → Prop} {xs : List α} {ws : List (List AV)} (h : DSh H v n R xs ws) (hn : 0 < n) {z : Int} (h0 : 0 ≤ z ∧ z < xs.length) (d : α) :
    v = .sl v.id0 v.of0 xs.length n ∧ R H (xs.getD z.toNat d) (ws.getD z.toNat []) ∧ PtAt H v.id0 (v.of0 + z.toNat * n) (ws.getD z.toNat []) := by
  obtain ⟨h1, h2⟩ := getD_lt h0 d
  have hl := h.all.len
  have h0' : 0 ≤ z ∧ z < ws.length := by rw [← hl]; exact h0
  obtain ⟨h3, h4⟩ := getD_lt h0' ([] : List AV)
  obtain ⟨b, h5, h6⟩ := h.all.get z.toNat _ (List.getElem?_eq_getElem h1)
  have h7 : ws.getD z.toNat [] = b := by rw [List.getD_eq_getElem?_getD, h5]; rfl
  have hlen : ∀ (l : List (List AV)), (∀ c ∈ l, c.length = n) → (enc id l).length = l.length * n := by
    intro l
    induction l with
    | nil => intro _; simp [enc]
    | cons c l ih =>
      intro hc
      rw [wE, List.length_append, ih fun c hc' => hc c (List.mem_cons_of_mem _ hc'), List.length_cons, Nat.succ_mul]
      have : (id c : List AV).length = n := hc c (List.mem_cons_self ..)
      omega
  have hrow : ∀ (l : List (List AV)) (k : Nat), (∀ c ∈ l, c.length = n) → k < l.length → ((enc id l).drop (k * n)).take n = l.getD k [] := by
    intro l
    induction l with
    | nil => intro k _ hk; simp at hk
    | cons c l ih =>
      intro k hc hk
      have hcn : (id c : List AV).length = n := hc c (List.mem_cons_self ..)
      cases k with
      | zero => rw [Nat.zero_mul, List.drop_zero, wE, ← hcn, List.take_left]; rfl
      | succ k =>
        rw [wE, Nat.succ_mul, Nat.add_comm, ← List.drop_drop]
        rw [show ((id c : List AV) ++ enc id l).drop n = enc id l by rw [← hcn, List.drop_left]]
        rw [ih k (fun c hc' => hc c (List.mem_cons_of_mem _ hc')) (by simpa using hk)]
        rfl
  rcases h.shows with ⟨rfl, he⟩ | ⟨id', off, len, rfl, h8, h9⟩
  · have := hlen ws h.size
    rw [he, List.length_nil] at this
    have : ws.length * n ≠ 0 := Nat.mul_ne_zero (by omega) (by omega)
    omega
  · rw [hlen ws h.size] at h8
    have : ws.length = len := Nat.eq_of_mul_eq_mul_right hn h8
    subst this
    refine ⟨by rw [hl]; rfl, by rw [h2, h7]; exact h6, h9.lt, fun j c hc => ?_⟩
    have hm : z.toNat * n + n ≤ ws.length * n := by rw [← Nat.succ_mul]; exact Nat.mul_le_mul_right _ h3
    have hsz : (ws.getD z.toNat []).length = n := h.size _ (by rw [h4]; exact List.getElem_mem h3)
    have hj : j < n := by rw [← hsz]; exact (List.getElem?_eq_some_iff.1 hc).1
    show (H.f id').cs[off + z.toNat * n + j]? = some c
    rw [Nat.add_assoc, h9.rd (by rw [hlen ws h.size]; omega), ← hc, ← hrow ws z.toNat h.size h3, List.getElem?_take, if_pos hj, List.getElem?_drop]
theorem DSh.len {α:Type} {H:Heap} {v:AV} {n:Nat} {R:Heap→α→List AV→Prop} {xs:List α} {ws:List (List AV)} (h:DSh H v n R xs ws) (hn:0<n):(v=.nilsl∧xs.length=0)∨∃ id off,v=.sl id off xs.length n:=by
 rcases Nat.eq_zero_or_pos xs.length with h0|h0
 ·rcases h.shows with⟨rfl,_⟩|⟨id',off,len,rfl,h8,h9⟩
  ·exact .inl ⟨rfl,h0⟩
  ·have hw:ws=[]:=List.eq_nil_of_length_eq_zero (by rw [←h.all.len];exact h0);subst hw;have:len*n=0:=h8.symm;have:len=0:=by rcases Nat.mul_eq_zero.1 this with h|h<;>omega
   subst this;exact .inr ⟨id',off,by rw [h0]⟩
 ·cases xs with
  | nil=>simp at h0
  | cons x xs=>exact .inr ⟨_,_,(h.at hn (z:=0) ⟨Int.le_refl _,by rw [List.length_cons];omega⟩ x).1⟩
section
variable {P:Program} [Cls P] {q:Bool} {ops r:List Oper} {i:Nat} {s:Nat→TV} {H:Heap} {K:(Nat→TV)→Heap→Prop} {dst:Option Tmp} {ty:TypeId} {pos:String} {after:Array Edge} {l:List Pc}
theorem qB {b0:TypeId} {x:Operand} {v:AV} {α:Type} {R:Heap→α→List AV→Prop} {xs:List α} {ws:List (List AV)} {n:Nat} (hv:DSh H v n R xs ws) (hn:0<n) (hx:zK s x=.v v) (ht:(zL P b0).isSome=true) (h:wops P q ops r (i+1) (aput s dst (.v (.int .i64 (xs.length:Int)))) H K) :
  wops P q ops ({ dst,op:=.call { callee:=.builtin .len,args:=[x].toArray,argTypes:=[b0].toArray },type:=ty,pos,after,guard:=none }::r) i s H K:=by
 refine vV ji (v:=.v (.int .i64 (xs.length:Int))) (H':=H) ?_ (fun _=>.inl rfl) h;simp only [List.map_cons,List.map_nil,hx];rcases hv.len hn with⟨rfl,h0⟩|⟨id,off,rfl⟩
 ·rw [h0];exact QJ ht
 ·exact Ki ht
theorem Kr {n:Nat} (L:List {c:List AV // c.length=n}):enc id (L.map Subtype.val)=enc Subtype.val L:=by
 induction L with
 | nil=>rfl
 | cons a L ih=>rw [List.map_cons,wE,wE,ih];rfl
theorem zb6 {n : Nat} : ∀ (ws : List (List AV)), (∀ c ∈ ws, c.length = n) → ∃ L : List {c : List AV // c.length = n}, L.map Subtype.val = ws
  | [], _ => ⟨[], rfl⟩
  | c :: ws, h => by
    obtain ⟨L, hL⟩ := zb6 ws fun x hx => h x (List.mem_cons_of_mem _ hx)
    exact ⟨⟨c, h c (List.mem_cons_self ..)⟩ :: L, by rw [List.map_cons, hL]⟩
theorem All2.dropt {γ δ:Type} {Q:γ→δ→Prop}:∀ (k:Nat) {as:List γ} {bs:List δ},All2 Q as bs→All2 Q (as.drop k) (bs.drop k)
 | 0,as,bs,h=>by rw [List.drop_zero,List.drop_zero];exact h
 | k+1,[],[],_=>trivial
 | k+1,_::as,_::bs,h=>All2.dropt k (as:=as) (bs:=bs) h.2
 | _+1,[],_::_,h=>h.elim
 | _+1,_::_,[],h=>h.elim
theorem All2.taket {γ δ:Type} {Q:γ→δ→Prop}:∀ (k:Nat) {as:List γ} {bs:List δ},All2 Q as bs→All2 Q (as.take k) (bs.take k)
 | 0,as,bs,h=>by rw [List.take_zero,List.take_zero];trivial
 | k+1,[],[],_=>trivial
 | k+1,_::as,_::bs,h=>⟨h.1,All2.taket k (as:=as) (bs:=bs) h.2⟩
 | _+1,[],_::_,h=>h.elim
 | _+1,_::_,[],h=>h.elim
theorem DSh.cut {α:Type} {H:Heap} {v:AV} {n:Nat} {R:Heap→α→List AV→Prop} {xs:List α} {ws:List (List AV)} (h:DSh H v n R xs ws) (hn:0<n) {a b:Nat} (hab:a≤b∧b≤xs.length):DSh H (v.cut n a b) n R ((xs.drop a).take (b - a)) ((ws.drop a).take (b - a)):=by
 have hl:=h.all.len;obtain⟨L,rfl⟩:=zb6 ws h.size;have h1:=h.shows;rw [Kr] at h1;have h2:=h1.cut (fun x=>x.2) hn (a:=a) (b:=b) (by rw [List.length_map] at hl;omega);rw [←Kr,List.map_take,List.map_drop] at h2;exact⟨h2,fun c hc=>h.size c (List.mem_of_mem_drop (List.mem_of_mem_take hc)),(h.all.dropt a).taket _⟩
theorem Vo {t:TypeId} {x y:Operand} {v:AV} {α:Type} {R:Heap→α→List AV→Prop} {xs:List α} {ws:List (List AV)} {n:Nat} {k:IntKind} {z:Int} (hv:DSh H v n R xs ws) (h0:0≤z∧z<xs.length) (d:α) (hn:0<n) (hx:zK s x=.v v) (hy:zK s y=.v (.int k z)) (ht:(zL P t).bind (tsz P)=some n)
  (h:wops P q ops r (i+1) (aput s dst (.v (.ptr v.id0 (v.of0+z.toNat*n)))) H K) :
  wops P q ops ({ dst,op:=.indexAddr t x y,type:=ty,pos,after,guard:=none }::r) i s H K:=by
 obtain⟨h1,_⟩:=hv.at hn h0 d;refine vV (qh.trans (by rw [hx,hy])) (v:=.v (.ptr v.id0 (v.of0+z.toNat*n))) (H':=H) ?_ (fun _=>.inl rfl) h
 conv=>lhs;rw [h1]
 exact qI ht h0.1 h0.2
theorem Xo {t e:TypeId} {n len:Nat} {z:List AV} {ps:List (Nat × Operand)} (hs:Sep H l) (css:List (List AV)) (h1:zL P t=some e) (h2:tsz P e=some n) (h3:xz P e=some z) (h4:z.length=n)
  (hp:jk (ps.map fun p=>(p.1,zK s p.2))=some ((css.zipIdx 0).map fun p=>(p.2,p.1))) (hlen:css.length=len) (hc:∀ c∈css,c.length=n) (hst:∀ c∈css,c.all AV.stor=true) (hb:len*n≤2 ^ 24) (hlc:(enc id css).length=len*n)
  (hq:q=true→yY ops i=true) (h:∀ v H',v≠.nilsl→Sep H' (.osl v n (enc id css)::l)→wops P q ops r (i+1) (aput s dst (.v v)) H' K) :
  wops P q ops ({ dst,op:=.buildSlice t len ps.toArray,type:=ty,pos,after,guard:=none }::r) i s H K:=by
 refine Xm h1 h2 h3 h4 hp hlen hc hst hb (cs:=enc id css) ?_ (fun hh=>.inr (hq hh)) (h _ _ (by simp) (hs.allocS hlc));rw [enc,List.flatMap_id]
end
theorem whole {c cs:List AV} {m:Nat} (e:c=cs) (hm:cs.length=m):(c.drop 0).take m=cs:=by subst e;rw [List.drop_zero,←hm,List.take_length]
end Go.Ab
namespace Go.Ab
end Go.Ab
namespace Go.Ab
theorem leb {a b:Nat} (h:Nat.ble a b=true):a≤b:=Nat.le_of_ble_eq_true h
end Go.Ab
namespace Go.Ab
theorem fac {α:Type} {p:α→Prop} {x:α} {l:List α} (h:p x) (k:∀ y∈l,p y):∀ y∈x::l,p y:=fun y hy=>(List.mem_cons.1 hy).elim (fun e=>e▸h) (k y)
theorem fan {α:Type} {p:α→Prop}:∀ y∈([]:List α),p y:=fun _ hy=>absurd hy (List.not_mem_nil)
end Go.Ab
namespace Go.Ab
def rowOf (v:AV) (i:Nat):Prop:=∃ off len n,v=.sl i off len n
abbrev Inn (α:Type):=α→List AV→Pc
structure DOwn {α:Type} (v:AV) (n:Nat) (R:Heap→α→List AV→Prop) (I:Inn α) (xs:List α) (ws:List (List AV)) (S:Nat→Prop) (H:Heap):Prop where
 own:(v=.nilsl∧enc id ws=[])∨∃ id' off len pre,v=.sl id' off len n∧pre.length=off∧(enc id ws).length=len*n∧id'<H.n∧H.f id'=.own (pre++enc id ws)
 size:∀ c∈ws,c.length=n
 low:∀ i,S i→i<H.n
 off:∀ i,rowOf v i→¬S i
 len:xs.length=ws.length
 loc:∀ (j:Nat) x c,xs[j]?=some x→ws[j]?=some c→∀ H':Heap,H.n≤H'.n→(∀ i,(I x c).at i→H'.f i=H.f i)→R H' x c
 inn:Sep H (List.zipWith I xs ws)
 ins:∀ p∈List.zipWith I xs ws,p.isOwn=true∧∀ i,p.at i→S i
theorem V6 {α β γ:Type} {f:α→β→γ}:∀ {xs:List α} {ws:List β} {j:Nat} {x:α} {c:β},xs[j]?=some x→ws[j]?=some c→f x c∈List.zipWith f xs ws
 | _::_,_::_,0,_,_,h1,h2=>by cases h1;cases h2;exact List.mem_cons_self ..
 | _::xs,_::ws,j+1,_,_,h1,h2=>List.mem_cons_of_mem _ (V6 (xs:=xs) (ws:=ws) (j:=j) h1 h2)
 | [],_,_,_,_,h1,_=>by simp at h1
 | _::_,[],_,_,_,_,h2=>by simp at h2
theorem All2.of_at {α β:Type} {Q:α→β→Prop}:∀ {xs:List α} {ws:List β},xs.length=ws.length→(∀ (j:Nat) x c,xs[j]?=some x→ws[j]?=some c→Q x c)→All2 Q xs ws
 | [],[],_,_=>trivial
 | x::xs,c::ws,hl,h=>⟨h 0 x c rfl rfl,All2.of_at (xs:=xs) (ws:=ws) (by simpa using hl) fun j y d h1 h2=>h (j+1) y d h1 h2⟩
 | [],_::_,hl,_=>by simp at hl
 | _::_,[],hl,_=>by simp at hl
theorem DOwn.all {α:Type} {v:AV} {n:Nat} {R:Heap→α→List AV→Prop} {I:Inn α} {xs:List α} {ws:List (List AV)} {S:Nat→Prop} {H:Heap} (h:DOwn v n R I xs ws S H) (H':Heap) (hn:H.n≤H'.n) (hf:∀ i,S i→H'.f i=H.f i):All2 (R H') xs ws:=
 All2.of_at h.len fun j x c h1 h2=>h.loc j x c h1 h2 H' hn fun i hi=>hf i ((h.ins _ (V6 h1 h2)).2 i hi)
def dpc {α:Type} (v:AV) (n:Nat) (R:Heap→α→List AV→Prop) (I:Inn α) (xs:List α) (ws:List (List AV)) (S:Nat→Prop):Pc:=.ex (fun i=>rowOf v i∨S i) (DOwn v n R I xs ws S)
theorem DOwn.frame {α:Type} {v:AV} {n:Nat} {R:Heap→α→List AV→Prop} {I:Inn α} {xs:List α} {ws:List (List AV)} {S:Nat→Prop} {H H':Heap} (h:DOwn v n R I xs ws S H) (hn:H.n≤H'.n) (hf:∀ i,rowOf v i∨S i→H'.f i=H.f i):DOwn v n R I xs ws S H':=by
 refine⟨?_,h.size,fun i hi=>Nat.lt_of_lt_of_le (h.low i hi) hn,h.off,h.len,fun j x c h1 h2 H2 hn2 hf2=>h.loc j x c h1 h2 H2 (Nat.le_trans hn hn2) fun i hi=>(hf2 i hi).trans (hf i (.inr ((h.ins _ (V6 h1 h2)).2 i hi))),h.inn.frame hn fun p hp i hi=>hf i (.inr ((h.ins p hp).2 i hi)),h.ins⟩;rcases h.own with h1|⟨id',off,len,pre,h1,h2,h3,h4,h5⟩
 ·exact .inl h1
 ·exact .inr ⟨id',off,len,pre,h1,h2,h3,Nat.lt_of_lt_of_le h4 hn,by rw [hf id' (.inl ⟨_,_,_,h1⟩)];exact h5⟩
theorem DOwn.holds {α:Type} {v:AV} {n:Nat} {R:Heap→α→List AV→Prop} {I:Inn α} {xs:List α} {ws:List (List AV)} {S:Nat→Prop} {H:Heap} (h:DOwn v n R I xs ws S H):(dpc v n R I xs ws S).holds H:=by
 refine⟨fun i hi=>?_,h,fun H' hn hf=>h.frame hn hf⟩;rcases hi with⟨_,_,_,hi⟩|hi
 ·rcases h.own with⟨h1,_⟩|⟨_,_,_,_,h1,_,_,h2,_⟩
  ·rw [h1] at hi;cases hi
  ·rw [h1] at hi;cases hi;exact h2
 ·exact h.low i hi
section
variable {α:Type} {v:AV} {n:Nat} {R:Heap→α→List AV→Prop} {I:Inn α} {xs:List α} {ws:List (List AV)} {S:Nat→Prop} {H:Heap} {l:List Pc}
theorem DOwn.shows (h:DOwn v n R I xs ws S H):DSh H v n R xs ws:=⟨.of_own (n:=n) h.own,h.size,h.all H (Nat.le_refl _) fun _ _=>rfl⟩
theorem Sep.dshows (h:Sep H l) (k:Nat) (hk:Go.Ab.nth l k=some (dpc v n R I xs ws S)):DSh H v n R xs ws:=DOwn.shows (h.nth hk).2.1
theorem Sep.dnil (h:Sep H l) (n:Nat) (R:Heap→α→List AV→Prop) (I:Inn α):Sep H (dpc .nilsl n R I [] [] (fun _=>False)::l):=by
 refine h.add (Nat.le_refl _) (fun _ _=>rfl) (DOwn.holds ⟨.inl ⟨rfl,rfl⟩,fun c hc=>absurd hc (List.not_mem_nil),fun _ h=>h.elim,fun _ _ h=>h,rfl,fun j x c h=>by simp at h,trivial,fun p hp=>absurd hp (List.not_mem_nil)⟩) fun i hi=>?_;rcases hi with⟨_,_,_,hi⟩|hi
 ·cases hi
 ·exact hi.elim
theorem All2.set {γ δ:Type} {Q:γ→δ→Prop}:∀ {as:List γ} {bs:List δ} (i:Nat) {a:γ} {b:δ},All2 Q as bs→Q a b→All2 Q (as.set i a) (bs.set i b)
 | [],[],_,_,_,_,_=>trivial
 | _::_,_::_,0,_,_,h,k=>⟨k,h.2⟩
 | _::as,_::bs,i+1,_,_,h,k=>⟨h.1,All2.set (as:=as) (bs:=bs) i h.2 k⟩
 | [],_::_,_,_,_,h,_=>h.elim
 | _::_,[],_,_,_,h,_=>h.elim
theorem Sep.join {H' : Heap} {p q r : Pc} (k : Nat) (h : Sep H (p :: l)) (hk : Go.Ab.nth l k = some q) (hp : p.isOwn = true) (ho : q.isOwn = true) (hn : H.n ≤ H'.n) (hf : ∀ i, i < H.n → ¬ p.at i → ¬ q.at i → H'.f i = H.f i) (hr : r.holds H') (hat : ∀ i, r.at i → p.at i ∨ q.at i ∨ H.n ≤ i) : Sep H' (putP l k r) := by
  have hpq : p.apart q := h.2.1 q (qj hk)
  have h1 : Sep H (putP l k (.ex (fun i => p.at i ∨ q.at i) fun _ => True)) := by
    have key : ∀ {l : List Pc} {k : Nat}, Sep H l → Go.Ab.nth l k = some q → (∀ x ∈ l, p.apart x) → Sep H (putP l k (.ex (fun i => p.at i ∨ q.at i) fun _ => True)) := by
      intro l
      induction l with
      | nil => intro k _ hk; cases hk
      | cons x l ih =>
        intro k hs hk hx
        cases k with
        | zero =>
          cases hk
          refine ⟨⟨fun i hi => ?_, trivial, fun _ _ _ => trivial⟩, fun y hy _ i h1 h2 => ?_, hs.2.2⟩
          · rcases hi with hi | hi
            · exact Pc.at_lt h.1 hi
            · exact Pc.at_lt hs.1 hi
          · rcases h1 with h1 | h1
            · exact hx y (List.mem_cons_of_mem _ hy) (.inl hp) i h1 h2
            · exact hs.2.1 y hy (.inl ho) i h1 h2
        | succ k =>
          refine ⟨hs.1, fun y hy => ?_, ih (k := k) hs.2.2 hk fun y hy => hx y (List.mem_cons_of_mem _ hy)⟩
          have : y = .ex (fun i => p.at i ∨ q.at i) (fun _ => True) ∨ y ∈ l := by
            clear ih hk hx hs
            induction l generalizing k with
            | nil => cases hy
            | cons z l ih2 =>
              cases k with
              | zero => rcases List.mem_cons.1 hy with hy | hy; exact .inl hy; exact .inr (List.mem_cons_of_mem _ hy)
              | succ k =>
                rcases List.mem_cons.1 hy with hy | hy
                · exact .inr (hy ▸ List.mem_cons_self ..)
                · rcases ih2 k hy with h2 | h2
                  · exact .inl h2
                  · exact .inr (List.mem_cons_of_mem _ h2)
          rcases this with rfl | hy'
          · intro _ i h1 h2
            rcases h2 with h2 | h2
            · exact hx x (List.mem_cons_self ..) (.inl hp) i h2 h1
            · exact hs.2.1 q (qj (l := l) (k := k) hk) (.inr ho) i h1 h2
          · exact hs.2.1 y hy'
    exact key h.2.2 hk h.2.1
  have hnth : ∀ {l : List Pc} {k : Nat} {x y : Pc}, Go.Ab.nth l k = some x → Go.Ab.nth (putP l k y) k = some y := by
    intro l
    induction l with
    | nil => intro k x y h; cases h
    | cons z l ih => intro k x y h; cases k with
      | zero => rfl
      | succ k => exact ih (k := k) h
  have hput : ∀ {l : List Pc} {k : Nat} {x y : Pc}, putP (putP l k x) k y = putP l k y := by
    intro l
    induction l with
    | nil => intro k x y; rfl
    | cons z l ih => intro k x y; cases k with
      | zero => rfl
      | succ k => show z :: _ = z :: _; rw [ih]
  have h2 := h1.change (k := k) (q := r) (hnth hk) rfl hn (fun i hi hne => hf i hi (fun c => hne (.inl c)) (fun c => hne (.inr c))) hr (fun i hi => by
    rcases hat i hi with h | h | h
    · exact .inl (.inl h)
    · exact .inl (.inr h)
    · exact .inr h)
  rw [hput] at h2
  exact h2
variable {P:Program} [Cls P] {q:Bool} {ops r:List Oper} {i:Nat} {s:Nat→TV} {K:(Nat→TV)→Heap→Prop} {dst:Option Tmp} {ty:TypeId} {pos:String} {after:Array Edge}
variable {P:Program} [Cls P] {q:Bool} {ops r:List Oper} {i:Nat} {s:Nat→TV} {K:(Nat→TV)→Heap→Prop} {dst:Option Tmp} {ty:TypeId} {pos:String} {after:Array Edge}
end
section
variable {α:Type} {v:AV} {n:Nat} {R:Heap→α→List AV→Prop} {I:Inn α} {xs:List α} {ws:List (List AV)} {S:Nat→Prop} {H:Heap} {l:List Pc}
variable {P:Program} [Cls P] {q:Bool} {ops r:List Oper} {i:Nat} {s:Nat→TV} {K:(Nat→TV)→Heap→Prop} {dst:Option Tmp} {ty:TypeId} {pos:String} {after:Array Edge}
end
end Go.Ab
namespace Go.Ab
open Go.Conc
def wy:Option Nat→Heap→Heap
 | none,H=>H
 | some i,H=>H.put i .gone
theorem XP (o:Option Nat) (H:Heap):(wy o H).n=H.n:=by cases o<;>rfl
theorem Kt (o : Option Nat) (H : Heap) (i : Nat) : (wy o H).f i = if o = some i then .gone else H.f i := by
  cases o with
  | none => simp [wy]
  | some j =>
    simp only [wy, qi, Option.some.injEq]
    by_cases h : i = j
    · subst h; simp
    · rw [if_neg h, if_neg (fun e => h e.symm)]
theorem je.fill {P : Program} [Cls P] {o : Oper} {ev : Operand → TV} {H : Heap} {kill : Option Nat} {cs : List AV} {k : Nat} {mk : Nat → AV} (hmk : ∀ (β γ : Emb) i j u, γ j = β i → VR β (mk i) u → VR γ (mk j) u) (h : je P o ev H (.v (mk H.n)) ((wy kill H).alloc (.own cs))) (hk : k < H.n) (hh : H.f k = .hole) (hr : ∀ c ∈ cs, c.refs = []) (hkk : kill ≠ some k) :
    je P o ev H (.v (mk k)) ((wy kill H).put k (.own cs)) := by
  intro T hT β a w hs hv b0 ops0 i0 rest0 k0 cs0 ho0 hw0 hb0 hK
  refine h T hT β a w hs hv b0 ops0 i0 rest0 k0 cs0 ho0 hw0 hb0 fun β' u w' hle hs' hu hf => ?_
  have n1 : ((wy kill H).alloc (.own cs)).n = H.n + 1 := by show (wy kill H).n + 1 = _; rw [XP]
  have n2 : ((wy kill H).put k (.own cs)).n = H.n := XP kill H
  have f1 : ∀ i, ((wy kill H).alloc (.own cs)).f i = if i = H.n then .own cs else if kill = some i then .gone else H.f i := fun i => by
    rw [wH, XP, Kt]
  have f2 : ∀ i, ((wy kill H).put k (.own cs)).f i = if i = k then .own cs else if kill = some i then .gone else H.f i := fun i => by
    rw [qi, Kt]
  have hkn : k ≠ H.n := Nat.ne_of_lt hk
  have hβk : β' k = none := by
    cases e : β' k with
    | none => rfl
    | some l =>
      have := hs'.sr.row k l e
      rw [f1, if_neg hkn, if_neg hkk, hh] at this
      exact this.elim
  have hβ0 : β k = none := by
    cases e : β k with
    | none => rfl
    | some l => rw [hle k l e] at hβk; cases hβk
  obtain ⟨ln, hln⟩ := hs'.sr.tot H.n (by rw [n1]; exact Nat.lt_succ_self _) (by rw [f1, if_pos rfl]; exact fun e => Blk.noConfusion e)
  let γ : Emb := fun i => if i = k then β' H.n else if i = H.n then none else β' i
  have γk : γ k = β' H.n := if_pos rfl
  have γn : γ H.n = none := by show (if H.n = k then _ else if H.n = H.n then none else _) = _; rw [if_neg (Ne.symm hkn), if_pos rfl]
  have γo : ∀ i, i ≠ k → i ≠ H.n → γ i = β' i := fun i h1 h2 => by show (if i = k then _ else if i = H.n then _ else _) = _; rw [if_neg h1, if_neg h2]
  have lt : ∀ i l, β i = some l → i < H.n := fun i l e => hs.sr.lt e
  have hγ : Le β γ := fun i l e => by
    have h1 := lt i l e
    rw [γo i (fun e' => by rw [e', hβ0] at e; cases e) (Nat.ne_of_lt h1)]
    exact hle i l e
  have cells : ∀ i, i ≠ k → i ≠ H.n → ∀ l, β' i = some l → ∀ b : Blk, (b = .gone ∨ b = H.f i) → RowR β' w' l b → RowR γ w' l b := by
    intro i h1 h2 l e b hb hrow
    rcases hb with rfl | rfl
    · exact hrow
    have old : ∀ (j : Nat) (v : AV), (H.f i).cs[j]? = some v → ∀ (ccs : Array Value) (base : Nat), (∃ u, ccs[base + j]? = some u ∧ VS β' v u) → ∃ u : Value, ccs[base + j]? = some u ∧ VS γ v u := by
      intro j v hj ccs base ⟨u, hu, hvs⟩
      refine ⟨u, hu, ?_, hvs.2⟩
      have hi : i < H.n + 1 := by have := hs'.sr.lt e; rw [n1] at this; exact this
      have hne : H.f i ≠ .hole := fun e => by rw [e] at hj; simp [Blk.cs] at hj
      obtain ⟨li, hli⟩ := hs.sr.tot i (by omega) hne
      obtain ⟨u0, _, hv0⟩ := cell_of hs.sr hli hj
      have hrefs := Kh hv0.1
      have : v.ren (fun i => i) = v := by cases v <;> simp [AV.ren]
      refine VR.ren (β := β') (ρ := fun i => i) (by rw [this]; exact hvs.1) fun id hid => ?_
      obtain ⟨m, hm⟩ := hrefs id hid
      exact γo id (fun e' => by rw [e', hβ0] at hm; cases hm) (Nat.ne_of_lt (lt id m hm))
    cases hb : H.f i with
    | gone => trivial
    | hole => rw [hb] at hrow; exact hrow.elim
    | mp _ _ _ => rw [hb] at hrow; exact hrow
    | tab b o => rw [hb] at hrow; exact hrow
    | ro cs' =>
      rw [hb] at hrow old
      obtain ⟨ccs, t, fz, k1, k2⟩ := hrow
      exact ⟨ccs, t, fz, k1, fun j v hj => old j v hj ccs l.base (k2 j v hj)⟩
    | own cs' =>
      rw [hb] at hrow old
      obtain ⟨ccs, t, fz, k1, k2, k3⟩ := hrow
      exact ⟨ccs, t, fz, k1, fun j v hj => old j v hj ccs l.base (k2 j v hj), k3⟩
  have blk2 : ∀ i, i ≠ k → (((wy kill H).put k (.own cs)).f i = .gone ∨ ((wy kill H).put k (.own cs)).f i = H.f i) ∧ (i ≠ H.n → ((wy kill H).alloc (.own cs)).f i = ((wy kill H).put k (.own cs)).f i) := by
    intro i h1
    rw [f2, if_neg h1]
    refine ⟨by by_cases h : kill = some i; exact .inl (if_pos h); exact .inr (if_neg h), fun h2 => by rw [f1, if_neg h2]⟩
  have own2 : ∀ i l, γ i = some l → (((wy kill H).put k (.own cs)).f i).isOwn = true → ∃ i', β' i' = some l ∧ (((wy kill H).alloc (.own cs)).f i').isOwn = true ∧ i' = (if i = k then H.n else i) := by
    intro i l e ho
    by_cases h1 : i = k
    · subst h1
      exact ⟨H.n, by rw [← γk]; exact e, by rw [f1, if_pos rfl]; rfl, by rw [if_pos rfl]⟩
    · have h2 : i ≠ H.n := fun e' => by rw [e', γn] at e; cases e
      exact ⟨i, by rw [← γo i h1 h2]; exact e, by rw [(blk2 i h1).2 h2]; exact ho, by rw [if_neg h1]⟩
  have live2 : ∀ bb, Live γ ((wy kill H).put k (.own cs)) bb → Live β' ((wy kill H).alloc (.own cs)) bb := by
    rintro bb ⟨i, l, e, hg, hl⟩
    by_cases h1 : i = k
    · subst h1
      exact ⟨H.n, l, by rw [← γk]; exact e, by rw [f1, if_pos rfl]; rfl, hl⟩
    · have h2 : i ≠ H.n := fun e' => by rw [e', γn] at e; cases e
      exact ⟨i, l, by rw [← γo i h1 h2]; exact e, by rw [(blk2 i h1).2 h2]; exact hg, hl⟩
  have own3 : ∀ bb, Owns γ ((wy kill H).put k (.own cs)) bb → Owns β' ((wy kill H).alloc (.own cs)) bb := by
    rintro bb ⟨i, l, e, ho, hl⟩
    obtain ⟨i', e1, o1, _⟩ := own2 i l e ho
    exact ⟨i', l, e1, o1, hl⟩
  have nt : wT ((wy kill H).put k (.own cs)) := wT.upd (fun _ _ => Blk.noConfusion) (by
    cases kill with
    | none => exact hs.inn.tabs
    | some j => exact wT.upd (fun _ _ => Blk.noConfusion) hs.inn.tabs)
  refine Cls.mono T hT _ _ _ _ live2 (hK γ u w' hγ ⟨⟨fun i hi => ?_, fun i hi hne => ?_, fun i l e => ?_, fun i j li lj hij ei ej ho hg => ?_⟩, fun bb hb => hs'.inn.own bb (own3 bb hb), nt, hs'.inn.low⟩ ?_ ⟨hf.size, fun bb hb ho => hf.owns bb hb (own3 bb ho), fun bb hb ho => hf.rng bb hb (live2 bb ho), fun _ => nt⟩)
  · rw [n2] at hi
    by_cases h2 : i = H.n
    · rw [h2]; exact γn
    · rw [γo i (by omega) h2]; exact hs'.sr.dom i (by rw [n1]; omega)
  · rw [n2] at hi
    by_cases h1 : i = k
    · exact ⟨ln, by rw [h1, γk]; exact hln⟩
    · have h2 : i ≠ H.n := Nat.ne_of_lt hi
      obtain ⟨l, hl⟩ := hs'.sr.tot i (by rw [n1]; omega) (by rw [(blk2 i h1).2 h2]; exact hne)
      exact ⟨l, by rw [γo i h1 h2]; exact hl⟩
  · by_cases h1 : i = k
    · subst h1
      rw [γk] at e
      have hrow := hs'.sr.row H.n l e
      rw [f1, if_pos rfl] at hrow
      rw [f2, if_pos rfl]
      obtain ⟨ccs, t, fz, k1, k2, k3⟩ := hrow
      refine ⟨ccs, t, fz, k1, fun j v hj => ?_, k3⟩
      obtain ⟨u', hu', hvs⟩ := k2 j v hj
      have hv0 := hr v (List.mem_of_getElem? hj)
      have : v.ren (fun i => i) = v := by cases v <;> simp [AV.ren]
      exact ⟨u', hu', VR.ren (β := β') (ρ := fun i => i) (by rw [this]; exact hvs.1) (fun id hid => by rw [hv0] at hid; cases hid), hvs.2⟩
    · have h2 : i ≠ H.n := fun e' => by rw [e', γn] at e; cases e
      rw [γo i h1 h2] at e
      have hrow := hs'.sr.row i l e
      rw [(blk2 i h1).2 h2] at hrow
      exact cells i h1 h2 l e _ (blk2 i h1).1 hrow
  · obtain ⟨i', e1, o1, q1⟩ := own2 i li ei ho
    by_cases h1 : j = k
    · subst h1
      rw [γk] at ej
      refine hs'.sr.apart i' H.n li lj (by rw [q1, if_neg hij]; exact fun e' => by rw [e', γn] at ei; cases ei) e1 ej o1 (by rw [f1, if_pos rfl]; rfl)
    · have h2 : j ≠ H.n := fun e' => by rw [e', γn] at ej; cases ej
      rw [γo j h1 h2] at ej
      refine hs'.sr.apart i' j li lj ?_ e1 ej o1 (by rw [(blk2 j h1).2 h2]; exact hg)
      rw [q1]; split
      · exact Ne.symm h2
      · exact hij
  · exact hmk _ _ _ _ _ γk hu
theorem StepR.fillM {P : Program} [Cls P] {ops : List Oper} {s : Nat → TV} {o : Oper} {H : Heap} {kill : Option Nat} {cs : List AV} {k : Nat} {mk : Nat → AV} (hmk : ∀ (β γ : Emb) i j u, γ j = β i → VR β (mk i) u → VR γ (mk j) u) (h : StepR P ops s H o (.v (mk H.n)) ((wy kill H).alloc (.own cs))) (hk : k < H.n) (hh : H.f k = .hole) (hr : ∀ c ∈ cs, c.refs = []) (hkk : kill ≠ some k) :
    StepR P ops s H o (.v (mk k)) ((wy kill H).put k (.own cs)) := by
  generalize hv : TV.v (mk H.n) = v at h
  generalize hH : (wy kill H).alloc (.own cs) = H' at h
  cases h with
  | plain hw h => subst hv; subst hH; exact .plain hw (h.fill hmk hk hh hr hkk)
  | skip hg hy hne =>
    have h1 := congrArg Heap.n hH
    have h2 : (wy kill H).n + 1 = H.n := h1
    rw [XP] at h2
    omega
theorem sl_mk {len n:Nat}:∀ (β γ:Emb) (i j:Nat) (u:Value),γ j=β i→VR β (.sl i 0 len n) u→VR γ (.sl j 0 len n) u:=fun β γ i j u e ⟨L,a',cap,e1,e2,e3,e4⟩=>⟨L,a',cap,by rw [e];exact e1,e2,e3,e4⟩
theorem ptr_mk:∀ (β γ:Emb) (i j:Nat) (u:Value),γ j=β i→VR β (.ptr i 0) u→VR γ (.ptr j 0) u:=fun β γ i j u e ⟨L,e1,e2⟩=>⟨L,by rw [e];exact e1,e2⟩
theorem StepR.fill {P:Program} [Cls P] {ops:List Oper} {s:Nat→TV} {o:Oper} {H:Heap} {kill:Option Nat} {cs:List AV} {len n k:Nat} (h:StepR P ops s H o (.v (.sl H.n 0 len n)) ((wy kill H).alloc (.own cs))) (hk:k<H.n) (hh:H.f k=.hole) (hr:∀ c∈cs,c.refs=[]) (hkk:kill≠some k) :
  StepR P ops s H o (.v (.sl k 0 len n)) ((wy kill H).put k (.own cs)):=StepR.fillM (mk:=fun i=>.sl i 0 len n) sl_mk h hk hh hr hkk
theorem uL {H H':Heap} (h1:H.n=H'.n) (h2:∀ i,H.f i=H'.f i):H=H':=by
 cases H;cases H';simp only at h1 h2;subst h1;congr 1;exact funext h2
theorem Qi {α:Type} {e:α→List AV} (h:∀ x,∀ c∈e x,c.refs=[]) (l:List α):∀ c∈enc e l,c.refs=[]:=by
 intro c hc;obtain⟨x,_,hx⟩:=List.mem_flatMap.1 hc;exact h x c hx
theorem uM (k:FloatKind) (x:Nat):∀ c∈eFlt k x,c.refs=[]:=fun c hc=>by
 obtain rfl:=List.mem_singleton.1 hc;rfl
theorem Qj {v:AV} {a b c d:Nat} (h:v=.sl a b c d):v≠.nilsl:=by rw [h];exact fun e=>AV.noConfusion e
theorem Qk {β γ:Emb} {x:AV} {u:Value} (h:VR β x u) (hr:x.refs=[]):VR γ x u:=by
 have e:x.ren (fun i=>i)=x:=by cases x<;>simp [AV.ren]
 exact VR.ren (β:=β) (ρ:=fun i=>i) (by rw [e];exact h) fun id hid=>by rw [hr] at hid;cases hid
theorem All2.imp {α β:Type} {R S:α→β→Prop}:∀ {l:List α} {m:List β},(∀ x∈l,∀ y,R x y→S x y)→All2 R l m→All2 S l m
 | [],[],_,_=>trivial
 | x::l,y::m,h,⟨h1,h2⟩=>⟨h x (List.mem_cons_self ..) y h1,All2.imp (fun z hz=>h z (List.mem_cons_of_mem _ hz)) h2⟩
theorem Wx {α β:Type} {f:α→List β} {l:List α} (h:l.flatMap f=[]):∀ x∈l,f x=[]:=fun x hx=>List.flatMap_eq_nil_iff.1 h x hx
theorem zb7 {β γ:Emb}:∀ {x:TV} {u:Value},TVR β x u→x.refs=[]→TVR γ x u
 | .v _,_,h,hr=>Qk h hr
 | .g cs,_,⟨us,h1,h2⟩,hr=>⟨us,h1,h2.imp fun x hx y h=>Qk h (Wx hr x hx)⟩
 | .t vs,_,⟨us,h1,h2⟩,hr=>⟨us,h1,h2.imp fun x hx y h=>by
   have hx:=Wx hr x hx
   match x,h,hx with
   | .v _,h,hx=>exact Qk h hx
   | .g cs,⟨us,h1,h2⟩,hx=>exact⟨us,h1,h2.imp fun x hx2 y h=>Qk h (Wx hx x hx2)⟩⟩
theorem SR.forget {β β2 : Emb} {H H2 : Heap} {w w' : World} (h0 : SR β H w) (hs : SR β2 H2 w') (hle : Le β β2) (hk : ∀ i, i < H.n → H2.f i = H.f i) : SR β H w' := by
  have cells : ∀ i l, β i = some l → RowR β w' l (H.f i) := by
    intro i l e
    have hi := h0.lt e
    have hrow := hs.row i l (hle i l e)
    rw [hk i hi] at hrow
    have old : ∀ (j : Nat) (v : AV), (H.f i).cs[j]? = some v → ∀ (ccs : Array Value) (base : Nat), (∃ u, ccs[base + j]? = some u ∧ VS β2 v u) → ∃ u : Value, ccs[base + j]? = some u ∧ VS β v u := by
      intro j v hj ccs base ⟨u, hu, hvs⟩
      refine ⟨u, hu, ?_, hvs.2⟩
      obtain ⟨u0, _, hv0⟩ := cell_of h0 e hj
      have hrefs := Kh hv0.1
      have : v.ren (fun i => i) = v := by cases v <;> simp [AV.ren]
      refine VR.ren (β := β2) (ρ := fun i => i) (by rw [this]; exact hvs.1) fun id hid => ?_
      obtain ⟨m, hm⟩ := hrefs id hid
      rw [hm, hle id m hm]
    cases hb : H.f i with
    | gone => trivial
    | hole => rw [hb] at hrow; exact hrow.elim
    | mp _ _ _ => rw [hb] at hrow; exact hrow
    | tab b o => rw [hb] at hrow; exact hrow
    | ro cs' =>
      rw [hb] at hrow old
      obtain ⟨ccs, t, fz, k1, k2⟩ := hrow
      exact ⟨ccs, t, fz, k1, fun j v hj => old j v hj ccs l.base (k2 j v hj)⟩
    | own cs' =>
      rw [hb] at hrow old
      obtain ⟨ccs, t, fz, k1, k2, k3⟩ := hrow
      exact ⟨ccs, t, fz, k1, fun j v hj => old j v hj ccs l.base (k2 j v hj), k3⟩
  exact ⟨h0.dom, h0.tot, cells, h0.apart⟩
theorem JZ {β β2:Emb} {H H2:Heap} {w:World} (h0:SR β H w) (hle:Le β β2) (hk:∀ i,i<H.n→H2.f i=H.f i):∀ b,Live β H b→Live β2 H2 b:=by
 rintro b ⟨i,l,e,hg,hl⟩;exact⟨i,l,hle i l e,by rw [hk i (h0.lt e)];exact hg,hl⟩
theorem Ok.forget {P:Program} [Cls P] {f:FuncId} {args:List TV} {H:Heap} {r:TV} {H2:Heap} (h:Ok P f args H r H2) (hn:H.n≤H2.n) (hk:∀ i,i<H.n→H2.f i=H.f i) (hr:r.refs=[]):Ok P f args H r H:=by
 intro T hT β us w hs ha;have h1:=h T hT β us w hs ha
 split at h1
 ·rename_i g cargs w1 e
  obtain⟨k1,k2,k3⟩:=h1;refine⟨k1,k2,fun c cs hB=>k3 c cs fun β2 rv w2 hle hs2 hv hf=>?_⟩;exact Cls.mono T hT _ _ _ _ (JZ hs.sr hle hk) (hB β rv w2 (Le.refl β) ⟨hs.sr.forget hs2.sr hle hk,hs.inn.own,hs.inn.tabs,hs2.inn.low⟩ (zb7 hv hr) (FrC.grew hf.size))
 ·obtain⟨β',u,w',k1,k2,k3,k4,k5,k6⟩:=h1;exact⟨β,u,w',k1,Le.refl β,hs.sr.forget k3 k2 hk,zb7 k4 hr,⟨k5.os,k5.tape,k5.output,k5.size,k5.block,fun _ _ h=>h,fun _ _ h=>h,id⟩,k6⟩
 ·exact h1.elim
def came (H:Heap):List Pc:=[.keep (fun i=>i<H.n) fun H'=>H.n≤H'.n∧∀ i,i<H.n→H'.f i=H.f i]
theorem YO (H:Heap):Sep H (came H):=⟨⟨fun _ h=>h,⟨Nat.le_refl _,fun _ _=>rfl⟩,fun _ hn hf=>⟨hn,hf⟩⟩,fun _ hq=>absurd hq (List.not_mem_nil),trivial⟩
theorem jo {H:Heap} {v:AV} {n:Nat} {cs:List AV} (h:yf H v n cs):∀ H',Sep H' (came H)→yf H' v n cs:=fun H' hs=>by
 have h1:H.n≤H'.n∧∀ i,i<H.n→H'.f i=H.f i:=hs.1.2.1;refine h.frame h1.1 fun off len e=>h1.2 _ ?_;rcases h with⟨rfl,_⟩|⟨id,o,l,rfl,_,hr⟩
 ·cases e
 ·exact hr.lt
theorem kG {H:Heap} {id off:Nat} {cs:List AV} (h:PtAt H id off cs):∀ H',Sep H' (came H)→PtAt H' id off cs:=fun H' hs=>by
 have h1:H.n≤H'.n∧∀ i,i<H.n→H'.f i=H.f i:=hs.1.2.1;refine⟨Nat.lt_of_lt_of_le h.1 h1.1,fun j c hj=>?_⟩;have h2:=h.2 j c hj;rw [kF] at h2 ⊢;rw [h1.2 id h.1];exact h2
theorem OkQ.forget {P:Program} [Cls P] {f:FuncId} {args:List TV} {H:Heap} {Q:TV→Heap→Prop} {R:TV→Prop} (h:OkQ P f args H Q) (hq:∀ r H2,Q r H2→Sep H2 (came H)∧r.refs=[]∧R r):OkQ P f args H (fun r H2=>R r∧H=H2):=by
 obtain⟨r,H2,h1,h2⟩:=h;obtain⟨h3,h4,h5⟩:=hq r H2 h2;have hk:H.n≤H2.n∧∀ i,i<H.n→H2.f i=H.f i:=h3.1.2.1;exact⟨r,H,h1.forget hk.1 hk.2 h4,h5,rfl⟩
theorem Sep.newHole {H:Heap} {l:List Pc} (h:Sep H l):∃ G k,G=H.alloc .hole∧k=H.n∧Sep G (.hole k::l):=
 ⟨_,_,rfl,rfl,h.add (Nat.le_succ _) (fun i hi=>by rw [wH,if_neg (Nat.ne_of_lt hi)]) ⟨Nat.lt_succ_self _,by rw [wH,if_pos rfl]⟩ fun i hi=>by cases hi;exact Nat.le_refl _⟩
theorem Sep.ofHole {H:Heap} {l:List Pc} (h:Sep H l) (j:Nat) {k:Nat} (hj:Go.Ab.nth l j=some (.hole k)):k<H.n∧H.f k=.hole:=h.nth hj
theorem Sep.fill {H:Heap} {l:List Pc} (h:Sep H l) (j:Nat) {k len n:Nat} {v:AV} (hj:Go.Ab.nth l j=some (.hole k)) (cs:List AV) (hl:cs.length=len*n) (hv:v=.sl k 0 len n):∃ G,G=H.put k (.own cs)∧Sep G (putP l j (.osl v n cs)):=by
 obtain⟨h1,h2⟩:=h.ofHole j hj;subst hv;refine⟨_,rfl,h.change hj rfl (Nat.le_refl _) (fun i hi hne=>?_) (.inr ⟨k,0,len,[],rfl,rfl,hl,h1,by rw [qi,if_pos rfl];rfl⟩) fun i hi=>?_⟩
 ·rw [qi,if_neg];rintro rfl;exact hne rfl
 ·obtain⟨_,_,_,hi⟩:=hi;cases hi;exact .inl rfl
theorem Sep.kill {H:Heap} {l:List Pc} (h:Sep H l) (i1:Nat) {v:AV} {n:Nat} {cs:List AV} (hi:Go.Ab.nth l i1=some (.osl v n cs)) (hv:v≠.nilsl):∃ G,G=H.put v.id0 .gone∧Sep G (delP l i1):=by
 refine⟨_,rfl,(h.del i1).frame (Nat.le_refl _) fun p hp i hpi=>?_⟩;rw [qi,if_neg];rintro rfl;have hat:(Pc.osl v n cs).at v.id0:=by
  rcases h.nth hi with⟨e,_⟩|⟨id,off,len,pre,rfl,_⟩
  ·exact absurd e hv
  ·exact⟨off,len,n,rfl⟩
 exact qY h hi p hp (.inl rfl) _ hat hpi
theorem Sep.neH {H:Heap} {l:List Pc} (h:Sep H l) (i j:Nat) {k k':Nat} (hi:Go.Ab.nth l i=some (.hole k)) (hj:Go.Ab.nth (delP l i) j=some (.hole k')):k≠k':=by
 rintro rfl;exact qY h hi _ (qj hj) (.inl rfl) k rfl rfl
theorem Sep.neS {H:Heap} {l:List Pc} (h:Sep H l) (i j:Nat) {k n:Nat} {v:AV} {cs:List AV} (hi:Go.Ab.nth l i=some (.hole k)) (hj:Go.Ab.nth (delP l i) j=some (.osl v n cs)) (hv:v≠.nilsl):v.id0≠k:=by
 intro e;have hat:(Pc.osl v n cs).at v.id0:=by
  rcases (h.del i).nth hj with⟨e,_⟩|⟨id,off,len,pre,rfl,_⟩
  ·exact absurd e hv
  ·exact⟨off,len,n,rfl⟩
 exact qY h hi _ (qj hj) (.inl rfl) k rfl (e▸hat)
theorem Sep.neSS {H:Heap} {l:List Pc} (h:Sep H l) (i j:Nat) {n n':Nat} {v v':AV} {cs cs':List AV} (hi:Go.Ab.nth l i=some (.osl v n cs)) (hj:Go.Ab.nth (delP l i) j=some (.osl v' n' cs')) (hv:v≠.nilsl) (hv':v'≠.nilsl):v.id0≠v'.id0:=by
 intro e;have hat:∀ {w:AV} {m:Nat} {ds:List AV},(Pc.osl w m ds).holds H→w≠.nilsl→(Pc.osl w m ds).at w.id0:=fun {w m ds} h hw=>by
  rcases h with⟨e,_⟩|⟨id,off,len,pre,rfl,_⟩
  ·exact absurd e hw
  ·exact⟨off,len,m,rfl⟩
 exact qY h hi _ (qj hj) (.inl rfl) v.id0 (hat (h.nth hi) hv) (e▸hat ((h.del i).nth hj) hv')
section
variable {P:Program} [Cls P] {ops:List Oper} {s:Nat→TV} {G:Heap} {l:List Pc} {ty:TypeId} {pos:String} {after:Array Edge} {d:Tmp}
theorem XQ {o:Oper} {v:TV} {G':Heap} (hd:o.dst=some d) (h:wops P false ops [o] 0 s G (fun s' H'=>H'=G'∧s' d=v)):StepR P ops s G o v G':=by
 obtain⟨v',H',h1,rfl,h2⟩:=QS h;rw [hd,qX,upd_same] at h2;subst h2;exact h1
theorem Ku {t et:TypeId} {sz bys k:Nat} {x y:Operand} {n m:Int} {α:Type} {v:AV} (hs:Sep G l) (j:Nat) (hj:Go.Ab.nth l j=some (.hole k)) (e:α→List AV) (z0:α) (h7:0≤n∧n≤m∧m≤2 ^ 40∧m*bys≤2 ^ 40) (hx:zK s x=.v (.int .i64 n)) (hy:zK s y=.v (.int .i64 m)) (h1:zL P t=some et) (h2:tsz P et=some sz) (h3:vJ P et=some bys) (h4:xz P et=some (e z0))
  (he:∀ x,(e x).length=sz) (h6:(e z0).all AV.stor=true) (hr:∀ x,∀ c∈e x,c.refs=[]) (hv:v=.sl k 0 n.toNat sz) {G':Heap} (hG:G'=G.put k (.own (enc e (List.replicate n.toNat z0)))) :
  StepR P ops s G { dst:=some d,op:=.makeSlice t x y,type:=ty,pos,after,guard:=none } (.v v) G':=by
 obtain⟨k1,k2⟩:=hs.ofHole j hj;subst hv;subst hG;refine StepR.fill (kill:=none) (XQ rfl (Kk hx hy h1 h2 h3 h4 (he z0) h6 h7 nofun (yP ⟨?_,?_⟩))) k1 k2 (Qi hr _) nofun
 ·rw [Wl];rfl
 ·rw [qX,upd_same]
theorem QW {t:TypeId} {k:Nat} {z:List AV} (hs:Sep G l) (j:Nat) (hj:Go.Ab.nth l j=some (.hole k)) (ht:xz P t=some z) (hst:z.all AV.stor=true) (hr:∀ c∈z,c.refs=[]) {G':Heap} (hG:G'=G.put k (.own z)) :
  StepR P ops s G { dst:=some d,op:=.alloc t,type:=ty,pos,after,guard:=none } (.v (.ptr k 0)) G':=by
 obtain⟨k1,k2⟩:=hs.ofHole j hj;subst hG;exact StepR.fillM (mk:=fun i=>.ptr i 0) ptr_mk (kill:=none) (XQ rfl (QP ht hst nofun (yP ⟨rfl,by rw [qX,upd_same]⟩))) k1 k2 hr nofun
theorem kH {t et:TypeId} {n len k:Nat} {z:List AV} {ps:List (Nat × Operand)} {α:Type} {v:AV} (hs:Sep G l) (j:Nat) (hj:Go.Ab.nth l j=some (.hole k)) (en:α→List AV) (xs:List α) (css:List (List AV)) (h1:zL P t=some et) (h2:tsz P et=some n) (h3:xz P et=some z) (h4:z.length=n)
  (hp:jk (ps.map fun p=>(p.1,zK s p.2))=some ((css.zipIdx 0).map fun p=>(p.2,p.1))) (hxs:css=xs.map en) (hlen:xs.length=len) (he:∀ x,(en x).length=n) (hst:(enc en xs).all AV.stor=true) (hb:len*n≤2 ^ 24) (hr:∀ x,∀ c∈en x,c.refs=[]) (hv:v=.sl k 0 len n) {G':Heap} (hG:G'=G.put k (.own (enc en xs))) :
  StepR P ops s G { dst:=some d,op:=.buildSlice t len ps.toArray,type:=ty,pos,after,guard:=none } (.v v) G':=by
 obtain⟨k1,k2⟩:=hs.ofHole j hj;subst hv;subst hG;have hf:css.flatten=enc en xs:=by rw [hxs,enc,List.flatMap]
 refine StepR.fill (kill:=none) (XQ rfl (Xm h1 h2 h3 h4 hp (by rw [hxs,List.length_map,hlen]) (fun c hc=>?_) (fun c hc=>?_) hb hf nofun (yP ⟨rfl,?_⟩))) k1 k2 (Qi hr _) nofun
 ·rw [hxs] at hc;obtain⟨x,_,rfl⟩:=List.mem_map.1 hc;exact he x
 ·rw [List.all_eq_true] at hst ⊢;exact fun y hy=>hst y (by rw [←hf];exact List.mem_flatten.2 ⟨c,hc,hy⟩)
 ·rw [qX,upd_same]
theorem QX {b0 b1:TypeId} {x y:Operand} {n bytes k:Nat} {v w v':AV} {α:Type} {e:α→List AV} {xs ys:List α} (hs:Sep G l) (j i1:Nat) (hj:Go.Ab.nth l j=some (.hole k)) (hi:Go.Ab.nth l i1=some (.osl v n (enc e xs))) (hnn:v≠.nilsl) (hw:yf G w n (enc e ys)) (he:∀ x,(e x).length=n) (hn:0<n) (ht:tapp P b0 b1=some (n,bytes)) (h5:bytes≠0)
  (hb:(xs.length+ys.length)*bytes≤2 ^ 40) (hx:zK s x=.v v) (hy:zK s y=.v w) (hr:∀ x,∀ c∈e x,c.refs=[]) (hne:v.id0≠k) (hv:v'=.sl k 0 (xs.length+ys.length) n) {G':Heap} (hG:G'=(G.put v.id0 .gone).put k (.own (enc e (xs++ys)))) :
  StepR P ops s G { dst:=some d,op:=.call { callee:=.builtin .append,args:=[x,y].toArray,argTypes:=[b0,b1].toArray },type:=ty,pos,after,guard:=none } (.v v') G':=by
 obtain⟨k1,k2⟩:=hs.ofHole j hj;subst hv;subst hG;have hp:=hs.nth hi;rcases hp with⟨e1,_⟩|⟨id,off,len',pre,rfl,h1,h2,h3,h4⟩
 ·exact absurd e1 hnn
 have hl:len'=xs.length:=by
  rw [y9 he] at h2;exact (Nat.eq_of_mul_eq_mul_right hn h2).symm
 subst hl;have harg:xZ G n w=some (ys.length,enc e ys):=by
  rcases hw.len he hn with⟨rfl,rfl⟩|⟨id',off',rfl,hrow⟩
  ·rfl
  ·have hlen:=y9 he ys;simp only [xZ,if_true];rw [Zf,←hlen,if_pos hrow.2.1,hrow.2.2];rfl
 have ha:vY G n bytes (.sl id off xs.length n) w=some (.v (.sl G.n 0 (xs.length+ys.length) n),(G.put id .gone).alloc (.own ((pre++enc e xs).drop off++enc e ys))):=
  Vg h4 (by rw [List.length_append,h1,y9 he]) harg hb h5
 have hd:(pre++enc e xs).drop off++enc e ys=enc e (xs++ys):=by rw [←h1,List.drop_left,YJ]
 rw [hd] at ha;refine StepR.fill (kill:=some id) (XQ rfl (zb3 hx hy ht ha nofun (yP ⟨rfl,?_⟩))) k1 k2 (Qi hr _) (fun e=>hne (Option.some.inj e));rw [qX,upd_same]
end
def tblH (d:Heap):List (List Bool × Heap)→List Bool→Heap
 | [],_=>d
 | (k,H)::r,m=>bif k == m then H else tblH d r m
section
variable {P:Program} [Cls P] {ops r:List Oper} {C:List Nat} {Hm:List Bool→Heap} {i:Nat} {s:Nat→TV} {K:(Nat→TV)→Heap→Prop} {o:Oper}
theorem wm_nil {t:List Item} {R:(Nat→TV)→Heap→Prop} {G:Heap} (e:Hm (C.map fun _=>true)=G) (h:Fin P t s G R):wopm P ops C Hm [] i s (FinK P t R):=by
 show FinK P t R s (Hm _);rw [e];exact h
theorem vZ {G:Heap} (hp:vU o.op=true) (hc:C.contains i=false) (h:wops P false ops [o] i s G (fun s' H'=>wopm P ops C Hm r (i+1) s' K)):wopm P ops C Hm (o::r) i s K:=by
 obtain⟨v,h1,h2⟩:=zb5 hp h;exact⟨v,.inl ⟨hc,h1⟩,h2⟩
theorem vN {d:Tmp} (v:TV) (hd:o.dst=some d) {ms:List (List Bool)} (hm:jM ops C i=ms) (h1:∀ m∈ms,StepR P ops s (Hm m) o v (Hm (wX C i m))) (h:wopm P ops C Hm r (i+1) (aput s (some d) v) K):wopm P ops C Hm (o::r) i s K:=
 ⟨v,.inr (by rw [hm];exact h1),by rw [hd];exact h⟩
end
end Go.Ab
namespace Go.Ab
def sg (v:AV):List AV:=[v]
end Go.Ab
namespace Go.Ab
open Go.Conc Go.ConcN
structure Same (R:Nat→Prop) (W w:World):Prop where
 os:w.os=W.os
 tape:w.tape=W.tape
 output:w.output=W.output
 block:∀ b,R b→w.heap[b]?=W.heap[b]?
theorem Same.refl (R:Nat→Prop) (W:World):Same R W W:=⟨rfl,rfl,rfl,fun _ _=>rfl⟩
theorem Same.keep {R F:Nat→Prop} {W w w1:World} (h:Same R W w) (k:Keep R F w w1):Same R W w1:=⟨k.os.trans h.os,k.tape.trans h.tape,k.output.trans h.output,fun b hb=>(k.block b (.inr hb)).trans (h.block b hb)⟩
theorem Same.back {R F:Nat→Prop} {W w w1:World} (h:Same R W w1) (k:Keep R F w w1):Same R W w:=⟨k.os.symm.trans h.os,k.tape.symm.trans h.tape,k.output.symm.trans h.output,fun b hb=>(k.block b (.inr hb)).symm.trans (h.block b hb)⟩
theorem Same.trans {R R1:Nat→Prop} {W W1 w:World} (h:Same R W W1) (k:Same R1 W1 w) (hr:∀ b,R b→R1 b):Same R W w:=⟨k.os.trans h.os,k.tape.trans h.tape,k.output.trans h.output,fun b hb=>(k.block b (hr b hb)).trans (h.block b hb)⟩
theorem zb8 {a:MemAct} {x:Touch} {B:Nat} (h:a.touch?=some x) (hl:a.low B):x.loc.low B:=by
 cases a with
 | access e=>simp only [MemAct.touch?,Option.some.injEq] at h;subst h;exact hl
 | mark m=>cases m<;>simp [MemAct.touch?] at h<;>subst h<;>exact hl
 | _=>simp [MemAct.touch?] at h
section
variable {Sh:Go.Loc→Prop} {Own Own' Rd Rd':Nat→Go.Loc→Prop} {t u:Trace} {j:Nat}
def Fresh (t:Trace) (l:Go.Loc):Prop:=∀ i a,touchAt t i=some a→a.loc≠l
theorem CT.grow (h:CT Sh Own Rd t j) (h1:∀ k l,Own k l→Own' k l) (h2:∀ k l,Own' k l→Own k l∨Fresh t l):CT Sh Own' Rd t j:=
 ⟨h.quiet,fun k k1 kj l hl=>(h2 k l hl).elim (h.own k k1 kj l) (fun hf i a ha e=>absurd e (hf i a ha)),h.rd,
  fun l hs hl=>h.free l hs fun k k1 kj=>⟨fun ho=>(hl k k1 kj).1 (h1 k l ho),(hl k k1 kj).2⟩,fun l hs hl=>h.mine l hs fun k k1 kj ho=>hl k k1 kj (h1 k l ho),h.nr,h.gs⟩
theorem CT.congr (h:CT Sh Own Rd t j) (h1:∀ k,1≤k→k≤j→∀ l,Own' k l↔Own k l) (h2:∀ k,1≤k→k≤j→∀ l,Rd' k l↔Rd k l):CT Sh Own' Rd' t j:=
 ⟨h.quiet,fun k k1 kj l hl=>h.own k k1 kj l ((h1 k k1 kj l).1 hl),fun k k1 kj l hl=>h.rd k k1 kj l ((h2 k k1 kj l).1 hl),
  fun l hs hl=>h.free l hs fun k k1 kj=>⟨fun ho=>(hl k k1 kj).1 ((h1 k k1 kj l).2 ho),fun ho=>(hl k k1 kj).2 ((h2 k k1 kj l).2 ho)⟩,fun l hs hl=>h.mine l hs fun k k1 kj ho=>hl k k1 kj ((h1 k k1 kj l).2 ho),h.nr,h.gs⟩
theorem CT.share {Sh':Go.Loc→Prop} (h:CT Sh Own Rd t j) (h1:∀ l,Sh l→Sh' l) (h2:∀ l,Sh' l→Sh l∨Fresh t l):CT Sh' Own Rd t j:=
 ⟨fun i op x hi hx hs=>(h2 _ hs).elim (h.quiet i op x hi hx) (fun hf=>absurd rfl (hf i x (by rw [touchAt_of hi];exact hx))),h.own,h.rd,
  fun l hs hl=>h.free l (fun x=>hs (h1 l x)) hl,fun l hs hl=>h.mine l (fun x=>hs (h1 l x)) hl,h.nr,h.gs⟩
end
structure TR (Sh:Go.Loc→Prop) (Own Rd:Nat→Go.Loc→Prop) (base n B:Nat) (t:Trace):Prop where
 ct:CT Sh Own Rd t n
 seen:∀ op∈t,op.act.low B
 kn:∀ i a g,touchAt t i=some a→t.g? i=some g→g≤base→Knows t 0 i∨Sh a.loc
 ov:∀ i g,t.g? i=some g→g≠0→g≤base→t.counts i→∃ j,t.g? j=some 0∧HappensBefore t i j
theorem g?_of {t:Trace} {i:Nat} {op:MemOp} (h:t[i]?=some op):t.g? i=some op.g:=by simp [Trace.g?,h]
theorem of_g? {t:Trace} {i g:Nat} (h:t.g? i=some g):∃ op,t[i]?=some op∧op.g=g:=Option.map_eq_some_iff.1 h
theorem QY {t:Trace} {i:Nat} (h:t.counts i):∃ x,touchAt t i=some x:=⟨h.choose,h.choose_spec.1⟩
section
variable {Sh:Go.Loc→Prop} {Own Own' Rd Rd':Nat→Go.Loc→Prop} {base n B B':Nat} {t u:Trace}
theorem TR.fresh (h:TR Sh Own Rd base n B t) {l:Go.Loc} (hl:¬l.low B):Fresh t l:=by
 rintro i a ha rfl;obtain⟨op,ho,hoa⟩:=touch_of ha;exact hl (zb8 hoa (h.seen op (Array.mem_of_getElem? ho)))
theorem TR.more (h:TR Sh Own Rd base n B t) (hB:B≤B'):TR Sh Own Rd base n B' t:=⟨h.ct,fun op hop=>MemAct.low_mono hB (h.seen op hop),h.kn,h.ov⟩
theorem TR.append {n':Nat} (h:TR Sh Own Rd base n B t) (hc:CT Sh Own' Rd' (t++u) n') (hl:∀ op∈u,op.act.low B) (hu:∀ op∈u,op.g=0∨op.act.touch?=none∨base<op.g):TR Sh Own' Rd' base n' B (t++u):=by
 refine⟨hc,seen_app h.seen hl,fun i a g ha hg hb=>?_,fun i g hg h0 hb hct=>?_⟩
 ·obtain⟨x,hx,hxa⟩:=touch_of ha;obtain⟨x',hx',hxg⟩:=of_g? hg;obtain rfl:x'=x:=Option.some.inj (hx'.symm.trans hx);rcases getElem?_append_cases hx with⟨hi,hi'⟩|⟨_,hxu⟩
  ·exact (h.kn i a g (by rw [touchAt_of hi'];exact hxa) (by rw [g?_of hi',hxg]) hb).imp (·.app u) id
  ·rcases hu x' hxu with h0|h0|h0
   ·have:=knows_own hx;rw [h0] at this;exact .inl this
   ·rw [h0] at hxa;cases hxa
   ·omega
 ·obtain⟨x,hx,hxg⟩:=of_g? hg;rcases getElem?_append_cases hx with⟨hi,hi'⟩|⟨_,hxu⟩
  ·obtain⟨k,hk,hh⟩:=h.ov i g (by rw [g?_of hi',hxg]) h0 hb ((counts_old hi).1 hct);obtain⟨y,hy,hyg⟩:=of_g? hk;exact⟨k,by rw [g?_old (lt_size_of_getElem? hy)];exact hk,hb_app u hh⟩
  ·rcases hu x hxu with h1|h1|h1
   ·omega
   ·obtain⟨a,ha⟩:=QY hct;rw [touchAt_of hx,h1] at ha;cases ha
   ·omega
theorem TR.app0 (A:Apart Sh Own Rd) (h:TR Sh Own Rd base n B t) (hu:∀ op∈u,Ok0 Sh Own Rd n op) (hl:∀ op∈u,op.act.low B):TR Sh Own Rd base n B (t++u):=
 h.append (h.ct.app0 A hu) hl fun op hop=>.inl (hu op hop).1
theorem TR.appW (A:Apart Sh Own Rd) (h:TR Sh Own Rd base n B t) {k:Nat} (hb:base<k) (hk:k≤n) (hu:∀ op∈u,OkW Sh Own Rd k op) (hl:∀ op∈u,op.act.low B):TR Sh Own Rd base n B (t++u):=
 h.append (h.ct.appW A (by omega) hk hu) hl fun op hop=>.inr (.inr (by rw [(hu op hop).1];exact hb))
theorem TR.appMute (A:Apart Sh Own Rd) (h:TR Sh Own Rd base n B t) {k:Nat} (h1:1≤k) (hk:k≤n) (hu:∀ op∈u,op.g=k∧op.act.touch?=none) (hl:∀ op∈u,op.act.low B):TR Sh Own Rd base n B (t++u):=
 h.append (h.ct.appW A h1 hk fun op hop=>⟨(hu op hop).1,fun x hx=>by rw [(hu op hop).2] at hx;cases hx⟩) hl fun op hop=>.inr (.inl (hu op hop).2)
theorem TR.grow (h:TR Sh Own Rd base n B t) (h1:∀ k l,Own k l→Own' k l) (h2:∀ k l,Own' k l→Own k l∨¬l.low B):TR Sh Own' Rd base n B t:=
 ⟨CT.grow h.ct h1 fun k l hl=>(h2 k l hl).imp id h.fresh,h.seen,h.kn,h.ov⟩
theorem TR.congr (h:TR Sh Own Rd base n B t) (h1:∀ k,1≤k→k≤n→∀ l,Own' k l↔Own k l) (h2:∀ k,1≤k→k≤n→∀ l,Rd' k l↔Rd k l):TR Sh Own' Rd' base n B t:=
 ⟨CT.congr h.ct h1 h2,h.seen,h.kn,h.ov⟩
theorem TR.share {Sh':Go.Loc→Prop} (h:TR Sh Own Rd base n B t) (h1:∀ l,Sh l→Sh' l) (h2:∀ l,Sh' l→Sh l∨¬l.low B):TR Sh' Own Rd base n B t:=
 ⟨CT.share h.ct h1 fun l hl=>(h2 l hl).imp id h.fresh,h.seen,fun i a g ha hg hb=>(h.kn i a g ha hg hb).imp id (h1 _),h.ov⟩
theorem TR.fork (A:Apart Sh Own Rd) (h:TR Sh Own Rd base n B t) {x y:MemOp} (hx:x.g=0∧x.act=.go (n+1)) (hy:y.g=n+1∧y.act=.start) (h0:Deaf t 0=0):TR Sh Own Rd base (n+1) B (t++#[x,y]):=by
 refine h.append (h.ct.fork A hx hy h0) (fun op hop=>?_) (fun op hop=>?_)
 ·simp only [List.mem_toArray,List.mem_cons,List.not_mem_nil,or_false] at hop;rcases hop with rfl|rfl
  ·rw [hx.2];trivial
  ·rw [hy.2];trivial
 ·simp only [List.mem_toArray,List.mem_cons,List.not_mem_nil,or_false] at hop;rcases hop with rfl|rfl
  ·exact .inl hx.1
  ·exact .inr (.inl (by rw [hy.2];rfl))
structure RelS (Sh:Go.Loc→Prop) (a:Addr) (t:Trace) (k r:Nat):Prop where
 by_:RelBy a t k r
 aft:∀ i x,r<i→t.g? i=some k→touchAt t i=some x→Sh x.loc
theorem RelS.appNot {a:Addr} {k r:Nat} (h:RelS Sh a t k r) (hu:∀ op∈u,op.g≠k):RelS Sh a (t++u) k r:=by
 refine⟨h.by_.appNot hu,fun i x hr hg hx=>?_⟩;obtain⟨op,ho,hog⟩:=of_g? hg;rcases getElem?_append_cases ho with⟨hi,hi'⟩|⟨_,hou⟩
 ·exact h.aft i x hr (by rw [g?_of hi',hog]) (by rw [←touchAt_old (u:=u) hi];exact hx)
 ·exact absurd hog (hu op hou)
theorem RelS.app {a:Addr} {k r:Nat} (h:RelS Sh a t k r) (hb:RelBy a (t++u) k r) (hu:∀ op∈u,∀ x,op.act.touch?=some x→Sh x.loc):RelS Sh a (t++u) k r:=by
 refine⟨hb,fun i x hr hg hx=>?_⟩;obtain⟨op,ho,hox⟩:=touch_of hx;rcases getElem?_append_cases ho with⟨hi,hi'⟩|⟨_,hou⟩
 ·exact h.aft i x hr (by rw [←g?_old (u:=u) hi];exact hg) (by rw [touchAt_of hi'];exact hox)
 ·exact hu op hou x hox
theorem RelS.new {a:Addr} {k:Nat} (hd:Deaf t k=0) (fn:FuncId) (pos:String):RelS Sh a (t++MemOp.ofEvents k fn pos #[Go.ConcR.mk (.releaseMerge a)]) k t.size:=by
 refine⟨RelBy.new hd fn pos,fun i x hr hg hx=>?_⟩;obtain⟨op,ho,hox⟩:=touch_of hx;have:=lt_size_of_getElem? ho
 simp [Go.Conc.ofEvents_eq] at this
 omega
theorem TR.join (h:TR Sh Own Rd base n B t) (hbn:base≤n) {a:Addr} {q:Nat} (hn:NoRelease a t) (hq:t.act? q=some (.mark (.acquire a))) (hg:t.g? q=some 0) (hh:t.heard q)
  (hr:∀ k,base<k→k≤n→∃ r,RelS Sh a t k r∧r<q) (h1:∀ k,1≤k→k≤n→∀ l,¬Own' k l) (h2:∀ k,1≤k→k≤n→∀ l,¬Rd' k l):TR Sh Own' Rd' n n B t:=by
 have edge:∀ {k r},RelS Sh a t k r→r<q→HappensBefore t r q:=fun hk hrq=>.single (.inr ⟨.marked hrq (.inr hk.by_.act) hq (fun k _ _=>hn k),hk.by_.heard,hh⟩);have hz:∃ z,t[q]?=some z∧z.g=0:=of_g? hg;have upTo:∀ {k r i},RelS Sh a t k r→r<q→t.g? i=some k→i≤r→HappensBefore t i q:=by
  intro k r i hk hrq hgi hle;rcases Nat.lt_or_ge i r with hlt|hge
  ·exact .trans (.single (.inl ⟨hlt,k,hgi,hk.by_.g⟩)) (edge hk hrq)
  ·obtain rfl:i=r:=by omega
   exact edge hk hrq
 have kn:∀ i x g,touchAt t i=some x→t.g? i=some g→Knows t 0 i∨Sh x.loc:=by
  intro i x g hx hgi
  by_cases hb:g≤base
  ·exact h.kn i x g hx hgi hb
  ·obtain⟨op,ho,hog⟩:=of_g? hgi;have hgn:=h.ct.gs i op ho;obtain⟨r,hk,hrq⟩:=hr g (by omega) (by omega);rcases Nat.lt_or_ge r i with hlt|hge
   ·exact .inr (hk.aft i x hlt hgi hx)
   ·obtain⟨z,hz,hzg⟩:=hz;exact .inl ⟨q,z,hz,hzg,.inr (upTo hk hrq hgi hge)⟩
 have perm:∀ l,¬Sh l→Perm t 0 l:=fun l hl i x hx e=>by
  obtain⟨op,ho,_⟩:=touch_of hx;exact (kn i x op.g hx (g?_of ho)).resolve_right (by rw [e];exact hl)
 refine⟨⟨h.ct.quiet,fun k k1 kj l hl=>absurd hl (h1 k k1 kj l),fun k k1 kj l hl=>absurd hl (h2 k k1 kj l),fun l hs _=>perm l hs,fun l hs _=>.of (perm l hs),h.ct.nr,h.ct.gs⟩,h.seen,fun i x g hx hgi _=>kn i x g hx hgi,fun i g hgi h0 hgn hct=>?_⟩
 by_cases hb:g≤base
 ·exact h.ov i g hgi h0 hb hct
 ·obtain⟨r,hk,hrq⟩:=hr g (by omega) hgn;have hle:i≤r:=Nat.le_of_not_lt fun hlt=>hk.by_.after i hlt hgi hct;exact⟨q,hg,upTo hk hrq hgi hle⟩
theorem TR.over (h:TR Sh Own Rd n n B t):t.HandedOver:=fun i g hgi h0 hct=>by
 obtain⟨op,ho,hog⟩:=of_g? hgi;exact h.ov i g hgi h0 (by rw [←hog];exact h.ct.gs i op ho) hct
theorem TR.nil:TR Sh Own Rd 0 0 B #[]:=by
 have no:∀ i a,touchAt #[] i≠some a:=fun i a ha=>by simp [touchAt,Trace.act?] at ha
 exact⟨⟨fun i op x hi=>by simp at hi,fun k k1 k0=>by omega,fun k k1 k0=>by omega,fun l _ _ i a ha=>absurd ha (no i a),fun l _ _ i a ha=>absurd ha (no i a),fun said=>noRace_nil said,fun i op hi=>by simp at hi⟩,
  by simp,fun i a g ha=>absurd ha (no i a),fun i g hg=>by simp [Trace.g?] at hg⟩
end
end Go.Ab
namespace Go.Ab
open Go.Conc Go.ConcN
open Go.ConcR (KK wgBlock WgAt stA smA rd wr mk Payload DC0 Bk g_of_ofEvents bk_of_mute again_blocked)
def Wins (P:Program) (Post:Value→World→Prop) (m:Machine) (t:Trace):Prop:=
 ∃ N last o w' t',runNT P (N+1) m t=(.ended o w',t')∧runN P N m=.next last∧step P last=.ended o w'∧Conc.Good P Post last o w' t'
theorem Wins.next {P:Program} {Post:Value→World→Prop} {m m':Machine} {t ops:Trace} (hs:stepT P m=(.next m',ops)) (h:Wins P Post m' (t++ops)):Wins P Post m t:=by
 obtain⟨n,last,o,w,t',h1,h2,h3,h4⟩:=h;exact⟨n+1,last,o,w,t',by rw [runNT_succ_next hs];exact h1,by rw [runN_succ_next hs];exact h2,h3,h4⟩
theorem Wins.ended {P:Program} {Post:Value→World→Prop} {m:Machine} {o:Outcome} {w:World} {t ops:Trace} (hs:stepT P m=(.ended o w,ops)) (h:Conc.Good P Post m o w (t++ops)):Wins P Post m t:=
 ⟨0,m,o,w,t++ops,by simp [runNT,hs],rfl,by simp [step,hs],h⟩
inductive Tree|leaf|node (f:World→Tree)
inductive Sub:Tree→Tree→Prop
 | mk (f:World→Tree) (w:World):Sub (f w) (.node f)
theorem Sub.wf:WellFounded Sub:=⟨fun t=>by
 induction t with
 | leaf=>exact⟨_,fun y h=>nomatch h⟩
 | node f ih=>exact⟨_,fun y h=>by cases h;exact ih _⟩⟩
structure CD where
 stage:Nat
 tree:Tree
 fuel:Nat
 deaf:Nat
 F:Nat→Prop
def CLt (a b:CD):Prop:=a.stage<b.stage∨(a.stage=b.stage∧(Sub a.tree b.tree∨(a.tree=b.tree∧a.fuel<b.fuel)))
theorem CLt.wf:WellFounded CLt:=by
 refine Subrelation.wf ?_ (InvImage.wf (fun c:CD=>(c.stage,c.tree,c.fuel)) (Prod.lex Nat.lt_wfRel (Prod.lex ⟨Sub,Sub.wf⟩ Nat.lt_wfRel)).wf);rintro⟨s,t,f,_,_⟩ ⟨s',t',f',_,_⟩ h;rcases h with h|⟨h,h1|⟨h1,h2⟩⟩
 ·exact Prod.Lex.left _ _ h
 ·simp only at h;subst h;exact Prod.Lex.right _ (Prod.Lex.left _ _ h1)
 ·simp only at h h1;subst h;subst h1;exact Prod.Lex.right _ (Prod.Lex.right _ h2)
def jq (n:Nat) (D' D:Nat→CD):Prop:=∃ i,i<n∧CLt (D' i) (D i)∧∀ k,k≠i→D' k=D k
theorem jq.acc : ∀ n D, Acc (jq n) D := by
  intro n
  induction n with
  | zero => exact fun D => ⟨_, fun y ⟨i, hi, _⟩ => by omega⟩
  | succ n ih =>
    suffices h : ∀ x : CD, ∀ D : Nat → CD, D n = x → Acc (jq (n + 1)) D from fun D => h _ D rfl
    intro x
    induction x using CLt.wf.induction with
    | _ x hx =>
      intro D hD
      induction ih D with
      | intro D _ hin =>
        refine ⟨_, fun y ⟨i, hi, hl, ho⟩ => ?_⟩
        by_cases e : i = n
        · subst e; exact hx _ (hD ▸ hl) y rfl
        · exact hin y ⟨i, by omega, hl, ho⟩ (by rw [ho n (fun x => e x.symm)]; exact hD)
theorem jq.upd {n i:Nat} {D:Nat→CD} {c:CD} (hi:i<n) (h:CLt c (D i)):jq n (ConcN.upd D i c) D:=⟨i,hi,by rw [ConcN.upd_same];exact h,fun k hk=>ConcN.upd_ne D c hk⟩
structure Env where
 base:Nat
 B0:Nat
 R:Nat→Prop
 Shun:Nat→Prop
 X:Nat→Prop
 Wg:Nat
 Mine:Nat→Nat→Nat→Prop
 Res:Nat→(Nat→Prop)→World→Prop
 xn:Nat→Nat
 xt:Nat→TypeId × (Nat × Nat)
 W0:World
structure RelW (ty:TypeId) (E:Env) (i:Nat) (F:Nat→Prop) (w w1:World):Prop where
 keep:Keep E.R F w w1
 cells:∀ b o,E.Mine i b o→w1.cell? ⟨b,o,none⟩=w.cell? ⟨b,o,none⟩
 live:WgLive ty E.Wg w→WgLive ty E.Wg w1
 shape:∀ b,E.X b→∀ cs,∀ y:TypeId × (Nat × Nat),w.heap[b]?=some (.cells cs y.1 y.2)→∃ cs',w1.heap[b]?=some (.cells cs' y.1 y.2)∧cs'.size=cs.size
theorem RelW.refl {ty:TypeId} {E:Env} {i:Nat} {F:Nat→Prop} (w:World):RelW ty E i F w w:=⟨.refl _ _ w,fun _ _ _=>rfl,id,fun b _ cs y h=>⟨cs,h,rfl⟩⟩
theorem RelW.trans {ty:TypeId} {E:Env} {i:Nat} {F:Nat→Prop} {a b c:World} (h:RelW ty E i F a b) (k:RelW ty E i F b c):RelW ty E i F a c:=
 ⟨h.keep.trans k.keep,fun x o hx=>(k.cells x o hx).trans (h.cells x o hx),fun hl=>k.live (h.live hl),fun x hx cs y e=>by
  obtain⟨cs',e',hs⟩:=h.shape x hx cs y e;obtain⟨cs2,e2,hs2⟩:=k.shape x hx cs' y e';exact⟨cs2,e2,hs2.trans hs⟩⟩
theorem RelW.mono {ty:TypeId} {E:Env} {i:Nat} {F F':Nat→Prop} {a b:World} (hf:∀ x,F x→F' x) (h:RelW ty E i F' a b):RelW ty E i F a b:=⟨h.keep.mono hf,h.cells,h.live,h.shape⟩
theorem RelW.at {ty:TypeId} {E:Env} {i:Nat} {F:Nat→Prop} (w:World) (d:Nat):RelW ty E i F w (w.at d):=
 ⟨⟨rfl,rfl,rfl,Nat.le_refl _,fun _ _=>rfl⟩,fun _ _ _=>rfl,id,fun b _ cs y h=>⟨cs,h,rfl⟩⟩
structure RelZ (E:Env) (w w1:World):Prop where
 keep:Keep E.R (fun _=>False) w w1
 shape:∀ b,E.X b→∀ cs,∀ y:TypeId × (Nat × Nat),w.heap[b]?=some (.cells cs y.1 y.2)→∃ cs',w1.heap[b]?=some (.cells cs' y.1 y.2)∧cs'.size=cs.size
theorem RelW.z {ty:TypeId} {E:Env} {i:Nat} {w w1:World} (h:RelW ty E i (fun _=>False) w w1):RelZ E w w1:=⟨h.keep,h.shape⟩
structure Env.Good0 (ty:TypeId) (E:Env):Prop where
 rs:∀ b,E.R b→¬E.Shun b∧¬E.X b∧b<E.B0
 xs:∀ b,E.X b→¬E.Shun b∧b<E.B0
 ss:∀ b,E.Shun b→b<E.B0
 wg0:E.base=0∨E.Shun E.Wg
 mine:∀ i b o,E.Mine i b o→E.X b∧E.base≤i
 inj:∀ i k b o,E.Mine i b o→E.Mine k b o→i=k
 res:∀ i F w w1,RelW ty E i F w w1→E.Res i F w→E.Res i F w1
 more:∀ i F F' w,(∀ b,F b→F' b)→E.Res i F w→E.Res i F' w
structure Env.Good (ty:TypeId) (E:Env):Prop extends Env.Good0 ty E where
 wg:E.Shun E.Wg
theorem Env.Good0.up {ty:TypeId} {E:Env} (e:E.Good0 ty) (h:0<E.base):E.Good ty:=⟨e,e.wg0.resolve_left (by omega)⟩
def ShL (E:Env):Go.Loc→Prop:=fun l=>∃ a,l=.cell a∧E.Shun a.block
def inF (F R:Nat→Prop):Go.Loc→Prop
 | .cell a=>F a.block∧¬R a.block
 | .obj r=>F r∧¬R r
 | _=>False
def inR (R:Nat→Prop):Go.Loc→Prop
 | .cell a=>R a.block
 | .obj r=>R r
 | _=>False
def Own (E:Env) (D:Nat→CD) (n k:Nat) (l:Go.Loc):Prop:=1≤k∧k≤n∧(inF (D (k - 1)).F E.R l∨∃ b o,l=.cell ⟨b,o,none⟩∧E.Mine (k - 1) b o)
def Rd (E:Env) (k:Nat) (l:Go.Loc):Prop:=E.base<k∧inR E.R l
section
variable (P:Program) (ty:TypeId) (E:Env) [Payload]
def no:Nat→Go.Loc→Prop:=fun _ _=>False
def XR (i:Nat) (F:Nat→Prop) (g:Goroutine) (w:World):Prop:=
 E.Res i F w∧∃ C nC ci v,F C∧¬E.R C∧AtR0 P ty E.Wg C nC 0 (ci+1) v g w
def WayT (i:Nat):Tree→(Nat→Prop)→Goroutine→World→Prop
 | .leaf,F,g,w=>∀ w1,RelW ty E i F w w1→XR P ty E i F g w1
 | .node f,F,g,w=>(∀ w1,RelW ty E i F w w1→XR P ty E i F g w1)∨(g.status=.running∧∀ w1,RelW ty E i F w w1 →
   (∃ g' w' es F',stepG P false g w1=.go g' w' es∧g'.status=.running∧Does E.R F w1 w' es F'∧WayT i (f w1) F' g' w') ∨
   (∃ g' b o v cs,∃ y:TypeId × (Nat × Nat),E.Mine i b o∧w1.heap[b]?=some (.cells cs y.1 y.2)∧o<cs.size∧stepG P false g w1=.go g' (w1.setCell ⟨b,o,none⟩ v) #[⟨.cell ⟨b,o,none⟩,true,false⟩]∧g'.status=.running ∧
    WayT i (f w1) F g' (w1.setCell ⟨b,o,none⟩ v)))
inductive Sit (i:Nat):CD→Goroutine→World→Prop
 | way {tr:Tree} {F:Nat→Prop} {g:Goroutine} {w:World}:E.base≤i→WayT P ty E i tr F g w→Sit i ⟨7,tr,0,0,F⟩ g w
 | lib {s m d C nC ci:Nat} {v:Value} {F:Nat→Prop} {g:Goroutine} {w:World}:E.base≤i→2≤s→s≤6→F C→¬E.R C→WSit P ty E.Wg C nC no no 0 (ci+1) v s m d g w→Sit i ⟨s,.leaf,m,d,F⟩ g w
 | quit {m d:Nat} {F:Nat→Prop} {g:Goroutine} {w:World}:QuitsD P m d g→Sit i ⟨1,.leaf,m,d,F⟩ g w
end
section
variable {P:Program} {ty:TypeId} {E:Env} [Payload] {i:Nat} {F F':Nat→Prop} {g:Goroutine} {w w1:World}
theorem RelW.rw {C nC ci:Nat} (h:RelW ty E i F w w1) (hC:F C):RW ty E.Wg C nC 0 ci w w1:=
 ⟨fun b hb=>by omega,h.live,fun ⟨cs,hc,hn⟩=>⟨cs,(h.keep.block C (.inl hC)).trans hc,hn⟩,cell_of_block (h.keep.block C (.inl hC)) ci⟩
theorem WayT.rely {tr:Tree} (h:WayT P ty E i tr F g w) (hr:RelW ty E i F w w1):WayT P ty E i tr F g w1:=by
 cases tr with
 | leaf=>exact fun w2 h2=>h w2 (hr.trans h2)
 | node f=>exact h.imp (fun h w2 h2=>h w2 (hr.trans h2)) (fun ⟨h0,h⟩=>⟨h0,fun w2 h2=>h w2 (hr.trans h2)⟩)
theorem WayT.running {tr : Tree} (h : WayT P ty E i tr F g w) : g.status = .running := by
  cases tr with
  | leaf => obtain ⟨_, C, nC, ci, v, _, _, hk⟩ := h w (.refl w); exact hk.1
  | node f =>
    rcases h with h | h
    · obtain ⟨_, C, nC, ci, v, _, _, hk⟩ := h w (.refl w); exact hk.1
    · exact h.1
theorem Does.more {R F F' G:Nat→Prop} {w w':World} {es:Array Event} (h:Does R F w w' es F') (hf:∀ b,F b→G b):Does R G w w' es F':=
 ⟨h.os,h.tape,h.output,h.size,fun b hb hn=>h.block b hb fun x=>hn ⟨hf b x.1,x.2⟩,fun e he=>(h.evs e he).mono hf,fun b h1 h2=>hf b (h.rng b h1 h2),fun b hb=>(h.lt b hb).imp (hf b) id⟩
theorem WayT.mono (hres : ∀ F F' w, (∀ b, F b → F' b) → E.Res i F w → E.Res i F' w) : ∀ {tr : Tree} {F F' : Nat → Prop} {g : Goroutine} {w : World}, (∀ b, F b → F' b) → WayT P ty E i tr F g w → WayT P ty E i tr F' g w := by
  have hend : ∀ {F F' : Nat → Prop} {g : Goroutine} {w : World}, (∀ b, F b → F' b) → (∀ w1, RelW ty E i F w w1 → XR P ty E i F g w1) → ∀ w1, RelW ty E i F' w w1 → XR P ty E i F' g w1 := by
    intro F F' g w hf h w1 h1
    obtain ⟨a, C, nC, ci, v, hC, hR, hk⟩ := h w1 (h1.mono hf)
    exact ⟨hres _ _ _ hf a, C, nC, ci, v, hf C hC, hR, hk⟩
  intro tr
  induction tr with
  | leaf => exact fun hf h => hend hf h
  | node f ih =>
    intro F F' g w hf h
    refine h.imp (hend hf) fun ⟨h0, h⟩ => ⟨h0, fun w1 h1 => ?_⟩
    rcases h w1 (h1.mono hf) with ⟨g', w', es, F2, a, b, c, d⟩ | ⟨g', b, o, v, cs, y, a1, a2, a3, a4, a5, a6⟩
    · exact .inl ⟨g', w', es, F2, a, b, c.more hf, d⟩
    · exact .inr ⟨g', b, o, v, cs, y, a1, a2, a3, a4, a5, ih w1 hf a6⟩
theorem Sit.rely {c:CD} (h:Sit P ty E i c g w) (hr:RelW ty E i c.F w w1):Sit P ty E i c g w1:=by
 cases h with
 | way hb h=>exact .way hb (h.rely hr)
 | lib hb h1 h2 hC hR h=>exact .lib hb h1 h2 hC hR (h.rely (hr.rw hC))
 | quit h=>exact .quit h
theorem Sit.status {c:CD} (h:Sit P ty E i c g w):g.status=.running∨g.status=.finished:=by
 cases h with
 | way hb h=>exact .inl h.running
 | lib hb h1 h2 hC hR h=>exact h.status
 | quit h=>exact h.status
theorem Sit.runs {c:CD} (h:Sit P ty E i c g w) (hs:c.stage≠1):g.status=.running:=by
 cases h with
 | way hb h=>exact h.running
 | lib hb h1 h2 hC hR h=>exact h.running_of hs
 | quit h=>exact absurd rfl hs
theorem Sit.woken {c:CD} (h:Sit P ty E i c g w) (a a':Goroutine) (w':World):woken P a a' w' g=g:=by
 unfold Go.Conc.woken
 split
 ·exact again_running _ h.status
 ·rfl
end
end Go.Ab
namespace Go.Ab
open Go.Conc Go.ConcN
open Go.ConcR (KK wgBlock WgAt stA smA rd wr mk Payload DC0 Bk g_of_ofEvents bk_of_mute again_blocked ofEvent_loc_mark)
section
variable {ty:TypeId} {E:Env} {i:Nat} {F G:Nat→Prop} {w w':World}
theorem Xp {R F':Nat→Prop} {es:Array Event} (h:Does R F w w' es F') (hG:∀ b,G b→F b→R b) (hl:∀ b,G b∨R b→b<w.heap.size):Keep R G w w':=
 ⟨h.os,h.tape,h.output,h.size,fun b hb=>h.block b (hl b hb) fun hn=>hn.2 (hb.elim (fun x=>hG b x hn.1) id)⟩
theorem ql {R:Nat→Prop} {c:Nat} (h:Aside c w w') (hG:∀ b,G b∨R b→b≠c):Keep R G w w':=⟨h.os,h.tape,h.output,Nat.le_of_eq h.size.symm,fun b hb=>h.block b (hG b hb)⟩
theorem jO (e:E.Good ty) {F':Nat→Prop} {es:Array Event} (h:Does E.R F w w' es F') (hB:E.B0≤w.heap.size) (hG:∀ b,G b→F b→E.R b) (hl:∀ b,G b→b<w.heap.size) (hF:∀ b,F b→¬E.Shun b∧¬E.X b):RelW ty E i G w w':=by
 have bl:∀ b,(E.Shun b∨E.X b)→w'.heap[b]?=w.heap[b]?:=fun b hb=>h.block b (Nat.lt_of_lt_of_le (hb.elim (e.ss b) fun x=>(e.xs b x).2) hB) fun hn=>hb.elim (hF b hn.1).1 (hF b hn.1).2;refine⟨Xp h hG fun b hb=>hb.elim (hl b) fun x=>Nat.lt_of_lt_of_le (e.rs b x).2.2 hB,fun b o hm=>cell_of_block (bl b (.inr (e.mine i b o hm).1)) o,fun ⟨st,sm,hw⟩=>⟨st,sm,hw.of_block (bl _ (.inl e.wg))⟩,fun b hb cs y hc=>⟨cs,(bl b (.inr hb)).trans hc,rfl⟩⟩
theorem Xq (e:E.Good0 ty) {F':Nat→Prop} {es:Array Event} (h:Does E.R F w w' es F') (hB:E.B0≤w.heap.size) (hF:∀ b,F b→¬E.Shun b∧¬E.X b):RelZ E w w':=
 ⟨Xp h (fun b hb=>hb.elim) fun b hb=>hb.elim (fun x=>x.elim) fun x=>Nat.lt_of_lt_of_le (e.rs b x).2.2 hB,fun b hb cs y hc=>⟨cs,(h.block b (Nat.lt_of_lt_of_le (e.xs b hb).2 hB) fun hn=>(hF b hn.1).2 hb).trans hc,rfl⟩⟩
theorem jr (e:E.Good ty) (h:Aside E.Wg w w') (hl:WgLive ty E.Wg w') (hG:∀ b,G b→¬E.Shun b):RelW ty E i G w w':=
 ⟨ql h fun b hb hc=>hb.elim (fun x=>hG b x (hc▸e.wg)) fun x=>(e.rs b x).1 (hc▸e.wg),fun b o hm=>cell_of_block (h.block b fun hc=>(e.xs b (e.mine i b o hm).1).1 (hc▸e.wg)) o,fun _=>hl,
  fun b hb cs y hc=>⟨cs,(h.block b fun hx=>(e.xs b hb).1 (hx▸e.wg)).trans hc,rfl⟩⟩
theorem QZ (e:E.Good ty) {k b o:Nat} {v:Value} (hm:E.Mine k b o) (hk:i≠k) {cs:Array Value} {y:TypeId × (Nat × Nat)} (hc:w.heap[b]?=some (.cells cs y.1 y.2)) (hG:∀ b,G b→¬E.X b):RelW ty E i G w (w.setCell ⟨b,o,none⟩ v):=by
 have hX:=(e.mine k b o hm).1;have ha:=aside_setCell w ⟨b,o,none⟩ v;refine⟨ql ha fun c hb hc=>hb.elim (fun x=>hG c x (by rw [hc];exact hX)) fun x=>(e.rs c x).2.1 (by rw [hc];exact hX),fun b' o' hm'=>?_,fun ⟨st,sm,hw⟩=>⟨st,sm,hw.of_block (ha.block _ fun hx=>(e.xs b hX).1 (by have:E.Wg=b:=hx;exact this▸e.wg))⟩,fun b' hb cs' y' hc'=>?_⟩
 ·exact World.cell?_setCell_other w _ _ v fun hx=>hk (by cases hx;exact e.inj i k b o hm' hm)
 ·by_cases hx:b'=b
  ·subst hx;exact⟨cs'.setIfInBounds o v,by simp [World.setCell,Array.getElem?_modify,hc'],by simp⟩
  ·exact⟨cs',(ha.block b' hx).trans hc',rfl⟩
end
structure Crew (P:Program) (ty:TypeId) (E:Env) [Payload] (n d0:Nat) (gs:Array Goroutine) (w:World) (t:Trace) (D:Nat→CD):Prop where
 size:gs.size=n+1
 bn:E.base≤n
 wk:∀ i,i<n→∃ g,gs[i+1]?=some g∧Sit P ty E i (D i) g w
 old:∀ i,i<E.base→(D i).stage=1∧∀ b,¬(D i).F b
 tr:TR (ShL E) (Own E D n) (Rd E) E.base n w.heap.size t
 norel:NoRelease (stA E.Wg) t
 deaf0:Deaf t 0=d0
 deafW:∀ i,i<n→Deaf t (i+1)=(D i).deaf
 rel:∀ i,E.base≤i→i<n→(D i).stage≤6→∃ r,RelS (ShL E) (stA E.Wg) t (i+1) r
 res:∀ i,E.base≤i→i<n→(D i).stage≤6→E.Res i (D i).F w
 B0:E.B0≤w.heap.size
 xsh:∀ b,E.X b→∃ cs,w.heap[b]?=some (.cells cs (E.xt b).1 (E.xt b).2)∧cs.size=E.xn b
 low:∀ i,i<n→∀ b,(D i).F b→b<w.heap.size
 off:∀ i,i<n→∀ b,(D i).F b→¬E.Shun b∧¬E.X b
 apart:∀ i,i<n→∀ k,k<n→i≠k→∀ b,(D i).F b→(D k).F b→E.R b
 rw0:Same E.R E.W0 w
section
variable {P:Program} {ty:TypeId} {E:Env} [Payload] {n d0:Nat} {gs:Array Goroutine} {w w':World} {t:Trace} {D:Nat→CD}
theorem inF_not {F F' R:Nat→Prop} (h:∀ b,F b→F' b→R b) {l:Go.Loc} (hl:inF F R l) (hl':inF F' R l):False:=by
 cases l<;>first|exact hl.2 (h _ hl.1 hl'.1)|exact hl.elim
theorem Kv {F R:Nat→Prop} {l:Go.Loc} (hl:inF F R l) (hr:inR R l):False:=by
 cases l<;>first|exact hl.2 hr|exact hl.elim
theorem zdz {F F' R:Nat→Prop} (h:∀ b,F b→F' b) {l:Go.Loc} (hl:inF F R l):inF F' R l:=by
 cases l<;>first|exact⟨h _ hl.1,hl.2⟩|exact hl.elim
theorem fam (e:E.Good0 ty) (off:∀ i,i<n→∀ b,(D i).F b→¬E.Shun b∧¬E.X b) (apart:∀ i,i<n→∀ k,k<n→i≠k→∀ b,(D i).F b→(D k).F b→E.R b):Apart (ShL E) (Own E D n) (Rd E) where
 own:=by
  rintro k k' l ⟨k1,kn,h⟩ ⟨k1',kn',h'⟩;rcases Nat.decEq k k' with hne|he
  ·exfalso
   rcases h with h|⟨b,o,rfl,hm⟩<;>rcases h' with h'|⟨b',o',he',hm'⟩
   ·exact inF_not (apart (k - 1) (by omega) (k' - 1) (by omega) (by omega)) h h'
   ·subst he';exact (off (k - 1) (by omega) _ h.1).2 (e.mine _ _ _ hm').1
   ·exact (off (k' - 1) (by omega) _ h'.1).2 (e.mine _ _ _ hm).1
   ·cases he'
    have:=e.inj _ _ _ _ hm hm';omega
  ·exact he
 ownRd:=by
  rintro k k' l ⟨k1,kn,h⟩ ⟨_,hr⟩;rcases h with h|⟨b,o,rfl,hm⟩
  ·exact Kv h hr
  ·exact (e.rs _ hr).2.1 (e.mine _ _ _ hm).1
 ownSh:=by
  rintro k l ⟨k1,kn,h⟩ ⟨a,rfl,hs⟩;rcases h with h|⟨b,o,he,hm⟩
  ·exact (off (k - 1) (by omega) _ h.1).1 hs
  ·cases he;exact (e.xs _ (e.mine _ _ _ hm).1).1 hs
 rdSh:=by
  rintro k l ⟨_,hr⟩ ⟨a,rfl,hs⟩;exact (e.rs _ hr).1 hs
theorem Crew.fam (e:E.Good0 ty) (h:Crew P ty E n d0 gs w t D):Apart (ShL E) (Own E D n) (Rd E):=Go.Ab.fam e h.off h.apart
theorem Crew.at (h:Crew P ty E n d0 gs w t D) (e:E.Good0 ty) (d:Nat):Crew P ty E n d0 gs (w.at d) t D:=
 ⟨h.size,h.bn,fun i hi=>let ⟨g,hg,hs⟩:=h.wk i hi;⟨g,hg,hs.rely (RelW.at w d)⟩,h.old,h.tr,h.norel,h.deaf0,h.deafW,h.rel,fun i hb hi hs=>e.res i _ _ _ (RelW.at w d) (h.res i hb hi hs),h.B0,h.xsh,h.low,h.off,h.apart,⟨h.rw0.os,h.rw0.tape,h.rw0.output,h.rw0.block⟩⟩
structure EvC (B:Nat) (e:Event):Prop where
 low:(MemAct.ofEvent e).low B
 norel:∀ a,e.loc≠.mark (.release a)
theorem Q0 (h:∀ b,E.X b→∃ cs,w.heap[b]?=some (.cells cs (E.xt b).1 (E.xt b).2)∧cs.size=E.xn b) (hz:RelZ E w w'):∀ b,E.X b→∃ cs,w'.heap[b]?=some (.cells cs (E.xt b).1 (E.xt b).2)∧cs.size=E.xn b:=fun b hb=>by
 obtain⟨cs,h1,h2⟩:=h b hb;obtain⟨cs',h3,h4⟩:=hz.shape b hb cs _ h1;exact⟨cs',h3,h4.trans h2⟩
theorem Crew.stepW (e : E.Good ty) (h : Crew P ty E n d0 gs w t D) {i : Nat} (hi : i < n) {g g' : Goroutine} {fn : FuncId} {pos : String} {es : Array Event} {c : CD}
    (hrw : ∀ k, k < n → k ≠ i → RelW ty E k (D k).F w w') (hz : RelW ty E n (fun _ => False) w w')
    (hs' : Sit P ty E i c g' w') (hf1 : ∀ b, (D i).F b → c.F b) (hf2 : ∀ b, c.F b → (D i).F b ∨ (w.heap.size ≤ b ∧ b < w'.heap.size))
    (hok : ∀ op ∈ MemOp.ofEvents (i + 1) fn pos es, OkW (ShL E) (Own E (ConcN.upd D i c) n) (Rd E) (i + 1) op) (hev : ∀ x ∈ es, EvC w'.heap.size x)
    (hb : E.base ≤ i ∨ ((∀ x ∈ es, (MemAct.ofEvent x).touch? = none) ∧ c.stage = 1 ∧ ∀ b, ¬ c.F b))
    (hdeaf : deafBehind (D i).deaf es = c.deaf)
    (hrel : E.base ≤ i → c.stage ≤ 6 → ∃ r, RelS (ShL E) (stA E.Wg) (t ++ MemOp.ofEvents (i + 1) fn pos es) (i + 1) r)
    (hres : E.base ≤ i → c.stage ≤ 6 → E.Res i c.F w') :
    Crew P ty E n d0 ((gs.map (woken P g g' w')).setIfInBounds (i + 1) g') w' (t ++ MemOp.ofEvents (i + 1) fn pos es) (ConcN.upd D i c) := by
  have hsz := hz.keep.size
  have hoff : ∀ k, k < n → ∀ b, (ConcN.upd D i c k).F b → ¬ E.Shun b ∧ ¬ E.X b := by
    intro k hk b hb
    by_cases ek : k = i
    · subst ek
      rw [ConcN.upd_same] at hb
      rcases hf2 b hb with hb | ⟨hb, _⟩
      · exact h.off k hk b hb
      · exact ⟨fun hs => by have := e.ss b hs; have := h.B0; omega, fun hs => by have := (e.xs b hs).2; have := h.B0; omega⟩
    · rw [ConcN.upd_ne D _ ek] at hb; exact h.off k hk b hb
  have hap0 : ∀ k, k < n → k ≠ i → ∀ b, c.F b → (D k).F b → E.R b := by
    intro k hk hne b hb hb'
    rcases hf2 b hb with hb | ⟨hb, _⟩
    · exact h.apart k hk i hi hne b hb' hb
    · have := h.low k hk b hb'; omega
  have hap : ∀ a, a < n → ∀ k, k < n → a ≠ k → ∀ b, (ConcN.upd D i c a).F b → (ConcN.upd D i c k).F b → E.R b := by
    intro a ha k hk hne b h1 h2
    by_cases ea : a = i
    · subst ea
      rw [ConcN.upd_same] at h1
      rw [ConcN.upd_ne D _ (Ne.symm hne)] at h2
      exact hap0 k hk (Ne.symm hne) b h1 h2
    · rw [ConcN.upd_ne D _ ea] at h1
      by_cases ek : k = i
      · subst ek; rw [ConcN.upd_same] at h2; exact hap0 a ha hne b h2 h1
      · rw [ConcN.upd_ne D _ ek] at h2; exact h.apart a ha k hk hne b h1 h2
  have hA := Go.Ab.fam (n := n) (D := ConcN.upd D i c) e.toGood0 hoff hap
  have htr : TR (ShL E) (Own E (ConcN.upd D i c) n) (Rd E) E.base n w'.heap.size t := by
    refine (h.tr.grow (Own' := Own E (ConcN.upd D i c) n) (fun k l => ?_) (fun k l => ?_)).more hsz
    · rintro ⟨k1, kn, hl⟩
      refine ⟨k1, kn, hl.imp (fun hl => ?_) id⟩
      by_cases ek : k - 1 = i
      · rw [ek, ConcN.upd_same]; exact zdz hf1 (ek ▸ hl)
      · rw [ConcN.upd_ne D _ ek]; exact hl
    · rintro ⟨k1, kn, hl⟩
      rcases hl with hl | hl
      · by_cases ek : k - 1 = i
        · rw [ek, ConcN.upd_same] at hl
          cases l with
          | cell a =>
            rcases hf2 _ hl.1 with hb | ⟨hb, _⟩
            · exact .inl ⟨k1, kn, .inl (by rw [ek]; exact ⟨hb, hl.2⟩)⟩
            · exact .inr (fun hlow => Nat.lt_irrefl _ (Nat.lt_of_lt_of_le hlow hb))
          | obj r =>
            rcases hf2 _ hl.1 with hb | ⟨hb, _⟩
            · exact .inl ⟨k1, kn, .inl (by rw [ek]; exact ⟨hb, hl.2⟩)⟩
            · exact .inr (fun hlow => Nat.lt_irrefl _ (Nat.lt_of_lt_of_le hlow hb))
          | _ => exact hl.elim
        · rw [ConcN.upd_ne D _ ek] at hl; exact .inl ⟨k1, kn, .inl hl⟩
      · exact .inl ⟨k1, kn, .inr hl⟩
  have hlow : ∀ op ∈ MemOp.ofEvents (i + 1) fn pos es, op.act.low w'.heap.size := by
    intro op hop
    obtain ⟨x, hx, rfl⟩ := Conc.mem_ofEvents hop
    exact (hev x hx).low
  refine ⟨by simp [h.size], h.bn, fun k hk => ?_, fun k hk => ?_, ?_, h.norel.app ?_, by rw [Deaf_other t (by omega) _ g_of_ofEvents, h.deaf0], fun k hk => ?_, fun k hbk hk hs => ?_, fun k hbk hk hs => ?_, Nat.le_trans h.B0 hsz, Q0 h.xsh hz.z, fun k hk b hb => ?_, hoff, hap, h.rw0.keep hz.keep⟩
  · by_cases ek : k = i
    · subst ek
      exact ⟨g', get_map_set_same _ _ _ (by rw [h.size]; omega), by rw [ConcN.upd_same]; exact hs'⟩
    · obtain ⟨x, hx, hsx⟩ := h.wk k hk
      refine ⟨x, by rw [get_map_set _ _ _ _ (by omega), hx, Option.map_some, hsx.woken], ?_⟩
      rw [ConcN.upd_ne D _ ek]
      exact hsx.rely (hrw k hk ek)
  · by_cases ek : k = i
    · subst ek
      rw [ConcN.upd_same]
      rcases hb with hb | ⟨_, h1, h2⟩
      · omega
      · exact ⟨h1, h2⟩
    · rw [ConcN.upd_ne D _ ek]; exact h.old k hk
  · rcases hb with hb | ⟨hb, _⟩
    · exact htr.appW hA (by omega) (by omega) hok hlow
    · refine htr.appMute hA (by omega) (by omega : i + 1 ≤ n) (fun op hop => ?_) hlow
      obtain ⟨x, hx, rfl⟩ := Conc.mem_ofEvents hop
      exact ⟨rfl, hb x hx⟩
  · intro op hop hc
    obtain ⟨x, hx, rfl⟩ := Conc.mem_ofEvents hop
    exact (hev x hx).norel _ (Go.ConcR.loc_of_ofEvent hc)
  · by_cases ek : k = i
    · subst ek; rw [Deaf_own, h.deafW k hk, ConcN.upd_same]; exact hdeaf
    · rw [Deaf_other t (by omega) _ g_of_ofEvents, h.deafW k hk, ConcN.upd_ne D _ ek]
  · by_cases ek : k = i
    · subst ek; rw [ConcN.upd_same] at hs; exact hrel hbk hs
    · rw [ConcN.upd_ne D _ ek] at hs
      obtain ⟨r, hr⟩ := h.rel k hbk hk hs
      exact ⟨r, hr.appNot fun op hop => by rw [g_of_ofEvents op hop]; omega⟩
  · by_cases ek : k = i
    · subst ek; rw [ConcN.upd_same] at hs ⊢; exact hres hbk hs
    · rw [ConcN.upd_ne D _ ek] at hs ⊢
      exact e.res k _ _ _ (hrw k hk ek) (h.res k hbk hk hs)
  · by_cases ek : k = i
    · subst ek
      rw [ConcN.upd_same] at hb
      rcases hf2 b hb with hb | ⟨_, hb⟩
      · exact Nat.lt_of_lt_of_le (h.low k hk b hb) hsz
      · exact hb
    · rw [ConcN.upd_ne D _ ek] at hb; exact Nat.lt_of_lt_of_le (h.low k hk b hb) hsz
theorem Crew.step0 (e:E.Good0 ty) (h:Crew P ty E n d0 gs w t D) {a a':Goroutine} {fn:FuncId} {pos:String} {es:Array Event}
  (hrw:∀ k,k<n→RelW ty E k (D k).F w w') (hz:RelZ E w w')
  (hok:∀ op∈MemOp.ofEvents 0 fn pos es,Ok0 (ShL E) (Own E D n) (Rd E) n op) (hev:∀ x∈es,EvC w'.heap.size x) :
  Crew P ty E n (deafBehind d0 es) ((gs.map (woken P a a' w')).setIfInBounds 0 a') w' (t++MemOp.ofEvents 0 fn pos es) D:=by
 have hsz:=hz.keep.size;refine⟨by simp [h.size],h.bn,fun k hk=>?_,h.old,(h.tr.more hsz).app0 (h.fam e) hok (fun op hop=>?_),h.norel.app (fun op hop hc=>?_),by rw [Deaf_own,h.deaf0],fun k hk=>by rw [Deaf_other t (by omega) _ g_of_ofEvents,h.deafW k hk],fun k hbk hk hs=>?_,fun k hbk hk hs=>e.res k _ _ _ (hrw k hk) (h.res k hbk hk hs),Nat.le_trans h.B0 hsz,Q0 h.xsh hz,fun k hk b hb=>Nat.lt_of_lt_of_le (h.low k hk b hb) hsz,h.off,h.apart,h.rw0.keep hz.keep⟩
 ·obtain⟨x,hx,hsx⟩:=h.wk k hk;exact⟨x,by rw [get_map_set _ _ _ _ (by omega),hx,Option.map_some,hsx.woken],hsx.rely (hrw k hk)⟩
 ·obtain⟨x,hx,rfl⟩:=Conc.mem_ofEvents hop;exact (hev x hx).low
 ·obtain⟨x,hx,rfl⟩:=Conc.mem_ofEvents hop;exact (hev x hx).norel _ (Go.ConcR.loc_of_ofEvent hc)
 ·obtain⟨r,hr⟩:=h.rel k hbk hk hs;exact⟨r,hr.appNot fun op hop=>by rw [g_of_ofEvents op hop];omega⟩
end
end Go.Ab
namespace Go.Ab
open Go.Conc Go.ConcN
open Go.ConcR (KK wgBlock WgAt stA smA rd wr mk Payload DC0 Bk g_of_ofEvents bk_of_mute again_blocked ofEvent_loc_mark)
def wd (D:Nat→CD) (i:Nat):WD:=⟨(D i).stage,(D i).fuel,(D i).deaf⟩
def Grp (ty:TypeId) (E:Env) (n:Nat) (tag:Option CTag) (D:Nat→CD) (w:World):Prop:=
 match tag with
 | none=>n=E.base
 | some tag=>∃ st sm,WgAt ty E.Wg w st sm∧ConcN.Mode n (wd D) tag st sm
def jv (tag:Option CTag) (g:Goroutine):Goroutine:=
 match tag with
 | some .blk=>{ g with status:=.blocked }
 | _=>g
structure PM (P:Program) (ty:TypeId) (E:Env) [Payload] (n d0:Nat) (tag:Option CTag) (F:Nat→Prop) (g0:Goroutine) (w0:World) (D:Nat→CD) (gs:Array Goroutine) (w:World) (t:Trace):Prop where
 run:g0.status=.running
 zero:gs[0]?=some (jv tag g0)
 none_:tag=some .blk→g0.offers=none
 keep:Keep E.R F w0 w
 crew:Crew P ty E n d0 gs w t D
 low:∀ b,F b→b<w.heap.size
 off:∀ b,F b→¬E.Shun b∧¬E.X b
 apart:∀ i,i<n→∀ b,F b→(D i).F b→E.R b
 grp:Grp ty E n tag D w
theorem Xr (D:Nat→CD) (i:Nat) (c:CD):wd (ConcN.upd D i c)=ConcN.upd (wd D) i ⟨c.stage,c.fuel,c.deaf⟩:=by
 funext k
 simp only [wd,ConcN.upd]
 split<;>rfl
section
variable {P:Program} {ty:TypeId} {E:Env} [Payload] {n d0:Nat} {tag:Option CTag} {F:Nat→Prop} {g0:Goroutine} {w0:World} {gs:Array Goroutine} {w w':World} {t:Trace} {D:Nat→CD} {sl:Option (Nat × Nat)}
def Down (P:Program) (ty:TypeId) (E:Env) [Payload] (n d0:Nat) (tag:Option CTag) (F:Nat→Prop) (g0:Goroutine) (w0:World) (D:Nat→CD) (gs:Array Goroutine) (w:World) (t:Trace) (sl:Option (Nat × Nat)) (i:Nat):Prop:=
 ∃ gs' w' ops D' tag',runT P (crowd gs w sl) (i+1)=(.next (crowd gs' w' sl),ops)∧jq n D' D∧PM P ty E n d0 tag' F g0 w0 D' gs' w' (t++ops)∧(tag'=tag∨(tag=some .blk∧tag'=some .w3))
theorem PM.stepW (e:E.Good ty) (h:PM P ty E n d0 tag F g0 w0 D gs w t) {i:Nat} (hi:i<n) {g g':Goroutine} {es:Array Event} {c:CD} (hg:gs[i+1]?=some g) (hgo:stepG P false g w=.go g' w' es)
  (hrw:∀ k,k<n→k≠i→RelW ty E k (D k).F w w') (hz:RelW ty E n (fun _=>False) w w') (hkeep:Keep E.R F w w')
  (hs':Sit P ty E i c g' w') (hf1:∀ b,(D i).F b→c.F b) (hf2:∀ b,c.F b→(D i).F b∨(w.heap.size≤b∧b<w'.heap.size))
  (hok:∀ op∈MemOp.ofEvents (i+1) g.frame.fn g.frame.place es,OkW (ShL E) (Own E (ConcN.upd D i c) n) (Rd E) (i+1) op) (hev:∀ x∈es,EvC w'.heap.size x)
  (hb:E.base≤i∨((∀ x∈es,(MemAct.ofEvent x).touch?=none)∧c.stage=1∧∀ b,¬c.F b))
  (hdeaf:deafBehind (D i).deaf es=c.deaf)
  (hrel:E.base≤i→c.stage≤6→∃ r,RelS (ShL E) (stA E.Wg) (t++MemOp.ofEvents (i+1) g.frame.fn g.frame.place es) (i+1) r)
  (hres:E.base≤i→c.stage≤6→E.Res i c.F w') (hlt:CLt c (D i))
  (hgrp:∀ tag',(tag'=tag∨(tag=some .blk∧tag'=some .w3))→(mayWake P g=true→g'.status=.running→tag'≠some .blk)→Grp ty E n tag' (ConcN.upd D i c) w'):Down P ty E n d0 tag F g0 w0 D gs w t sl i:=by
 have hrun:=runT_crowd_go (P:=P) (sl:=sl) (i:=i+1) hg (by simpa using hgo);have hc:=h.crew.stepW (g:=g) (g':=g') e hi hrw hz hs' hf1 hf2 hok hev hb hdeaf hrel hres;have key:∃ tag',(tag'=tag∨(tag=some .blk∧tag'=some .w3))∧(mayWake P g=true→g'.status=.running→tag'≠some .blk)∧woken P g g' w' (jv tag g0)=jv tag' g0:=by
  by_cases hbk:tag=some .blk
  ·subst hbk;unfold Go.Conc.woken
   split
   ·exact⟨some .w3,.inr ⟨rfl,rfl⟩,fun _ _=>by simp,again_blocked h.run (h.none_ rfl) w'⟩
   ·rename_i hc
    exact⟨some .blk,.inl rfl,fun h1 h2=>absurd (by simp [h1,h2]) hc,rfl⟩
  ·have hm:jv tag g0=g0:=by
    unfold jv
    split
    ·exact absurd rfl hbk
    ·rfl
   refine⟨tag,.inl rfl,fun _ _=>hbk,?_⟩;rw [hm];unfold Go.Conc.woken
   split
   ·exact again_running _ (.inl h.run)
   ·rfl
 obtain⟨tag',ht,hw,hz⟩:=key;refine⟨_,_,_,ConcN.upd D i c,tag',hrun,jq.upd hi hlt,⟨h.run,by rw [get_map_set _ _ _ _ (by omega),h.zero,Option.map_some,hz],fun hbk=>?_,h.keep.trans hkeep,hc,fun b hb=>Nat.lt_of_lt_of_le (h.low b hb) hkeep.size,h.off,fun k hk b hbF hb'=>?_,hgrp tag' ht hw⟩,ht⟩
 ·rcases ht with rfl|⟨_,rfl⟩
  ·exact h.none_ hbk
  ·cases hbk
 ·by_cases ek:k=i
  ·subst ek;rw [ConcN.upd_same] at hb';rcases hf2 b hb' with hb'|⟨hb',_⟩
   ·exact h.apart k hk b hbF hb'
   ·have:=h.low b hbF;omega
  ·rw [ConcN.upd_ne D _ ek] at hb';exact h.apart k hk b hbF hb'
theorem Grp.of {tag : Option CTag} {D' : Nat → CD} (h : Grp ty E n tag D w) (hs : ∀ a, a < n → (D' a).stage = (D a).stage) (hw : w'.heap[E.Wg]? = w.heap[E.Wg]?) : Grp ty E n tag D' w' := by
  cases tag with
  | none => exact h
  | some tag =>
    obtain ⟨st, sm, h1, h2⟩ := h
    exact ⟨st, sm, h1.of_block hw, ConcN.Mode.congr (D := wd D) (fun a ha => hs a ha) h2⟩
theorem Grp.retag {tag tag':Option CTag} (h:Grp ty E n tag D w) (ht:tag'=tag∨(tag=some .blk∧tag'=some .w3)):Grp ty E n tag' D w:=by
 rcases ht with rfl|⟨rfl,rfl⟩
 ·exact h
 ·obtain⟨st,sm,h1,h2⟩:=h;exact⟨st,sm,h1,h2.retag (.inr ⟨rfl,rfl⟩)⟩
theorem qN {R F:Nat→Prop} {a b:Nat} {x:Event} (h:EvOk R F a b x):EvC b x:=by
 obtain⟨loc,wr,sy⟩:=x
 cases loc with
 | cell a=>cases wr<;>cases sy<;>exact⟨h.1,by simp⟩
 | obj r=>cases wr<;>cases sy<;>exact⟨h.1,by simp⟩
 | output=>exact h.elim
 | goroutines=>exact h.elim
 | mark m=>cases m<;>first|exact h.elim|exact⟨trivial,by simp⟩
theorem Zh {R F:Nat→Prop} {a b:Nat} {x:Event} (h:EvOk R F a b x):x.loc≠.mark .disable∧x.loc≠.mark .enable:=by
 obtain⟨loc,wr,sy⟩:=x
 cases loc with
 | mark m=>cases m<;>first|exact h.elim|exact⟨by simp,by simp⟩
 | _=>exact⟨by simp,by simp⟩
theorem Vp {R F : Nat → Prop} {a b : Nat} {x : Event} (h : EvOk R F a b x) {y : Touch} (hy : (MemAct.ofEvent x).touch? = some y) :
    inF (fun c => F c ∨ (a ≤ c ∧ c < b)) R y.loc ∨ (∃ c, a ≤ c ∧ R c) ∨ (inR R y.loc ∧ y.write = false) := by
  have key : ∀ c wr, c < b → (a ≤ c ∨ (F c ∧ ¬ R c) ∨ (R c ∧ wr = false)) → ((F c ∨ (a ≤ c ∧ c < b)) ∧ ¬ R c) ∨ (∃ c, a ≤ c ∧ R c) ∨ (R c ∧ wr = false) := by
    intro c wr hc h
    rcases h with h | h | h
    · by_cases hr : R c
      · exact .inr (.inl ⟨c, h, hr⟩)
      · exact .inl ⟨.inr ⟨h, hc⟩, hr⟩
    · exact .inl ⟨.inl h.1, h.2⟩
    · exact .inr (.inr h)
  obtain ⟨loc, wr, sy⟩ := x
  cases loc with
  | cell ad =>
    cases wr <;> cases sy <;> simp [MemAct.ofEvent, MemAct.touch?] at hy <;> subst hy <;> exact key _ _ h.1 h.2
  | obj r =>
    cases wr <;> cases sy <;> simp [MemAct.ofEvent, MemAct.touch?] at hy
    all_goals (try subst hy)
    all_goals exact key _ _ h.1 h.2
  | output => exact h.elim
  | goroutines => exact h.elim
  | mark m => cases m <;> first | exact h.elim | (simp [MemAct.ofEvent, MemAct.touch?] at hy)
theorem zb9 (e:E.Good ty) (hB:E.B0≤w.heap.size) {es:Array Event} (h:∀ x∈es,Bk E.Wg x):∀ x∈es,EvC w.heap.size x:=by
 intro x hx;rcases h x hx with h1|h1|⟨a,wr,rfl,ha⟩
 ·exact⟨by rw [ofEvent_loc_mark h1];trivial,fun a hc=>by rw [h1] at hc;cases hc⟩
 ·exact⟨by rw [ofEvent_loc_mark h1];trivial,fun a hc=>by rw [h1] at hc;cases hc⟩
 ·refine⟨?_,fun a hc=>by cases hc⟩;have:a.block<w.heap.size:=by rw [ha];exact Nat.lt_of_lt_of_le (e.ss _ e.wg) hB
  cases wr<;>exact this
theorem Wy {Wg:Nat} {es:Array Event} (h:∀ x∈es,Bk Wg x):∀ x∈es,∀ y,(MemAct.ofEvent x).touch?=some y→(∃ a,y.loc=.cell a∧a.block=Wg)∧y.kind=.atomic:=by
 intro x hx y hy;rcases h x hx with h1|h1|⟨a,wr,rfl,ha⟩
 ·rw [ofEvent_loc_mark h1] at hy;cases hy
 ·rw [ofEvent_loc_mark h1] at hy;cases hy
 ·cases wr<;>simp [MemAct.ofEvent,MemAct.touch?] at hy<;>subst hy<;>exact⟨⟨a,rfl,ha⟩,rfl⟩
theorem sh_wg (e:E.Good ty) {l:Go.Loc} (h:∃ a,l=.cell a∧a.block=E.Wg):ShL E l:=let ⟨a,h1,h2⟩:=h;⟨a,h1,h2▸e.wg⟩
end
end Go.Ab
namespace Go.Ab
open Go.Conc Go.ConcN
open Go.ConcR (KK wgBlock WgAt stA smA rd wr mk Payload DC0 Bk g_of_ofEvents bk_of_mute again_blocked ofEvent_loc_mark)
section
variable {P:Program} {ty:TypeId} {E:Env} [Payload] {n d0:Nat} {tag:Option CTag} {F:Nat→Prop} {g0:Goroutine} {w0:World} {gs:Array Goroutine} {w w':World} {t:Trace} {D:Nat→CD} {sl:Option (Nat × Nat)}
theorem PM.does (e:E.Good ty) (h:PM P ty E n d0 tag F g0 w0 D gs w t) {i:Nat} (hi:i<n) (hb:E.base≤i) {g g':Goroutine} {es:Array Event} {F':Nat→Prop} {tr:Tree} {f:World→Tree}
  (hg:gs[i+1]?=some g) (hgo:stepG P false g w=.go g' w' es) (hst:(D i).stage=7) (htr:(D i).tree=.node f) (hde:(D i).deaf=0)
  (hd:Does E.R (D i).F w w' es F') (hw:WayT P ty E i (f w) F' g' w'):Down P ty E n d0 tag F g0 w0 D gs w t sl i:=by
 have hcr:=h.crew;have hrw:∀ k,k<n→k≠i→RelW ty E k (D k).F w w':=fun k hk hne=>jO e hd hcr.B0 (fun b h1 h2=>hcr.apart k hk i hi hne b h1 h2) (hcr.low k hk) (hcr.off i hi);have hkeep:Keep E.R F w w':=Xp hd (fun b h1 h2=>h.apart i hi b h1 h2) fun b hb=>hb.elim (h.low b) fun x=>Nat.lt_of_lt_of_le (e.rs b x).2.2 hcr.B0;refine h.stepW e hi (c:=⟨7,f w,0,0,fun b=>(D i).F b∨(w.heap.size≤b∧b<w'.heap.size)⟩) hg hgo hrw (jO e hd hcr.B0 (fun b h _=>h.elim) (fun b h=>h.elim) (hcr.off i hi)) hkeep (.way hb (WayT.mono (e.more i) (fun b hb=>?_) hw)) (fun b hb=>.inl hb) (fun b hb=>hb) ?_ (fun x hx=>qN (hd.evs x hx)) (.inl hb) ?_ (fun _ h7=>absurd h7 (show ¬(7:Nat)≤6 by omega)) (fun _ h7=>absurd h7 (show ¬(7:Nat)≤6 by omega)) ?_ ?_
 ·rcases hd.lt b hb with h1|h1
  ·exact .inl h1
  ·rcases Nat.lt_or_ge b w.heap.size with h2|h2
   ·exact .inl (hd.rng b hb h2)
   ·exact .inr ⟨h2,h1⟩
 ·intro op hop;obtain⟨x,hx,rfl⟩:=Conc.mem_ofEvents hop;refine⟨rfl,fun y hy=>?_⟩;rcases Vp (hd.evs x hx) hy with h1|⟨b,h1,h2⟩|⟨h1,h2⟩
  ·exact .inr (.inl ⟨by omega,by omega,.inl (by rw [show i+1 - 1=i by omega,ConcN.upd_same];exact h1)⟩)
  ·have:=(e.rs b h2).2.2;have:=hcr.B0;omega
  ·exact .inr (.inr ⟨⟨by omega,h1⟩,h2⟩)
 ·rw [hde];exact deafBehind_still (fun x hx=>Zh (hd.evs x hx)) 0
 ·exact .inr ⟨hst.symm,.inl (by rw [htr];exact .mk f w)⟩
 ·intro tag' ht _;refine (h.grp.retag ht).of (fun a _=>?_) (hd.block _ (Nat.lt_of_lt_of_le (e.ss _ e.wg) hcr.B0) fun x=>(hcr.off i hi _ x.1).1 e.wg)
  by_cases ea:a=i
  ·subst ea;rw [ConcN.upd_same];exact hst.symm
  ·rw [ConcN.upd_ne D _ ea]
theorem PM.stores (e:E.Good ty) (h:PM P ty E n d0 tag F g0 w0 D gs w t) {i:Nat} (hi:i<n) (hb:E.base≤i) {g g':Goroutine} {f:World→Tree} {b o:Nat} {v:Value} {cs:Array Value} {y:TypeId × (Nat × Nat)}
  (hg:gs[i+1]?=some g) (hm:E.Mine i b o) (hc:w.heap[b]?=some (.cells cs y.1 y.2)) (hgo:stepG P false g w=.go g' (w.setCell ⟨b,o,none⟩ v) #[⟨.cell ⟨b,o,none⟩,true,false⟩]) (hst:(D i).stage=7) (htr:(D i).tree=.node f) (hde:(D i).deaf=0)
  (hw:WayT P ty E i (f w) (D i).F g' (w.setCell ⟨b,o,none⟩ v)):Down P ty E n d0 tag F g0 w0 D gs w t sl i:=by
 have hcr:=h.crew;have hX:=e.xs b (e.mine i b o hm).1;have ha:=aside_setCell w ⟨b,o,none⟩ v;refine h.stepW e hi (c:=⟨7,f w,0,0,(D i).F⟩) hg hgo (fun k hk hne=>QZ e hm hne hc fun c hc=>(hcr.off k hk c hc).2) (QZ e hm (by omega) hc fun c hc=>hc.elim) (ql ha fun c hb' hx=>?_) (.way hb hw) (fun b hb=>hb) (fun b hb=>.inl hb) ?_ ?_ (.inl hb) (by rw [hde];rfl) (fun _ h7=>absurd h7 (show ¬(7:Nat)≤6 by omega)) (fun _ h7=>absurd h7 (show ¬(7:Nat)≤6 by omega)) ?_ ?_
 ·have hx':c=b:=hx;subst hx';exact hb'.elim (fun x=>(h.off c x).2 (e.mine i c o hm).1) fun x=>(e.rs c x).2.1 (e.mine i c o hm).1
 ·intro op hop;obtain⟨x,hx,rfl⟩:=Conc.mem_ofEvents hop
  simp at hx
  subst hx;refine⟨rfl,fun z hz=>?_⟩
  simp [MemAct.ofEvent,MemAct.touch?] at hz
  subst hz;exact .inr (.inl ⟨by omega,by omega,.inr ⟨b,o,rfl,by rw [show i+1 - 1=i by omega];exact hm⟩⟩)
 ·intro x hx
  simp at hx
  subst hx;refine⟨?_,by simp⟩;have:b<(w.setCell ⟨b,o,none⟩ v).heap.size:=by rw [ha.size];exact Nat.lt_of_lt_of_le hX.2 hcr.B0
  exact this
 ·exact .inr ⟨hst.symm,.inl (by rw [htr];exact .mk f w)⟩
 ·intro tag' ht _;refine (h.grp.retag ht).of (fun a _=>?_) (ha.block _ fun x=>hX.1 (by have x':E.Wg=b:=x;exact x'▸e.wg))
  by_cases ea:a=i
  ·subst ea;rw [ConcN.upd_same];exact hst.symm
  ·rw [ConcN.upd_ne D _ ea]
theorem PM.book (e:E.Good ty) (h:PM P ty E n d0 tag F g0 w0 D gs w t) {i:Nat} (hi:i<n) (hb:E.base≤i) {g g':Goroutine} {es:Array Event} {s m d:Nat}
  (hg:gs[i+1]?=some g) (hgo:stepG P false g w=.go g' w' es) (hAs:Aside E.Wg w w') (hlv:WgLive ty E.Wg w') (hbk:∀ x∈es,Bk E.Wg x)
  (hdf:∀ j x,es[j]?=some x→(MemAct.ofEvent x).touch?=none∨0<deafBehind (D i).deaf (es.extract 0 j)) (hs':Sit P ty E i ⟨s,.leaf,m,d,(D i).F⟩ g' w') (hdd:deafBehind (D i).deaf es=d) (h6:(D i).stage≤6)
  (hlt:CLt ⟨s,.leaf,m,d,(D i).F⟩ (D i))
  (hgrp:∀ tag',(tag'=tag∨(tag=some .blk∧tag'=some .w3))→(mayWake P g=true→g'.status=.running→tag'≠some .blk)→Grp ty E n tag' (ConcN.upd D i ⟨s,.leaf,m,d,(D i).F⟩) w'):Down P ty E n d0 tag F g0 w0 D gs w t sl i:=by
 have hcr:=h.crew;have hdk:=hcr.deafW i hi;refine h.stepW e hi hg hgo (fun k hk _=>jr e hAs hlv fun b hb=>(hcr.off k hk b hb).1) (jr e hAs hlv fun b hb=>hb.elim) (ql hAs fun b hb' hx=>hb'.elim (fun x=>(h.off b x).1 (hx▸e.wg)) fun x=>(e.rs b x).1 (hx▸e.wg)) hs' (fun b hb=>hb) (fun b hb=>.inl hb) ?_ ?_ (.inl hb) hdd ?_ ?_ hlt hgrp
 ·intro op hop;obtain⟨x,hx,rfl⟩:=Conc.mem_ofEvents hop;refine⟨rfl,fun y hy=>?_⟩;obtain⟨h1,h2⟩:=Wy hbk x hx y hy;exact .inl ⟨sh_wg e h1,by rw [h2];simp,by rw [h2];simp⟩
 ·have hB:E.B0≤w'.heap.size:=by rw [hAs.size];exact hcr.B0
  exact zb9 e hB hbk
 ·intro _ _;obtain⟨r,hr⟩:=hcr.rel i hb hi h6;refine⟨r,hr.app (hr.by_.book hdk _ _ hbk hdf) fun op hop y hy=>?_⟩;obtain⟨x,hx,rfl⟩:=Conc.mem_ofEvents hop;exact sh_wg e (Wy hbk x hx y hy).1
 ·intro _ _;exact e.res i _ _ _ (jr e hAs hlv fun b hb=>(hcr.off i hi b hb).1) (hcr.res i hb hi h6)
theorem PM.release (e : E.Good ty) (h : PM P ty E n d0 tag F g0 w0 D gs w t) {i : Nat} (hi : i < n) (hb : E.base ≤ i) {g : Goroutine} (hg : gs[i + 1]? = some g) (hst : (D i).stage = 7) (hde : (D i).deaf = 0)
    (hend : XR P ty E i (D i).F g w) : Down P ty E n d0 tag F g0 w0 D gs w t sl i := by
  have hcr := h.crew
  obtain ⟨hres, C, nC, ci, v, hC, hR, _, _, g', hgo, m, hk⟩ := hend
  have hdk : Deaf t (i + 1) = 0 := by rw [hcr.deafW i hi, hde]
  refine h.stepW e hi (c := ⟨6, .leaf, m, 0, (D i).F⟩) hg hgo (fun k hk _ => .refl w) (.refl w) (.refl _ _ w) (.lib (v := v) hb (by omega) (by omega) hC hR (.k1 hk)) (fun b hb => hb) (fun b hb => .inl hb) ?_ ?_ (.inl hb) (by rw [hde]; rfl) (fun _ _ => ⟨t.size, RelS.new hdk _ _⟩) (fun _ _ => hres) (.inl (by rw [hst]; show (6 : Nat) < 7; omega)) ?_
  · intro op hop
    obtain ⟨x, hx, rfl⟩ := Conc.mem_ofEvents hop
    simp at hx
    subst hx
    exact ⟨rfl, fun y hy => by cases hy⟩
  · intro x hx
    simp at hx
    subst hx
    refine ⟨?_, fun a hc => by cases hc⟩
    show E.Wg < w.heap.size
    exact Nat.lt_of_lt_of_le (e.ss _ e.wg) hcr.B0
  · intro tag' ht _
    have hg' := h.grp.retag ht
    cases tag' with
    | none => exact hg'
    | some tg =>
      obtain ⟨st, sm, h1, h2⟩ := hg'
      refine ⟨st, sm, h1, ?_⟩
      rw [Xr]
      exact h2.counted hi (by simp only [wd, hst]; decide) (.inl rfl) _ _
theorem Vc_base {base : Nat} : ∀ {n : Nat}, base ≤ n → (∀ i, i < base → (D i).stage = 1) → Vc n (wd D) + base ≤ n := by
  intro n
  induction n with
  | zero => intro h _; simp only [Vc, sumTo]; omega
  | succ n ih =>
    intro hb ho
    rcases Nat.lt_or_ge n base with h | h
    · obtain rfl : base = n + 1 := by omega
      have := sumTo_le (f := fun i => cnt (wd D i)) (c := 0) (j := n + 1) fun i hi => by
        have : (wd D i).stage = 1 := ho i hi
        simp [cnt, this]
      simp only [Vc]; omega
    · have h1 := ih h ho
      have h2 : cnt (wd D n) ≤ 1 := by simp only [cnt]; split <;> omega
      simp only [Vc, sumTo] at *
      omega
theorem Crew.vc (h:Crew P ty E n d0 gs w t D):Vc n (wd D)+E.base≤n:=Vc_base h.bn fun i hi=>(h.old i hi).1
set_option maxHeartbeats 1600000 in
theorem PM.worker (e : E.Good ty) (hn : n - E.base + 1 < 2147483648) (h : PM P ty E n d0 tag F g0 w0 D gs w t) {i : Nat} (hi : i < n) {g : Goroutine} (hg : gs[i + 1]? = some g) (hrun : g.status = .running) : Down P ty E n d0 tag F g0 w0 D gs w t sl i := by
  have hcr := h.crew
  obtain ⟨g1, hg1, hs⟩ := hcr.wk i hi
  obtain rfl : g = g1 := by rw [hg] at hg1; exact Option.some.inj hg1
  generalize hD : D i = c at hs
  cases hs with
  | @way tr Fi _ _ hb hw =>
    have hend : (∀ w1, RelW ty E i Fi w w1 → XR P ty E i Fi g w1) → Down P ty E n d0 tag F g0 w0 D gs w t sl i := fun hx => h.release e hi hb hg (by rw [hD]) (by rw [hD]) (by rw [hD]; exact hx w (.refl w))
    cases tr with
    | leaf => exact hend hw
    | node f =>
      rcases hw with hw | ⟨_, hw⟩
      · exact hend hw
      · rcases hw w (.refl w) with ⟨g', w', es, F', a, _, b, c⟩ | ⟨g', b, o, v, cs, y, a1, a2, a3, a4, a5, a6⟩
        · exact h.does e hi hb (tr := f w) (f := f) hg a (by rw [hD]) (by rw [hD]) (by rw [hD]) (by rw [hD]; exact b) c
        · exact h.stores e hi hb (f := f) hg a1 a2 a4 (by rw [hD]) (by rw [hD]) (by rw [hD]) (by rw [hD]; exact a6)
  | @quit m d Fi _ _ hq =>
    have hcF : ∀ k, k < E.base → ∀ b, ¬ (D k).F b := fun k hk => (hcr.old k hk).2
    cases m with
    | zero => have := hq.1; rw [this] at hrun; cases hrun
    | succ q =>
      rcases hq with ⟨hf, _⟩ | ⟨_, g', es, hmute, hstep, hq⟩
      · rw [hf] at hrun; cases hrun
      · have hnt : ∀ x ∈ es, (MemAct.ofEvent x).touch? = none := fun x hx => touch_mute (hmute x hx)
        refine h.stepW e hi (c := ⟨1, .leaf, q, deafBehind d es, Fi⟩) hg (hstep w) (fun k hk _ => .refl w) (.refl w) (.refl _ _ w) (.quit hq) (fun b hb => by rw [hD] at hb; exact hb) (fun b hb => .inl (by rw [hD]; exact hb)) ?_ (fun x hx => ⟨low_mute (hmute x hx) _, fun a hc => by have := hmute x hx; obtain ⟨loc, wr, sy⟩ := x; subst hc; simp [Event.mute] at this⟩) ?_ (by rw [hD]) ?_ ?_ (.inr ⟨by rw [hD], .inr ⟨by rw [hD], by rw [hD]; exact Nat.lt_succ_self q⟩⟩) ?_
        · intro op hop
          obtain ⟨x, hx, rfl⟩ := Conc.mem_ofEvents hop
          exact ⟨rfl, fun y hy => by rw [hnt x hx] at hy; cases hy⟩
        · by_cases hb : E.base ≤ i
          · exact .inl hb
          · exact .inr ⟨hnt, rfl, fun b hb' => hcF i (by omega) b (by rw [hD]; exact hb')⟩
        · intro hb _
          obtain ⟨r, hr⟩ := hcr.rel i hb hi (by rw [hD]; show (1 : Nat) ≤ 6; omega)
          refine ⟨r, hr.app (hr.by_.appOwn _ _ es fun j x hx => .inl (hnt x (Array.mem_of_getElem? hx))) fun op hop y hy => ?_⟩
          obtain ⟨x, hx, rfl⟩ := Conc.mem_ofEvents hop
          rw [hnt x hx] at hy; cases hy
        · intro hb _
          have := hcr.res i hb hi (by rw [hD]; show (1 : Nat) ≤ 6; omega)
          rw [hD] at this
          exact this
        · intro tag' ht _
          refine (h.grp.retag ht).of (fun a _ => ?_) rfl
          by_cases ea : a = i
          · subst ea; rw [ConcN.upd_same, hD]
          · rw [ConcN.upd_ne D _ ea]
  | @lib s m d C nC ci vv Fi _ _ hb h2 h6 hC hR hs =>
    have hst : (D i).stage = s := by rw [hD]
    have hfu : (D i).fuel = m := by rw [hD]
    have hde : (D i).deaf = d := by rw [hD]
    have hF : (D i).F = Fi := by rw [hD]
    have hno : tag ≠ none := fun hx => by
      have := h.grp
      rw [hx] at this
      have : n = E.base := this
      omega
    obtain ⟨tg, rfl⟩ : ∃ tg, tag = some tg := by cases tag with | none => exact absurd rfl hno | some tg => exact ⟨tg, rfl⟩
    obtain ⟨st, sm, hwg, hmode⟩ := h.grp
    have hpn : pend tg ≤ 1 := by cases tg <;> simp only [pend] <;> (try split) <;> omega
    have hVj := hcr.vc
    have hbn := hcr.bn
    have wst : (wd D i).stage = s := hst
    have idle : ∀ {g' : Goroutine} {m' : Nat}, stepG P false g w = .go g' w #[] → WSit P ty E.Wg C nC no no 0 (ci + 1) vv s m' d g' w → m' + 1 = m → Down P ty E n d0 (some tg) F g0 w0 D gs w t sl i := by
      intro g' m' hgo hs' hm
      refine h.book e hi hb hg hgo (.refl E.Wg w) ⟨_, _, hwg⟩ (by simp) (by simp) (s := s) (m := m') (d := d) (.lib hb h2 h6 (by rw [hF]; exact hC) hR hs') (by rw [hde]; rfl) (by omega) (.inr ⟨hst.symm, .inr ⟨by rw [hD], by show m' < _; rw [hfu]; omega⟩⟩) fun tag' ht _ => ?_
      refine (h.grp.retag ht).of (fun a _ => ?_) rfl
      by_cases ea : a = i
      · subst ea; rw [ConcN.upd_same]; exact hst.symm
      · rw [ConcN.upd_ne D _ ea]
    have bookG : ∀ {g' : Goroutine} {w' : World} {es : Array Event} {s' m' d' : Nat} {st' sm' : Int}, stepG P false g w = .go g' w' es → Aside E.Wg w w' → WgAt ty E.Wg w' st' sm' → (∀ x ∈ es, Bk E.Wg x) →
        (∀ j x, es[j]? = some x → (MemAct.ofEvent x).touch? = none ∨ 0 < deafBehind d (es.extract 0 j)) → Sit P ty E i ⟨s', .leaf, m', d', Fi⟩ g' w' → deafBehind d es = d' → s' < s →
        (∀ tg', (tg' = tg ∨ (tg = .blk ∧ tg' = .w3)) → (mayWake P g = true → g'.status = .running → tg' ≠ .blk) → ConcN.Mode n (ConcN.upd (wd D) i ⟨s', m', d'⟩) tg' st' sm') → Down P ty E n d0 (some tg) F g0 w0 D gs w t sl i := by
      intro g' w' es s' m' d' st' sm' hgo hAs hwg' hbk hd hs' hdd hlt hmode'
      refine h.book e hi hb hg hgo hAs ⟨_, _, hwg'⟩ hbk (by rw [hde]; exact hd) (s := s') (m := m') (d := d') (by rw [hF]; exact hs') (by rw [hde]; exact hdd) (by omega) (.inl (by show s' < _; rw [hst]; exact hlt)) fun tag' ht hw => ?_
      rcases ht with rfl | ⟨h1, rfl⟩
      · refine ⟨st', sm', hwg', ?_⟩
        rw [Xr]
        exact hmode' tg (.inl rfl) fun a b c => hw a b (by rw [c])
      · refine ⟨st', sm', hwg', ?_⟩
        rw [Xr]
        exact hmode' .w3 (.inr ⟨Option.some.inj h1, rfl⟩) fun _ _ c => by cases c
    have book : ∀ {g' : Goroutine} {w' : World} {es : Array Event} {s' m' d' : Nat} {st' sm' : Int}, stepG P false g w = .go g' w' es → Aside E.Wg w w' → WgAt ty E.Wg w' st' sm' → (∀ x ∈ es, Bk E.Wg x) →
        (∀ j x, es[j]? = some x → (MemAct.ofEvent x).touch? = none ∨ 0 < deafBehind d (es.extract 0 j)) → Sit P ty E i ⟨s', .leaf, m', d', Fi⟩ g' w' → deafBehind d es = d' → s' < s →
        ConcN.Mode n (ConcN.upd (wd D) i ⟨s', m', d'⟩) tg st' sm' → Down P ty E n d0 (some tg) F g0 w0 D gs w t sl i :=
      fun hgo hAs hwg' hbk hd hs' hdd hlt hmode' => bookG hgo hAs hwg' hbk hd hs' hdd hlt fun _ ht _ => hmode'.retag ht
    cases hs with
    | r0 _ => omega
    | quit _ => omega
    | k1 hx =>
      rcases Goes.cases hx with hstop | ⟨m', rfl, hstep⟩
      · obtain ⟨_, g', hgo, m2, hk⟩ := hstop w (RW.refl w)
        exact book hgo (.refl E.Wg w) hwg bk_dis (by intro j x hx; exact .inl (by have := Array.mem_of_getElem? hx; simp at this; subst this; rfl)) (.lib (v := vv) hb (by omega) (by omega) hC hR (.d1 hk)) rfl (by omega) (hmode.counted hi (by omega) (.inr rfl) _ _)
      · obtain ⟨g', w', es, hgo, ⟨rfl, rfl⟩, hg'⟩ := hstep w (RW.refl w)
        exact idle hgo (.k1 hg') rfl
    | d1 hx =>
      rcases Goes.cases hx with hstop | ⟨m', rfl, hstep⟩
      · obtain ⟨_, hall⟩ := hstop w (RW.refl w)
        have hc1 : cnt (wd D i) = 1 := by simp [cnt, wst]
        have hV1 : 1 ≤ Vc n (wd D) := by have := le_sumTo (f := fun x => cnt (wd D x)) hi; simp only [Vc]; omega
        have df2 : ∀ j x, (#[rd (stA E.Wg), wr (stA E.Wg)] : Array Event)[j]? = some x → (MemAct.ofEvent x).touch? = none ∨ 0 < deafBehind 1 ((#[rd (stA E.Wg), wr (stA E.Wg)] : Array Event).extract 0 j) := by
          intro j x hx
          match j, hx with
          | 0, _ => exact .inr (by simp [deafBehind])
          | 1, _ => exact .inr (by simp [deafBehind, rd])
          | j + 2, hx => simp at hx
        have hq0 : ∀ q, cnt (⟨1, q, 1⟩ : WD) = 0 := fun _ => rfl
        have opq : ∀ q, OpenSt n (wd D) → OpenSt n (ConcN.upd (wd D) i ⟨1, q, 1⟩) := fun q h a ha => by
          by_cases ea : a = i
          · subst ea; rw [ConcN.upd_same]; simp
          · rw [ConcN.upd_ne _ _ ea]; exact h a ha
        cases hmode with
        | opn h1 h2 h3 =>
          obtain ⟨v, hv⟩ : ∃ v, Vc n (wd D) + pend tg = v + 1 := ⟨Vc n (wd D) + pend tg - 1, by omega⟩
          rw [hv] at hwg
          have hw1 : WgAt ty E.Wg w (((v : Nat) + 1) * KK + ((0 : Nat) : Int)) 0 := by simpa using hwg
          obtain ⟨g', hgo, _, hq⟩ := hall v 0 (by omega) (by omega) hw1
          obtain ⟨q, hq⟩ := hq (by omega)
          have hv' : Vc n (ConcN.upd (wd D) i ⟨1, q, 1⟩) + pend tg = v := by have := Vc_upd (wd D) (⟨1, q, 1⟩ : WD) hi; have := hq0 q; omega
          refine book hgo (aside_setCell w (stA E.Wg) _) (hwg.setSt _) bk_rw df2 (.quit hq) rfl (by omega) ?_
          have e : ((v : Nat) : Int) * KK + ((0 : Nat) : Int) = ((Vc n (ConcN.upd (wd D) i ⟨1, q, 1⟩) + pend tg : Nat) : Int) * KK := by rw [hv']; simp
          rw [e]
          exact .opn h1 (opq q h2) (fun vs ev => by have := h3 vs ev; omega)
        | reg h1 h2 h3 =>
          obtain ⟨v, hv⟩ : ∃ v, Vc n (wd D) = v + 1 := ⟨Vc n (wd D) - 1, by omega⟩
          rw [hv] at hwg
          have hp : pend tg = 0 := by cases tg <;> first | rfl | exact h1.elim
          have hw1 : WgAt ty E.Wg w (((v : Nat) + 1) * KK + ((1 : Nat) : Int)) 0 := by simpa using hwg
          obtain ⟨g', hgo, hl, hq⟩ := hall v 1 (by omega) (by omega) hw1
          by_cases hv0 : v = 0
          · subst hv0
            obtain ⟨m2, hk⟩ := hl ⟨rfl, rfl⟩
            refine book hgo (aside_setCell w (stA E.Wg) _) (hwg.setSt _) bk_rw df2 (.lib (v := vv) hb (by omega) (by omega) hC hR (.d2 hk)) rfl (by omega) ?_
            have hoth : ∀ a, a < n → a ≠ i → (wd D a).stage = 1 := fun a ha ea => by
              have c0 := others_uncounted hi hv hc1 a ha ea
              have := h2 a ha
              simp only [cnt] at c0
              split at c0 <;> omega
            have := ConcN.Mode.last (j := n) (D := ConcN.upd (wd D) i ⟨4, m2, 1⟩) (tag := tg) i h1 hi (by rw [ConcN.upd_same]; simp) (fun a ha ea => by rw [ConcN.upd_ne _ _ ea]; exact hoth a ha ea)
            rw [ConcN.upd_same] at this
            simpa using this
          · obtain ⟨q, hq⟩ := hq (by omega)
            have hv' : Vc n (ConcN.upd (wd D) i ⟨1, q, 1⟩) = v := by have := Vc_upd (wd D) (⟨1, q, 1⟩ : WD) hi; have := hq0 q; omega
            refine book hgo (aside_setCell w (stA E.Wg) _) (hwg.setSt _) bk_rw df2 (.quit hq) rfl (by omega) ?_
            have e : ((v : Nat) : Int) * KK + ((1 : Nat) : Int) = ((Vc n (ConcN.upd (wd D) i ⟨1, q, 1⟩) : Nat) : Int) * KK + 1 := by rw [hv']; simp
            rw [e]
            exact .reg h1 (opq q h2) (by omega)
        | last L _ h2 h3 h4 =>
          by_cases ea : i = L
          · subst ea; omega
          · have := h4 i hi ea; omega
        | sema h2 => have := h2 i hi; omega
        | fin _ h2 => have := h2 i hi; omega
      · obtain ⟨g', w', es, hgo, ⟨rfl, rfl⟩, hg'⟩ := hstep w (RW.refl w)
        exact idle hgo (.d1 hg') rfl
    | d2 hx =>
      rcases Goes.cases hx with hstop | ⟨m', rfl, hstep⟩
      · obtain ⟨_, hx⟩ := hstop w (RW.refl w)
        obtain ⟨hW3, hoth, rfl, rfl⟩ := hmode.isLast hi (by omega)
        simp only [wst] at hwg
        obtain ⟨g', hgo, m2, hk⟩ := hx (by simpa using hwg)
        refine book hgo (.refl E.Wg w) hwg bk_rd (by intro j x hx; match j, hx with | 0, _ => exact .inr (by simp [deafBehind]) | j + 1, hx => simp at hx) (.lib (v := vv) hb (by omega) (by omega) hC hR (.d3 hk)) rfl (by omega) ?_
        have := ConcN.Mode.last (j := n) (D := ConcN.upd (wd D) i ⟨3, m2, 1⟩) (tag := tg) i hW3 hi (by rw [ConcN.upd_same]; simp) (fun a ha ea => by rw [ConcN.upd_ne _ _ ea]; exact hoth a ha ea)
        rw [ConcN.upd_same] at this
        simpa using this
      · obtain ⟨g', w', es, hgo, ⟨rfl, rfl⟩, hg'⟩ := hstep w (RW.refl w)
        exact idle hgo (.d2 hg') rfl
    | d3 hx =>
      rcases Goes.cases hx with hstop | ⟨m', rfl, hstep⟩
      · obtain ⟨_, hx⟩ := hstop w (RW.refl w)
        obtain ⟨hW3, hoth, rfl, rfl⟩ := hmode.isLast hi (by omega)
        simp only [wst] at hwg
        obtain ⟨g', hgo, m2, hk⟩ := hx (by simpa using hwg)
        refine book hgo (aside_setCell w (stA E.Wg) _) (hwg.setSt 0) (by intro x hx; simp at hx; subst hx; exact bk_cell _ _ rfl) (by intro j x hx; match j, hx with | 0, _ => exact .inr (by simp [deafBehind]) | j + 1, hx => simp at hx) (.lib (v := vv) hb (by omega) (by omega) hC hR (.d4 hk)) rfl (by omega) ?_
        have := ConcN.Mode.last (j := n) (D := ConcN.upd (wd D) i ⟨2, m2, 1⟩) (tag := tg) i hW3 hi (by rw [ConcN.upd_same]; simp) (fun a ha ea => by rw [ConcN.upd_ne _ _ ea]; exact hoth a ha ea)
        rw [ConcN.upd_same] at this
        simpa using this
      · obtain ⟨g', w', es, hgo, ⟨rfl, rfl⟩, hg'⟩ := hstep w (RW.refl w)
        exact idle hgo (.d3 hg') rfl
    | d4 hx =>
      rcases Goes.cases hx with hstop | ⟨m', rfl, hstep⟩
      · obtain ⟨_, hmw, hx⟩ := hstop w (RW.refl w)
        obtain ⟨hW3, hoth, rfl, rfl⟩ := hmode.isLast hi (by omega)
        simp only [wst] at hwg
        obtain ⟨g', hgo, q, hq⟩ := hx (by simpa using hwg)
        have hrun' : g'.status = .running := by
          cases q with
          | zero => exact absurd hq.2 (by decide)
          | succ q => exact hq.elim (fun x => absurd x.2 (by decide)) (fun x => x.1)
        refine bookG hgo (aside_setCell w (smA E.Wg) _) (hwg.setSm 1) (es := semEvents (smA E.Wg)) bk_sem ?_ (.quit hq) (by simp [deafBehind, semEvents]) (by omega) ?_
        · intro j x hx
          match j, hx with
          | 0, hx => simp [semEvents] at hx; subst hx; exact .inl rfl
          | 1, _ => exact .inr (by simp [deafBehind, semEvents])
          | 2, _ => exact .inr (by simp [deafBehind, semEvents])
          | 3, hx => simp [semEvents] at hx; subst hx; exact .inl rfl
          | j + 4, hx => simp [semEvents] at hx
        · intro tag' ht hw
          have hnb := hw hmw hrun'
          have e3 : tag' = .w3 := by
            rcases ht with rfl | ⟨_, rfl⟩
            · cases tag' <;> first | rfl | exact hW3.elim | exact absurd rfl hnb
            · rfl
          subst e3
          simp only [if_true]
          exact .sema fun a ha => by
            by_cases ea : a = i
            · subst ea; rw [ConcN.upd_same]
            · rw [ConcN.upd_ne _ _ ea]; exact hoth a ha ea
      · obtain ⟨g', w', es, hgo, ⟨rfl, rfl⟩, hg'⟩ := hstep w (RW.refl w)
        exact idle hgo (.d4 hg') rfl
end
end Go.Ab
namespace Go.Ab
open Go.Conc Go.ConcN
open Go.ConcR (KK wgBlock WgAt stA smA rd wr mk Payload DC0 Bk g_of_ofEvents bk_of_mute again_blocked ofEvent_loc_mark)
theorem cnt_le {a b:CD} (h:CLt a b):cnt ⟨a.stage,a.fuel,a.deaf⟩≤cnt ⟨b.stage,b.fuel,b.deaf⟩:=by
 have:a.stage≤b.stage:=h.elim Nat.le_of_lt fun x=>Nat.le_of_eq x.1;simp only [cnt]
 split<;>split<;>omega
theorem Vq {f g:Nat→Nat}:∀ {j:Nat},(∀ i,i<j→f i≤g i)→sumTo j f≤sumTo j g
 | 0,_=>Nat.le_refl _
 | j+1,h=>Nat.add_le_add (Vq fun i hi=>h i (by omega)) (h j (by omega))
theorem jq.vc {n:Nat} {D' D:Nat→CD} (h:jq n D' D):Vc n (wd D')≤Vc n (wd D):=by
 obtain⟨i,hi,hl,ho⟩:=h;refine Vq fun k hk=>?_
 by_cases e:k=i
 ·subst e;exact cnt_le hl
 ·simp only [wd,ho k e];exact Nat.le_refl _
section
variable {P:Program} {ty:TypeId} {E:Env} [Payload] {Post:Value→World→Prop} {n n' d0 d0' N N':Nat} {tag tag':Option CTag} {F F':Nat→Prop} {g0:Goroutine} {w0:World} {gs:Array Goroutine} {w w':World} {t:Trace} {D:Nat→CD} {sl:Option (Nat × Nat)}
theorem xQ (h:tag≠some .blk) (g:Goroutine):jv tag g=g:=by
 unfold jv
 split
 ·exact absurd rfl h
 ·rfl
theorem PM.awake (h : PM P ty E n d0 tag F g0 w0 D gs w t) : ∀ g ∈ gs, Conc.awake g := by
  intro g hg tm
  obtain ⟨i, hi⟩ := Array.mem_iff_getElem?.1 hg
  cases i with
  | zero =>
    rw [h.zero] at hi; cases hi
    by_cases hb : tag = some .blk
    · subst hb; simp [jv]
    · rw [xQ hb, h.run]; simp
  | succ i =>
    have hlt : i < n := by have := (Array.getElem?_eq_some_iff.1 hi).1; rw [h.crew.size] at this; omega
    obtain ⟨g', hg', hs⟩ := h.crew.wk i hlt
    rw [hi] at hg'; cases hg'
    rcases hs.status with h | h <;> rw [h] <;> simp
theorem PM.at (e:E.Good0 ty) (h:PM P ty E n d0 tag F g0 w0 D gs w t) (d:Nat):PM P ty E n d0 tag F g0 w0 D gs (w.at d) t:=
 ⟨h.run,h.zero,h.none_,h.keep.trans ⟨rfl,rfl,rfl,Nat.le_refl _,fun _ _=>rfl⟩,h.crew.at e d,h.low,h.off,h.apart,h.grp⟩
def zca (P:Program) (Post:Value→World→Prop) (gs:Array Goroutine) (w:World) (sl:Option (Nat × Nat)) (t:Trace):Prop:=
 (∃ o w' ops,runT P (crowd gs w sl) 0=(.ended o w',ops)∧∀ w₀ sl₀,Conc.Good P Post (crowd gs w₀ sl₀) o w' (t++ops)) ∨
 (∃ m' ops,runT P (crowd gs w sl) 0=(.next m',ops)∧Wins P Post m' (t++ops))
theorem Zr (e : E.Good ty) (hs : n - E.base + 1 < 2147483648) (hb : tag ≠ some .blk)
    (hmain : ∀ D gs w sl t, PM P ty E n d0 tag F g0 w0 D gs w t → Vc n (wd D) ≤ N → zca P Post gs w sl t) :
    ∀ D gs w sl t, PM P ty E n d0 tag F g0 w0 D gs w t → Vc n (wd D) ≤ N → Wins P Post (crowd gs w sl) t := by
  intro D
  induction jq.acc n D with
  | intro D _ ih =>
    intro gs w sl t h hN
    obtain ⟨i, g, d, sl', hg, hrun, hstep⟩ := crowd_pick (P := P) (w := w) (sl := sl) h.awake ⟨0, g0, by rw [h.zero, xQ hb], h.run⟩
    have h' := h.at e.toGood0 d
    cases i with
    | zero =>
      rcases hmain D gs (w.at d) sl' t h' hN with ⟨o, w', ops, h1, h2⟩ | ⟨m', ops, h1, h2⟩
      · exact Wins.ended (hstep.trans h1) (h2 w sl)
      · exact Wins.next (hstep.trans h1) h2
    | succ i =>
      have hi : i < n := by have := (Array.getElem?_eq_some_iff.1 hg).1; rw [h.crew.size] at this; omega
      obtain ⟨gs', w', ops, D', tag', h1, h2, h3, h4⟩ := h'.worker (sl := sl') e hs hi hg hrun
      obtain rfl : tag' = tag := h4.resolve_right fun x => hb x.1
      exact Wins.next (hstep.trans h1) (ih D' h2 gs' w' sl' _ h3 (Nat.le_trans h2.vc hN))
theorem PM.step0 (e:E.Good0 ty) (hb:tag≠some .blk) (h:PM P ty E n d0 tag F g0 w0 D gs w t) {g':Goroutine} {es:Array Event} (hgo:stepG P true g0 w=.go (jv tag' g') w' es) (hr:g'.status=.running) (hnone:tag'=some .blk→g'.offers=none)
  (hrw:∀ k,k<n→RelW ty E k (D k).F w w') (hz:RelZ E w w')
  (hok:∀ op∈MemOp.ofEvents 0 g0.frame.fn g0.frame.place es,Ok0 (ShL E) (Own E D n) (Rd E) n op) (hev:∀ x∈es,EvC w'.heap.size x)
  (hl:∀ b,F' b→F b∨(w.heap.size≤b∧b<w'.heap.size)) (hgrp:Grp ty E n tag' D w') :
  ∃ gs' ops,runT P (crowd gs w sl) 0=(.next (crowd gs' w' sl),ops)∧PM P ty E n (deafBehind d0 es) tag' F' g' w' D gs' w' (t++ops):=by
 have hsz:=hz.keep.size;have hz0:gs[0]?=some g0:=by rw [h.zero,xQ hb]
 refine⟨_,_,runT_crowd_go (P:=P) (sl:=sl) (i:=0) hz0 (by simpa using hgo),hr,get_map_set_same _ _ _ (by rw [h.crew.size];omega),hnone,.refl _ _ _,h.crew.step0 e hrw hz hok hev,fun b hb=>?_,fun b hb=>?_,fun i hi b hb hb'=>?_,hgrp⟩
 ·rcases hl b hb with hb|⟨_,hb⟩
  ·exact Nat.lt_of_lt_of_le (h.low b hb) hsz
  ·exact hb
 ·rcases hl b hb with hb|⟨hb,_⟩
  ·exact h.off b hb
  ·exact⟨fun hs=>by have:=e.ss b hs;have:=h.crew.B0;omega,fun hs=>by have:=(e.xs b hs).2;have:=h.crew.B0;omega⟩
 ·rcases hl b hb with hb|⟨hb,_⟩
  ·exact h.apart i hi b hb hb'
  ·have:=h.crew.low i hi b hb';omega
def TP (P:Program) (ty:TypeId) (E:Env) [Payload] (Post:Value→World→Prop) (n d0:Nat) (tag:Option CTag) (N:Nat):Cont:=fun F g w0=>
 ∀ D gs w sl t,PM P ty E n d0 tag F g w0 D gs w t→Vc n (wd D)≤N→Wins P Post (crowd gs w sl) t
theorem TP.keep {g:Goroutine} {w1:World} (h:TP P ty E Post n d0 tag N F g w0) (hk:Keep E.R F w0 w1):TP P ty E Post n d0 tag N F g w1:=
 fun D gs w sl t hp=>h D gs w sl t ⟨hp.run,hp.zero,hp.none_,hk.trans hp.keep,hp.crew,hp.low,hp.off,hp.apart,hp.grp⟩
theorem TP.mono {g:Goroutine} (hf:∀ b,F b→F' b) (h:TP P ty E Post n d0 tag N F g w0):TP P ty E Post n d0 tag N F' g w0:=
 fun D gs w sl t hp=>h D gs w sl t ⟨hp.run,hp.zero,hp.none_,hp.keep.mono hf,hp.crew,fun b hb=>hp.low b (hf b hb),fun b hb=>hp.off b (hf b hb),fun i hi b hb=>hp.apart i hi b (hf b hb),hp.grp⟩
theorem YP (e:E.Good0 ty) (hc:Crew P ty E n d0 gs w t D) (hoff:∀ b,F b→¬E.Shun b∧¬E.X b) (hap:∀ i,i<n→∀ b,F b→(D i).F b→E.R b) {fn:FuncId} {pos:String} {es:Array Event} (hd:Does E.R F w w' es F') :
  ∀ op∈MemOp.ofEvents 0 fn pos es,Ok0 (ShL E) (Own E D n) (Rd E) n op:=by
 intro op hop;obtain⟨x,hx,rfl⟩:=Conc.mem_ofEvents hop;refine⟨rfl,fun y hy=>.inr ?_⟩;have fr:∀ b,w.heap.size≤b→¬E.Shun b∧¬E.X b∧¬E.R b∧∀ i,i<n→¬(D i).F b:=fun b hb=>
  ⟨fun hs=>by have:=e.ss b hs;have:=hc.B0;omega,fun hs=>by have:=(e.xs b hs).2;have:=hc.B0;omega,fun hs=>by have:=(e.rs b hs).2.2;have:=hc.B0;omega,fun i hi hF=>by have:=hc.low i hi b hF;omega⟩
 have key:∀ b,((F b∨(w.heap.size≤b∧b<w'.heap.size))∧¬E.R b)∨E.R b→¬E.Shun b∧¬E.X b∧∀ i,i<n→(D i).F b→E.R b:=by
  intro b hb;rcases hb with⟨hb|⟨hb,_⟩,_⟩|hb
  ·exact⟨(hoff b hb).1,(hoff b hb).2,fun i hi hF=>hap i hi b hb hF⟩
  ·exact⟨(fr b hb).1,(fr b hb).2.1,fun i hi hF=>absurd hF ((fr b hb).2.2.2 i hi)⟩
  ·exact⟨(e.rs b hb).1,(e.rs b hb).2.1,fun _ _ _=>hb⟩
 have hloc:inF (fun c=>F c∨(w.heap.size≤c∧c<w'.heap.size)) E.R y.loc∨(inR E.R y.loc∧y.write=false):=by
  rcases Vp (hd.evs x hx) hy with h1|⟨b,h1,h2⟩|h1
  ·exact .inl h1
  ·exact absurd h2 (fr b h1).2.2.1
  ·exact .inr h1
 generalize hl:y.loc=l at hloc;refine⟨?_,fun k k1 kn ho=>?_,fun hw k k1 kn hr=>?_⟩
 ·rintro⟨a,rfl,hs⟩;exact (key a.block (hloc.imp id fun x=>x.1)).1 hs
 ·rcases ho with⟨_,_,ho|⟨b,o,rfl,hm⟩⟩
  ·cases l with
   | cell a=>exact ho.2 ((key a.block (hloc.imp id fun x=>x.1)).2.2 (k - 1) (by omega) ho.1)
   | obj r=>exact ho.2 ((key r (hloc.imp id fun x=>x.1)).2.2 (k - 1) (by omega) ho.1)
   | _=>exact ho.elim
  ·exact (key b (hloc.imp id fun x=>x.1)).2.1 (e.mine _ _ _ hm).1
 ·rcases hloc with h1|⟨_,h2⟩
  ·exact Kv h1 hr.2
  ·rw [h2] at hw;cases hw
theorem TP.closed (e:E.Good ty) (hs:n - E.base+1<2147483648) (hb:tag≠some .blk):Closed P true E.R (TP P ty E Post n d0 tag N):=by
 intro F g w0 hrun h;refine Zr e hs hb fun D gs w sl t hp hN=>.inr ?_;obtain⟨g',w',es,F',hgo,hr,hd,hT⟩:=h w hp.keep;have hc:=hp.crew;obtain⟨gs',ops,h1,h2⟩:=hp.step0 (sl:=sl) (tag':=tag) (F':=F') e.toGood0 hb (by rw [xQ hb];exact hgo) hr (fun x=>absurd x hb)
  (fun k hk=>jO e hd hc.B0 (fun b h1 h2=>hp.apart k hk b h2 h1) (hc.low k hk) hp.off) (Xq e.toGood0 hd hc.B0 hp.off) (YP e.toGood0 hc hp.off hp.apart hd) (fun x hx=>qN (hd.evs x hx))
  (fun b hb=>by
   rcases hd.lt b hb with h1|h1
   ·exact .inl h1
   ·rcases Nat.lt_or_ge b w.heap.size with h2|h2
    ·exact .inl (hd.rng b hb h2)
    ·exact .inr ⟨h2,h1⟩)
  (hp.grp.of (fun _ _=>rfl) (hd.block _ (Nat.lt_of_lt_of_le (e.ss _ e.wg) hc.B0) fun x=>(hp.off _ x.1).1 e.wg))
 rw [deafBehind_still (fun x hx=>Zh (hd.evs x hx)) d0] at h2;exact⟨_,_,h1,hT D gs' w' sl _ h2 hN⟩
theorem Wz (e : E.Good0 ty) (hmain : ∀ D gs w sl t, PM P ty E E.base d0 none F g0 w0 D gs w t → Vc E.base (wd D) ≤ N → zca P Post gs w sl t) :
    ∀ D gs w sl t, PM P ty E E.base d0 none F g0 w0 D gs w t → Vc E.base (wd D) ≤ N → Wins P Post (crowd gs w sl) t := by
  by_cases hpos : 0 < E.base
  · exact Zr (e.up hpos) (by omega) (by simp) hmain
  intro D gs w sl t h hN
  obtain ⟨i, g, d, sl', hg, hrun, hstep⟩ := crowd_pick (P := P) (w := w) (sl := sl) h.awake ⟨0, g0, by rw [h.zero, xQ (by simp)], h.run⟩
  have h' := h.at e d
  cases i with
  | zero =>
    rcases hmain D gs (w.at d) sl' t h' hN with ⟨o, w', ops, h1, h2⟩ | ⟨m', ops, h1, h2⟩
    · exact Wins.ended (hstep.trans h1) (h2 w sl)
    · exact Wins.next (hstep.trans h1) h2
  | succ i =>
    have := (Array.getElem?_eq_some_iff.1 hg).1
    rw [h.crew.size] at this
    omega
theorem TP.closed0 (e:E.Good0 ty):Closed P true E.R (TP P ty E Post E.base d0 none N):=by
 intro F g w0 hrun h;refine Wz e fun D gs w sl t hp hN=>.inr ?_;obtain⟨g',w',es,F',hgo,hr,hd,hT⟩:=h w hp.keep;have hc:=hp.crew;obtain⟨gs',ops,h1,h2⟩:=hp.step0 (sl:=sl) (tag':=none) (F':=F') e (by simp) (by rw [xQ (by simp)];exact hgo) hr (fun x=>by cases x)
  (fun k hk=>jO (e.up (by omega)) hd hc.B0 (fun b h1 h2=>hp.apart k hk b h2 h1) (hc.low k hk) hp.off) (Xq e hd hc.B0 hp.off) (YP e hc hp.off hp.apart hd) (fun x hx=>qN (hd.evs x hx))
  (fun b hb=>by
   rcases hd.lt b hb with h1|h1
   ·exact .inl h1
   ·rcases Nat.lt_or_ge b w.heap.size with h2|h2
    ·exact .inl (hd.rng b hb h2)
    ·exact .inr ⟨h2,h1⟩)
  rfl
 rw [deafBehind_still (fun x hx=>Zh (hd.evs x hx)) d0] at h2;exact⟨_,_,h1,hT D gs' w' sl _ h2 hN⟩
def BkM (Wg:Nat) (x:Event):Prop:=Bk Wg x∨∃ a,a.block=Wg∧(x=mk (.read a)∨x=mk (.write a))
theorem Q3 (e:E.Good ty) {j:Nat} {Own Rd:Nat→Go.Loc→Prop} {fn:FuncId} {pos:String} {es:Array Event} (h:∀ x∈es,BkM E.Wg x):∀ op∈MemOp.ofEvents 0 fn pos es,Ok0 (ShL E) Own Rd j op:=by
 intro op hop;obtain⟨x,hx,rfl⟩:=Conc.mem_ofEvents hop;refine⟨rfl,fun y hy=>.inl ?_⟩;rcases h x hx with hb|⟨a,ha,rfl|rfl⟩
 ·obtain⟨h1,h2⟩:=Wy (es:=#[x]) (fun z hz=>by simp at hz;subst hz;exact hb) x (by simp) y hy;exact⟨sh_wg e h1,by rw [h2];simp⟩
 ·simp [mk,MemAct.ofEvent,MemAct.touch?] at hy;subst hy;exact⟨⟨a,rfl,ha▸e.wg⟩,by simp⟩
 ·simp [mk,MemAct.ofEvent,MemAct.touch?] at hy;subst hy;exact⟨⟨a,rfl,ha▸e.wg⟩,by simp⟩
theorem Q4 (e:E.Good ty) (hB:E.B0≤w.heap.size) {es:Array Event} (h:∀ x∈es,BkM E.Wg x):∀ x∈es,EvC w.heap.size x:=by
 intro x hx;have hw:∀ a:Addr,a.block=E.Wg→a.block<w.heap.size:=fun a ha=>by rw [ha];exact Nat.lt_of_lt_of_le (e.ss _ e.wg) hB
 rcases h x hx with hb|⟨a,ha,rfl|rfl⟩
 ·exact zb9 e hB (es:=#[x]) (fun z hz=>by simp at hz;subst hz;exact hb) x (by simp)
 ·exact⟨hw a ha,fun b hc=>by cases hc⟩
 ·exact⟨hw a ha,fun b hc=>by cases hc⟩
theorem TP.lib (e:E.Good ty) (hs:n - E.base+1<2147483648) (hb:tag≠some .blk) {g:Goroutine}
  (h:∀ D w,Grp ty E n tag D w→Keep E.R F w0 w→Vc n (wd D)≤N→Vc n (wd D)+E.base≤n→∃ g' w' es tag' N',stepG P true g w=.go (jv tag' g') w' es∧g'.status=.running∧(tag'=some .blk→g'.offers=none)∧Aside E.Wg w w'∧WgLive ty E.Wg w'∧(∀ x∈es,BkM E.Wg x) ∧
   Grp ty E n tag' D w'∧Vc n (wd D)≤N'∧TP P ty E Post n (deafBehind d0 es) tag' N' F g' w'):TP P ty E Post n d0 tag N F g w0:=by
 refine Zr e hs hb fun D gs w sl t hp hN=>.inr ?_;obtain⟨g',w',es,tag',N',hgo,hr,hno,hAs,hlv,hbk,hgrp,hN',hT⟩:=h D w hp.grp hp.keep hN hp.crew.vc;have hc:=hp.crew;have hB:E.B0≤w'.heap.size:=by rw [hAs.size];exact hc.B0
 obtain⟨gs',ops,h1,h2⟩:=hp.step0 (sl:=sl) (tag':=tag') (F':=F) e.toGood0 hb hgo hr hno (fun k hk=>jr e hAs hlv fun b hb=>(hc.off k hk b hb).1) (jr (i:=n) e hAs hlv fun b hb=>hb.elim).z (Q3 e hbk) (Q4 e hB hbk) (fun b hb=>.inl hb) hgrp;exact⟨_,_,h1,hT D gs' w' sl _ h2 hN'⟩
end
end Go.Ab
namespace Go.Ab
open Go.Conc Go.ConcN
open Go.ConcR (KK wgBlock WgAt stA smA rd wr mk Payload DC0 Bk g_of_ofEvents bk_of_mute again_blocked ofEvent_loc_mark)
section
variable {P:Program} {ty:TypeId} {E:Env} [Payload] {Post:Value→World→Prop} {n d0 N:Nat} {tag tag':Option CTag} {F F':Nat→Prop} {g0:Goroutine} {w0:World} {gs:Array Goroutine} {w w':World} {t:Trace} {D:Nat→CD} {sl:Option (Nat × Nat)}
theorem J2 {c:CD} (k:Nat) (k1:1≤k) (kn:k≤n) (l:Go.Loc):Own E (ConcN.upd D n c) (n+1) k l↔Own E D n k l:=by
 have e:ConcN.upd D n c (k - 1)=D (k - 1):=ConcN.upd_ne D c (by omega);simp only [Own,e];exact⟨fun ⟨_,_,h⟩=>⟨k1,kn,h⟩,fun ⟨_,_,h⟩=>⟨k1,by omega,h⟩⟩
theorem TP.spawn (e:E.Good ty) (hs:n - E.base+1<2147483648) {r r':Nat}
  (h:∀ w1,Keep E.R F w0 w1→∃ g' child Fc F',stepG P true g0 w1=.spawn g' child w1 #[]∧g'.status=.running∧(∀ b,Fc b→F b)∧(∀ b,F' b→F b)∧(∀ b,F' b→Fc b→E.R b) ∧
   (E.base≤n→(∀ b,Fc b→¬E.Shun b∧¬E.X b)→E.B0≤w1.heap.size→WgLive ty E.Wg w1→(∀ b,E.X b→∃ cs,w1.heap[b]?=some (.cells cs (E.xt b).1 (E.xt b).2)∧cs.size=E.xn b)→∃ tr,WayT P ty E n tr Fc child w1)∧TP P ty E Post (n+1) 0 (some (.sp r' 5)) (n+1) F' g' w1):TP P ty E Post n 0 (some (.sp r 2)) N F g0 w0:=by
 refine Zr e hs (by simp) fun D gs w sl t hp hN=>.inr ?_;obtain⟨g',child,Fc,F',hgo,hr,hc1,hc2,hc3,hw,hT⟩:=h w hp.keep;have hc:=hp.crew;obtain⟨tr,hw⟩:=hw hc.bn (fun b hb=>hp.off b (hc1 b hb)) hc.B0 (by obtain⟨st,sm,h1,_⟩:=hp.grp;exact⟨st,sm,h1⟩) hc.xsh;have hz:gs[0]?=some g0:=by rw [hp.zero,xQ (by simp)]
 have hrun:=runT_crowd_spawn (P:=P) (sl:=sl) (i:=0) hz (by simpa using hgo);obtain⟨x,hx⟩:∃ x:MemOp,x={ g:=0,fn:=g0.frame.fn,pos:=g0.frame.place,act:=.go gs.size }:=⟨_,rfl⟩;obtain⟨y,hy⟩:∃ y:MemOp,y={ g:=gs.size,fn:=child.frame.fn,pos:=g0.frame.place,act:=.start }:=⟨_,rfl⟩;have hops:((MemOp.ofEvents 0 g0.frame.fn g0.frame.place #[]).push { g:=0,fn:=g0.frame.fn,pos:=g0.frame.place,act:=.go gs.size }).push { g:=gs.size,fn:=child.frame.fn,pos:=g0.frame.place,act:=.start }=#[x,y]:=by rw [hx,hy];simp [Conc.ofEvents_eq]
 rw [hops] at hrun;rw [hc.size] at hx hy;have hx':x.g=0∧x.act=.go (n+1):=by rw [hx];exact⟨rfl,rfl⟩
 have hy':y.g=n+1∧y.act=.start:=by rw [hy];exact⟨rfl,rfl⟩
 have hm:∀ op∈#[x,y],op=x∨op=y:=by intro op hop;simpa using hop
 have hst:∀ op∈#[x,y],op.act≠.mark .disable∧op.act≠.mark .enable:=by
  intro op hop;rcases hm op hop with rfl|rfl
  ·rw [hx'.2];exact⟨by simp,by simp⟩
  ·rw [hy'.2];exact⟨by simp,by simp⟩
 generalize hcd:(⟨7,tr,0,0,Fc⟩:CD)=c;have hnn:∀ k,k<n+1→k≠n→k<n:=fun k h1 h2=>by omega
 have hoff:∀ i,i<n+1→∀ b,(ConcN.upd D n c i).F b→¬E.Shun b∧¬E.X b:=by
  intro i hi b hb
  by_cases ei:i=n
  ·subst ei;rw [ConcN.upd_same,←hcd] at hb;exact hp.off b (hc1 b hb)
  ·rw [ConcN.upd_ne D _ ei] at hb;exact hc.off i (hnn i hi ei) b hb
 have hap:∀ i,i<n+1→∀ k,k<n+1→i≠k→∀ b,(ConcN.upd D n c i).F b→(ConcN.upd D n c k).F b→E.R b:=by
  intro i hi k hk hne b h1 h2
  by_cases ei:i=n
  ·subst ei;rw [ConcN.upd_same,←hcd] at h1;rw [ConcN.upd_ne D _ (Ne.symm hne)] at h2;exact hp.apart k (hnn k hk (Ne.symm hne)) b (hc1 b h1) h2
  ·rw [ConcN.upd_ne D _ ei] at h1
   by_cases ek:k=n
   ·subst ek;rw [ConcN.upd_same,←hcd] at h2;exact hp.apart i (hnn i hi ei) b (hc1 b h2) h1
   ·rw [ConcN.upd_ne D _ ek] at h2;exact hc.apart i (hnn i hi ei) k (hnn k hk ek) hne b h1 h2
 have hA:=fam (n:=n+1) (D:=ConcN.upd D n c) e.toGood0 hoff hap;have htr:TR (ShL E) (Own E (ConcN.upd D n c) (n+1)) (Rd E) E.base (n+1) w.heap.size (t++#[x,y]):=
  (hc.tr.congr (Own':=Own E (ConcN.upd D n c) (n+1)) (fun k k1 kn l=>J2 k k1 kn l) (fun _ _ _ _=>Iff.rfl)).fork hA hx' hy' hc.deaf0
 have hcrew:Crew P ty E (n+1) 0 ((gs.setIfInBounds 0 g').push child) w (t++#[x,y]) (ConcN.upd D n c):=by
  refine⟨by simp [hc.size],by have:=hc.bn;omega,fun i hi=>?_,fun i hi=>?_,htr,hc.norel.app (fun op hop=>?_),by rw [Deaf_still t 0 _ hst,hc.deaf0],fun i hi=>?_,fun i hb hi hs=>?_,fun i hb hi hs=>?_,hc.B0,hc.xsh,fun i hi b hb=>?_,hoff,hap,hc.rw0⟩
  ·by_cases ei:i=n
   ·subst ei;refine⟨child,?_,by rw [ConcN.upd_same,←hcd];exact .way hc.bn hw⟩;rw [show i+1=(gs.setIfInBounds 0 g').size by simp [hc.size],Array.getElem?_push_size]
   ·obtain⟨g,hg,hsg⟩:=hc.wk i (hnn i hi ei);refine⟨g,?_,by rw [ConcN.upd_ne D _ ei];exact hsg⟩;rw [Array.getElem?_push_lt (by simp [hc.size];omega),←Array.getElem?_eq_getElem,Array.getElem?_setIfInBounds_ne (by omega)];exact hg
  ·have:=hc.bn;rw [ConcN.upd_ne D _ (by omega)];exact hc.old i hi
  ·rcases hm op hop with rfl|rfl
   ·rw [hx'.2];simp
   ·rw [hy'.2];simp
  ·rw [Deaf_still t _ _ hst]
   by_cases ei:i=n
   ·subst ei;rw [ConcN.upd_same,←hcd];exact Deaf_absent fun a op ha e=>by have:=hc.tr.ct.gs a op ha;omega
   ·rw [hc.deafW i (hnn i hi ei),ConcN.upd_ne D _ ei]
  ·by_cases ei:i=n
   ·subst ei;rw [ConcN.upd_same,←hcd] at hs;exact absurd hs (show ¬(7:Nat)≤6 by omega)
   ·rw [ConcN.upd_ne D _ ei] at hs;obtain⟨r,hr⟩:=hc.rel i hb (hnn i hi ei) hs;refine⟨r,hr.appNot fun op hop=>?_⟩;rcases hm op hop with rfl|rfl
    ·rw [hx'.1];omega
    ·rw [hy'.1];omega
  ·by_cases ei:i=n
   ·subst ei;rw [ConcN.upd_same,←hcd] at hs;exact absurd hs (show ¬(7:Nat)≤6 by omega)
   ·rw [ConcN.upd_ne D _ ei] at hs ⊢;exact hc.res i hb (hnn i hi ei) hs
  ·by_cases ei:i=n
   ·subst ei;rw [ConcN.upd_same,←hcd] at hb;exact hp.low b (hc1 b hb)
   ·rw [ConcN.upd_ne D _ ei] at hb;exact hc.low i (hnn i hi ei) b hb
 refine⟨_,_,hrun,hT (ConcN.upd D n c) _ w sl _ ⟨hr,?_,(fun hx=>nomatch hx),.refl _ _ _,hcrew,fun b hb=>hp.low b (hc2 b hb),fun b hb=>hp.off b (hc2 b hb),fun i hi b hb hb'=>?_,?_⟩ (Vc_le _ _)⟩
 ·rw [xQ (by simp),Array.getElem?_push_lt (by simp [hc.size]),←Array.getElem?_eq_getElem]
  simp [hc.size]
 ·by_cases ei:i=n
  ·subst ei;rw [ConcN.upd_same,←hcd] at hb';exact hc3 b hb hb'
  ·rw [ConcN.upd_ne D _ ei] at hb';exact hp.apart i (hnn i hi ei) b (hc2 b hb) hb'
 ·obtain⟨st,sm,hwg,hmode⟩:=hp.grp;obtain⟨ho,rfl,rfl,_⟩:=hmode.open_inv trivial;have eV:Vc (n+1) (wd (ConcN.upd D n c))=Vc n (wd D)+1:=by
   rw [Xr];simp only [Vc,sumTo,ConcN.upd_same];rw [sumTo_upd_out (wd D) _ cnt (Nat.le_refl _),←hcd];rfl
  have ho':OpenSt (n+1) (wd (ConcN.upd D n c)):=fun i hi=>by
   rw [Xr]
   by_cases ei:i=n
   ·subst ei;rw [ConcN.upd_same,←hcd];exact .inl rfl
   ·rw [ConcN.upd_ne _ _ ei];exact ho i (hnn i hi ei)
  refine⟨_,_,hwg,?_⟩;have:=ConcN.Mode.opn (j:=n+1) (D:=wd (ConcN.upd D n c)) (tag:=.sp r' 5) trivial ho' (by simp);rw [eV] at this
  simpa [pend] using this
def T0 (P:Program) (ty:TypeId) [Payload] (Post:Value→World→Prop) (R:Nat→Prop) (W:World):Cont:=fun F g w0=>
 Same R W w0→∀ E:Env,E.Good0 ty→E.R=R→TP P ty E Post E.base 0 none E.base F g w0
theorem size_of {R:Nat→Prop} {W w:World} (hl:∀ b,R b→b<W.heap.size) (h:∀ b,R b→w.heap[b]?=W.heap[b]?):∀ b,R b→b<w.heap.size:=by
 intro b hb;have h1:=h b hb;rw [Array.getElem?_eq_getElem (hl b hb)] at h1;exact (Array.getElem?_eq_some_iff.1 h1).1
theorem T0.keep {R:Nat→Prop} {W w1:World} {g:Goroutine} (h:T0 P ty Post R W F g w0) (hk:Keep R F w0 w1):T0 P ty Post R W F g w1:=
 fun hR E e he=>(h (hR.back hk) E e he).keep (he▸hk)
theorem T0.mono {R:Nat→Prop} {W:World} {g:Goroutine} (hf:∀ b,F b→F' b) (h:T0 P ty Post R W F g w0):T0 P ty Post R W F' g w0:=fun hR E e he=>(h hR E e he).mono hf
theorem T0.closed {R:Nat→Prop} {W:World} (hl:∀ b,R b→b<W.heap.size):Closed P true R (T0 P ty Post R W):=by
 intro F g w0 hrun h hR E e he;subst he;refine TP.closed0 e F g w0 hrun fun w1 hk=>?_;obtain⟨g',w',es,F',hgo,hr,hd,hT⟩:=h w1 hk;have h1:=hR.keep hk;refine⟨g',w',es,F',hgo,hr,hd,hT ⟨hd.os.trans h1.os,hd.tape.trans h1.tape,hd.output.trans h1.output,fun b hb=>?_⟩ E e rfl⟩;rw [hd.block b (size_of hl h1.block b hb) fun x=>x.2 hb,h1.block b hb]
theorem T0.ended {R:Nat→Prop} {W:World} (h:∀ w1,Keep R F w0 w1→Same R W w1→∃ v es,stepG P true g0 w1=.ended (.done v) w1 es∧(∀ x∈es,EvOk R F w1.heap.size w1.heap.size x)∧Post v w1):T0 P ty Post R W F g0 w0:=by
 intro hR E e he;subst he;refine Wz e fun D gs w sl t hp hN=>.inl ?_;obtain⟨v,es,hend,hes,hpost⟩:=h w hp.keep (hR.keep hp.keep);have hc:=hp.crew;have hz:gs[0]?=some g0:=by rw [hp.zero,xQ (by simp)]
 have hrunT:=runT_many_ended (P:=P) (sl:=sl) (i:=0) hz (show stepG P (0 == 0) g0 w=_ from hend);have hd:Does E.R F w w es F:=⟨rfl,rfl,rfl,Nat.le_refl _,fun _ _ _=>rfl,hes,fun _ h _=>h,fun _ h=>.inl h⟩;have htr:TR (ShL E) (Own E D E.base) (Rd E) E.base E.base w.heap.size (t++MemOp.ofEvents 0 g0.frame.fn g0.frame.place es):=hc.tr.app0 (hc.fam e) (YP e hc hp.off hp.apart hd) (fun op hop=>by
  obtain⟨x,hx,rfl⟩:=Conc.mem_ofEvents hop;exact (qN (hes x hx)).low)
 have hq:∀ i,i<E.base→∀ g,gs[i+1]?=some g→∃ q,QuitsD P q (D i).deaf g:=by
  intro i hi g hg;obtain⟨g',hg',hsit⟩:=hc.wk i hi;obtain rfl:g'=g:=Option.some.inj (hg'.symm.trans hg);have h1:=(hc.old i hi).1;generalize hD:D i=c at hsit h1
  cases hsit with
  | way _ _=>simp at h1
  | lib _ h2 _ _ _ _=>simp only at h1;omega
  | quit hq=>exact⟨_,hq⟩
 refine⟨_,_,_,hrunT,fun w₀ sl₀=>⟨v,rfl,hpost,htr.ct.nr,htr.over,⟨fun x hx=>?_,rfl⟩,fun j x hx hj=>?_⟩⟩
 ·obtain⟨j,hj⟩:=List.mem_iff_getElem?.1 hx;rw [List.getElem?_drop] at hj;have hj':gs[j+1]?=some x:=by simpa [crowd,Nat.add_comm] using hj
  have:j<E.base:=by have:=(Array.getElem?_eq_some_iff.1 hj').1;rw [hc.size] at this;omega
  obtain⟨q,hq⟩:=hq j this x hj';exact⟨_,hq.leaves⟩
 ·obtain⟨i,rfl⟩:∃ i,j=i+1:=⟨j - 1,by omega⟩;have hx':gs[i+1]?=some x:=hx;have:i<E.base:=by have:=(Array.getElem?_eq_some_iff.1 hx').1;rw [hc.size] at this;omega
  obtain⟨q,hq⟩:=hq i this x hx';refine⟨q,?_⟩;have e1:(t++MemOp.ofEvents 0 g0.frame.fn g0.frame.place es).deaf (i+1) (t++MemOp.ofEvents 0 g0.frame.fn g0.frame.place es).size=(D i).deaf:=by
   have:=Deaf_other t (g:=i+1) (g':=0) (by omega) (MemOp.ofEvents 0 g0.frame.fn g0.frame.place es) g_of_ofEvents;rw [hc.deafW i ‹_›] at this;exact this
  rw [e1];exact hq.hears _
end
end Go.Ab
namespace Go.Ab
open Go.Conc Go.ConcN
open Go.ConcR (KK wgBlock WgAt stA smA rd wr mk Payload DC0 Bk g_of_ofEvents bk_of_mute again_blocked ofEvent_loc_mark)
section
variable {P:Program} {ty:TypeId} {E:Env} [Payload] {Post:Value→World→Prop} {n d0 N:Nat} {tag tag':Option CTag} {F F':Nat→Prop} {g0:Goroutine} {w0:World} {gs:Array Goroutine} {w w':World} {t:Trace} {D:Nat→CD} {sl:Option (Nat × Nat)}
theorem Sit.quits {i:Nat} {c:CD} {g:Goroutine} (h:Sit P ty E i c g w) (hs:c.stage=1):c.tree=.leaf∧QuitsD P c.fuel c.deaf g:=by
 cases h with
 | way _ _=>simp at hs
 | lib _ h2 _ _ _ _=>simp only at hs;omega
 | quit hq=>exact⟨rfl,hq⟩
theorem T0.open {R : Nat → Prop} {W : World} (h : ∀ w1 (E0 : Env), E0.Good0 ty → E0.R = R → E0.B0 ≤ w1.heap.size → Keep R F w0 w1 → Same R W w1 → (∀ b, F b → b < w1.heap.size ∧ ¬ E0.Shun b) →
      ∃ g' w' es F' E1 r, stepG P true g0 w1 = .go g' w' es ∧ g'.status = .running ∧ Does R F w1 w' es F' ∧ (∀ x ∈ es, (MemAct.ofEvent x).touch? = none) ∧ WgAt ty w1.heap.size w' 0 0 ∧ E1.Good ty ∧ E1.base = E0.base ∧ E1.Wg = w1.heap.size ∧ (∀ b, E1.Shun b ↔ E0.Shun b ∨ b = w1.heap.size) ∧
        E1.B0 ≤ w'.heap.size ∧ (∀ b, E1.X b → ∃ cs, w'.heap[b]? = some (.cells cs (E1.xt b).1 (E1.xt b).2) ∧ cs.size = E1.xn b) ∧ (∀ b, F' b → b ≠ w1.heap.size ∧ ¬ E1.X b) ∧ Same E1.R E1.W0 w' ∧ TP P ty E1 Post E1.base 0 (some (.sp r 5)) E1.base F' g' w') : T0 P ty Post R W F g0 w0 := by
  intro hR E e he
  subst he
  refine Wz e fun D gs w sl t hp hN => .inr ?_
  have hc := hp.crew
  obtain ⟨g', w', es, F', E1, r, hgo, hr, hd, hnt, hwg, e1, hb1, hWg1, hS1, hB1, hX1, hF1, hW1, hT⟩ := h w E e rfl hc.B0 hp.keep (hR.keep hp.keep) (fun b hb => ⟨hp.low b hb, (hp.off b hb).1⟩)
  have hz : gs[0]? = some g0 := by rw [hp.zero, xQ (by simp)]
  have hrun := runT_crowd_go (P := P) (sl := sl) (i := 0) hz (by simpa using hgo)
  have hcs := hc.step0 (w' := w') (a := g0) (a' := g') (fn := g0.frame.fn) (pos := g0.frame.place) (es := es) e (fun k hk => jO (e.up (by omega)) hd hc.B0 (fun b h1 h2 => hp.apart k hk b h2 h1) (hc.low k hk) hp.off) (Xq e hd hc.B0 hp.off) (YP e hc hp.off hp.apart hd) (fun x hx => qN (hd.evs x hx))
  rw [deafBehind_still (fun x hx => Zh (hd.evs x hx)) 0] at hcs
  have hop : ∀ op ∈ MemOp.ofEvents 0 g0.frame.fn g0.frame.place es, op.g = 0 ∧ op.act.touch? = none ∧ op.act.low w'.heap.size ∧ ∀ a, op.act ≠ .mark (.release a) := by
    intro op hop
    obtain ⟨x, hx, rfl⟩ := Conc.mem_ofEvents hop
    exact ⟨rfl, hnt x hx, (qN (hd.evs x hx)).low, fun a hc => (qN (hd.evs x hx)).norel a (Go.ConcR.loc_of_ofEvent hc)⟩
  generalize hgs : (gs.map (woken P g0 g' w')).setIfInBounds 0 g' = gs' at hrun hcs
  generalize hu : MemOp.ofEvents 0 g0.frame.fn g0.frame.place es = u at hrun hcs hop
  have hE : ∀ b, ∀ i, i < E.base → ¬ (D i).F b := fun b i hi => (hc.old i hi).2 b
  have noOwn : ∀ (E' : Env) k, E'.Good0 ty → E'.base = E.base → 1 ≤ k → k ≤ E.base → ∀ l, ¬ Own E' D E.base k l := by
    rintro E' k e' hb' k1 kn l ⟨_, _, h | ⟨b, o, _, hm⟩⟩
    · cases l <;> first | exact hE _ (k - 1) (by omega) h.1 | exact h.elim
    · have := (e'.mine _ _ _ hm).2; omega
  have noRd : ∀ (E' : Env) k, E'.base = E.base → k ≤ E.base → ∀ l, ¬ Rd E' k l := by
    rintro E' k hb' kn l ⟨h, _⟩; omega
  have hA1 : Apart (ShL E1) (Own E1 D E.base) (Rd E1) := fam e1.toGood0 (fun i hi b hb => absurd hb (hE b i hi)) (fun i hi k hk _ b hb => absurd hb (hE b i hi))
  have htr : TR (ShL E1) (Own E1 D E.base) (Rd E1) E.base E.base w'.heap.size (t ++ u) := by
    have h1 := hc.tr.congr (Own' := Own E1 D E.base) (Rd' := Rd E1) (fun k k1 kn l => ⟨fun x => absurd x (noOwn E1 k e1.toGood0 hb1 k1 kn l), fun x => absurd x (noOwn E k e rfl k1 kn l)⟩) (fun k k1 kn l => ⟨fun x => absurd x (noRd E1 k hb1 kn l), fun x => absurd x (noRd E k rfl kn l)⟩)
    have h2 := h1.share (Sh' := ShL E1) (fun l ⟨a, ha, hs⟩ => ⟨a, ha, (hS1 _).2 (.inl hs)⟩) (fun l ⟨a, ha, hs⟩ => by
      rcases (hS1 _).1 hs with hs | hs
      · exact .inl ⟨a, ha, hs⟩
      · refine .inr ?_
        rw [ha]
        intro hl
        have hl' : a.block < w.heap.size := hl
        omega)
    exact (h2.more hd.size).app0 hA1 (fun op ho => ⟨(hop op ho).1, fun x hx => by rw [(hop op ho).2.1] at hx; cases hx⟩) fun op ho => (hop op ho).2.2.1
  have hcrew : Crew P ty E1 E1.base 0 gs' w' (t ++ u) D := by
    rw [hb1]
    refine ⟨hcs.size, by omega, fun i hi => ?_, fun i hi => hc.old i (by omega), by rw [hb1]; exact htr, ?_, hcs.deaf0, hcs.deafW, fun i hb hi => by omega, fun i hb hi => by omega, hB1, hX1, hcs.low, fun i hi b hb => absurd hb (hE b i hi), fun i hi k hk _ b hb => absurd hb (hE b i hi), hW1⟩
    · obtain ⟨g, hg, hsit⟩ := hcs.wk i hi
      obtain ⟨h1, h2⟩ := hsit.quits (hc.old i hi).1
      refine ⟨g, hg, ?_⟩
      have := (hc.old i hi).1
      generalize D i = c at this h1 h2
      obtain ⟨s, tr, m, d, F⟩ := c
      simp only at this h1 h2
      subst this h1
      exact .quit h2
    · refine NoRelease.app (fun i hi => ?_) fun op ho => (hop op ho).2.2.2 _
      obtain ⟨op, ho, hoa⟩ := Option.map_eq_some_iff.1 hi
      have := hc.tr.seen op (Array.mem_of_getElem? ho)
      rw [hoa] at this
      have h' : E1.Wg < w.heap.size := this
      omega
  have hsz : gs'.size = E.base + 1 := hcs.size
  refine ⟨_, _, hrun, hT D gs' w' sl _ ⟨hr, ?_, (fun hx => nomatch hx), .refl _ _ _, hcrew, fun b hb => ?_, fun b hb => ⟨fun hs => ?_, (hF1 b hb).2⟩, fun i hi b hb hb' => absurd hb' (hE b i (by omega)), ⟨0, 0, by rw [hWg1]; exact hwg, ?_⟩⟩ (Vc_le _ _)⟩
  · rw [xQ (by simp), ← hgs]
    exact get_map_set_same _ _ _ (by rw [hc.size]; omega)
  · rcases hd.lt b hb with h1 | h1
    · exact Nat.lt_of_lt_of_le (hp.low b h1) hd.size
    · exact h1
  · rcases (hS1 b).1 hs with hs | hs
    · rcases Nat.lt_or_ge b w.heap.size with h2 | h2
      · exact (hp.off b (hd.rng b hb h2)).1 hs
      · have := e.ss b hs; have := hc.B0; omega
    · exact (hF1 b hb).1 hs
  · have h1 : ∀ i, i < E1.base → (wd D i).stage = 1 := fun i hi => (hc.old i (by omega)).1
    have hV : Vc E1.base (wd D) = 0 := by
      have := sumTo_le (f := fun i => cnt (wd D i)) (c := 0) (j := E1.base) fun i hi => by simp [cnt, h1 i hi]
      simp only [Vc]; omega
    have := ConcN.Mode.opn (j := E1.base) (D := wd D) (tag := .sp r 5) trivial (fun i hi => .inr (.inr (.inr (h1 i hi)))) (by simp)
    simpa [hV, pend] using this
theorem TP.acq (e:E.Good ty) (hs:n - E.base+1<2147483648) {R:Nat→Prop} {W:World} (hR:∀ b,R b→E.R b)
  (h:∀ w1 (Fs:Nat→Nat→Prop),Keep E.R F w0 w1→(∀ i,E.base≤i→i<n→E.Res i (Fs i) w1)→(∀ i,E.base≤i→i<n→∀ b,Fs i b→b<w1.heap.size∧¬E.Shun b∧¬E.X b∧(F b→E.R b)) →
   (∀ i k,E.base≤i→i<n→E.base≤k→k<n→i≠k→∀ b,Fs i b→Fs k b→E.R b)→(∀ b,F b→b<w1.heap.size∧¬E.Shun b∧¬E.X b)→E.B0≤w1.heap.size→(∀ b,E.X b→∃ cs,w1.heap[b]?=some (.cells cs (E.xt b).1 (E.xt b).2)∧cs.size=E.xn b)→WgLive ty E.Wg w1→Same E.R E.W0 w1 →
   ∃ g' F',stepG P true g0 w1=.go g' w1 #[mk (.acquire (stA E.Wg))]∧g'.status=.running∧(∀ b,F' b→b<w1.heap.size∧¬E.Shun b)∧Same R W w1∧T0 P ty Post R W F' g' w1):TP P ty E Post n 0 (some .acq) N F g0 w0:=by
 refine Zr e hs (by simp) fun D gs w sl t hp hN=>.inr ?_;have hc:=hp.crew;obtain⟨st,sm,hwg,hmode⟩:=hp.grp;obtain⟨hall,rfl,rfl⟩:=hmode.fin_inv trivial;have h1:∀ i,i<n→(D i).stage=1:=hall;obtain⟨g',F',hgo,hr,hF',hW,hT⟩:=h w (fun i=>(D i).F) hp.keep (fun i hb hi=>hc.res i hb hi (by rw [h1 i hi];decide)) (fun i hb hi b hb'=>⟨hc.low i hi b hb',(hc.off i hi b hb').1,(hc.off i hi b hb').2,fun hf=>hp.apart i hi b hf hb'⟩)
  (fun i k hb hi hb' hk hne b h1 h2=>hc.apart i hi k hk hne b h1 h2) (fun b hb=>⟨hp.low b hb,hp.off b hb⟩) hc.B0 hc.xsh ⟨_,_,hwg⟩ hc.rw0
 have hz:gs[0]?=some g0:=by rw [hp.zero,xQ (by simp)]
 have hrun:=runT_crowd_go (P:=P) (sl:=sl) (i:=0) hz (by simpa using hgo);have hop:∀ op∈MemOp.ofEvents 0 g0.frame.fn g0.frame.place #[mk (.acquire (stA E.Wg))],op.g=0∧op.act=.mark (.acquire (stA E.Wg)):=by
  intro op hop;obtain⟨x,hx,rfl⟩:=Conc.mem_ofEvents hop
  simp at hx
  subst hx;exact⟨rfl,rfl⟩
 have hWg:E.Wg<w.heap.size:=Nat.lt_of_lt_of_le (e.ss _ e.wg) hc.B0;have hcs:=hc.step0 (w':=w) (a:=g0) (a':=g') (fn:=g0.frame.fn) (pos:=g0.frame.place) (es:=#[mk (.acquire (stA E.Wg))]) e.toGood0 (fun k hk=>.refl w) (RelW.refl (ty:=ty) (i:=n) w).z (fun op ho=>⟨(hop op ho).1,fun x hx=>by rw [(hop op ho).2] at hx;cases hx⟩) (fun x hx=>by
  simp at hx;subst hx;exact⟨hWg,fun a hc=>by cases hc⟩)
 rw [show deafBehind 0 #[mk (.acquire (stA E.Wg))]=0 from rfl] at hcs;have hq:(t++MemOp.ofEvents 0 g0.frame.fn g0.frame.place #[mk (.acquire (stA E.Wg))])[t.size]?=some { g:=0,fn:=g0.frame.fn,pos:=g0.frame.place,act:=.mark (.acquire (stA E.Wg)) }:=by
  simp [Conc.ofEvents_eq];rfl
 have hheard:(t++MemOp.ofEvents 0 g0.frame.fn g0.frame.place #[mk (.acquire (stA E.Wg))]).heard t.size:=⟨0,by simp [Trace.g?,hq],by rw [deaf_old (Nat.le_refl _)];exact hc.deaf0⟩;have hrel:∀ k,E.base<k→k≤n→∃ r,RelS (ShL E) (stA E.Wg) (t++MemOp.ofEvents 0 g0.frame.fn g0.frame.place #[mk (.acquire (stA E.Wg))]) k r∧r<t.size:=by
  intro k hk hkn;obtain⟨i,rfl⟩:∃ i,k=i+1:=⟨k - 1,by omega⟩;obtain⟨r,hr⟩:=hc.rel i (by omega) (by omega) (by rw [h1 i (by omega)];decide);exact⟨r,hr.appNot fun op ho=>by rw [(hop op ho).1];omega,lt_of_act? hr.by_.act⟩
 generalize hgs:(gs.map (woken P g0 g' w)).setIfInBounds 0 g'=gs' at hrun hcs;generalize hu:t++MemOp.ofEvents 0 g0.frame.fn g0.frame.place #[mk (.acquire (stA E.Wg))]=t' at hrun hcs hq hheard hrel
 let E2:Env:={ base:=n,B0:=E.B0,R:=R,Shun:=E.Shun,X:=fun _=>False,Wg:=E.Wg,Mine:=fun _ _ _=>False,Res:=fun _ _ _=>True,xn:=E.xn,xt:=E.xt,W0:=w }
 have e2:E2.Good0 ty:=⟨fun b hb=>⟨(e.rs b (hR b hb)).1,id,(e.rs b (hR b hb)).2.2⟩,fun b hb=>hb.elim,e.ss,.inr e.wg,fun i b o hm=>hm.elim,fun i k b o hm=>hm.elim,fun _ _ _ _ _ _=>trivial,fun _ _ _ _ _ _=>trivial⟩
 let D2:Nat→CD:=fun i=>⟨1,.leaf,(D i).fuel,(D i).deaf,fun _=>False⟩
 have hcrew:Crew P ty E2 n 0 gs' w t' D2:=by
  refine⟨hcs.size,Nat.le_refl _,fun i hi=>?_,fun i hi=>⟨rfl,fun b hb=>hb⟩,?_,hcs.norel,hcs.deaf0,hcs.deafW,fun i hb hi=>by have:n≤i:=hb;omega,fun i hb hi=>by have:n≤i:=hb;omega,hc.B0,fun b hb=>hb.elim,fun i hi b hb=>hb.elim,fun i hi b hb=>hb.elim,fun i hi k hk _ b hb=>hb.elim,.refl _ _⟩
  ·obtain⟨g,hg,hsit⟩:=hcs.wk i hi;exact⟨g,hg,.quit (hsit.quits (h1 i hi)).2⟩
  ·refine hcs.tr.join hc.bn hcs.norel (q:=t.size) (by rw [act?_of hq]) (by rw [g?_of hq]) hheard hrel (fun k k1 kn l=>?_) (fun k k1 kn l=>?_)
   ·rintro⟨_,_,h|⟨b,o,_,hm⟩⟩
    ·cases l<;>first|exact h.1|exact h
    ·exact hm
   ·rintro⟨h,_⟩;have:n<k:=h;omega
 refine⟨_,_,hrun,?_⟩;rw [hu];exact hT hW E2 e2 rfl D2 gs' w sl _ ⟨hr,by rw [xQ (by simp),←hgs];exact get_map_set_same _ _ _ (by rw [hc.size];omega),(fun hx=>nomatch hx),.refl _ _ _,hcrew,fun b hb=>(hF' b hb).1,fun b hb=>⟨(hF' b hb).2,id⟩,fun i hi b hb hb'=>hb'.elim,rfl⟩ (Vc_le _ _)
def TW (P:Program) (ty:TypeId) (E:Env) [Payload] (i:Nat) (X:World→Prop):Cont:=fun F g w=>
 ∀ w1,Keep E.R F w w1→E.B0≤w1.heap.size→(∀ b,F b→(¬E.Shun b∧¬E.X b)∧(b<E.B0→E.R b))→X w1→∃ tr,WayT P ty E i tr F g w1
def jP (ty:TypeId) (E:Env) (i:Nat) (X:World→Prop):Prop:=∀ w w1,RelW ty E i (fun _=>False) w w1→X w→X w1
theorem TW.keep {i:Nat} {X:World→Prop} {g:Goroutine} {w w1:World} (h:TW P ty E i X F g w) (hk:Keep E.R F w w1):TW P ty E i X F g w1:=fun w2 h2=>h w2 (hk.trans h2)
theorem TW.mono (e:E.Good ty) {i:Nat} {X:World→Prop} {g:Goroutine} {w:World} (hf:∀ b,F b→F' b) (h:TW P ty E i X F g w):TW P ty E i X F' g w:=
 fun w1 h1 hB hF hx=>let ⟨tr,ht⟩:=h w1 (h1.mono hf) hB (fun b hb=>hF b (hf b hb)) hx;⟨tr,WayT.mono (e.more i) hf ht⟩
theorem TW.offs {i:Nat} {X:World→Prop} {g:Goroutine} {w:World} (h:(∀ b,F b→(¬E.Shun b∧¬E.X b)∧(b<E.B0→E.R b))→TW P ty E i X F g w):TW P ty E i X F g w:=fun w1 h1 hB hF hx=>h hF w1 h1 hB hF hx
open Classical in
theorem V7 {A:World→Prop} {B:World→Tree→Prop} (h:∀ w,A w→∃ tr,B w tr):∃ f:World→Tree,∀ w,A w→B w (f w):=
 ⟨fun w=>if h':A w then (h w h').choose else .leaf,fun w hw=>by simp only [hw,dite_true];exact (h w hw).choose_spec⟩
theorem TW.closed (e:E.Good ty) {i:Nat} {X:World→Prop} (hX:jP ty E i X):Closed P false E.R (TW P ty E i X):=by
 intro F g w hrun h w1 h1 hB hF hx;have key:∀ w2,RelW ty E i F w1 w2→∃ tr,∃ g' w' es F',stepG P false g w2=.go g' w' es∧g'.status=.running∧Does E.R F w2 w' es F'∧WayT P ty E i tr F' g' w':=by
  intro w2 h2;obtain⟨g',w',es,F',hgo,hr,hd,hT⟩:=h w2 (h1.trans h2.keep);have hB2:E.B0≤w2.heap.size:=Nat.le_trans hB h2.keep.size;obtain⟨tr,ht⟩:=hT w' (.refl _ _ _) (Nat.le_trans hB2 hd.size) (fun b hb=>by
   rcases Nat.lt_or_ge b w2.heap.size with hlt|hge
   ·exact hF b (hd.rng b hb hlt)
   ·exact⟨⟨fun hs=>by have:=e.ss b hs;omega,fun hs=>by have:=(e.xs b hs).2;omega⟩,fun hlt=>absurd (Nat.lt_of_lt_of_le hlt hB2) (Nat.not_lt.2 hge)⟩)
   (hX _ _ (jO e hd hB2 (fun b hb _=>hb.elim) (fun b hb=>hb.elim) fun b hb=>(hF b hb).1) (hX _ _ (h2.mono fun b hb=>hb.elim) hx))
  exact⟨tr,g',w',es,F',hgo,hr,hd,ht⟩
 obtain⟨f,hf⟩:=V7 key;exact⟨.node f,.inr ⟨hrun,fun w2 h2=>.inl (hf w2 h2)⟩⟩
theorem TW.store (e:E.Good ty) {i:Nat} {X X':World→Prop} {g g':Goroutine} {w:World} (hX:jP ty E i X) (hrun:g.status=.running) (hr:g'.status=.running) {b o:Nat} {v:Value} (hm:E.Mine i b o)
  (h:∀ w1,Keep E.R F w w1→X w1→∃ cs,∃ y:TypeId × (Nat × Nat),w1.heap[b]?=some (.cells cs y.1 y.2)∧o<cs.size∧stepG P false g w1=.go g' (w1.setCell ⟨b,o,none⟩ v) #[⟨.cell ⟨b,o,none⟩,true,false⟩]∧X' (w1.setCell ⟨b,o,none⟩ v)∧TW P ty E i X' F g' (w1.setCell ⟨b,o,none⟩ v)):TW P ty E i X F g w:=by
 intro w1 h1 hB hF hx;have key:∀ w2,RelW ty E i F w1 w2→∃ tr,∃ g' b o v cs,∃ y:TypeId × (Nat × Nat),E.Mine i b o∧w2.heap[b]?=some (.cells cs y.1 y.2)∧o<cs.size∧stepG P false g w2=.go g' (w2.setCell ⟨b,o,none⟩ v) #[⟨.cell ⟨b,o,none⟩,true,false⟩]∧g'.status=.running∧WayT P ty E i tr F g' (w2.setCell ⟨b,o,none⟩ v):=by
  intro w2 h2;have hx2:=hX _ _ (h2.mono (F:=fun _=>False) fun b hb=>hb.elim) hx;obtain⟨cs,y,a1,a2,a3,a4,a5⟩:=h w2 (h1.trans h2.keep) hx2;have hs:=(aside_setCell w2 ⟨b,o,none⟩ v).size;obtain⟨tr,ht⟩:=a5 _ (.refl _ _ _) (by rw [hs];exact Nat.le_trans hB h2.keep.size) hF a4;exact⟨tr,g',b,o,v,cs,y,hm,a1,a2,a3,hr,ht⟩
 obtain⟨f,hf⟩:=V7 key;exact⟨.node f,.inr ⟨hrun,fun w2 h2=>.inr (hf w2 h2)⟩⟩
theorem J3 (e : E.Good ty) {i C nC ci : Nat} {v : Value} (hC : F C) (hR : ¬ E.R C) : ∀ (m : Nat) (g : Goroutine) (w : World), Goes P false (RW ty E.Wg C nC 0 ci) DC0 (AtR0 P ty E.Wg C nC 0 (ci + 1) v) m g w → E.Res i F w → ∃ tr, WayT P ty E i tr F g w := by
  intro m
  induction m with
  | zero => exact fun g w h hr => ⟨.leaf, fun w1 h1 => ⟨e.res i F w w1 h1 hr, C, nC, ci, v, hC, hR, h w1 (h1.rw hC)⟩⟩
  | succ m ih =>
    intro g w h hr
    rcases h with h | ⟨hrun, h⟩
    · exact ⟨.leaf, fun w1 h1 => ⟨e.res i F w w1 h1 hr, C, nC, ci, v, hC, hR, h w1 (h1.rw hC)⟩⟩
    · have key : ∀ w2, RelW ty E i F w w2 → ∃ tr, ∃ g' w' es F', stepG P false g w2 = .go g' w' es ∧ g'.status = .running ∧ Does E.R F w2 w' es F' ∧ WayT P ty E i tr F' g' w' := by
        intro w2 h2
        have := h w2 (h2.rw hC)
        cases hgo : stepG P false g w2 with
        | go g' w' es =>
          rw [hgo, goes_go] at this
          obtain ⟨⟨rfl, rfl⟩, hG⟩ := this
          obtain ⟨tr, ht⟩ := ih g' w' hG (e.res i F w w' h2 hr)
          exact ⟨tr, g', w', #[], F, rfl, Goes.running (fun _ _ x => x.1) w' (RW.refl w') hG, .still, ht⟩
        | _ => rw [hgo] at this; exact this.elim
      obtain ⟨f, hf⟩ := V7 key
      exact ⟨.node f, .inr ⟨hrun, fun w2 h2 => .inl (hf w2 h2)⟩⟩
theorem TW.done (e:E.Good ty) {i:Nat} {X:World→Prop} {g:Goroutine} {w:World}
  (h:∀ w1,Keep E.R F w w1→X w1→E.Res i F w1∧∃ C nC ci v m,F C∧¬E.R C∧Goes P false (RW ty E.Wg C nC 0 ci) DC0 (AtR0 P ty E.Wg C nC 0 (ci+1) v) m g w1):TW P ty E i X F g w:=by
 intro w1 h1 hB hF hx;obtain⟨hr,C,nC,ci,v,m,hC,hR,hG⟩:=h w1 h1 hx;exact J3 e hC hR m g w1 hG hr
end
@[reducible] def cls0 (P:Program) (ty:TypeId) [Payload] (R:Nat→Prop):Cls P where
 main:=true
 R:=R
 ok T:=∃ Post W,(∀ b,R b→b<W.heap.size)∧T=T0 P ty Post R W
 closed:=by rintro T ⟨Post,W,hl,rfl⟩;exact T0.closed hl
 keep:=by rintro T ⟨Post,W,hl,rfl⟩ F g w w1 h hk;exact h.keep hk
 mono:=by rintro T ⟨Post,W,hl,rfl⟩ F F' g w hf h;exact h.mono hf
@[reducible] def clsP (P:Program) (ty:TypeId) [Payload] (E:Env):Cls P where
 main:=true
 R:=E.R
 ok T:=∃ Post n d0 tag N,E.Good ty∧n - E.base+1<2147483648∧tag≠some .blk∧T=TP P ty E Post n d0 tag N
 closed:=by rintro T ⟨Post,n,d0,tag,N,e,hs,hb,rfl⟩;exact TP.closed e hs hb
 keep:=by rintro T ⟨Post,n,d0,tag,N,e,hs,hb,rfl⟩ F g w w1 h hk;exact h.keep hk
 mono:=by rintro T ⟨Post,n,d0,tag,N,e,hs,hb,rfl⟩ F F' g w hf h;exact h.mono hf
@[reducible] def clsW (P:Program) (ty:TypeId) [Payload] (E:Env) (i:Nat):Cls P where
 main:=false
 R:=E.R
 ok T:=∃ X,E.Good ty∧jP ty E i X∧T=TW P ty E i X
 closed:=by rintro T ⟨X,e,hX,rfl⟩;exact TW.closed e hX
 keep:=by rintro T ⟨X,e,hX,rfl⟩ F g w w1 h hk;exact h.keep hk
 mono:=by rintro T ⟨X,e,hX,rfl⟩ F F' g w hf h;exact h.mono e hf
end Go.Ab
namespace Go.Ab.Wg
open Go.Conc Go.ConcN Go.RowKit Go.Conc.Lib Go.ConcR.Gen Go.ConcN.Gen
open Go.ConcR (KK wgBlock WgAt stA smA rd wr mk Payload DC0)
variable [Payload] {L:WgLink}
def RL (ty:TypeId) (Wg:Nat) (w w1:World):Prop:=WgLive ty Wg w→WgLive ty Wg w1
omit [Payload] in
theorem rl {ty:TypeId} {Wg:Nat} {w w1:World} (h:WgLive ty Wg w) (r:RL ty Wg w w1):WgLive ty Wg w1:=r h
section
variable (P:Program) (ty:TypeId) (Wg:Nat) (K:Goroutine→World→Prop)
def AtE (g:Goroutine) (w:World):Prop:=g.status=.running∧∃ g',stepG P true g w=.go g' w #[mk .enable]∧∃ m,Goes P true (RL ty Wg) DC0 K m g' w
def AtRr (g:Goroutine) (w:World):Prop:=g.status=.running∧∃ g',stepG P true g w=.go g' w #[mk (.read (smA Wg))]∧∃ m,Goes P true (RL ty Wg) DC0 (AtE P ty Wg K) m g' w
def AtA (g:Goroutine) (w:World):Prop:=g.status=.running∧∀ v:Nat,v<2147483647→WgAt ty Wg w (v*KK) 0→∃ g',stepG P true g w=.go g' (w.setCell (stA Wg) (.int .u64 ((v+1)*KK))) #[rd (stA Wg),wr (stA Wg)] ∧
 (v=0→∃ m,Goes P true (RL ty Wg) DC0 (AtRr P ty Wg K) m g' (w.setCell (stA Wg) (.int .u64 ((v+1)*KK))))∧(v≠0→∃ m,Goes P true (RL ty Wg) DC0 (AtE P ty Wg K) m g' (w.setCell (stA Wg) (.int .u64 ((v+1)*KK))))
def AtD (g:Goroutine) (w:World):Prop:=g.status=.running∧∃ g',stepG P true g w=.go g' w #[mk .disable]∧∃ m,Goes P true (RL ty Wg) DC0 (AtA P ty Wg K) m g' w
end
section
variable (P:Program) (ty:TypeId) (Wg:Nat) (A K:Goroutine→World→Prop)
def AtQ (g:Goroutine) (w:World):Prop:=g.status=.running∧∃ g',stepG P true g w=.go g' w #[mk (.acquire (stA Wg))]∧K g' w
def AtKe (g:Goroutine) (w:World):Prop:=g.status=.running∧∃ g',stepG P true g w=.go g' w #[mk .enable]∧∃ m,Goes P true (RL ty Wg) DC0 (AtQ P Wg K) m g' w
def At4 (g:Goroutine) (w:World):Prop:=g.status=.running∧(WgAt ty Wg w 0 0→∃ g',stepG P true g w=.go g' w #[rd (stA Wg)]∧∃ m,Goes P true (RL ty Wg) DC0 (AtKe P ty Wg K) m g' w)
def At3 (g:Goroutine) (w:World):Prop:=
 g.status=.running∧g.offers=none∧((∃ st,WgAt ty Wg w st 0)→stepG P true g w=.go { g with status:=.blocked } w #[]) ∧
  (WgAt ty Wg w 0 1→∃ g',stepG P true g w=.go g' (w.setCell (smA Wg) (.int .u32 0)) (semEvents (smA Wg))∧∃ m,Goes P true (RL ty Wg) DC0 (At4 P ty Wg K) m g' (w.setCell (smA Wg) (.int .u32 0)))
def AtWr (g:Goroutine) (w:World):Prop:=g.status=.running∧∃ g',stepG P true g w=.go g' w #[mk (.write (smA Wg))]∧∃ m,Goes P true (RL ty Wg) DC0 (At3 P ty Wg K) m g' w
def At2 (vs:Nat) (g:Goroutine) (w:World):Prop:=
 g.status=.running∧∀ v:Nat,v<2147483648→WgAt ty Wg w (v*KK) 0 →
  (v=vs→∃ g',stepG P true g w=.go g' (w.setCell (stA Wg) (.int .u64 (v*KK+1))) #[rd (stA Wg),wr (stA Wg)]∧∃ m,Goes P true (RL ty Wg) DC0 (AtWr P ty Wg K) m g' (w.setCell (stA Wg) (.int .u64 (v*KK+1)))) ∧
  (v≠vs→∃ g',stepG P true g w=.go g' w #[rd (stA Wg)]∧∃ m,Goes P true (RL ty Wg) DC0 A m g' w)
def At1 (g:Goroutine) (w:World):Prop:=
 g.status=.running∧∀ v:Nat,v<2147483648→WgAt ty Wg w (v*KK) 0→∃ g',stepG P true g w=.go g' w #[rd (stA Wg)] ∧
  (v=0→∃ m,Goes P true (RL ty Wg) DC0 (AtKe P ty Wg K) m g' w)∧(v≠0→∃ m,Goes P true (RL ty Wg) DC0 (At2 P ty Wg A K v) m g' w)
def At0 (g:Goroutine) (w:World):Prop:=g.status=.running∧∃ g',stepG P true g w=.go g' w #[mk .disable]∧∃ m,Goes P true (RL ty Wg) DC0 A m g' w
end
def Head (L:WgLink) (Wg:Nat) (c:Frame) (cs:List Frame) (g:Goroutine) (w:World):Prop:=
 ∃ T:Array Value,g=G ((base L.wait).at ⟨T,[]⟩ [.code (L7 L),.inLoop (L7 L),.inBlock 0]) (c::cs)∧T.size=84∧T[0]?=some (.pointer (some ⟨Wg,0,none⟩))∧WgLive L.tWg Wg w
def LeftW (P:Program) (gn:Goroutine) (g:Goroutine) (w:World):Prop:=∃ m,Goes P true (fun _ _=>True) DC0 (fun g _=>g=gn) m g w
omit [Payload] in
theorem tv (_:True) (_:True):True:=trivial
end Go.Ab.Wg
namespace Go.Ab.Wg
open Go.Conc Go.ConcN Go.RowKit Go.Conc.Lib Go.ConcR.Gen Go.ConcN.Gen
open Go.ConcR (KK wgBlock WgAt stA smA rd wr mk Payload DC0)
variable [Payload] {L:WgLink}
section
variable {Wg:Nat} {K:Goroutine→World→Prop} {b₀:Frame} {a₀:Act} {ops₀:Array Oper} {i₀:Nat} {rest₀:List Nat} {k₀:List Item} {cs:List Frame}
set_option maxRecDepth 100000 in
set_option maxHeartbeats 8000000 in
theorem addOne {P:Program} (H:WgLib P L)
  (hT:∀ w,WgLive L.tWg Wg w→K (G (b₀.at (a₀.put ((ops₀[i₀]?).bind (·.dst)) (.tuple #[])) (.inRegion ops₀ rest₀::k₀)) cs) w) (w:World) (hF:WgLive L.tWg Wg w) :
  Goes P true (RL L.tWg Wg) DC0 (AtD P L.tWg Wg K) 40
   (G ((base L.add).at ⟨#[.pointer (some ⟨Wg,0,none⟩),.int .i64 1]++Array.replicate 115 undef,[]⟩ [.code (body_add L)]) (b₀.at a₀ (.inRegion ops₀ (i₀::rest₀)::k₀)::cs)) w:=by
 lib_facts
 simp only [body_add,addFn,Option.getD_some,Array.replicate,List.replicate,List.append_toArray,List.cons_append,List.nil_append]
 u_c stepG_seq rl hF
 u_cond true rl hF
 u_c stepG_seq rl hF
 u_c stepG_seq rl hF
 u_reg rl hF
 u_op rl hF
 u_op rl hF
 u_c stepG_region_end rl hF
 u_cond false rl hF
 u_c stepG_skip rl hF
 u_c stepG_seq rl hF
 u_reg rl hF
 refine Goes.stop (fun w₁ h₁=>?_);replace hF:=rl hF h₁;clear h₁;refine⟨rfl,_,stepG_mark0 .disable (by simp) rfl rfl (by k_ne) rfl H.f_disable (x_disable_n L) (x_disable_b L) (x_disable_x L) (x_disable_f L),100,?_⟩
 walk_nrm
 u_c stepG_region_end rl hF
 u_reg rl hF
 u_defer rl hF
 u_c stepG_region_end rl hF
 u_c stepG_seq rl hF
 u_reg rl hF
 u_op rl hF
 u_c stepG_region_end rl hF
 u_c stepG_seq rl hF
 u_c stepG_seq rl hF
 u_reg rl hF
 u_bub rl hF
 u_c stepG_region_end rl hF
 u_cond false rl hF
 u_c stepG_skip rl hF
 u_c stepG_seq rl hF
 u_reg rl hF
 u_op rl hF
 u_op rl hF
 u_op rl hF
 u_op rl hF
 u_op rl hF
 u_op rl hF
 u_call H.f_uAdd (nm_uAdd L) uAddFn rl hF
 u_c stepG_seq rl hF
 u_reg rl hF
 u_op rl hF
 u_c stepG_region_end rl hF
 u_c stepG_seq rl hF
 u_reg rl hF
 u_op rl hF
 u_op rl hF
 u_op rl hF
 u_op rl hF
 refine Goes.stop (fun w₂ h₂=>?_);clear h₂ hF;refine⟨rfl,fun v hv hw=>?_⟩;rcases Nat.eq_zero_or_pos v with rfl|hvp
 ·replace hw:WgAt L.tWg Wg w₂ 0 0:=by simpa using hw
  have z:(((0:Nat):Int)+1)*KK=KK:=by simp
  rw [z];have e0:IntKind.u64.wrap (0+4294967296)=KK:=by decide
  refine⟨_,(stepG_add_atomic rfl rfl (by k_ne) rfl H.f_addU64 (x_addU64_n L) (x_addU64_b L) (x_addU64_x L) .u64 (x_addU64_f L) rfl rfl hw.cellSt (hw.thaw 0)).trans (by rw [e0];rfl),fun _=>⟨110,?_⟩,fun hn=>absurd rfl hn⟩;have hF:WgLive L.tWg Wg (w₂.setCell (stA Wg) (.int .u64 KK)):=⟨_,_,hw.setSt _⟩;clear hw;simp only [KK] at hF ⊢
  walk_nrm
  u_op rl hF
  u_c stepG_region_end rl hF
  u_c stepG_ret' rl hF
  u_leave1 H.f_uAdd rl hF
  u_op rl hF
  u_c stepG_region_end rl hF
  u_c stepG_seq rl hF
  u_c stepG_seq rl hF
  u_reg rl hF
  u_op rl hF
  u_op rl hF
  u_op rl hF
  u_op rl hF
  u_skip rl hF
  u_skip rl hF
  u_op rl hF
  u_c stepG_region_end rl hF
  u_cond false rl hF
  u_c stepG_skip rl hF
  u_c stepG_seq rl hF
  u_reg rl hF
  u_op rl hF
  u_op rl hF
  u_op rl hF
  u_op rl hF
  u_c stepG_region_end rl hF
  u_c stepG_seq rl hF
  u_reg rl hF
  u_op rl hF
  u_op rl hF
  u_op rl hF
  u_op rl hF
  u_c stepG_region_end rl hF
  u_c stepG_seq rl hF
  u_c stepG_seq rl hF
  u_reg rl hF
  u_op rl hF
  u_op rl hF
  u_op rl hF
  u_op rl hF
  u_op rl hF
  u_op rl hF
  u_op rl hF
  u_op rl hF
  u_op rl hF
  u_op rl hF
  u_c stepG_region_end rl hF
  u_cond true rl hF
  u_reg rl hF
  u_op rl hF
  u_op rl hF
  u_op rl hF
  u_conv H.underlying_tPU32 H.room_tU32 (WgLive.cell1 hF).choose_spec rl hF
  refine Goes.stop (fun w₃ h₃=>?_);replace hF:=rl hF h₃;clear h₃;refine⟨rfl,_,stepG_markAt .read (by simp) rfl rfl (by k_ne) rfl H.f_raceRead (x_raceRead_n L) (x_raceRead_b L) (x_raceRead_x L) (x_raceRead_f L) (ad:=⟨Wg,1,none⟩) (by simp [Act.eval]),100,?_⟩
  walk_nrm
  u_c stepG_region_end rl hF
  u_c stepG_seq rl hF
  u_c stepG_seq rl hF
  u_reg rl hF
  u_op rl hF
  u_op rl hF
  u_c stepG_region_end rl hF
  u_cond false rl hF
  u_c stepG_skip rl hF
  u_c stepG_seq rl hF
  u_c stepG_seq rl hF
  u_reg rl hF
  u_op rl hF
  u_op rl hF
  u_op rl hF
  u_skip rl hF
  u_skip rl hF
  u_op rl hF
  u_op rl hF
  u_skip rl hF
  u_skip rl hF
  u_skip rl hF
  u_skip rl hF
  u_op rl hF
  u_c stepG_region_end rl hF
  u_cond false rl hF
  u_c stepG_skip rl hF
  u_c stepG_seq rl hF
  u_c stepG_seq rl hF
  u_reg rl hF
  u_op rl hF
  u_op rl hF
  u_op rl hF
  u_skip rl hF
  u_skip rl hF
  u_op rl hF
  u_c stepG_region_end rl hF
  u_cond true rl hF
  u_c stepG_ret' rl hF
  refine Goes.stop (fun w₄ h₄=>?_);replace hF:=rl hF h₄;clear h₄;refine⟨rfl,_,stepG_unwind_entry (v:=.tuple #[]) (evs:=#[mk .enable]) rfl H.f_enable (x_enable_n L) (x_enable_b L) (x_enable_x L) (x_enable_f L) (by simp [Extern.Race.none_]) (by simp [mk]) (by simp [mk]),1,?_⟩
  u_leave0 H.f_add rl hF
  exact Goes.stop (fun w₅ h₅=>hT _ (rl hF h₅))
 ·obtain⟨V,hV⟩:∃ V:Int,V=(v:Int)+1:=⟨_,rfl⟩;obtain⟨S,hS⟩:∃ S:Int,S=V*KK:=⟨_,rfl⟩;have eS:IntKind.u64.wrap ((v:Int)*KK+4294967296)=S:=by rw [IntKind.wrap_u64,hS,hV];simp only [KK];omega
  rw [←hV,←hS];have a1:S / 4294967296=V:=by rw [hS];simp only [KK];omega
  have b1:bits .and .u64 S 2147483648=0:=by rw [hS,hV];have:=st_flag (v+1) 0 (by omega) (by omega);simpa [KK] using this
  have b2:bits .and .u64 S 2147483647=0:=by rw [hS,hV];have:=st_waiters (v+1) 0 (by omega) (by omega);simpa [KK] using this
  have c1:IntKind.i32.wrap V=V:=by rw [IntKind.wrap_i32];omega
  have hV1:1<V:=by omega
  have hV2:V<2147483648:=by omega
  have q1:(V == 1)=false:=by simp;omega
  have q2:decide (V=1)=false:=decide_eq_false (by omega);have q3:decide (V<0)=false:=decide_eq_false (by omega);have q4:decide (0<V)=true:=decide_eq_true (by omega);have q5:(V == 0)=false:=by simp;omega
  have q6:decide (V=0)=false:=decide_eq_false (by omega);refine⟨_,(stepG_add_atomic rfl rfl (by k_ne) rfl H.f_addU64 (x_addU64_n L) (x_addU64_b L) (x_addU64_x L) .u64 (x_addU64_f L) rfl rfl hw.cellSt (hw.thaw 0)).trans (by rw [eS];rfl),fun hn=>absurd hn (by omega),fun _=>⟨110,?_⟩⟩;have hF:WgLive L.tWg Wg (w₂.setCell (stA Wg) (.int .u64 S)):=⟨_,_,hw.setSt _⟩;clear hw hS hV eS
  walk_nrm
  u_op rl hF
  u_c stepG_region_end rl hF
  u_c stepG_ret' rl hF
  u_leave1 H.f_uAdd rl hF
  u_op rl hF
  u_c stepG_region_end rl hF
  u_c stepG_seq rl hF
  u_c stepG_seq rl hF
  u_reg rl hF
  u_op rl hF
  u_op rl hF
  u_op rl hF
  u_op rl hF
  u_skip rl hF
  u_skip rl hF
  u_op rl hF
  u_c stepG_region_end rl hF
  u_cnd false rl hF
  u_c stepG_skip rl hF
  u_c stepG_seq rl hF
  u_reg rl hF
  u_op rl hF
  u_op rl hF
  u_op rl hF
  u_op rl hF
  u_c stepG_region_end rl hF
  u_c stepG_seq rl hF
  u_reg rl hF
  u_op rl hF
  u_op rl hF
  u_op rl hF
  u_op rl hF
  u_c stepG_region_end rl hF
  u_c stepG_seq rl hF
  u_c stepG_seq rl hF
  u_reg rl hF
  u_op rl hF
  u_op rl hF
  u_op rl hF
  u_op rl hF
  u_op rl hF
  u_op rl hF
  u_op rl hF
  u_op rl hF
  u_op rl hF
  u_op rl hF
  u_c stepG_region_end rl hF
  u_cnd false rl hF
  u_c stepG_skip rl hF
  u_c stepG_seq rl hF
  u_c stepG_seq rl hF
  u_reg rl hF
  u_op rl hF
  u_op rl hF
  u_c stepG_region_end rl hF
  u_cnd false rl hF
  u_c stepG_skip rl hF
  u_c stepG_seq rl hF
  u_c stepG_seq rl hF
  u_reg rl hF
  u_op rl hF
  u_op rl hF
  u_op rl hF
  u_skip rl hF
  u_skip rl hF
  u_op rl hF
  u_op rl hF
  u_skip rl hF
  u_skip rl hF
  u_skip rl hF
  u_skip rl hF
  u_op rl hF
  u_c stepG_region_end rl hF
  u_cnd false rl hF
  u_c stepG_skip rl hF
  u_c stepG_seq rl hF
  u_c stepG_seq rl hF
  u_reg rl hF
  u_op rl hF
  u_op rl hF
  u_op rl hF
  u_skip rl hF
  u_skip rl hF
  u_op rl hF
  u_c stepG_region_end rl hF
  u_cnd true rl hF
  u_c stepG_ret' rl hF
  refine Goes.stop (fun w₃ h₃=>?_);replace hF:=rl hF h₃;clear h₃;refine⟨rfl,_,stepG_unwind_entry (v:=.tuple #[]) (evs:=#[mk .enable]) rfl H.f_enable (x_enable_n L) (x_enable_b L) (x_enable_x L) (x_enable_f L) (by simp [Extern.Race.none_]) (by simp [mk]) (by simp [mk]),1,?_⟩
  u_leave0 H.f_add rl hF
  exact Goes.stop (fun w₅ h₅=>hT _ (rl hF h₅))
end
end Go.Ab.Wg
