/-
  What the formulas say, over numbers and lists alone. Nothing here is trusted.
-/
import Derived.Test.YtochgocgmeeppaaMCyclesWa
import Derived.Test.YtochgocgmeeppaaMCyclesUa
set_option linter.unusedVariables false
set_option linter.unusedSimpArgs false
set_option linter.unusedSectionVars false
namespace Go.Proofs.Ytochgocgmeeppaa.G
open Go Go.Ab
set_option maxRecDepth 100000
set_option maxHeartbeats 1000000
set_option exponentiation.threshold 4000
theorem sig_v:∀ w:Nat,w<65→vlb .f32 (fop .quo .f32 (itof .f32 ((w:Int) - 32)) (cz .f32 1082130432)) (16*(hh*((w:Int) - 32)))=true:=by decide +kernel
theorem KX : ∀ {ws : List Nat} {es : List Int} {w : Nat} {e : Int}, VZ ws es → Vl .f32 w e → VZ (ws ++ [w]) (es ++ [e])
  | [], es, w, e, h, k => by obtain rfl := kL h; exact ZY k trivial
  | x :: ws, es, w, e, h, k => by
    obtain ⟨y, es, rfl, h1, h2⟩ := vP h
    exact ZY h1 (KX h2 k)
theorem zc9 {l : List Int} {n : Nat} {K : List Nat → Prop} (hl : Byt l) (hn : n ≤ 15) (h : ∀ (o : List Nat) (qs : List Int), qs.length = n → VZ o (uz qs) → (∀ q ∈ qs, Lim 32 q) → K o) : spec_B10Signal.wp l (n : Int) K := by
  refine ⟨fun _ => ?_, fun c => (by cases c)⟩
  intro X hX
  have key : ∀ (m : Nat) (o : List Nat) (qs : List Int) (b t : Int), qs.length + m = n → o.length = qs.length → 0 ≤ b ∧ b ≤ 2 * o.length → VZ o (uz qs) → (∀ q ∈ qs, Lim 32 q) → X o b t (m : Int) := by
    intro m
    induction m with
    | zero =>
      intro o qs b t h1 h0 h2 h3 h4
      exact hX _ _ _ _ ⟨fun c => absurd c (by decide), fun _ => h o qs (by omega) h3 h4⟩
    | succ m ih =>
      intro o qs b t h1 h0 h2 h3 h4
      refine hX _ _ _ _ ⟨fun _ => Jz hl (by omega) (by omega) fun w b' t' hw hb' => ⟨?_, ?_⟩, fun c => absurd (show (0 : Int) < ((m + 1 : Nat) : Int) by omega) c⟩
      · rw [len1]; omega
      · rw [wI (n := w - 32) (by omega), show IntKind.i64.wrap (((m + 1 : Nat) : Int) - 1) = (m : Int) by rw [wI (by omega)]; omega]
        refine ih _ (qs ++ [w - 32]) _ _ (by rw [List.length_append, len1]; omega) (by rw [List.length_append, List.length_append, len1, len1]; omega) (by rw [List.length_append, len1]; omega) ?_ fun x hx => ?_
        · unfold uz
          rw [List.map_append]
          refine KX h3 ?_
          have := sig_v w.toNat (by omega)
          rw [show ((w.toNat : Nat) : Int) = w by omega] at this
          exact x9 this
        · rcases List.mem_append.1 hx with hx | hx
          · exact h4 x hx
          · rw [List.mem_singleton.1 hx]; unfold Lim; omega
  exact key n [] [] _ _ (by simp) rfl (by simp) trivial (fun x hx => by cases hx)
theorem KY {l m:List Int} {i:Int} {K:Int→List Nat→Prop} (hl:Byt l) (hm:∀ y∈m,0≤y∧y<256) (hi:0≤i∧i≤1000) (h:∀ (y:Int) (d:Nat) (f:List Nat) (qs Us:List Int),Ln d f qs Us→K y f) :
  laws_b10At.wp m i (4:Int) fun y=>(0≤y∧y<(([(1:Int),(3:Int),(7:Int),(15:Int)]:List (Int)).length:Int))∧spec_B10Signal.wp l (([(1:Int),(3:Int),(7:Int),(15:Int)]:List (Int)).getD (y).toNat (0:Int)) fun f=>K y f:=by
 refine Jc hm hi (by omega) fun y hy1 hy2=>⟨⟨hy1,hy2⟩,?_⟩;obtain⟨d,rfl⟩:∃ d:Nat,y=(d:Int):=⟨y.toNat,by omega⟩;have hd:d≤3:=by omega
 have e:([(1:Int),(3:Int),(7:Int),(15:Int)]:List (Int)).getD ((d:Int)).toNat (0:Int)=((dl d:Nat):Int):=by
  match d,hd with
  | 0,_=>rfl
  | 1,_=>rfl
  | 2,_=>rfl
  | 3,_=>rfl
 rw [e];refine zc9 hl (qJ d hd).2 fun o qs hq h1 h2=>?_;obtain⟨Us,u1,u2⟩:=solU_ok hd hq h2;have hol:=Yk h1;unfold uz at hol;rw [List.length_map,hq] at hol;exact h _ d o qs Us ⟨hd,hol.symm,h1,h2,u1,u2⟩
theorem zei {a b c:Nat} {x y Z V:Int} (ha:Vl .f32 a x) (hb:Vl .f32 b y) (h:Lim Z (x - y)) (hc:Vl .f64 c V) (hV:RepZ (FloatKind.f64.format) V∧V.natAbs≤2 ^ 1100) (hZ:Z*((2 ^ 925:Nat):Int)≤V):laws_b10Gap.wp (widen a) (widen b) fun g=>fcmp .leq .f64 g c=true:=by
 have hx:=Je ha;have hy:=Je hb;have h0:RepZ (FloatKind.f64.format) 0:=⟨0,0,by decide,by decide,rfl⟩;have hP:(0:Int)<((2 ^ 925:Nat):Int):=wM 925;have m1:=Int.mul_le_mul_of_nonneg_right h.2 (Int.le_of_lt hP);have m2:=Int.mul_le_mul_of_nonneg_right h.1 (Int.le_of_lt hP);rw [Int.sub_mul] at m1 m2;rw [Int.neg_mul] at m2;generalize x*((2 ^ 925:Nat):Int)=X at *;generalize y*((2 ^ 925:Nat):Int)=Y at *;generalize Z*((2 ^ 925:Nat):Int)=W at *;refine⟨fun c=>?_,fun c=>?_⟩
 ·rw [Vz hx hy] at c;have c:=of_decide_eq_true c;obtain⟨q,q1,q2,q3⟩:=Xz (k:=.f64) (A:=1100) fmt2 hy.iv hx.iv h0 hV.1 (by omega) (by omega) (Nat.zero_le _) hV.2 (by decide);rw [Yi q1 hc];exact decide_eq_true q3
 ·rw [Vz hx hy] at c;have c:=of_decide_eq_false c;obtain⟨q,q1,q2,q3⟩:=Xz (k:=.f64) (A:=1100) fmt2 hx.iv hy.iv h0 hV.1 (by omega) (by omega) (Nat.zero_le _) hV.2 (by decide);rw [Yi q1 hc];exact decide_eq_true q3
theorem Qm : ∀ {ws : List Nat} {Us es : List Int}, VS ws Us es → ∀ i, i < ws.length → Vl .f32 (ws.getD i 0) (Us.getD i 0 + es.getD i 0)
  | w :: ws, Us, es, h, i, hi => by
    obtain ⟨U, Us, e, es, rfl, rfl, h1, h2⟩ := uh h
    cases i with
    | zero => exact h1
    | succ i => have := Qm h2 i (by simpa using hi); simpa using this
theorem Zm {a b:List Nat} {Us es fs:List Int} {c:Nat} {M N V:Int} {K:Bool→Prop} (ha:VS a Us es) (hb:VS b Us fs) (he:AllL M es) (hf:AllL N fs) (h63:a.length≤63) (hc:Vl .f64 c V) (hV:RepZ (FloatKind.f64.format) V∧V.natAbs≤2 ^ 1100) (hZ:(M+N)*((2 ^ 925:Nat):Int)≤V) (hK:K false):laws_b10Apart.wp a b c K:=by
 have ha1:=qE ha;have hb1:=qE hb;refine⟨fun _=>fun X hX=>?_,fun c=>absurd (show (a.length:Int)=b.length by omega) c⟩;refine up (Y:=fun i=>X (i:Int)) a.length (hX _ ⟨fun c=>absurd c (by omega),fun _=>hK⟩) fun i hi hx=>hX _ ⟨fun _=>⟨⟨by omega,by omega⟩,⟨by omega,by omega⟩,?_⟩,fun c=>absurd (show (i:Int)<a.length by omega) c⟩;rw [nn,w1 (by omega)];have hg:=zei (Qm ha i hi) (Qm hb i (by omega)) (Z:=M+N) (by
  have h1:=he (es.getD i 0) (by rw [gD (by omega)];exact List.getElem_mem _);have h2:=hf (fs.getD i 0) (by rw [gD (by omega)];exact List.getElem_mem _);unfold Lim at *;omega) hc hV hZ
 exact⟨fun c=>⟨fun _=>hx,fun c2=>Bool.noConfusion ((show _=true from hg.1 c).symm.trans c2)⟩,fun c=>⟨fun _=>hx,fun c2=>Bool.noConfusion ((show _=true from hg.2 c).symm.trans c2)⟩⟩
def V01:Int:=5764607523034235*((2 ^ 1015:Nat):Int)
theorem c01_v:Vl .f64 (cz .f64 4576918229304087675) V01:=x9 (by decide +kernel)
theorem rep01:RepZ (FloatKind.f64.format) V01∧V01.natAbs≤2 ^ 1100:=⟨⟨5764607523034235,1015,by decide,by decide,by decide +kernel⟩,by decide +kernel⟩
def V05:Int:=7205759403792794*((2 ^ 1017:Nat):Int)
theorem c05_v:Vl .f64 (cz .f64 4587366580439587226) V05:=x9 (by decide +kernel)
theorem rep05:RepZ (FloatKind.f64.format) V05∧V05.natAbs≤2 ^ 1100:=⟨⟨7205759403792794,1017,by decide,by decide,by decide +kernel⟩,by decide +kernel⟩
theorem za8 (x:Nat):Vx x x=true:=by unfold Vx;exact decide_eq_true rfl
theorem Wo {l:List Nat} {K:Bool→Prop} (hl:l.length≤2 ^ 20) (h:∀ i,i<l.length→l.getD i 0<2 ^ 32) (hK:K true):laws_b10List.wp l l K:=by
 refine⟨fun _=>fun X hX=>?_,fun c=>absurd rfl c⟩;refine up (Y:=fun i=>X (i:Int)) l.length (hX _ ⟨fun c=>absurd c (by omega),fun _=>hK⟩) fun i hi hx=>hX _ ⟨fun _=>⟨⟨by omega,by omega⟩,⟨by omega,by omega⟩,?_⟩,fun c=>absurd (show (i:Int)<l.length by omega) c⟩;rw [nn,w1 (by omega)];refine Vy (h i hi) (h i hi) ?_;rw [za8];exact tT hx
theorem vl_neq {k:FloatKind} {x y:Nat} {a b:Int} (hx:Vl k x a) (hy:Vl k y b):fcmp .neq k x y=!decide (a=b):=by
 unfold fcmp;dsimp only;rw [ZH hx hy];show (!(compare a b == Ordering.eq))=_;rw [cmp_eq]
theorem zda {f:List Nat} {s:Nat} (i:Nat) (hi:i<(slv f s).length):(slv f s).getD i 0<2 ^ 32:=by
 rw [qZ] at hi;rw [Js hi];exact fop_lt _ _ _
theorem KZ : ∀ (l : List Nat) (p i : Nat), i < l.length → (reW p l).getD (2 * i + 1) 0 = l.getD i 0
  | x :: l, p, 0, _ => rfl
  | x :: l, p, i + 1, h => by
    have := KZ l x i (by simpa using h)
    rw [show 2 * (i + 1) + 1 = (2 * i + 1) + 1 + 1 by omega]
    simpa [reW] using this
theorem zej:coE (cz .f32 1082130432) (cz .f32 1082130432) (cz .f32 1082130432)=cz .f32 1082130432:=by decide +kernel
theorem WJ : ∀ m, coW (List.replicate (2 * m + 1) (cz .f32 1082130432)) = List.replicate m (cz .f32 1082130432)
  | 0 => rfl
  | m + 1 => by
    have := WJ m
    rw [show 2 * (m + 1) + 1 = (2 * m + 1) + 1 + 1 by omega, List.replicate_succ, List.replicate_succ, List.replicate_succ, coW, zej, List.replicate_succ]
    rw [List.replicate_succ] at this
    rw [this]
theorem zek:pFin (cz .f32 1082130432)=true:=by decide +kernel
theorem XF:∀ m,pAll (List.replicate m (cz .f32 1082130432))=true
 | 0=>rfl
 | m+1=>by rw [List.replicate_succ,UT,zek,XF m];rfl
theorem zel:laws_b10Gap.wp (widen (cz .f32 1082130432)) (cz .f64 4616189618054758400) fun g=>fcmp .gtr .f64 g (cz .f64 4562254508917369340)=false:=by
 refine⟨fun c=>?_,fun _=>by decide +kernel⟩;rw [show fcmp .lss .f64 (widen (cz .f32 1082130432)) (cz .f64 4616189618054758400)=false by decide +kernel] at c;cases c
theorem zdb {V c : Int} (hc : 0 ≤ c) : ∀ {fs es rs : List Int} {l : Int}, (∀ x ∈ fs, x = 0) → RsN 2 V l fs es rs → Bend c l es → AllL (16 * c + V) rs
  | [], [], [], _, _, _, _ => AllL.nil _
  | f :: fs, e :: es, r :: rs, l, hf, h, hb => by
    have f0 := hf f (List.mem_cons_self ..)
    have h1 := h.1
    have h2 := hb.1
    rw [show kOf 2 = 2 from rfl] at h1
    exact AllL.cons (by unfold Lim at *; omega) (zdb hc (fun x hx => hf x (List.mem_cons_of_mem _ hx)) h.2 hb.2)
  | [], [], _ :: _, _, _, h, _ => h.elim
  | [], _ :: _, _, _, _, h, _ => h.elim
  | _ :: _, [], _, _, _, h, _ => h.elim
  | _ :: _, _ :: _, [], _, _, h, _ => h.elim
def stp:Nat:=cz .f32 1048576000
theorem rest6:restB 6 (512*T7)=true:=by decide +kernel
theorem sm6:32*hh+0+2*(16*One)+2*smB 0 (Tf 6) 3 (512*T7)+20*Tf 6≤16700000*Tf 6:=by decide +kernel
theorem once6:∀ d,1≤d→d≤3→okC 6 1 1 d (512*T7)=true
 | 1,_,_=>by decide +kernel
 | 2,_,_=>by decide +kernel
 | 3,_,_=>by decide +kernel
 | 0,h,_=>absurd h (by omega)
 | _+4,_,h=>absurd h (by omega)
theorem once0:Ql 0 6 (512*T7)=true:=by decide +kernel
section
variable {d:Nat} {f:List Nat} {qs Us:List Int} (L:Ln d f qs Us)
include L
theorem Ln.solve:∃ es,VS (slv f stp) Us es∧Bend (16*T7) 0 es∧AllL (512*T7) es:=by
 refine za7 L.step ?_ L.hF L.hq L.hE;rw [L.hl];have:=L.hd
 match d,this with
 | 0,_=>exact .inl rfl
 | 1,_=>exact .inr (.inl rfl)
 | 2,_=>exact .inr (.inr (.inl rfl))
 | 3,_=>exact .inr (.inr (.inr rfl))
theorem Ln.ok:svOk f stp=true∧sv f stp=slv f stp:=by
 obtain⟨es,h1,_⟩:=L.solve;have e:svOk f stp=true:=by
  unfold svOk;rw [ZJ L.hd L.hl (uG L.hF),vE h1,show x8 stp=true by decide +kernel];rfl
 refine⟨e,?_⟩;rw [sv,e];rfl
theorem Ln.le20:f.length≤15∧1≤f.length:=by rw [L.hl];exact⟨(qJ d L.hd).2,XB d⟩
theorem Ln.law:(∃ es,VS (slv f stp) Us es∧AllL (512*T7) es ∧
  (∀ K:List Nat→Bool→Prop,(∀ r,(∀ J:Bool→Prop,J false→laws_b10Apart.wp r (List.replicate f.length 0) (cz .f64 4576918229304087675) J)→K r true)→impl_ResidualOf.wp (slv f stp) f stp K) ∧
  (∀ K:List Nat→Bool→Prop,(∀ r os,VS r Us os→r.length=dl d→AllL (512*T7+24*Tf 6) os→K r true)→impl_SmoothLine.wp (slv f stp) f stp 3 K) ∧
  (∀ K:List Nat→Bool→Prop,(∀ r os,VS r Us os→r.length=dl d→AllL (900*Tf 6) os→K r true)→impl_CycleOnce.wp (slv f stp) f stp 1 1 K)):=by
 obtain⟨es,h1,h2,h3⟩:=L.solve;have hl1:=qZ f stp;have hfl:=L.hl;have hs1:=ZJ L.hd (show (slv f stp).length=dl d by omega) (vE h1);have hf1:=ZJ L.hd L.hl (uG L.hF);have hov:x8 stp=true:=by decide +kernel
 have h15:=L.le20;refine⟨es,h1,h3,fun K hK=>?_,fun K hK=>?_,fun K hK=>?_⟩
 ·obtain⟨rs,r1,r2,_⟩:=L.restB (by decide) rest6 h1 h3 (by omega);have hr:=zdb (by decide +kernel) (KV _) r2 h2;refine qd hs1 hf1 (by omega) hov (uG r1) (hK _ fun J hJ=>?_);have hrl:=Yk r1;have hrw:=uW (fop .mul .f32 stp stp) (slv f stp) f 0 (by omega);have e:rs.length=f.length:=by
   have:(rsW (fop .mul .f32 (cz .f32 1048576000) (cz .f32 1048576000)) 0 (slv f stp) f).length=(slv f stp).length:=hrw;omega
  have hz:=WG f.length;unfold VZ at r1 hz;rw [Jp] at hz;rw [e] at r1;exact Zm r1 hz hr (Zk _) (by show (rsW (fop .mul .f32 stp stp) 0 (slv f stp) f).length≤63;omega) c01_v rep01 (by decide +kernel) hJ
 ·obtain⟨os,o1,_,o3,_⟩:=X3 6 (by decide) (n:=2) (PU:=32*hh) (MU:=16*One) (Q:=0) L.step (by decide +kernel) (Int.le_refl _) L.vs L.hE L.hU (Ur L.hq) (Zl _ _) 3 _ es (512*T7) (by decide +kernel) sm6 h1 h3;have hsl:=jT (fop .mul .f32 stp stp) f 3 (slv f stp) (by omega);refine qc (k:=3) hs1 hf1 (by omega) hov (by decide) (vE o1) (hK _ os o1 (by omega) ?_);have e:smB 0 (Tf 6) 3 (512*T7)=512*T7+24*Tf 6:=by decide +kernel
  rw [e] at o3;exact o3
 ·by_cases hd0:d=0
  ·subst hd0;obtain⟨os,rs,A,hc⟩:=L.one once0 true h1 h3 (by omega);refine qp (a:=1) (b:=1) (d:=0) (by decide) (by decide) (by decide) (by omega) hfl (hc rfl) (hK _ os A.vs A.len (A.le.up (by decide +kernel)))
  ·obtain⟨os,o1,o2,o3⟩:=L.cycle (a:=1) (b:=1) (by omega) (k:=6) (by decide) (by decide) true (by decide +kernel) (once6 d (by omega) L.hd) h1 h3 (by omega);have hel:es.length=dl d:=by have:=(qE h1).2;omega
   have:=near11 (k:=6) (by omega) L.hd (by decide +kernel) hel h3 o2;exact qp (a:=1) (b:=1) (d:=d) (by decide) (by decide) L.hd (by omega) hfl (o3 rfl) (hK _ os o1 (Zw true 1 1 d _ _ f (by omega) hfl) (this.up (by decide +kernel)))
theorem Ln.fine {K:List Nat→Bool→Prop} (hK:∀ r,r.length=2*f.length+1→(∀ i,i<f.length→fcmp .neq .f32 (r.getD (2*i+1) 0) (f.getD i 0)=false)→K r true):impl_RefineLine.wp f K:=by
 have h15:=L.le20;have hM:AllL (16*(32*hh)) (uz qs):=fun x hx=>by
  obtain⟨q,hm,rfl⟩:=List.mem_map.1 hx;have:=L.hq q hm;rw [qF];unfold Lim at *;omega
 obtain⟨os,o1,_⟩:=Uo 6 (by decide) (M:=16*(32*hh)) (by decide +kernel) (by decide +kernel) f (uz qs) 0 0 (x9 (by decide +kernel)) ⟨by decide +kernel,by decide +kernel⟩ L.hF hM;refine kK (ZJ L.hd L.hl (uG L.hF)) (by omega) (uG o1) (hK _ (jU f 0) fun i hi=>?_);rw [KZ f 0 i hi];have hv:=Qm L.hF i hi;rw [vl_neq hv hv,decide_eq_true rfl];rfl
end
theorem za9 (l0 l1:List Int) (hb0:∀ y∈l0,0≤y∧y<256) (hb1:∀ y∈l1,0≤y∧y<256):laws_FnCycles.wp l0 l1 (fun b=>b=true):=by
 have hlong:∀ {K:Bool→Prop},(K true)→(l0.length≤2 ^ 20→l1.length≤2 ^ 20→K false)→laws_b10Long.wp l0 l1 K:=by
  intro K h1 h2;refine⟨fun _=>h1,fun c=>?_⟩
  by_cases d:1048576<(l1.length:Int)
  ·rw [decide_eq_true d];exact h1
  ·rw [decide_eq_false d];exact h2 (by omega) (by omega)
 refine hlong (tT rfl) fun hl0 hl1=>tF ?_;refine KY ⟨by omega,hb0⟩ hb1 (by omega) fun _ d f qs Us L=>?_;refine KY ⟨by omega,hb1⟩ hb1 (by omega) fun _ d' g qs' Us' L'=>?_;have hf:=L.le20;have hg:=L'.le20;obtain⟨ok1,sv1⟩:=L.ok;obtain⟨ok2,sv2⟩:=L'.ok;have hsl:=qZ f stp;have hsl':=qZ g stp;refine (sl_sv f stp (by omega)).2.1 _ ?_;rw [ok1,sv1];refine Jc hb1 (by omega) (by omega) fun w hw1 hw2=>?_;rw [wI (n:=1+w) (by omega)];have hfs:FsOk [f,g]:=⟨by simp,by simp [tot];omega,fun z hz=>by
  rcases List.mem_cons.1 hz with rfl|hz
  ·omega
  ·rw [List.mem_singleton.1 hz];omega⟩
 have hls:lsOk [f,g] stp (1+w)=true:=by
  unfold lsOk;rw [show x8 stp=true by decide +kernel,decide_eq_true (show (1:Int)≤1+w∧1+w≤8 by omega),List.all_cons,List.all_cons,ok1,ok2];rfl
 have hlo:YU [f,g] stp (1+w)=[slv f stp,slv g stp]:=by
  unfold YU;rw [hls,cond_true,List.map_cons,List.map_cons,sv1,sv2];rfl
 refine impl_ls hfs ?_;show _;rw [show (cz .f32 1048576000)=stp from rfl,hls,hlo];refine (sl_sv g stp (by omega)).2.1 _ ?_;rw [ok2,sv2];obtain⟨es,h1,h2,hres,hsm,hon⟩:=L.law;refine hres _ fun left hleft=>?_;refine tT (tT (tT (tT (tP (by omega) (tP rfl ⟨by simp,?_⟩)))));refine Wo (by show (slv f stp).length≤_;omega) zda (tT ⟨by simp,?_⟩);refine Wo (by show (slv g stp).length≤_;omega) zda (tT ⟨⟨by omega,by omega,by omega,by omega⟩,?_⟩);rw [nn];refine hleft _ (tF ?_);refine Yl L fun v os n v1 v2 v3 v4 v5=>Ym L fun v' n'=>hsm _ fun r ors r1 r2 r3=>tB (tT ?_);have hdl:=L.hl;refine Zm r1 h1 r3 h2 (by omega) c01_v rep01 (by decide +kernel) (tF (tT (tN (by omega) (tN (by omega) ?_))));refine Zm v1 h1 v2 h2 (by omega) c05_v rep05 (by decide +kernel) (tF ?_);refine hon _ fun o oos o1 o2 o3=>L.fine fun fr f1 f2=>tT (tT ?_);refine Zm o1 h1 o3 h2 (by omega) c01_v rep01 (by decide +kernel) (tF ?_);have e2:IntKind.i64.wrap ((2:Int)*(f.length:Int))=((2*f.length:Nat):Int):=by rw [wI (by omega)];omega
 refine tP (by rw [e2,w1 (by omega)];omega) fun X hX=>?_;refine up (Y:=fun i=>X (i:Int)) f.length (hX _ ⟨fun c=>absurd c (by omega),fun _=>?_⟩) fun i hi hx=>hX _ ⟨fun _=>?_,fun c=>absurd (show (i:Int)<f.length by omega) c⟩
 ·refine⟨fun _=>rfl,fun hn3=>fun Y hY=>?_⟩;obtain⟨m,hm⟩:∃ m,f.length=2*m+1∧1≤m:=by
   have:=L.hd
   match d,this,hdl with
   | 0,_,h=>rw [h] at hn3;exact absurd (show (((dl 0:Nat)):Int)<3 by decide) hn3
   | 1,_,h=>exact⟨1,h,by decide⟩
   | 2,_,h=>exact⟨3,h,by decide⟩
   | 3,_,h=>exact⟨7,h,by decide⟩
  have key:Y (List.replicate f.length (cz .f32 1082130432)) (f.length:Int):=by
   refine hY _ _ ⟨fun c=>absurd c (by omega),fun _=>?_⟩;rw [hm.1];refine jC (m:=m) (vO (by rw [List.length_replicate,←hm.1,hdl];exact (qJ d L.hd).1) (XF _)) List.length_replicate hm.2 (by rw [WJ];exact XF _) (tT ?_);rw [WJ,List.length_replicate];refine tP (by rw [(par1 m).2,wI (by omega)]) fun Z hZ=>?_;refine up (Y:=fun i=>Z (i:Int)) m (hZ _ ⟨fun c=>absurd c (by omega),fun _=>rfl⟩) fun j hj hz=>hZ _ ⟨fun _=>⟨by omega,?_⟩,fun c=>absurd (show (j:Int)<m by omega) c⟩;rw [nn,w1 (by omega),gD (by rw [List.length_replicate];exact hj),List.getElem_replicate];have hg:=zel;exact⟨fun c=>⟨fun c2=>Bool.noConfusion (c2.symm.trans (show _=false from hg.1 c)),fun _=>hz⟩,fun c=>⟨fun c2=>Bool.noConfusion (c2.symm.trans (show _=false from hg.2 c)),fun _=>hz⟩⟩
  refine up (Y:=fun i=>Y (List.replicate i (cz .f32 1082130432)) (i:Int)) f.length key fun j hj hy=>hY _ _ ⟨fun _=>⟨by rw [List.length_replicate,len1];omega,?_⟩,fun c=>absurd (show (j:Int)<f.length by omega) c⟩;rw [w1 (by omega),←List.replicate_succ'];exact hy
 ·have e3:IntKind.i64.wrap (IntKind.i64.wrap ((2:Int)*(i:Int))+1)=((2*i+1:Nat):Int):=by
   rw [show IntKind.i64.wrap ((2:Int)*(i:Int))=((2*i:Nat):Int) by rw [wI (by omega)];omega,w1 (by omega)]
  rw [e3,nn,nn,f2 i hi,w1 (by omega)];exact⟨by omega,by omega,tF hx⟩
end Go.Proofs.Ytochgocgmeeppaa.G
