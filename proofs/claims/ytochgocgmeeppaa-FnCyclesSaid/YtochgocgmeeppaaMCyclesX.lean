/-
  A function that starts workers: what it does, whatever the order in which they run. Nothing here is trusted.
-/
import Derived.Test.YtochgocgmeeppaaProg
import Derived.Test.YtochgocgmeeppaaMCyclesKb
import Derived.Conc.WgGenN3
import Derived.KernelRfl
set_option linter.unusedVariables false
set_option linter.unusedSimpArgs false
set_option linter.unusedSectionVars false
namespace Go.Proofs.Ytochgocgmeeppaa
open Go Go.Proofs
abbrev wlink:Go.Conc.Lib.WgLink:={ add:=59,done:=62,wait:=34,relMerge:=82,disable:=63,enable:=65,inBubble:=71,associate:=83,fatal:=84,uOr:=85,uAdd:=86,raceRead:=87,uLoad:=64,uStore:=88,disassociate:=69,semrelease:=89,acquire:=66,isAssociated:=67,uCas:=68,raceWrite:=70,semacquire:=72,orU64:=93,addU64:=94,loadU64:=90,storeU64:=95,casU64:=91,tWgP:=79,tUP:=84,tAssoc:=95,tWg:=64,tAU:=61,tU64:=59,tUint:=82,tU32:=62,tPU32:=88,tPAU:=101,tPU64:=103,tNoCopy:=56,tANoCopy:=57,tAlign64:=58 }
theorem YV:Go.Conc.Lib.WgLib Try.prog wlink:=
 ⟨Try.func59,Try.func62,Try.func34,Try.func82,Try.func63,Try.func65,Try.func71,Try.func83,Try.func84,Try.func85,Try.func86,Try.func87,Try.func64,Try.func88,Try.func69,Try.func89,Try.func66,Try.func67,Try.func68,Try.func70,Try.func72,Try.func93,Try.func94,Try.func90,Try.func95,Try.func91,Try.underlying79,Try.runUnderlying79,Try.sizeOf79,Try.isAgg79,Try.zeroValue79,Try.underlying84,Try.runUnderlying84,Try.sizeOf84,Try.isAgg84,Try.zeroValue84,Try.underlying95,Try.runUnderlying95,Try.sizeOf95,Try.isAgg95,Try.zeroValue95,Try.underlying64,Try.runUnderlying64,Try.sizeOf64,Try.isAgg64,Try.zeroValue64,Try.underlying61,Try.runUnderlying61,Try.sizeOf61,Try.isAgg61,Try.zeroValue61,Try.underlying59,Try.runUnderlying59,Try.sizeOf59,Try.isAgg59,Try.zeroValue59,Try.underlying82,Try.runUnderlying82,Try.sizeOf82,Try.isAgg82,Try.zeroValue82,Try.underlying62,Try.runUnderlying62,Try.sizeOf62,Try.isAgg62,Try.zeroValue62,Try.underlying88,Try.runUnderlying88,Try.sizeOf88,Try.isAgg88,Try.zeroValue88,Try.underlying101,Try.runUnderlying101,Try.sizeOf101,Try.isAgg101,Try.zeroValue101,Try.underlying103,Try.runUnderlying103,Try.sizeOf103,Try.isAgg103,Try.zeroValue103,Try.underlying0,Try.runUnderlying0,Try.sizeOf0,Try.isAgg0,Try.zeroValue0,Try.underlying3,Try.runUnderlying3,Try.sizeOf3,Try.isAgg3,Try.zeroValue3,Try.underlying4,Try.runUnderlying4,Try.sizeOf4,Try.isAgg4,Try.zeroValue4,Try.underlying9,Try.runUnderlying9,Try.sizeOf9,Try.isAgg9,Try.zeroValue9,Try.underlying20,Try.runUnderlying20,Try.sizeOf20,Try.isAgg20,Try.zeroValue20,Try.underlying21,Try.runUnderlying21,Try.sizeOf21,Try.isAgg21,Try.zeroValue21,(by kernel_rfl),(by kernel_rfl)⟩
end Go.Proofs.Ytochgocgmeeppaa
namespace Go.Proofs.Ytochgocgmeeppaa.Co
set_option maxRecDepth 100000
open Go Go.Conc Go.ConcN Go.Ab Go.Ab.Wg Go.Proofs Go.Proofs.Ytochgocgmeeppaa Go.Conc.Lib
open Go.ConcR (WgAt stA smA Payload DC0)
instance:Go.ConcR.Payload:=⟨1⟩
theorem nmLit:(Try.f60.name == "runtime.NumGoroutine")=false:=by kernel_rfl
theorem nmDef:(Try.f61.name == "runtime.NumGoroutine")=false:=by kernel_rfl
theorem nmAdd:((addFn wlink).name == "runtime.NumGoroutine")=false:=by kernel_rfl
theorem nmDone:(Try.f62.name == "runtime.NumGoroutine")=false:=by kernel_rfl
theorem JB {β : Emb} {g : FuncId} {caps : List (Nat × Nat)} {u : Value} (h : TVR β (.v (.fn g caps)) u) : ∃ us, u = .func (.func g) #[] us.toArray ∧ All2 (TVR β) (caps.map fun p => TV.v (.ptr p.1 p.2)) us := by
  obtain ⟨us, h1, h2⟩ := h
  refine ⟨us, h1, ?_⟩
  clear h1
  induction caps generalizing us with
  | nil => cases us <;> first | trivial | exact h2
  | cons c caps ih => cases us with
    | nil => exact h2.elim
    | cons u us => exact ⟨h2.1, ih _ h2.2⟩
theorem life {E:Env} (e:E.Good 64) {i:Nat} {ι:Type} {X:World→Prop} {Xe:ι→World→Prop} (hX:jP 64 E i X) (hXe:∀ x,jP 64 E i (Xe x)) {β:Emb} {H:Heap} {w:World}
  {iw jf ig fB:Nat} {caps:List (Nat × Nat)} {fnB:Func} {cB:Code} (hf:Try.prog.funcs[fB]?=some fnB) (hnm:(fnB.name == "runtime.NumGoroutine")=false) (hb:fnB.body=some cB)
  (hs:@SRI Try.prog (clsW Try.prog 64 E i) β H w) {lw lf lg:Ab.Loc} (ew:β iw=some lw) (ef:β jf=some lf) (eg:β ig=some lg) (hlg:lg.blk=E.Wg∧lg.base=0)
  (hw:H.f iw=.own [.ptr ig 0]) (hjf:H.f jf=.own [.fn fB caps]) {Fin:ι→Emb→Heap→Prop}
  (hbody:∀ (c:Frame) (cs:List Frame) β1 us w1,Le β β1→@SRI Try.prog (clsW Try.prog 64 E i) β1 H w1→All2 (TVR β1) (caps.map fun p=>TV.v (.ptr p.1 p.2)) us →
   (∀ x β2 H2 w2,Le β1 β2→@SRI Try.prog (clsW Try.prog 64 E i) β2 H2 w2→H2.f iw=.own [.ptr ig 0]→Fin x β2 H2→TW Try.prog 64 E i (Xe x) (Live β2 H2) (G (c.finish (.tuple #[])) cs) w2) →
   TW Try.prog 64 E i X (Live β1 H) (G ((base fB).at { tmps:=us.toArray++Array.replicate (fnB.ntmps - us.toArray.size) undef,defers:=[] } [.code cB]) (c::cs)) w1)
  (hlive:∀ x w,Xe x w→WgLive 64 E.Wg w) (hjf2:∀ x β2 H2,Fin x β2 H2→H2.f jf=.own [.fn fB caps])
  (hres:∀ x β2 β3 H2 w2,Fin x β2 H2→Le β2 β3→@SRI Try.prog (clsW Try.prog 64 E i) β3 H2 w2→Xe x w2→(∀ b,Live β3 H2 b→b<E.B0→E.R b)→E.Res i (Live β3 H2) w2) :
  TW Try.prog 64 E i X (Live β H) (born Try.prog (cl 60 #[ptrV lw 0,ptrV lf 0])) w:=by
 letI:Cls Try.prog:=clsW Try.prog 64 E i
 have hT:Cls.ok (P:=Try.prog) (TW Try.prog 64 E i X):=⟨X,e,hX,rfl⟩;refine go_step hT rfl rfl (fun w=>za0 Try.func60 nmLit rfl) ?_;refine go_step hT rfl rfl (fun w=>stepG_seq) ?_;refine go_step hT rfl rfl (fun w=>stepG_region) ?_;have h0:AR β (init [TV.v (.ptr iw 0),TV.v (.ptr jf 0)]) { tmps:=#[ptrV lw 0,ptrV lf 0]++Array.replicate (Try.f60.ntmps - #[ptrV lw 0,ptrV lf 0].size) undef,defers:=[] } Try.f60.ntmps:=
  qO (P:=Try.prog) (us:=[ptrV lw 0,ptrV lf 0]) Try.func60 rfl (by show 2≤_;decide) ⟨⟨lw,ew,rfl⟩,⟨lf,ef,rfl⟩,trivial⟩
 have hv0:Vals β (init [TV.v (.ptr iw 0),TV.v (.ptr jf 0)]) _:=h0.val;have hz0:=h0.size;generalize (#[ptrV lw 0,ptrV lf 0]++Array.replicate (Try.f60.ntmps - #[ptrV lw 0,ptrV lf 0].size) undef)=T0 at hv0 hz0 ⊢;refine uV (v:=.v (.fn 61 [(iw,0)])) hT rfl hs hv0 rfl rfl (fun t ht=>by cases ht;show _<T0.size;have hz:T0.size=Try.f60.ntmps:=hz0;rw [hz];decide) (by decide) fun β1 u1 w1 le1 hs1 hu1 hv1 _=>?_;obtain⟨us1,rfl,hus1⟩:=JB hu1;have hT1:(T0.setIfInBounds 2 (Value.func (.func 61) #[] us1.toArray)).getD 2 undef=.func (.func 61) #[] us1.toArray:=by
  have hz:T0.size=Try.f60.ntmps:=hz0;have:2<T0.size:=by rw [hz];decide
  simp [Array.getD_eq_getD_getElem?,this]
 have hz1:(T0.setIfInBounds 2 (Value.func (.func 61) #[] us1.toArray)).size=Try.f60.ntmps:=by
  have hz:T0.size=Try.f60.ntmps:=hz0
  simp [hz]
 change Vals β1 _ ⟨T0.setIfInBounds 2 (Value.func (.func 61) #[] us1.toArray),[]⟩ at hv1
 change TW Try.prog 64 E i X (Ab.Live β1 H) (G ((baseD 60).at ⟨T0.setIfInBounds 2 (Value.func (.func 61) #[] us1.toArray),[]⟩ _) _) w1
 generalize T0.setIfInBounds 2 (Value.func (.func 61) #[] us1.toArray)=T1 at hT1 hz1 hv1 ⊢;refine go_step hT rfl rfl (fun w=>Q5 rfl rfl (by decide) rfl hT1) ?_;refine go_step hT rfl rfl (fun w=>stepG_region_end) ?_;refine go_step hT rfl rfl (fun w=>stepG_region) ?_;have hv1':Vals β1 (aput (init [TV.v (.ptr iw 0),TV.v (.ptr jf 0)]) (some 2) (.v (.fn 61 [(iw,0)]))) (Act.put ⟨T1,[cl 61 us1.toArray]⟩ none undef):=hv1;refine V9 (c:=.fn fB caps) hT rfl rfl (by kernel_rfl) (by simp [wN,hjf,Blk.cs]) hs1 hv1' rfl rfl (fun t ht=>by cases ht;show _<T1.size;rw [hz1];decide) (by decide) fun β2 u2 w2 le2 hs2 hu2 hv2 _=>?_;obtain⟨us2,rfl,hus2⟩:=JB hu2;have hT2:(T1.setIfInBounds 3 (Value.func (.func fB) #[] us2.toArray)).getD 3 undef=.func (.func fB) #[] us2.toArray:=by
  have:3<T1.size:=by rw [hz1];decide
  simp [Array.getD_eq_getD_getElem?,this]
 change TW Try.prog 64 E i X (Ab.Live β2 H) (G ((baseD 60).at ⟨T1.setIfInBounds 3 (Value.func (.func fB) #[] us2.toArray),[cl 61 us1.toArray]⟩ _) _) w2
 generalize T1.setIfInBounds 3 (Value.func (.func fB) #[] us2.toArray)=T2 at hT2 ⊢;refine go_step hT rfl rfl (fun w=>J4 rfl rfl (by decide) rfl hT2 hf hnm hb) ?_;refine hbody _ _ β2 us2 w2 (le1.trans le2) hs2 hus2 fun z β3 H3 w3 le3 hs3 hw3 hfin=>?_;have hTe:Cls.ok (P:=Try.prog) (TW Try.prog 64 E i (Xe z)):=⟨Xe z,e,hXe z,rfl⟩;rw [Frame.finish_at]
 change TW Try.prog 64 E i (Xe z) (Ab.Live β3 H3) (G ((baseD 60).at ⟨T2.setIfInBounds 4 (.tuple #[]),[cl 61 us1.toArray]⟩ _) _) w3
 generalize T2.setIfInBounds 4 (.tuple #[])=T3;refine go_step hTe rfl rfl (fun w=>stepG_region_end) ?_;refine go_step hTe rfl rfl (fun w=>stepG_end) ?_;refine go_step hTe rfl rfl (fun w=>Qd rfl Try.func61 nmDef rfl) ?_;have le13:=(le2.trans le3);have g0:=qO (P:=Try.prog) (β:=β3) (args:=[TV.v (.ptr iw 0)]) (us:=us1) Try.func61 rfl (by show 1≤_;decide) (All2.mono (fun _ _ h=>TVR.mono le13 h) hus1);have gv0:Vals β3 (init [TV.v (.ptr iw 0)]) _:=g0.val;have gz0:=g0.size;clear hbody hv0 hv1 hv1' h0 hus1 g0;generalize (us1.toArray++Array.replicate (Try.f61.ntmps - us1.toArray.size) undef)=U0 at gv0 gz0 ⊢;replace gz0:U0.size=Try.f61.ntmps:=gz0;refine go_step hTe rfl rfl (fun w=>stepG_seq) ?_;refine go_step hTe rfl rfl (fun w=>stepG_seq) ?_;refine go_step hTe rfl rfl (fun w=>stepG_region) ?_;refine go_step hTe rfl rfl (fun w=>Qe rfl rfl rfl rfl) ?_;have gv1:Vals β3 (aput (init [TV.v (.ptr iw 0)]) (some 2) (.v (.ifc .nil))) ⟨U0.setIfInBounds 2 .nilIface,[]⟩:=gv0.put (u:=.nilIface) (show TVR β3 (.v (.ifc .nil)) .nilIface from rfl) (d:=some 2) fun t ht=>by cases ht;show _<U0.size;rw [gz0];decide
 have gz1:(U0.setIfInBounds 2 .nilIface).size=Try.f61.ntmps:=by simp [gz0]
 change TW Try.prog 64 E i (Xe z) (Ab.Live β3 H3) (G ((baseD 61).at ⟨U0.setIfInBounds 2 .nilIface,[]⟩ _) _) w3
 generalize U0.setIfInBounds 2 .nilIface=U1 at gv1 gz1 ⊢;refine uV (v:=.v (.ifc .nil)) hTe rfl hs3 gv1 rfl rfl (fun t ht=>by cases ht;show _<U1.size;rw [gz1];decide) (by decide) fun β4 u4 w4 le4 hs4 hu4 gv2 _=>?_;have gz2:(U1.setIfInBounds 1 u4).size=Try.f61.ntmps:=by simp [gz1]
 change Vals β4 _ ⟨U1.setIfInBounds 1 u4,[]⟩ at gv2
 change TW Try.prog 64 E i (Xe z) (Ab.Live β4 H3) (G ((baseD 61).at ⟨U1.setIfInBounds 1 u4,[]⟩ _) _) w4
 generalize U1.setIfInBounds 1 u4=U2 at gv2 gz2 ⊢;refine go_step hTe rfl rfl (fun w=>stepG_region_end) ?_;refine go_step hTe rfl rfl (fun w=>stepG_seq) ?_;refine go_step hTe rfl rfl (fun w=>stepG_region) ?_;refine uV (v:=.v (.ifc .nil)) hTe rfl hs4 gv2 rfl rfl (fun t ht=>by cases ht;show _<U2.size;rw [gz2];decide) (by decide) fun β5 u5 w5 le5 hs5 hu5 gv3 _=>?_;have gz3:(U2.setIfInBounds 3 u5).size=Try.f61.ntmps:=by simp [gz2]
 change Vals β5 _ ⟨U2.setIfInBounds 3 u5,[]⟩ at gv3
 change TW Try.prog 64 E i (Xe z) (Ab.Live β5 H3) (G ((baseD 61).at ⟨U2.setIfInBounds 3 u5,[]⟩ _) _) w5
 generalize U2.setIfInBounds 3 u5=U3 at gv3 gz3 ⊢;refine uV (v:=.v (.bool false)) hTe rfl hs5 gv3 rfl rfl (fun t ht=>by cases ht;show _<U3.size;rw [gz3];decide) (by decide) fun β6 u6 w6 le6 hs6 hu6 gv4 _=>?_;obtain rfl:u6=.bool false:=hu6;have gz4:(U3.setIfInBounds 4 (.bool false)).size=Try.f61.ntmps:=by simp [gz3]
 have gT4:(U3.setIfInBounds 4 (.bool false)).getD 4 undef=.bool false:=by
  have:4<U3.size:=by rw [gz3];decide
  simp [Array.getD_eq_getD_getElem?,this]
 change Vals β6 _ ⟨U3.setIfInBounds 4 (.bool false),[]⟩ at gv4
 change TW Try.prog 64 E i (Xe z) (Ab.Live β6 H3) (G ((baseD 61).at ⟨U3.setIfInBounds 4 (.bool false),[]⟩ _) _) w6
 generalize U3.setIfInBounds 4 (.bool false)=U4 at gv4 gz4 gT4 ⊢;refine go_step hTe rfl rfl (fun w=>stepG_region_end) ?_;refine go_step hTe rfl rfl (fun w=>stepG_cond (t:=false) gT4) ?_;refine go_step hTe rfl rfl (fun w=>stepG_skip) ?_;refine go_step hTe rfl rfl (fun w=>stepG_region) ?_;refine V9 (c:=.ptr ig 0) hTe rfl rfl (by kernel_rfl) (by simp [wN,hw3,Blk.cs]) hs6 gv4 rfl rfl (fun t ht=>by cases ht;show _<U4.size;rw [gz4];decide) (by decide) fun β7 u7 w7 le7 hs7 hu7 gv5 _=>?_;have eg7:β7 ig=some lg:=(le1.trans (le2.trans (le3.trans (le4.trans (le5.trans (le6.trans le7)))))) _ _ eg;obtain⟨lg',el',rfl⟩:=(hu7:∃ l,β7 ig=some l∧u7=ptrV l 0);obtain rfl:lg=lg':=Option.some.inj (eg7.symm.trans el');have hp:ptrV lg 0=.pointer (some ⟨E.Wg,0,none⟩):=by simp [ptrV,hlg.1,hlg.2]
 rw [hp] at gv5 ⊢;have gT5:(U4.setIfInBounds 6 (.pointer (some ⟨E.Wg,0,none⟩))).getD 6 undef=.pointer (some ⟨E.Wg,0,none⟩):=by
  have:6<U4.size:=by rw [gz4];decide
  simp [Array.getD_eq_getD_getElem?,this]
 change TW Try.prog 64 E i (Xe z) (Ab.Live β7 H3) (G ((baseD 61).at ⟨U4.setIfInBounds 6 (.pointer (some ⟨E.Wg,0,none⟩)),[]⟩ _) _) w7
 generalize U4.setIfInBounds 6 (.pointer (some ⟨E.Wg,0,none⟩))=U5 at gT5 ⊢;have le37:=le4.trans (le5.trans (le6.trans le7));refine go_step hTe rfl rfl (fun w=>qC rfl rfl (by decide) rfl Try.func62 nmDone rfl) ?_;have m0:(#[Operand.tmp 6].map (Act.eval ⟨U5,[]⟩))=[Value.pointer (some ⟨E.Wg,0,none⟩)].toArray:=by simp [Act.eval,gT5]
 rw [m0];have d0:=qO (P:=Try.prog) (β:=β7) (args:=[TV.v (.ptr ig 0)]) (us:=[Value.pointer (some ⟨E.Wg,0,none⟩)]) Try.func62 rfl (by show 1≤_;decide) ⟨⟨lg,eg7,hp.symm⟩,trivial⟩;have dv0:Vals β7 (init [TV.v (.ptr ig 0)]) _:=d0.val;have dz0:=d0.size;clear d0 gv0 gv1 gv2 gv3 gv4 gv5;generalize ([Value.pointer (some ⟨E.Wg,0,none⟩)].toArray++Array.replicate (Try.f62.ntmps - [Value.pointer (some ⟨E.Wg,0,none⟩)].toArray.size) undef)=W0 at dv0 dz0 ⊢;replace dz0:W0.size=Try.f62.ntmps:=dz0;refine go_step hTe rfl rfl (fun w=>stepG_region) ?_;refine uV (v:=.v (.ptr ig 0)) hTe rfl hs7 dv0 rfl rfl (fun t ht=>by cases ht;show _<W0.size;rw [dz0];decide) (by decide) fun β8 u8 w8 le8 hs8 hu8 _ _=>?_;have eg8:β8 ig=some lg:=le8 _ _ eg7;obtain⟨lg2,el2,rfl⟩:=(hu8:∃ l,β8 ig=some l∧u8=ptrV l 0);obtain rfl:lg=lg2:=Option.some.inj (eg8.symm.trans el2);rw [hp];have dT1:(W0.setIfInBounds 2 (.pointer (some ⟨E.Wg,0,none⟩))).getD 2 undef=.pointer (some ⟨E.Wg,0,none⟩):=by
  have:2<W0.size:=by rw [dz0];decide
  simp [Array.getD_eq_getD_getElem?,this]
 change TW Try.prog 64 E i (Xe z) (Ab.Live β8 H3) (G ((base 62).at ⟨W0.setIfInBounds 2 (.pointer (some ⟨E.Wg,0,none⟩)),[]⟩ _) _) w8
 generalize W0.setIfInBounds 2 (.pointer (some ⟨E.Wg,0,none⟩))=W1 at dT1 ⊢;refine go_step hTe rfl rfl (fun w=>qC rfl rfl (by decide) rfl YV.f_add nmAdd rfl) ?_;have m1:(#[Operand.tmp 2,Operand.const (Value.int IntKind.i64 (-1))].map (Act.eval ⟨W1,[]⟩))=#[Value.pointer (some ⟨E.Wg,0,none⟩),.int .i64 (-1)]:=by simp [Act.eval,dT1]
 rw [m1];have el8:β8 jf=some lf:=(le1.trans (le2.trans (le3.trans (le37.trans le8)))) _ _ ef;have hj3:=hjf2 _ _ _ hfin;refine TW.offs fun hoff8=>TW.done e fun w9 hk9 hx9=>?_;have hs9:=hs8.keep hk9;refine⟨hres _ _ _ _ _ hfin (le37.trans le8) hs9 hx9 (fun b hb=>(hoff8 b hb).2),?_⟩;have hrow:=hs9.sr.row jf lf el8;rw [hj3] at hrow;obtain⟨ccs,ty',fz,hblk,hcell,_⟩:=hrow;obtain⟨val,hval,_⟩:=hcell 0 _ rfl;have hHas:Has lf.blk lf.base val w9:=by
  simp only [Has,World.cell?,hblk]
  simpa using hval
 refine⟨lf.blk,1,lf.base,val,13,⟨jf,lf,el8,by rw [hj3];rfl,rfl⟩,hs9.inn.own _ ⟨jf,lf,el8,by rw [hj3];rfl,rfl⟩,?_⟩;refine addNegC YV (qt:=8) ?_ w9 ⟨hlive z w9 hx9,hHas⟩;refine QuitsD.ctl rfl (fun w=>stepG_region_end) ?_;refine QuitsD.ctl rfl (fun w=>stepG_end) ?_;refine QuitsD.leave0 rfl rfl Try.func62 rfl ?_;refine QuitsD.ctl rfl (fun w=>stepG_region_end) ?_;refine QuitsD.ctl rfl (fun w=>stepG_end) ?_;refine QuitsD.leaveD rfl rfl Try.func61 rfl rfl ?_;exact zcc Try.func60 rfl
end Go.Proofs.Ytochgocgmeeppaa.Co
namespace Go.Proofs.Ytochgocgmeeppaa.Co
set_option maxRecDepth 100000
open Go Go.Conc Go.ConcN Go.Ab Go.Ab.Wg Go.Proofs Go.Proofs.Ytochgocgmeeppaa Go.Conc.Lib Go.ConcR.Gen
open Go.ConcR (WgAt stA smA Payload DC0)
theorem nmGo:(Try.f32.name == "runtime.NumGoroutine")=false:=by kernel_rfl
def goH (H:Heap) (ig fB:Nat) (caps:List (Nat × Nat)):Heap:=(H.alloc (.own [.ptr ig 0])).alloc (.own [.fn fB caps])
def goD (H:Heap) (wi:Nat):Nat→Bool:=fun i=>decide (i=wi∨i=H.n∨i=H.n+1)
theorem go_call {E:Env} (e:E.Good 64) {Post:Value→World→Prop} {n r r':Nat} (hn:n+1 - E.base+1<2147483648) {β:Emb} {H:Heap} {w:World} (hs:@SRI Try.prog (clsP Try.prog 64 E) β H w)
  {ig wi fB:Nat} {caps:List (Nat × Nat)} {lg:Ab.Loc} (eg:β ig=some lg) (hlg:lg.blk=E.Wg∧lg.base=0) (hro:∀ i l,β i=some l→(H.f i).isGone=false→i≠wi→E.R l.blk) (hwi:∀ l,β wi=some l→E.B0≤l.blk)
  {uf:Value} (huf:TVR β (.v (.fn fB caps)) uf) {c:Frame} {cs:List Frame} {X:World→Prop}
  (hchild:∀ β1 w1 lw lf,Le β β1→@SRI Try.prog (clsW Try.prog 64 E n) β1 (goH H ig fB caps) w1→β1 H.n=some lw→β1 (H.n+1)=some lf→WgLive 64 E.Wg w1→(∀ b,E.X b→∃ cs,w1.heap[b]?=some (.cells cs (E.xt b).1 (E.xt b).2)∧cs.size=E.xn b) →
   X w1∧TW Try.prog 64 E n X (Live β1 (goH H ig fB caps)) (born Try.prog (cl 60 #[ptrV lw 0,ptrV lf 0])) w1)
  (hnext:∀ β1 w2,Le β β1→@SRI Try.prog (clsP Try.prog 64 E) β1 ((goH H ig fB caps).kill (goD H wi)) w2→TP Try.prog 64 E Post (n+1) 0 (some (.sp r' 5)) (n+1) (Live β1 ((goH H ig fB caps).kill (goD H wi))) (G (c.finish (.tuple #[])) cs) w2) :
  TP Try.prog 64 E Post n 0 (some (.sp r 5)) n (Live β H) (G ((base 32).at { tmps:=#[ptrV lg 0,uf]++Array.replicate (Try.f32.ntmps - #[ptrV lg 0,uf].size) undef,defers:=[] } [.code (Try.f32.body.getD .skip)]) (c::cs)) w:=by
 letI:Cls Try.prog:=clsP Try.prog 64 E
 have hn0:n - E.base+1<2147483648:=by omega
 have hT:Cls.ok (P:=Try.prog) (TP Try.prog 64 E Post n 0 (some (.sp r 5)) n):=⟨Post,n,0,_,n,e,hn0,by simp,rfl⟩;have hT2:Cls.ok (P:=Try.prog) (TP Try.prog 64 E Post n 0 (some (.sp r 2)) n):=⟨Post,n,0,_,n,e,hn0,by simp,rfl⟩;have hT3:Cls.ok (P:=Try.prog) (TP Try.prog 64 E Post (n+1) 0 (some (.sp r' 5)) (n+1)):=⟨Post,n+1,0,_,n+1,e,hn,by simp,rfl⟩;refine TP.live fun w hk0 hlive0 hB0=>?_;replace hs:=hs.keep hk0;refine go_step hT rfl rfl (fun w=>stepG_seq) ?_;refine go_step hT rfl rfl (fun w=>stepG_region) ?_;have h0:=qO (P:=Try.prog) (β:=β) (args:=[TV.v (.ptr ig 0),TV.v (.fn fB caps)]) (us:=[ptrV lg 0,uf]) Try.func32 rfl (by show 2≤_;decide) ⟨⟨lg,eg,rfl⟩,huf,trivial⟩;have hv0:Vals β (init [TV.v (.ptr ig 0),TV.v (.fn fB caps)]) _:=h0.val;have hz0:=h0.size;clear h0
 change Vals β _ ⟨#[ptrV lg 0,uf]++Array.replicate (Try.f32.ntmps - #[ptrV lg 0,uf].size) undef,[]⟩ at hv0
 generalize (#[ptrV lg 0,uf]++Array.replicate (Try.f32.ntmps - #[ptrV lg 0,uf].size) undef)=T0 at hv0 hz0 ⊢;replace hz0:T0.size=Try.f32.ntmps:=hz0;refine uV (v:=.v (.ptr H.n 0)) (H':=H.alloc (.own [.ptr ig 0])) hT (by kernel_rfl) hs hv0 rfl rfl (fun t ht=>by cases ht;show _<T0.size;rw [hz0];decide) (by decide) fun β1 u1 w1 le1 hs1 hu1 hv1 fr1=>?_;have hz1:(T0.setIfInBounds 2 u1).size=Try.f32.ntmps:=by simp [hz0]
 change Vals β1 _ ⟨T0.setIfInBounds 2 u1,[]⟩ at hv1
 change TP Try.prog 64 E Post n 0 (some (.sp r 5)) n (Live β1 (H.alloc (.own [.ptr ig 0]))) (G ((base 32).at ⟨T0.setIfInBounds 2 u1,[]⟩ _) _) w1
 generalize T0.setIfInBounds 2 u1=T1 at hv1 hz1 ⊢;refine uV (v:=.v (.ptr (H.n+1) 0)) (H':=goH H ig fB caps) hT (by kernel_rfl) hs1 hv1 rfl rfl (fun t ht=>by cases ht;show _<T1.size;rw [hz1];decide) (by decide) fun β2 u2 w2 le2 hs2 hu2 hv2 fr2=>?_;have hz2:(T1.setIfInBounds 3 u2).size=Try.f32.ntmps:=by simp [hz1]
 change Vals β2 _ ⟨T1.setIfInBounds 3 u2,[]⟩ at hv2
 change TP Try.prog 64 E Post n 0 (some (.sp r 5)) n (Live β2 (goH H ig fB caps)) (G ((base 32).at ⟨T1.setIfInBounds 3 u2,[]⟩ _) _) w2
 generalize T1.setIfInBounds 3 u2=T2 at hv2 hz2 ⊢;clear hu1 hu2 hv1 hv0;have f0:(goH H ig fB caps).f H.n=.own [.ptr ig 0]:=by simp [goH,Heap.alloc,Ab.upd]
 have f1:(goH H ig fB caps).f (H.n+1)=.own [.fn fB caps]:=by simp [goH,Heap.alloc,Ab.upd]
 refine go_step hT rfl rfl (fun w=>stepG_region_end) ?_;refine go_step hT rfl rfl (fun w=>stepG_seq) ?_;refine go_step hT rfl rfl (fun w=>stepG_region) ?_;refine V9 (c:=.ptr ig 0) hT rfl rfl (by kernel_rfl) (by simp [wN,f0,Blk.cs]) hs2 hv2 rfl rfl (fun t ht=>by cases ht;show _<T2.size;rw [hz2];decide) (by decide) fun β3 u3 w3 le3 hs3 hu3 hv3 fr3=>?_;have eg3:β3 ig=some lg:=(le1.trans (le2.trans le3)) _ _ eg;obtain⟨lg',el',rfl⟩:=(hu3:∃ l,β3 ig=some l∧u3=ptrV l 0);obtain rfl:lg=lg':=Option.some.inj (eg3.symm.trans el');have hp:ptrV lg 0=.pointer (some ⟨E.Wg,0,none⟩):=by simp [ptrV,hlg.1,hlg.2]
 rw [hp] at hv3 ⊢;have hz3:(T2.setIfInBounds 4 (.pointer (some ⟨E.Wg,0,none⟩))).size=Try.f32.ntmps:=by simp [hz2]
 have g3:(T2.setIfInBounds 4 (.pointer (some ⟨E.Wg,0,none⟩))).getD 4 undef=.pointer (some ⟨E.Wg,0,none⟩):=by
  have:4<T2.size:=by rw [hz2];decide
  simp [Array.getD_eq_getD_getElem?,this]
 change Vals β3 _ ⟨T2.setIfInBounds 4 (.pointer (some ⟨E.Wg,0,none⟩)),[]⟩ at hv3
 change TP Try.prog 64 E Post n 0 (some (.sp r 5)) n (Live β3 (goH H ig fB caps)) (G ((base 32).at ⟨T2.setIfInBounds 4 (.pointer (some ⟨E.Wg,0,none⟩)),[]⟩ _) _) w3
 generalize T2.setIfInBounds 4 (.pointer (some ⟨E.Wg,0,none⟩))=T3 at hv3 hz3 g3 ⊢;refine go_step hT rfl rfl (fun w=>qC rfl rfl (by decide) rfl YV.f_add nmAdd rfl) ?_;have m1:(#[Operand.tmp 4,Operand.const (Value.int IntKind.i64 1)].map (Act.eval ⟨T3,[]⟩))=#[Value.pointer (some ⟨E.Wg,0,none⟩),.int .i64 1]:=by simp [Act.eval,g3]
 rw [m1];refine TP.offs fun hoff=>TP.live fun w4 hk4 hlive _=>?_;have hs4:=hs3.keep hk4;refine TP.add1 (wS:=w4) e hn0 (gn:=_) rfl (fun b hb=>(hoff b hb).1) (fun w5 hk5=>?_) 40 _ w4 (.refl _ _ _) (addOne YV (fun w _=>rfl) w4 hlive);have hs5:=hs4.keep hk5;have hv5:=hv3.put (u:=.tuple #[]) (v:=.t []) ⟨[],rfl,trivial⟩ (d:=some 5) fun t ht=>by cases ht;show _<T3.size;rw [hz3];decide
 have hz5:(T3.setIfInBounds 5 (.tuple #[])).size=Try.f32.ntmps:=by simp [hz3]
 change Vals β3 _ ⟨T3.setIfInBounds 5 (.tuple #[]),[]⟩ at hv5
 change TP Try.prog 64 E Post n 0 (some (.sp r 2)) n (Live β3 (goH H ig fB caps)) (G ((base 32).at ⟨T3.setIfInBounds 5 (.tuple #[]),[]⟩ _) _) w5
 generalize T3.setIfInBounds 5 (.tuple #[])=T5 at hv5 hz5 ⊢;refine go_step hT2 rfl rfl (fun w=>stepG_region_end) ?_;refine go_step hT2 rfl rfl (fun w=>stepG_region) ?_;refine uV (v:=.v (.fn 60 [(H.n,0),(H.n+1,0)])) hT2 rfl hs5 hv5 rfl rfl (fun t ht=>by cases ht;show _<T5.size;rw [hz5];decide) (by decide) fun β6 u6 w6 le6 hs6 hu6 _ fr6=>?_;obtain⟨us6,rfl,hus6⟩:=JB hu6;have g6:(T5.setIfInBounds 6 (Value.func (.func 60) #[] us6.toArray)).getD 6 undef=.func (.func 60) #[] us6.toArray:=by
  have:6<T5.size:=by rw [hz5];decide
  simp [Array.getD_eq_getD_getElem?,this]
 change TP Try.prog 64 E Post n 0 (some (.sp r 2)) n (Live β6 (goH H ig fB caps)) (G ((base 32).at ⟨T5.setIfInBounds 6 (Value.func (.func 60) #[] us6.toArray),[]⟩ _) _) w6
 generalize T5.setIfInBounds 6 (Value.func (.func 60) #[] us6.toArray)=T6 at g6 ⊢;obtain⟨p1,p2,rfl⟩:∃ p1 p2,us6=[p1,p2]:=by
  match us6,hus6 with
  | [p1,p2],_=>exact⟨p1,p2,rfl⟩
 obtain⟨⟨lw,ew,rfl⟩,⟨lf,ef,rfl⟩,_⟩:=hus6;refine TP.spawn (r':=r') e hn0 fun w7 hk7=>?_;have hs7:=hs6.keep hk7;have le06:=le1.trans (le2.trans (le3.trans le6));refine⟨_,_,Live β6 (goH H ig fB caps),Live β6 ((goH H ig fB caps).kill (goD H wi)),zcb rfl rfl (by decide) rfl g6,rfl,fun b hb=>hb,fun b hb=>?_,fun b hb _=>?_,fun hb hoff7 hB hlive7 hx7=>?_,?_⟩
 ·obtain⟨i,l,e1,_,hg,hl⟩:=UQ hs7.sr hb;exact⟨i,l,e1,hg,hl⟩
 ·obtain⟨i,l,e1,hd,hg,rfl⟩:=UQ hs7.sr hb;have hd':¬(i=wi∨i=H.n∨i=H.n+1):=by simpa [goD] using hd
  have hi:i<H.n:=by
   rcases Nat.lt_or_ge i (H.n+2) with h|h
   ·omega
   ·have:=hs7.sr.dom i (show (goH H ig fB caps).n≤i from h);rw [this] at e1;cases e1
  have hfi:(goH H ig fB caps).f i=H.f i:=by simp [goH,Heap.alloc,Ab.upd,show i≠H.n by omega,show i≠H.n+1 by omega]
  rw [hfi] at hg;obtain⟨l0,hl0⟩:=hs.sr.tot i hi (by
   intro hh;have hr:=hs7.sr.row i l e1;rw [hfi,hh] at hr;exact hr)
  have:l=l0:=Option.some.inj (e1.symm.trans (le06 _ _ hl0));subst this;exact hro i l hl0 hg (fun x=>hd' (.inl x))
 ·obtain⟨hx,ht⟩:=hchild β6 w7 lw lf le06 (@SRI.mk Try.prog (clsW Try.prog 64 E n) _ _ _ hs7.sr hs7.inn) ew ef hlive7 hx7;have fr:=fr1.trans (fr2.trans (fr3.trans ((FrC.grew hk4.size).trans ((FrC.grew hk5.size).trans (fr6.trans (FrC.grew hk7.size))))));refine ht w7 (.refl _ _ _) hB (fun b hb=>⟨hoff7 b hb,fun hlt=>?_⟩) hx;obtain⟨i,l,e1,hg,rfl⟩:=fr.rng b (Nat.lt_of_lt_of_le hlt hB0) hb
  by_cases hi:i=wi
  ·subst hi;have:=hwi l e1;omega
  ·exact hro i l e1 hg hi
 ·refine go_step hT3 rfl rfl (fun w=>stepG_region_end) ?_;refine go_step hT3 rfl rfl (fun w=>stepG_end) ?_;refine go_step hT3 rfl rfl (fun w=>stepG_leave rfl rfl Try.func32 (results_none rfl _ _ _) (events_results_none rfl _ _)) ?_;exact hnext β6 w7 le06 hs7.kill
end Go.Proofs.Ytochgocgmeeppaa.Co
namespace Go.Proofs.Ytochgocgmeeppaa.Co
set_option maxRecDepth 100000
open Go Go.Conc Go.ConcN Go.Ab Go.Ab.Wg Go.Proofs Go.Proofs.Ytochgocgmeeppaa Go.Conc.Lib Go.ConcR.Gen
open Go.ConcR (WgAt stA smA Payload DC0)
theorem nmWait:((waitFn wlink).name == "runtime.NumGoroutine")=false:=by kernel_rfl
theorem zba {Post : Value → World → Prop} {R : Nat → Prop} {W : World} (hl : ∀ b, R b → b < W.heap.size) {F : Nat → Prop} {gn : Goroutine} (hgn : gn.status = .running) :
    ∀ (m : Nat) (g : Goroutine) (w : World), Goes Try.prog true (fun _ _ => True) DC0 (fun g _ => g = gn) m g w → T0 Try.prog 64 Post R W F gn w → T0 Try.prog 64 Post R W F g w := by
  intro m
  induction m with
  | zero => intro g w h hT; rw [h w trivial]; exact hT
  | succ m ih =>
    intro g w h hT
    rcases h with h | ⟨hrun, h⟩
    · rw [h w trivial]; exact hT
    · refine T0.closed hl F g w hrun fun w1 hk => ?_
      have h1 := h w1 trivial
      cases hgo : stepG Try.prog true g w1 with
      | go g' w' es =>
        rw [hgo, goes_go] at h1
        obtain ⟨⟨rfl, rfl⟩, hG⟩ := h1
        exact ⟨g', w', #[], F, rfl, Goes.running (R := fun _ _ => True) (fun g w h => by rw [h]; exact hgn) w' trivial hG, .still, ih g' w' hG (hT.keep hk)⟩
      | _ => rw [hgo] at h1; exact h1.elim
theorem zdc {E:Env} (e:E.Good 64) {Post:Value→World→Prop} {n r:Nat} (hn:n - E.base+1<2147483648) {R:Nat→Prop} {W:World} (hR:∀ b,R b→E.R b) (hl:∀ b,R b→b<W.heap.size) {F:Nat→Prop} {w:World}
  {b₀:Frame} {a₀:Act} {ops₀:Array Oper} {i₀:Nat} {rest₀:List Nat} {k₀:List Item} {cs:List Frame}
  (h:∀ w1 (Fs:Nat→Nat→Prop),Keep E.R F w w1→(∀ i,E.base≤i→i<n→E.Res i (Fs i) w1)→(∀ i,E.base≤i→i<n→∀ b,Fs i b→b<w1.heap.size∧¬E.Shun b∧¬E.X b∧(F b→E.R b)) →
   (∀ i k,E.base≤i→i<n→E.base≤k→k<n→i≠k→∀ b,Fs i b→Fs k b→E.R b)→(∀ b,F b→b<w1.heap.size∧¬E.Shun b∧¬E.X b)→E.B0≤w1.heap.size→(∀ b,E.X b→∃ cs,w1.heap[b]?=some (.cells cs (E.xt b).1 (E.xt b).2)∧cs.size=E.xn b)→Same E.R E.W0 w1 →
   ∃ F',(∀ b,F' b→b<w1.heap.size∧¬E.Shun b)∧Same R W w1∧T0 Try.prog 64 Post R W F' (G (b₀.at (a₀.put ((ops₀[i₀]?).bind (·.dst)) (.tuple #[])) (.inRegion ops₀ rest₀::k₀)) cs) w1) :
  TP Try.prog 64 E Post n 0 (some (.sp r 5)) n F (G ((base 34).at ⟨#[.pointer (some ⟨E.Wg,0,none⟩)]++Array.replicate 83 undef,[]⟩ [.code (body_wait wlink)]) (b₀.at a₀ (.inRegion ops₀ (i₀::rest₀)::k₀)::cs)) w:=by
 refine TP.offs fun hoff=>TP.live fun w2 hk2 hlive _=>?_;refine TP.wait (A:=Head wlink E.Wg (b₀.at a₀ (.inRegion ops₀ (i₀::rest₀)::k₀)) cs) (K:=LeftW Try.prog (G (b₀.at (a₀.put ((ops₀[i₀]?).bind (·.dst)) (.tuple #[])) (.inRegion ops₀ rest₀::k₀)) cs)) (wS:=w2) e hn (fun b hb=>(hoff b hb).1) ?_ (fun g w hA=>waitRound YV g w hA) (fun g w3 hk3 hQ=>?_) 10 _ w2 (.refl _ _ _) (waitStart YV w2 hlive)
 ·rintro g w ⟨T,rfl,_⟩;rfl
 ·refine TP.live fun w4 hk4 hlive4 _=>?_;refine TP.acq (R:=R) (W:=W) e hn hR fun w1 Fs h1 h2 h3 h4 h5 h6 h7 hlive1 h8=>?_;obtain⟨F',g1,g2,g3⟩:=h w1 Fs (hk2.trans (hk3.trans (hk4.trans h1))) h2 h3 h4 h5 h6 h7 h8;obtain⟨hrun,g',hgo,m,hG⟩:=hQ w1 (hk4.trans h1) hlive1;exact⟨g',F',hgo,Goes.running (R:=fun _ _=>True) (fun g w h=>by rw [h];rfl) w1 trivial hG,g1,g2,zba hl rfl m g' w1 hG g3⟩
end Go.Proofs.Ytochgocgmeeppaa.Co
namespace Go.Proofs.Ytochgocgmeeppaa.Co
set_option maxRecDepth 100000
set_option maxHeartbeats 1000000
open Go Go.Conc Go.ConcN Go.Ab Go.Ab.Wg Go.Proofs Go.Proofs.Ytochgocgmeeppaa Go.Conc.Lib Go.ConcR.Gen Go.Proofs.Ytochgocgmeeppaa.G
open Go.ConcR (WgAt stA smA Payload DC0)
noncomputable def bodyC:Code:=Try.f33.body.getD .skip
noncomputable def Qn:Code:=match bodyC with
 | .seq _ (.block _ (.loop c))=>c
 | _=>.skip
noncomputable def bodyP:Code:=match Qn with
 | .seq _ (.seq c _)=>c
 | _=>.skip
noncomputable def bodyN:Code:=match Qn with
 | .seq _ (.seq _ c)=>c
 | _=>.skip
noncomputable def bodyO:Array Oper:=match bodyP with
 | .block _ (.region _ o _)=>o
 | _=>#[]
structure BSt (s:Nat→TV) (iw im iwk ist io ifi:Nat):Prop where
 t0:s 0=.v (.ptr iw 0)
 t1:s 1=.v (.ptr im 0)
 t2:s 2=.v (.ptr iwk 0)
 t3:s 3=.v (.ptr ist 0)
 t4:s 4=.v (.ptr io 0)
 t5:s 5=.v (.ptr ifi 0)
structure Done (E:Env) (i bO pO bF pF:Nat) (y:Nat→Bool) (β:Emb) (A:Cellsm) (pcs:List (Nat × AV)):Prop where
 mine:∀ b o v,A b o=some v→E.Mine i b o
 row:∀ p∈pcs,∃ u,A bO (pO+p.1)=some u∧VR β p.2 u∧A bF (pF+p.1)=some (.bool (y p.1))
def pieces (ys:Nat→List Nat) (pcs:List (Nat × AV)):List Pc:=pcs.map (fun p=>Pc.osl p.2 1 (enc (eFlt .f32) (ys p.1)))
theorem Uy {H Hw:Heap} {l:List Pc} {id off:Nat} {cs:List AV} (hr:PtAt Hw id off cs) (hs:Sep H (l++came Hw)):PtAt H id off cs:=
 kG hr H (by have:=hs.dropn l.length;rwa [List.drop_left] at this)
theorem Zx {H Hw:Heap} {l:List Pc} (hs:Sep H (l++came Hw)):Sep H (came Hw):=by have:=hs.dropn l.length;rwa [List.drop_left] at this
abbrev Iw (E:Env) (i:Nat):={A:Cellsm // ∀ b o v,A b o=some v→E.Mine i b o}
def Iw.put {E:Env} {i:Nat} (x:Iw E i) (b o:Nat) (hm:E.Mine i b o) (v:Value):Iw E i:=⟨x.1.put b o v,fun b' o' v' h=>by
 unfold Cellsm.put at h
 split at h
 ·rename_i hh;obtain⟨rfl,rfl⟩:=hh;exact hm
 ·exact x.2 _ _ _ h⟩
def memB {E:Env} {i bO bF j j':Nat} (hmO:E.Mine i bO j) (hmF:E.Mine i bF j'):Nat→Act→Iw E i→Iw E i
 | 14,a,x=>x.put bO j hmO (a.eval (.tmp 26))
 | 16,a,x=>x.put bF j' hmF (a.eval (.tmp 27))
 | _,a,x=>x
def GdB {E:Env} {i:Nat} (β1:Emb) (A:Cellsm) (bO bF j j':Nat) (v:AV) (yj:Bool) (m:Nat) (β:Emb) (x:Iw E i):Prop:=
 Le β1 β∧if m≤14 then x.1=A else if m≤16 then ∃ u,VR β v u∧x.1=A.put bO j u else ∃ u,VR β v u∧x.1=(A.put bO j u).put bF j' (.bool yj)
section
variable {E:Env} (e:E.Good 64) {i k m W bO pO bF pF:Nat} (hO:E.X bO) (hF:E.X bF) (hOF:bO≠bF) (nO:pO+m≤E.xn bO) (nF:pF+m≤E.xn bF) (fO:NF (E.xt bO).2 (E.xn bO)) (fF:NF (E.xt bF).2 (E.xn bF)) (hm:m≤8) (hW:1≤W∧W≤8) (hk:k<W)
 (hmine:∀ o,o<m→o % W=k→E.Mine i bO (pO+o)∧E.Mine i bF (pF+o))
 {v0:AV} {w0:List (List AV)} {l0:List (List Nat)} {a1:Nat} {ys:Nat→List Nat} {y:Nat→Bool} (hl:l0.length=m)
 (hsol:∀ o,o<m→∀ K:List Nat→Bool→Prop,K (ys o) (y o)→impl_SolveLine.wp (l0.getD o []) a1 K)
 {Hw:Heap} {iw im ist iwk io ifi rO rF:Nat} (r0:PtAt Hw iw 0 [.int .i64 k]) (r1:PtAt Hw im 0 [v0]) (r2:PtAt Hw iwk 0 [.int .i64 W]) (r3:PtAt Hw ist 0 [.flt .f32 a1])
 (r4:PtAt Hw io 0 [.sl rO 0 m 1]) (r5:PtAt Hw ifi 0 [.sl rF 0 m 1]) (g0:∀ H,Sep H (came Hw)→DSh H v0 1 yt l0 w0)
 {β:Emb} {lO lF:Ab.Loc} (eO:β rO=some lO) (eF:β rF=some lF) (hlO:lO.blk=bO∧lO.base=pO) (hlF:lF.blk=bF∧lF.base=pF) {c:Frame} {cs:List Frame}
include e hO hF hOF nO nF fO fF hm hW hk hmine hl hsol r0 r1 r2 r3 r4 r5 g0 eO eF hlO hlF
theorem zdd {j:Nat} (hj:j<m) (hjk:j % W=k) {A:Cellsm} {pcs:List (Nat × AV)} {β1:Emb} {H1:Heap} {a:Act} {s:Nat→TV} {w1:World} (hA:∀ b o v,A b o=some v→E.Mine i b o) (le1:Le β β1) (ha:AR β1 s a 30)
  (hs:@SRI Try.prog (clsW Try.prog 64 E i) β1 H1 w1) (hsep:Sep H1 (pieces ys pcs++came Hw)) (hb:BSt s iw im iwk ist io ifi) (h6:s 6=.v (.int .i64 j)) {id:Nat} {k':List Item}
  (hK:∀ v u β2 H2 a2 s2 w2,VR β2 v u→Le β1 β2→AR β2 s2 a2 30→@SRI Try.prog (clsW Try.prog 64 E i) β2 H2 w2→Sep H2 (Pc.osl v 1 (enc (eFlt .f32) (ys j))::(pieces ys pcs++came Hw))→BSt s2 iw im iwk ist io ifi→s2 6=.v (.int .i64 j) →
   TW Try.prog 64 E i (XS 64 E ((A.put bO (pO+j) u).put bF (pF+j) (.bool (y j)))) (Live β2 H2) (G ((base 33).at a2 k') (c::cs)) w2) :
  TW Try.prog 64 E i (XS 64 E A) (Live β1 H1) (G ((base 33).at a (.code (.region id bodyO true)::k')) (c::cs)) w1:=by
 letI:Cls Try.prog:=clsW Try.prog 64 E i
 obtain⟨hmO,hmF⟩:=hmine j hj hjk;have hz:(0:Int)≤(j:Int)∧(j:Int)<l0.length:=⟨by omega,by omega⟩;have hd:=fun H (h:Sep H (came Hw))=>(g0 H h).at (by decide) hz ([]:List Nat);have hy:=hsol j hj (fun a b=>a=ys j∧b=y j) ⟨rfl,rfl⟩;obtain⟨r,H2,hok,y0,y1,⟨rfl,rfl⟩,v,rfl,hsep2⟩:=qx (fr:=pieces ys pcs++came Hw) (H:=H1) ((w0.getD ((j:Int)).toNat []).getD 0 .und) (l0.getD j []) a1 hsep (fun H hh=>((hd H (Zx hh)).2.1.2:_)) _ hy;have hh:=Zx hsep;have hh2:Sep H2 (came Hw):=Zx (l:=Pc.osl v 1 (enc (eFlt .f32) (ys j))::pieces ys pcs) hsep2;have tl31:(zL Try.prog 31).bind (tsz Try.prog)=some 1:=by kernel_rfl
 have tl54:(zL Try.prog 54).bind (tsz Try.prog)=some 1:=by kernel_rfl
 have hvs:∀ (β:Emb) u,VR β v u→∃ a l c,u=.slice a l c:=by
  intro β u hu;rcases hsep2.1 with⟨rfl,_⟩|⟨id,off,len,pre,rfl,_⟩
  ·exact⟨_,_,_,hu⟩
  ·obtain⟨l,a,cap,_,h,_⟩:=hu;exact⟨_,_,_,h⟩
 have jX:((j:Nat):Int).toNat=j:=by simp
 refine zd1 (P:=Try.prog) (T:=fun _ (x:Iw E i)=>TW Try.prog 64 E i (XS 64 E x.1)) (N:=30) (mem:=memB hmO hmF) (Gd:=GdB β1 A bO bF (pO+j) (pF+j) v (y j)) (F:=[0,2,4,6,7,8,13,15]) (𝓗:=fun H=>Sep H (came Hw))
  (K:=fun s' H'=>H'=H2∧BSt s' iw im iwk ist io ifi∧s' 6=.v (.int .i64 j)) (x:=⟨A,hA⟩) F.hm (by kernel_rfl) (fun o ho d hd=>?_) (fun m x=>by exact⟨_,e,XS.stable x.2,rfl⟩) (by decide) (fun m β β' x hle hx=>?_) ?_ ⟨Le.refl _,rfl⟩ ha hs (fun β' s' H' a' w' x' hK' hx' hle ha' hs' _=>?_)
 ·have h1:(bodyO.toList.all fun o=>o.dst.all fun t=>decide (t<30))=true:=by kernel_rfl
  have:=List.all_eq_true.1 h1 o ho;rw [hd] at this
  simpa using this
 ·refine⟨hx.1.trans hle,?_⟩;have h2:=hx.2
  split at h2
  ·rw [if_pos ‹_›];exact h2
  ·rw [if_neg ‹_›]
   split at h2
   ·rw [if_pos ‹_›];obtain⟨u,hu,hxu⟩:=h2;exact⟨u,VR.mono hle hu,hxu⟩
   ·rw [if_neg ‹_›];obtain⟨u,hu,hxu⟩:=h2;exact⟨u,VR.mono hle hu,hxu⟩
 ·refine uK (d:=16) hh rfl (fun _ _=>rfl) (fun _ _=>Iff.rfl) rfl (.v (.sl rO 0 m 1)) (fun H' h'=>wU (kG r4 H' h') 0 rfl hb.t4 (by kernel_rfl) (yP ⟨rfl,rfl⟩)) ?_;refine jQ hh rfl rfl (fun _ _=>rfl) (fun _ _=>Iff.rfl) rfl (za (v:=.v (.int .i64 j)) h6 (yP ⟨.inl rfl,?_⟩));refine uK (d:=18) hh rfl (fun _ _=>rfl) (fun _ _=>Iff.rfl) rfl (.v (.sl rF 0 m 1)) (fun H' h'=>wU (kG r5 H' h') 0 rfl hb.t5 (by kernel_rfl) (yP ⟨rfl,rfl⟩)) ?_;refine jQ hh rfl rfl (fun _ _=>rfl) (fun _ _=>Iff.rfl) rfl (za (v:=.v (.int .i64 j)) h6 (yP ⟨.inl rfl,?_⟩));refine uK (d:=20) hh rfl (fun _ _=>rfl) (fun _ _=>Iff.rfl) rfl (.v v0) (fun H' h'=>wU (kG r1 H' h') 0 rfl hb.t1 (by kernel_rfl) (yP ⟨rfl,rfl⟩)) ?_;refine jQ hh rfl rfl (fun _ _=>rfl) (fun _ _=>Iff.rfl) rfl (za (v:=.v (.int .i64 j)) h6 (yP ⟨.inl rfl,?_⟩));refine uK (d:=22) hh rfl (fun _ _=>rfl) (fun _ _=>Iff.rfl) rfl (.v (.ptr v0.id0 (v0.of0+((j:Int)).toNat*1))) (fun H' h'=>Vo (g0 H' h') hz ([]:List Nat) (by decide) rfl rfl tl31 (yP ⟨rfl,rfl⟩)) ?_;refine uK (d:=23) hh rfl (fun _ _=>rfl) (fun _ _=>Iff.rfl) rfl (.v ((w0.getD ((j:Int)).toNat []).getD 0 .und)) (fun H' h'=>wU (hd H' h').2.2 0 (congrArg (fun c=>c[0]?) (hd H' h').2.1.1) rfl (by kernel_rfl) (yP ⟨rfl,rfl⟩)) ?_;refine uK (d:=24) hh rfl (fun _ _=>rfl) (fun _ _=>Iff.rfl) rfl (.v (.flt .f32 a1)) (fun H' h'=>wU (kG r3 H' h') 0 rfl hb.t3 (by kernel_rfl) (yP ⟨rfl,rfl⟩)) ?_;refine jQ hh rfl rfl (fun _ _=>rfl) (fun _ _=>Iff.rfl) rfl (uT rfl rfl hok nofun (yP ⟨.inr (by kernel_rfl),?_⟩));refine jQ hh2 rfl rfl (fun _ _=>rfl) (fun _ _=>Iff.rfl) rfl (za (v:=.t [(.v v),(.v (.bool (y j)))]) rfl (yP ⟨.inl rfl,?_⟩));refine jQ hh2 rfl rfl (fun _ _=>rfl) (fun _ _=>Iff.rfl) rfl (zC rfl rfl rfl (yP ⟨.inl rfl,?_⟩));refine jQ hh2 rfl rfl (fun _ _=>rfl) (fun _ _=>Iff.rfl) rfl (zC rfl rfl rfl (yP ⟨.inl rfl,?_⟩));refine uK (d:=28) hh2 rfl (fun _ _=>rfl) (fun _ _=>Iff.rfl) rfl (.v (.ptr rO (0+((j:Int)).toNat*1))) (fun H' h'=>vV (qh.trans rfl) (qI tl31 (by omega) (by omega)) nofun (yP ⟨rfl,rfl⟩)) ?_;refine Vs hh2 rfl rfl (by kernel_rfl) (Wn (f:=fun u x=>x.put bO (pO+j) hmO u) (Gp:=GdB β1 A bO bF (pO+j) (pF+j) v (y j) 14) (Gp':=GdB β1 A bO bF (pO+j) (pF+j) v (y j) 15) (X:=fun x=>XS 64 E x.1) (X':=fun x=>XS 64 E x.1) (id:=rO) (off:=0+((j:Int)).toNat*1) (bk:=bO) (of':=pO+j) (vy:=v) e (fun x=>XS.stable x.2) (by kernel_rfl) (by decide) rfl rfl rfl rfl (by kernel_rfl) rfl rfl (fun tm h=>?_) (fun tm h=>?_) ⟨_,rfl⟩ ⟨_,rfl⟩ (fun β u hu=>?_) (fun β l x hx hl=>?_) hmO (by omega) fO (fun x w h=>h.shape bO hO) (fun x w u h=>XS.store e h hO (by omega) u) (fun β x u hx hu=>?_)) ?_
  ·cases h;exact List.contains_iff_mem.1 (by kernel_rfl)
  ·cases h;exact List.contains_iff_mem.1 (by kernel_rfl)
  ·exact .inl (hvs β u hu)
  ·obtain rfl:l=lO:=Option.some.inj (hl.symm.trans ((le1.trans hx.1) _ _ eO));exact⟨hlO.1,by rw [hlO.2,jX];omega⟩
  ·exact⟨hx.1,u,hu,by show x.1.put bO (pO+j) u=_;rw [show x.1=A from hx.2]⟩
  refine uK (d:=29) hh2 rfl (fun _ _=>rfl) (fun _ _=>Iff.rfl) rfl (.v (.ptr rF (0+((j:Int)).toNat*1))) (fun H' h'=>vV (qh.trans rfl) (qI tl54 (by omega) (by omega)) nofun (yP ⟨rfl,rfl⟩)) ?_;refine Vs hh2 rfl rfl (by kernel_rfl) (Wn (f:=fun u x=>x.put bF (pF+j) hmF u) (Gp:=GdB β1 A bO bF (pO+j) (pF+j) v (y j) 16) (Gp':=GdB β1 A bO bF (pO+j) (pF+j) v (y j) 17) (X:=fun x=>XS 64 E x.1) (X':=fun x=>XS 64 E x.1) (id:=rF) (off:=0+((j:Int)).toNat*1) (bk:=bF) (of':=pF+j) (vy:=.bool (y j)) e (fun x=>XS.stable x.2) (by kernel_rfl) (by decide) rfl rfl rfl rfl (by kernel_rfl) rfl rfl (fun tm h=>?_) (fun tm h=>?_) ⟨_,rfl⟩ ⟨_,rfl⟩ (fun β u hu=>?_) (fun β l x hx hl=>?_) hmF (by omega) fF (fun x w h=>h.shape bF hF) (fun x w u h=>XS.store e h hF (by omega) u) (fun β x u hx hu=>?_)) ?_
  ·cases h;exact List.contains_iff_mem.1 (by kernel_rfl)
  ·cases h;exact List.contains_iff_mem.1 (by kernel_rfl)
  ·exact .inr ⟨_,hu⟩
  ·obtain rfl:l=lF:=Option.some.inj (hl.symm.trans ((le1.trans hx.1) _ _ eF));exact⟨hlF.1,by rw [hlF.2,jX];omega⟩
  ·obtain⟨u',hu',hxu⟩:∃ u,VR β v u∧x.1=A.put bO (pO+j) u:=hx.2;obtain rfl:u=.bool (y j):=hu;exact⟨hx.1,u',hu',by show x.1.put bF (pF+j) _=_;rw [hxu]⟩
  exact⟨hh2,rfl,⟨hb.t0,hb.t1,hb.t2,hb.t3,hb.t4,hb.t5⟩,h6⟩
 ·obtain⟨rfl,hb',h6'⟩:=hK';obtain⟨u,hu,hxu⟩:∃ u,VR β' v u∧x'.1=(A.put bO (pO+j) u).put bF (pF+j) (.bool (y j)):=hx'.2;show TW Try.prog 64 E i (XS 64 E x'.1) _ _ _;rw [hxu];exact hK v u β' H' a' s' w' hu hle ha' hs' hsep2 hb' h6'
theorem zde (K : ∀ (A : Cellsm) (pcs : List (Nat × AV)) β2 H2 w2, Le β β2 → @SRI Try.prog (clsW Try.prog 64 E i) β2 H2 w2 → Sep H2 (pieces ys pcs ++ came Hw) → Done E i bO pO bF pF y β2 A pcs → (∀ o, o < m → o % W = k → ∃ p ∈ pcs, p.1 = o) →
    TW Try.prog 64 E i (XS 64 E A) (Live β2 H2) (G (c.finish (.tuple #[])) cs) w2) : ∀ (d j : Nat) (A : Cellsm) (pcs : List (Nat × AV)) (β1 : Emb) (H1 : Heap) (a : Act) (s : Nat → TV) (w1 : World), m ≤ j + d → j ≤ 15 → j % W = k → (∀ o, o < m → o < j → o % W = k → ∃ p ∈ pcs, p.1 = o) → (∀ p ∈ pcs, p.1 < j) → Le β β1 →
    AR β1 s a 30 → @SRI Try.prog (clsW Try.prog 64 E i) β1 H1 w1 → Sep H1 (pieces ys pcs ++ came Hw) → Done E i bO pO bF pF y β1 A pcs → BSt s iw im iwk ist io ifi → s 6 = .v (.int .i64 j) →
    TW Try.prog 64 E i (XS 64 E A) (Live β1 H1) (G ((base 33).at a [.code Qn, .inLoop Qn, .inBlock 0]) (c :: cs)) w1 := by
  letI : Cls Try.prog := clsW Try.prog 64 E i
  intro d
  induction d with
  | zero =>
    intro j A pcs β1 H1 a s w1 hd hj hjk hdone hlt le1 ha hs hsep hA hb h6
    have hT : Cls.ok (P := Try.prog) (TW Try.prog 64 E i (XS 64 E A)) := ⟨_, e, XS.stable hA.mine, rfl⟩
    refine go_step hT rfl rfl (fun w => stepG_seq) ?_
    refine go_step hT rfl rfl (fun w => stepG_seq) ?_
    refine xW (K := fun s' H' => H' = H1 ∧ s' 11 = .v (.bool (decide ((j : Int) < (l0.length : Int))))) hT (by decide) F.hm (by kernel_rfl) (.inl ?_) ha hs (fun β' s' H' a' w' hK' hle ha' hs' _ => ?_)
    · refine za (v := .v (.int .i64 j)) h6 ?_
      refine wU (Uy r1 hsep) 0 rfl hb.t1 (by kernel_rfl) ?_
      refine qB (g0 _ (Zx hsep)) (by decide) rfl (by kernel_rfl) ?_
      refine zi rfl rfl xG ?_
      exact yP ⟨rfl, rfl⟩
    · obtain ⟨rfl, h11⟩ := hK'
      have hv := ha'.val 11
      rw [h11, decide_eq_false (by omega)] at hv
      refine go_step hT rfl rfl (fun w => stepG_cond hv) ?_
      refine go_step hT rfl rfl (fun w => stepG_exit (k' := []) rfl) ?_
      refine go_step hT rfl rfl (fun w => stepG_end) ?_
      refine go_step hT rfl rfl (fun w => stepG_leave rfl ha'.defers Try.func33 (results_none rfl _ _ _) (events_results_none rfl _ _)) ?_
      exact K A pcs β' H' w' (le1.trans hle) hs' hsep ⟨hA.mine, fun p hp => let ⟨u, h1, h2, h3⟩ := hA.row p hp; ⟨u, h1, VR.mono hle h2, h3⟩⟩ (fun o ho hok => hdone o ho (by omega) hok)
  | succ d ih =>
    intro j A pcs β1 H1 a s w1 hd hj hjk hdone hlt le1 ha hs hsep hA hb h6
    have hT : Cls.ok (P := Try.prog) (TW Try.prog 64 E i (XS 64 E A)) := ⟨_, e, XS.stable hA.mine, rfl⟩
    refine go_step hT rfl rfl (fun w => stepG_seq) ?_
    refine go_step hT rfl rfl (fun w => stepG_seq) ?_
    refine xW (K := fun s' H' => H' = H1 ∧ BSt s' iw im iwk ist io ifi ∧ s' 6 = .v (.int .i64 j) ∧ s' 11 = .v (.bool (decide ((j : Int) < (l0.length : Int))))) hT (by decide) F.hm (by kernel_rfl) (.inl ?_) ha hs (fun β' s' H' a' w' hK' hle ha' hs' _ => ?_)
    · refine za (v := .v (.int .i64 j)) h6 ?_
      refine wU (Uy r1 hsep) 0 rfl hb.t1 (by kernel_rfl) ?_
      refine qB (g0 _ (Zx hsep)) (by decide) rfl (by kernel_rfl) ?_
      refine zi rfl rfl xG ?_
      exact yP ⟨rfl, ⟨hb.t0, hb.t1, hb.t2, hb.t3, hb.t4, hb.t5⟩, h6, rfl⟩
    · obtain ⟨rfl, hb', h6', h11⟩ := hK'
      have hv := ha'.val 11
      have hA' : Done E i bO pO bF pF y β' A pcs := ⟨hA.mine, fun p hp => let ⟨u, h1, h2, h3⟩ := hA.row p hp; ⟨u, h1, VR.mono hle h2, h3⟩⟩
      by_cases hjm : j < m
      · rw [h11, decide_eq_true (by omega)] at hv
        refine go_step hT rfl rfl (fun w => stepG_cond hv) ?_
        refine go_step hT rfl rfl (fun w => stepG_skip) ?_
        refine go_step hT rfl rfl (fun w => stepG_seq) ?_
        refine go_step hT rfl rfl (fun w => stepG_block) ?_
        refine zdd e hO hF hOF nO nF fO fF hm hW hk hmine hl hsol r0 r1 r2 r3 r4 r5 g0 eO eF hlO hlF hjm hjk hA.mine (le1.trans hle) ha' hs' hsep hb' h6' (fun v u β2 H2 a2 s2 w2 hu hle2 ha2 hs2 hsep2 hb2 h62 => ?_)
        obtain ⟨hmO, hmF⟩ := hmine j hjm hjk
        have hin : i = i := rfl
        have hmA2 : ∀ b o v, ((A.put bO (pO + j) u).put bF (pF + j) (.bool (y j))) b o = some v → E.Mine i b o := ((Iw.put (Iw.put ⟨A, hA.mine⟩ bO (pO + j) hmO u) bF (pF + j) hmF (.bool (y j))).2)
        have hT2 : Cls.ok (P := Try.prog) (TW Try.prog 64 E i (XS 64 E ((A.put bO (pO + j) u).put bF (pF + j) (.bool (y j))))) := ⟨_, e, XS.stable hmA2, rfl⟩
        have hW8 := hW.2
        refine go_step hT2 rfl rfl (fun w => stepG_inBlock) ?_
        refine xW (K := fun s' H' => H' = H2 ∧ BSt s' iw im iwk ist io ifi ∧ s' 6 = .v (.int .i64 (j + W : Nat))) hT2 (by decide) F.hm (by kernel_rfl) (.inl ?_) ha2 hs2 (fun β3 s3 H3 a3 w3 hK3 hle3 ha3 hs3 _ => ?_)
        · refine za (v := .v (.int .i64 j)) h62 ?_
          refine wU (Uy (l := Pc.osl v 1 (enc (eFlt .f32) (ys j)) :: pieces ys pcs) r2 hsep2) 0 rfl hb2.t2 (by kernel_rfl) ?_
          refine zi rfl rfl yU ?_
          refine zb (v := .v (.int .i64 (j + W : Nat))) (by
            have : IntKind.i64.wrap ((j : Int) + (W : Int)) = ((j + W : Nat) : Int) := by rw [wrap_i64 (by omega) (by omega)]; rfl
            rw [← this]; rfl) ?_
          exact yP ⟨rfl, ⟨hb2.t0, hb2.t1, hb2.t2, hb2.t3, hb2.t4, hb2.t5⟩, rfl⟩
        · obtain ⟨rfl, hb3, h63⟩ := hK3
          refine go_step hT2 rfl rfl (fun w => stepG_inLoop) ?_
          refine ih (j + W) _ ((j, v) :: pcs) β3 H3 a3 s3 w3 (by omega) (by omega) (by rw [Nat.add_mod_right]; exact hjk) (fun o ho hoj hok => ?_) (fun p hp => ?_) (le1.trans (hle.trans (hle2.trans hle3))) ha3 hs3 hsep2 ⟨hmA2, fun p hp => ?_⟩ hb3 h63
          · rcases Nat.lt_or_ge o j with h | h
            · obtain ⟨p, hp, hpo⟩ := hdone o ho h hok
              exact ⟨p, List.mem_cons_of_mem _ hp, hpo⟩
            · have : o = j := by
                have h1 := Nat.div_add_mod o W
                have h2 := Nat.div_add_mod j W
                rw [hok] at h1; rw [hjk] at h2
                have h3 : W * (o / W) < W * (j / W + 1) := by rw [Nat.mul_add]; omega
                have h4 : W * (j / W) ≤ W * (o / W) := by omega
                have h5 := Nat.lt_of_mul_lt_mul_left h3
                have h6 := Nat.le_of_mul_le_mul_left h4 (by omega)
                have h7 : o / W = j / W := by omega
                rw [h7] at h1; omega
              exact ⟨(j, v), List.mem_cons_self .., this.symm⟩
          · rcases List.mem_cons.1 hp with rfl | hp
            · show j < j + W; omega
            · have := hlt p hp; omega
          · rcases List.mem_cons.1 hp with rfl | hp
            · refine ⟨u, ?_, VR.mono hle3 hu, ?_⟩
              · show Cellsm.put _ _ _ _ bO (pO + j) = _
                simp [Cellsm.put, hOF]
              · show Cellsm.put _ _ _ _ bF (pF + j) = _
                simp [Cellsm.put]
            · obtain ⟨u', h1, h2, h3⟩ := hA'.row p hp
              have hne : p.1 ≠ j := Nat.ne_of_lt (hlt p hp)
              exact ⟨u', by simp [Cellsm.put, hne, hOF, h1], VR.mono (hle2.trans hle3) h2, by simp [Cellsm.put, hne, Ne.symm hOF, h3]⟩
      · rw [h11, decide_eq_false (by omega)] at hv
        refine go_step hT rfl rfl (fun w => stepG_cond hv) ?_
        refine go_step hT rfl rfl (fun w => stepG_exit (k' := []) rfl) ?_
        refine go_step hT rfl rfl (fun w => stepG_end) ?_
        refine go_step hT rfl rfl (fun w => stepG_leave rfl ha'.defers Try.func33 (results_none rfl _ _ _) (events_results_none rfl _ _)) ?_
        exact K A pcs β' H' w' (le1.trans hle) hs' hsep hA' (fun o ho hok => hdone o ho (by omega) hok)
end
end Go.Proofs.Ytochgocgmeeppaa.Co
namespace Go.Proofs.Ytochgocgmeeppaa.Co
open Go Go.Ab
theorem WN {E:Env} {i:Nat}:∀ b o v,(fun _ _=>none:Cellsm) b o=some v→E.Mine i b o:=fun b o v h=>by cases h
set_option maxRecDepth 100000
set_option maxHeartbeats 1000000
open Go Go.Conc Go.ConcN Go.Ab Go.Ab.Wg Go.Proofs Go.Proofs.Ytochgocgmeeppaa Go.Conc.Lib Go.ConcR.Gen Go.Proofs.Ytochgocgmeeppaa.G
open Go.ConcR (WgAt stA smA Payload DC0)
theorem nmBody:(Try.f33.name == "runtime.NumGoroutine")=false:=by kernel_rfl
def vw (wi im ist iwk io ifi:Nat):List (Nat × Nat):=[(wi,0),(im,0),(iwk,0),(ist,0),(io,0),(ifi,0)]
def uI (ys:Nat→List Nat):Nat→List AV:=fun o=>enc (eFlt .f32) (ys o)
theorem child {base B0 wg m W:Nat} {R1 Shun:Nat→Prop} {lO lF:Ab.Loc} {xn:Nat→Nat} {xt:Nat→TypeId × (Nat × Nat)} {W0:World} {ys:Nat→List Nat} {y:Nat→Bool} {E:Env} (hE:E=wV base B0 R1 Shun wg lO.blk lO.base lF.blk lF.base m W 1 xn xt (uI ys) y W0)
  (e:E.Good 64) (hOF:lO.blk≠lF.blk) (nO:lO.base+m≤xn lO.blk) (nF:lF.base+m≤xn lF.blk) (fO:NF (xt lO.blk).2 (xn lO.blk)) (fF:NF (xt lF.blk).2 (xn lF.blk)) (hm:m≤8) (hW:1≤W∧W≤8) {k:Nat} (hk:k<W)
  {v0:AV} {w0:List (List AV)} {l0:List (List Nat)} {a1:Nat} (hl:l0.length=m) (hsol:∀ o,o<m→∀ K:List Nat→Bool→Prop,K (ys o) (y o)→impl_SolveLine.wp (l0.getD o []) a1 K)
  {H:Heap} {ig wi im ist iwk io ifi rO rF:Nat}
  (r0:PtAt (goH H ig 33 (vw wi im ist iwk io ifi)) wi 0 [.int .i64 k]) (r1:PtAt (goH H ig 33 (vw wi im ist iwk io ifi)) im 0 [v0]) (r2:PtAt (goH H ig 33 (vw wi im ist iwk io ifi)) iwk 0 [.int .i64 W]) (r3:PtAt (goH H ig 33 (vw wi im ist iwk io ifi)) ist 0 [.flt .f32 a1])
  (r4:PtAt (goH H ig 33 (vw wi im ist iwk io ifi)) io 0 [.sl rO 0 m 1]) (r5:PtAt (goH H ig 33 (vw wi im ist iwk io ifi)) ifi 0 [.sl rF 0 m 1]) (g0:∀ H',Sep H' (came (goH H ig 33 (vw wi im ist iwk io ifi)))→DSh H' v0 1 yt l0 w0)
  {β1:Emb} {w1:World} {lw lf lg:Ab.Loc} (hs:@SRI Try.prog (clsW Try.prog 64 E (base+k)) β1 (goH H ig 33 (vw wi im ist iwk io ifi)) w1) (ew:β1 H.n=some lw) (ef:β1 (H.n+1)=some lf) (eg:β1 ig=some lg) (hlg:lg.blk=E.Wg∧lg.base=0) (eO:β1 rO=some lO) (eF:β1 rF=some lF)
  (hlive:WgLive 64 E.Wg w1) (hx:∀ b,E.X b→∃ cs,w1.heap[b]?=some (.cells cs (E.xt b).1 (E.xt b).2)∧cs.size=E.xn b) :
  XS 64 E (fun _ _=>none) w1∧TW Try.prog 64 E (base+k) (XS 64 E (fun _ _=>none)) (Live β1 (goH H ig 33 (vw wi im ist iwk io ifi))) (born Try.prog (cl 60 #[ptrV lw 0,ptrV lf 0])) w1:=by
 refine⟨⟨hx,hlive,fun b o v h=>by cases h⟩,?_⟩
 letI:Cls Try.prog:=clsW Try.prog 64 E (base+k)
 have f0:(goH H ig 33 (vw wi im ist iwk io ifi)).f H.n=.own [.ptr ig 0]:=by simp [goH,Heap.alloc,Ab.upd]
 have f1:(goH H ig 33 (vw wi im ist iwk io ifi)).f (H.n+1)=.own [.fn 33 (vw wi im ist iwk io ifi)]:=by simp [goH,Heap.alloc,Ab.upd]
 have fn_:(goH H ig 33 (vw wi im ist iwk io ifi)).n=H.n+2:=rfl;generalize goH H ig 33 (vw wi im ist iwk io ifi)=Hw at *;have hmine:∀ o,o<m→o % W=k→E.Mine (base+k) lO.blk (lO.base+o)∧E.Mine (base+k) lF.blk (lF.base+o):=by
  intro o ho hok;rw [hE];exact⟨⟨Nat.le_add_right _ _,o,ho,by omega,.inl ⟨rfl,rfl⟩⟩,⟨Nat.le_add_right _ _,o,ho,by omega,.inr ⟨rfl,rfl⟩⟩⟩
 have hO:E.X lO.blk:=by rw [hE];exact .inl rfl
 have hF:E.X lF.blk:=by rw [hE];exact .inr rfl
 have nO':lO.base+m≤E.xn lO.blk:=by rw [hE];exact nO
 have nF':lF.base+m≤E.xn lF.blk:=by rw [hE];exact nF
 have fO':NF (E.xt lO.blk).2 (E.xn lO.blk):=by rw [hE];exact fO
 have fF':NF (E.xt lF.blk).2 (E.xn lF.blk):=by rw [hE];exact fF
 have came0:∀ {H2:Heap} {l:List Pc} {i:Nat},Sep H2 (l++came Hw)→i<Hw.n→H2.f i=Hw.f i:=fun h hi=>(Zx h).1.2.1.2 _ hi;refine life (ι:={x:Cellsm × List (Nat × AV) // ∀ b o v,x.1 b o=some v→E.Mine (base+k) b o}) (X:=XS 64 E (fun _ _=>none)) (Xe:=fun x=>XS 64 E x.1.1) e (XS.stable WN) (fun x=>XS.stable x.2) (fB:=33) (caps:=vw wi im ist iwk io ifi) (fnB:=Try.f33) (cB:=bodyC) (iw:=H.n) (jf:=H.n+1)
  (Fin:=fun x β2 H2=>Sep H2 (pieces ys x.1.2++came Hw)∧Done E (base+k) lO.blk lO.base lF.blk lF.base y β2 x.1.1 x.1.2∧∀ o,o<m→o % W=k→∃ p∈x.1.2,p.1=o) Try.func33 nmBody rfl hs ew ef eg hlg f0 f1 (fun c cs β2 us w2 le2 hs2 hus K=>?_) (fun x w h=>h.live) (fun x β2 H2 h=>?_) (fun x β2 β3 H2 w2 h le hs2 hX hfr=>?_)
 ·have hT:Cls.ok (P:=Try.prog) (TW Try.prog 64 E (base+k) (XS 64 E (fun _ _=>none))):=⟨_,e,XS.stable WN,rfl⟩;have ha:=qO (P:=Try.prog) (β:=β2) (args:=(vw wi im ist iwk io ifi).map fun p=>TV.v (.ptr p.1 p.2)) (us:=us) Try.func33 rfl (by show 6≤_;decide) hus
  change AR β2 _ _ 30 at ha
  refine go_step hT rfl rfl (fun w=>stepG_seq) ?_;refine xW (K:=fun s' H'=>H'=Hw∧BSt s' wi im iwk ist io ifi∧s' 6=.v (.int .i64 k)) hT (by decide) F.hm (by kernel_rfl) (.inl ?_) ha hs2 (fun β3 s3 H3 a3 w3 hK3 hle3 ha3 hs3 _=>?_)
  ·refine wU r0 0 rfl rfl (by kernel_rfl) ?_;refine zb (v:=.v (.int .i64 k)) rfl ?_;exact yP ⟨rfl,⟨rfl,rfl,rfl,rfl,rfl,rfl⟩,rfl⟩
  ·obtain⟨rfl,hb3,h63⟩:=hK3;refine go_step hT rfl rfl (fun w=>stepG_block) ?_;refine go_step hT rfl rfl (fun w=>stepG_loop) ?_;refine zde e hO hF hOF nO' nF' fO' fF' hm hW hk hmine hl hsol r0 r1 r2 r3 r4 r5 g0 (le2.trans hle3 _ _ eO) (le2.trans hle3 _ _ eF) ⟨rfl,rfl⟩ ⟨rfl,rfl⟩ (fun A pcs β4 H4 w4 le4 hs4 hsep4 hd4 hall4=>?_) 8 k (fun _ _=>none) [] β3 H3 a3 s3 w3 (by omega) (by omega) (Nat.mod_eq_of_lt hk) (fun o ho hok hmo=>?_) (fun p hp=>absurd hp (List.not_mem_nil)) (Le.refl _) ha3 hs3 (YO _) ⟨WN,fun p hp=>absurd hp (List.not_mem_nil)⟩ hb3 h63
   ·refine K ⟨(A,pcs),hd4.mine⟩ β4 H4 w4 (hle3.trans le4) hs4 ?_ ⟨hsep4,hd4,hall4⟩;rw [came0 hsep4 (by omega)];exact f0
   ·have:o % W=o:=Nat.mod_eq_of_lt (by omega);omega
 ·rw [came0 h.1 (by omega)];exact f1
 ·obtain⟨h1,h2,h3⟩:=h;have hR1:∀ b,Live β3 H2 b→b<B0→Cls.R Try.prog b:=fun b hb hlt=>by
   show E.R b;exact hfr b hb (by rw [hE];exact hlt)
  have key:ResP (Cls.R Try.prog) B0 lO.blk lO.base lF.blk lF.base m W 1 (uI ys) y k (Live β3 H2) w2:=by
   refine resP_of (U:=fun o=>(x.1.1 lO.blk (lO.base+o)).getD undef) (pcs:=x.1.2) hs2 h1 (fun p hp=>?_) (fun o c hc=>?_) hR1 h3 (fun o ho hok=>?_) (fun o ho hok=>?_)
   ·obtain⟨u,e1,e2,_⟩:=h2.row p hp;rw [e1];exact VR.mono le e2
   ·exact Qi (uM .f32) _ c hc
   ·obtain⟨p,hp,rfl⟩:=h3 o ho hok;obtain⟨u,e1,_,_⟩:=h2.row p hp;rw [e1];exact hX.cells _ _ _ e1
   ·obtain⟨p,hp,rfl⟩:=h3 o ho hok;obtain⟨u,_,_,e3⟩:=h2.row p hp;exact hX.cells _ _ _ e3
  have hRE:Cls.R Try.prog=R1:=by show E.R=R1;rw [hE];rfl
  rw [hRE] at key;rw [hE];intro hb;rw [Nat.add_sub_cancel_left];exact key
end Go.Proofs.Ytochgocgmeeppaa.Co
namespace Go.Proofs.Ytochgocgmeeppaa.Co
set_option maxRecDepth 100000
set_option maxHeartbeats 1000000
open Go Go.Conc Go.ConcN Go.Ab Go.Ab.Wg Go.Proofs Go.Proofs.Ytochgocgmeeppaa Go.Conc.Lib Go.ConcR.Gen Go.Proofs.Ytochgocgmeeppaa.G
open Go.ConcR (WgAt stA smA Payload DC0)
noncomputable def linC:Code:=Try.f9.body.getD .skip
noncomputable def linP:Code:=match linC with
 | .seq _ (.seq _ (.seq _ c))=>c
 | _=>.skip
noncomputable def loopL:Code:=match linP with
 | .seq _ (.seq (.seq _ (.block _ (.loop c))) _)=>c
 | _=>.skip
noncomputable def parT:Code:=match linP with
 | .seq _ (.seq _ c)=>c
 | _=>.skip
structure LSt (s:Nat→TV) (im iwk ist io ifi ig W:Nat):Prop where
 t3:s 3=.v (.ptr im 0)
 t4:s 4=.v (.ptr ist 0)
 t5:s 5=.v (.ptr iwk 0)
 t8:s 8=.v (.ptr io 0)
 t9:s 9=.v (.ptr ifi 0)
 t10:s 10=.v (.ptr ig 0)
 t31:s 31=.v (.int .i64 W)
structure LInv (H:Heap) (rO rF k:Nat) (Hk:Heap):Prop where
 n:Hk.n=H.n+1+3*k
 old:∀ i,i<H.n+1→Hk.f i=(parH H rO rF).f i
 new:∀ i,H.n+1≤i→i<Hk.n→Hk.f i=.gone
theorem LInv.own {H Hk:Heap} {rO rF k:Nat} (h:LInv H rO rF k Hk) {β:Emb} {w:World} (hs:SR β Hk w) {b:Nat} (ho:Owns β Hk b):False:=by
 obtain⟨i,l,e,ho,_⟩:=ho;have hi:=hs.lt e;rcases Nat.lt_or_ge i (H.n+1) with h1|h1
 ·rw [h.old i h1] at ho
  by_cases hh:i=H.n
  ·subst hh;simp [parH,Heap.alloc,Heap.frz,Ab.upd,Blk.isOwn] at ho
  ·rw [show (parH H rO rF).f i=(H.frz (outD rO rF)).f i by simp [parH,Heap.alloc,Heap.frz,Ab.upd,hh],Ua] at ho;cases ho
 ·rw [h.new i h1 hi] at ho;cases ho
theorem zdf (b:Blk):(b.frz false).cs=b.cs:=by cases b<;>rfl
theorem LInv.cs {H Hk:Heap} {rO rF k:Nat} (h:LInv H rO rF k Hk) {i:Nat} (hi:i<H.n) (h1:i≠rO) (h2:i≠rF):(Hk.f i).cs=(H.f i).cs:=by
 rw [h.old i (by omega),show (parH H rO rF).f i=(H.f i).frz (outD rO rF i) by simp [parH,Heap.alloc,Heap.frz,Ab.upd,Nat.ne_of_lt hi],show outD rO rF i=false by simp [outD,h1,h2],zdf]
theorem VN {H:Heap} {ig fB:Nat} {caps:List (Nat × Nat)} {i:Nat} (h:i<H.n):(goH H ig fB caps).f i=H.f i:=by simp [goH,Heap.alloc,Ab.upd,show i≠H.n by omega,show i≠H.n+1 by omega]
theorem YW {H H':Heap} {id off:Nat} {cs:List AV} (h:PtAt H id off cs) (hn:id<H'.n) (hc:(H'.f id).cs=(H.f id).cs):PtAt H' id off cs:=⟨hn,fun j c hj=>by have:=h.2 j c hj;simp only [wN] at this ⊢;rw [hc];exact this⟩
section
variable {R:Nat→Prop} {Wd:World} {β0:Emb} {H:Heap} {w0_:World} {rO rF m W bs B0 wg:Nat} {R1 Shun:Nat→Prop} {lO lF:Ab.Loc} {xn:Nat→Nat} {xt:Nat→TypeId × (Nat × Nat)} {W0:World} {ys:Nat→List Nat} {y:Nat→Bool} {E:Env} (hE:E=wV bs B0 R1 Shun wg lO.blk lO.base lF.blk lF.base m W 1 xn xt (uI ys) y W0) {β1:Emb} {wb:World}
 (hbeg:Begun Try.prog 64 R Wd β0 H w0_ rO rF m lO lF E β1 wb) (eO:β0 rO=some lO) (eF:β0 rF=some lF) (hm:m≤8) (hW:1≤W∧W≤8)
 {v0:AV} {w0:List (List AV)} {l0:List (List Nat)} {a1:Nat} (hl:l0.length=m) (hsol:∀ o,o<m→∀ K:List Nat→Bool→Prop,K (ys o) (y o)→impl_SolveLine.wp (l0.getD o []) a1 K)
 {im ist iwk io ifi:Nat} (r1:PtAt H im 0 [v0]) (r2:PtAt H iwk 0 [.int .i64 W]) (r3:PtAt H ist 0 [.flt .f32 a1]) (r4:PtAt H io 0 [.sl rO 0 m 1]) (r5:PtAt H ifi 0 [.sl rF 0 m 1])
 (hne:∀ i,i=im∨i=iwk∨i=ist∨i=io∨i=ifi→i≠rO∧i≠rF) {n0:Nat} (hn0:n0≤H.n∧n0≤rO∧n0≤rF) (gd:∀ H',n0≤H'.n→(∀ i,i<n0→(H'.f i).cs=(H.f i).cs)→DSh H' v0 1 yt l0 w0)
 {Post:Value→World→Prop} {cs:List Frame}
include hE hbeg eO eF hm hW hl hsol r1 r2 r3 r4 r5 hne hn0 gd
theorem zem (hend : ∀ β2 H2 a2 s2 w2 r, Le β1 β2 → AR β2 s2 a2 42 → @SRI Try.prog (clsP Try.prog 64 E) β2 H2 w2 → LInv H rO rF W H2 → LSt s2 im iwk ist io ifi H.n W →
      TP Try.prog 64 E Post (bs + W) 0 (some (.sp r 5)) (bs + W) (Live β2 H2) (G ((Conc.base 9).at a2 [.code parT]) cs) w2) :
    ∀ (d k : Nat) β' Hk a s w' r, W = k + d → Le β1 β' → AR β' s a 42 → @SRI Try.prog (clsP Try.prog 64 E) β' Hk w' → LInv H rO rF k Hk → LSt s im iwk ist io ifi H.n W → s 32 = .v (.int .i64 k) →
      TP Try.prog 64 E Post (bs + k) 0 (some (.sp r 5)) (bs + k) (Live β' Hk) (G ((Conc.base 9).at a [.code loopL, .inLoop loopL, .inBlock 0, .code parT]) cs) w' := by
  letI : Cls Try.prog := clsP Try.prog 64 E
  have e := hbeg.good
  intro d
  induction d with
  | zero =>
    intro k β' Hk a s w' r hd le1 ha hs hi hb h32
    obtain rfl : W = k := by omega
    have hT : Cls.ok (P := Try.prog) (TP Try.prog 64 E Post (bs + W) 0 (some (.sp r 5)) (bs + W)) := ⟨Post, _, 0, _, _, e, (by rw [hE]; show bs + W - bs + 1 < _; omega), by simp, rfl⟩
    refine go_step hT rfl rfl (fun w => stepG_seq) ?_
    refine xW (K := fun s' H' => H' = Hk ∧ LSt s' im iwk ist io ifi H.n W ∧ s' 33 = .v (.bool (decide ((W : Int) < (W : Int))))) hT (by decide) F.hm (by kernel_rfl) (.inl ?_) ha hs (fun β2 s2 H2 a2 w2 hK2 hle2 ha2 hs2 _ => ?_)
    · refine zi h32 hb.t31 xG ?_
      exact yP ⟨rfl, ⟨hb.t3, hb.t4, hb.t5, hb.t8, hb.t9, hb.t10, hb.t31⟩, rfl⟩
    · obtain ⟨rfl, hb2, h33⟩ := hK2
      have hv := ha2.val 33
      rw [h33, decide_eq_false (by omega)] at hv
      refine go_step hT rfl rfl (fun w => stepG_seq) ?_
      refine go_step hT rfl rfl (fun w => stepG_cond hv) ?_
      refine go_step hT rfl rfl (fun w => stepG_exit (k' := [.code parT]) rfl) ?_
      exact hend β2 _ a2 s2 w2 r (le1.trans hle2) ha2 hs2 hi hb2
  | succ d ih =>
    intro k β' Hk a s w' r hd le1 ha hs hi hb h32
    have hT : ∀ r, Cls.ok (P := Try.prog) (TP Try.prog 64 E Post (bs + k) 0 (some (.sp r 5)) (bs + k)) := fun r => ⟨Post, _, 0, _, _, e, (by rw [hE]; show bs + k - bs + 1 < _; omega), by simp, rfl⟩
    have hT1 : ∀ r, Cls.ok (P := Try.prog) (TP Try.prog 64 E Post (bs + k + 1) 0 (some (.sp r 5)) (bs + k + 1)) := fun r => ⟨Post, _, 0, _, _, e, (by rw [hE]; show bs + k + 1 - bs + 1 < _; omega), by simp, rfl⟩
    refine TP.live fun w2 hk2 _ hB2 => ?_
    replace hs := hs.keep hk2
    refine go_step (hT r) rfl rfl (fun w => stepG_seq) ?_
    refine xW (K := fun s' H' => H' = Hk ∧ LSt s' im iwk ist io ifi H.n W ∧ s' 32 = .v (.int .i64 k) ∧ s' 33 = .v (.bool (decide ((k : Int) < (W : Int))))) (hT r) (by decide) F.hm (by kernel_rfl) (.inl ?_) ha hs (fun β3 s3 H3 a3 w3 hK3 hle3 ha3 hs3 fr3 => ?_)
    · refine zi h32 hb.t31 xG ?_
      exact yP ⟨rfl, ⟨hb.t3, hb.t4, hb.t5, hb.t8, hb.t9, hb.t10, hb.t31⟩, h32, rfl⟩
    obtain ⟨rfl, hb3, h323, h33⟩ := hK3
    have hv := ha3.val 33
    rw [h33, decide_eq_true (by omega)] at hv
    refine go_step (hT r) rfl rfl (fun w => stepG_seq) ?_
    refine go_step (hT r) rfl rfl (fun w => stepG_cond hv) ?_
    refine go_step (hT r) rfl rfl (fun w => stepG_skip) ?_
    refine go_step (hT r) rfl rfl (fun w => stepG_seq) ?_
    refine go_step (hT r) rfl rfl (fun w => stepG_block) ?_
    refine go_step (hT r) rfl rfl (fun w => stepG_seq) ?_
    refine xW (K := fun s' H' => (H'.n = H3.n + 1 ∧ H'.f H3.n = .own [.int .i64 k] ∧ ∀ i, i < H3.n → H'.f i = H3.f i) ∧ LSt s' im iwk ist io ifi H.n W ∧ s' 32 = .v (.int .i64 k) ∧ s' 11 = .v (.ptr H3.n 0)) (hT r) (by decide) F.hm (by kernel_rfl) (.inl ?_) ha3 hs3 (fun β4 s4 H4 a4 w4 hK4 hle4 ha4 hs4 fr4 => ?_)
    · refine za (v := .v (.int .i64 k)) h323 ?_
      refine QP (z := [.int .i64 0]) (by kernel_rfl) rfl nofun ?_
      refine Ww (n := 1) (c := [.int .i64 k]) rfl rfl rfl (by kernel_rfl) rfl (qz (cs := [.int .i64 0]) (by simp [Heap.alloc, Ab.upd]) (by simp) rfl) nofun ?_
      refine yP ⟨⟨rfl, by simp [Heap.put, Ab.upd, splice], fun i hi => ?_⟩, ⟨hb3.t3, hb3.t4, hb3.t5, hb3.t8, hb3.t9, hb3.t10, hb3.t31⟩, h323, rfl⟩
      simp [Heap.put, Heap.alloc, Ab.upd, Nat.ne_of_lt hi]
    obtain ⟨⟨n4, f4, o4⟩, hb4, h324, h11⟩ := hK4
    refine go_step (hT r) rfl rfl (fun w => stepG_region) ?_
    have hz4 : a4.tmps.size = 42 := ha4.size
    have hv4 : Vals β4 s4 a4 := ha4.val
    have hd4 := ha4.defers
    obtain ⟨T4, D4⟩ := a4
    change T4.size = 42 at hz4
    change D4 = [] at hd4
    subst hd4
    have hcaps : ja (zK s4) [.tmp 11, .tmp 3, .tmp 5, .tmp 4, .tmp 8, .tmp 9] = some (vw H3.n im ist iwk io ifi) := by
      simp only [ja, zK, h11, hb4.t3, hb4.t5, hb4.t4, hb4.t8, hb4.t9]
      rfl
    refine uV (v := .v (.fn 33 (vw H3.n im ist iwk io ifi))) (H' := H4) (hT r) (by
      show (if (#[] : Array Operand).size = 0 then (ja (zK s4) [.tmp 11, .tmp 3, .tmp 5, .tmp 4, .tmp 8, .tmp 9]).map (fun c => (TV.v (.fn 33 c), H4)) else none) = _
      rw [hcaps]; rfl) hs4 hv4 rfl rfl (fun t ht => by cases ht; show _ < T4.size; rw [hz4]; decide) (by decide) fun β5 u5 w5 le5 hs5 hu5 hv5 fr5 => ?_
    obtain ⟨lg', eg', hg10⟩ : ∃ l, β5 H.n = some l ∧ (T4.setIfInBounds 35 u5).getD 10 undef = ptrV l 0 := by
      have := hv5 10
      change TVR β5 (s4 10) _ at this
      rw [hb4.t10] at this
      exact this
    have le15 : Le β1 β5 := le1.trans (hle3.trans (hle4.trans le5))
    have eg5 : β5 H.n = some ⟨E.Wg, 0, 2⟩ := le15 _ _ hbeg.grp
    obtain rfl : lg' = ⟨E.Wg, 0, 2⟩ := Option.some.inj (eg'.symm.trans eg5)
    have hg35 : (T4.setIfInBounds 35 u5).getD 35 undef = u5 := by
      have : 35 < T4.size := by rw [hz4]; decide
      simp [Array.getD_eq_getD_getElem?, this]
    have hz5 : (T4.setIfInBounds 35 u5).size = 42 := by simp [hz4]
    change TP Try.prog 64 E Post (bs + k) 0 (some (.sp r 5)) (bs + k) (Live β5 H4) (G ((Conc.base 9).at ⟨T4.setIfInBounds 35 u5, []⟩ _) _) w5
    change Vals β5 _ ⟨T4.setIfInBounds 35 u5, []⟩ at hv5
    generalize T4.setIfInBounds 35 u5 = T5 at hg10 hg35 hz5 hv5 ⊢
    refine go_step (hT r) rfl rfl (fun w => qC rfl rfl (by decide) rfl Try.func32 nmGo rfl) ?_
    have m1 : (#[Operand.tmp 10, Operand.tmp 35].map (Act.eval ⟨T5, []⟩)) = #[ptrV ⟨E.Wg, 0, 2⟩ 0, u5] := by simp [Act.eval, hg10, hg35]
    rw [m1]
    have hnin : ∀ i l, β5 i = some l → i < H3.n → β1 i = some l ∨ (H3.f i).isGone = true := by
      intro i l ei hi3
      rcases Nat.lt_or_ge i (H.n + 1) with h1 | h1
      · have hh : (parH H rO rF).f i ≠ .hole := fun hx => by
          have hr := hs5.sr.row i l ei
          rw [o4 i hi3, hi.old i h1, hx] at hr
          exact hr
        obtain ⟨l', e'⟩ := hbeg.sri.sr.tot i (show i < H.n + 1 from h1) hh
        exact .inl (by rw [e', ← ei, le15 _ _ e'])
      · exact .inr (by rw [hi.new i h1 hi3]; rfl)
    refine go_call (r' := 0) (X := XS 64 E (fun _ _ => none)) (wi := H3.n) (fB := 33) (caps := vw H3.n im ist iwk io ifi) e (by rw [hE]; show bs + k + 1 - bs + 1 < _; omega) hs5 eg5 ⟨rfl, rfl⟩ (fun i l ei hg hi7 => ?_) (fun l ei => ?_) hu5 (fun β6 w6 lw lf le6 hs6 ew ef hlive6 hx6 => ?_) (fun β6 w6 le6 hs6 => ?_)
    · have hi5 := hs5.sr.lt ei
      rw [n4] at hi5
      have hi3 : i < H3.n := by omega
      rcases hnin i l ei hi3 with h1 | h1
      · refine hbeg.ro i l h1 ?_
        rw [o4 i hi3] at hg
        rcases Nat.lt_or_ge i (H.n + 1) with h2 | h2
        · rw [hi.old i h2] at hg; exact hg
        · rw [hi.new i h2 hi3] at hg; cases hg
      · rw [o4 i hi3, h1] at hg; cases hg
    · refine Nat.not_lt.1 fun hlt => ?_
      have fr : FrC β3 H3 w3 β5 H4 w5 := fr4.trans fr5
      exact hi.own hs3.sr (fr.owns l.blk (Nat.lt_of_lt_of_le hlt (Nat.le_trans hB2 fr3.size)) ⟨H3.n, l, ei, by rw [f4]; rfl, rfl⟩)
    · have hcs : ∀ i, i < H.n → i ≠ rO → i ≠ rF → ((goH H4 H.n 33 (vw H3.n im ist iwk io ifi)).f i).cs = (H.f i).cs := fun i h1 h2 h3 => by
        have := hi.n
        rw [VN (by omega), o4 i (by omega)]; exact hi.cs h1 h2 h3
      have hgn : (goH H4 H.n 33 (vw H3.n im ist iwk io ifi)).n = H4.n + 2 := rfl
      have hin := hi.n
      have le06 := hbeg.le.trans (le15.trans le6)
      refine child (k := k) hE e hbeg.ne (by have := hbeg.xO; rw [hE] at this; exact this) (by have := hbeg.xF; rw [hE] at this; exact this) (by have := hbeg.fO; rw [hE] at this; exact this) (by have := hbeg.fF; rw [hE] at this; exact this) hm hW (by omega) hl hsol ?_ (YW r1 (by rw [hgn]; have := r1.1; omega) (hcs _ r1.1 (hne _ (by simp)).1 (hne _ (by simp)).2)) (YW r2 (by rw [hgn]; have := r2.1; omega) (hcs _ r2.1 (hne _ (by simp)).1 (hne _ (by simp)).2)) (YW r3 (by rw [hgn]; have := r3.1; omega) (hcs _ r3.1 (hne _ (by simp)).1 (hne _ (by simp)).2)) (YW r4 (by rw [hgn]; have := r4.1; omega) (hcs _ r4.1 (hne _ (by simp)).1 (hne _ (by simp)).2)) (YW r5 (by rw [hgn]; have := r5.1; omega) (hcs _ r5.1 (hne _ (by simp)).1 (hne _ (by simp)).2))
        (fun H' hH' => gd H' ?_ fun i hi0 => ?_) hs6 ew ef (le6 _ _ eg5) ⟨rfl, rfl⟩ (le06 _ _ eO) (le06 _ _ eF) hlive6 hx6
      · refine ⟨by rw [hgn]; omega, fun j c hj => ?_⟩
        simp only [wN]
        rw [VN (by omega), f4, Nat.zero_add]; exact hj
      · have := hH'.1.2.1.1; rw [hgn] at this; omega
      · have := hH'.1.2.1.2 i (by rw [hgn]; omega)
        rw [this]; exact hcs i (by omega) (by omega) (by omega)
    · rw [Frame.finish_at]
      have hv6 := (hv5.mono le6).put (u := .tuple #[]) (v := .t []) ⟨[], rfl, trivial⟩ (d := some 36) fun t ht => by cases ht; show _ < T5.size; rw [hz5]; decide
      have hz6 : (T5.setIfInBounds 36 (.tuple #[])).size = 42 := by simp [hz5]
      change Vals β6 _ ⟨T5.setIfInBounds 36 (.tuple #[]), []⟩ at hv6
      change TP Try.prog 64 E Post (bs + k + 1) 0 (some (.sp 0 5)) (bs + k + 1) (Live β6 _) (G ((Conc.base 9).at ⟨T5.setIfInBounds 36 (.tuple #[]), []⟩ _) _) w6
      generalize T5.setIfInBounds 36 (.tuple #[]) = T6 at hv6 hz6 ⊢
      refine go_step (hT1 0) rfl rfl (fun w => stepG_region_end) ?_
      refine go_step (hT1 0) rfl rfl (fun w => stepG_inBlock) ?_
      refine xW (K := fun s' H' => H' = (goH H4 H.n 33 (vw H3.n im ist iwk io ifi)).kill (goD H4 H3.n) ∧ LSt s' im iwk ist io ifi H.n W ∧ s' 32 = .v (.int .i64 (k + 1 : Nat))) (N := 42) (hT1 0) (by decide) F.hm (by kernel_rfl) (.inl ?_) ⟨hz6, hv6, rfl⟩ hs6 (fun β7 s7 H7 a7 w7 hK7 hle7 ha7 hs7 fr7 => ?_)
      · refine zi (a := .int .i64 k) (b := .int .i64 1) h324 rfl yU ?_
        refine za (v := .v (.int .i64 (k + 1 : Nat))) (by rw [← Xk (i := k) (by omega)]; rfl) ?_
        exact yP ⟨rfl, ⟨hb4.t3, hb4.t4, hb4.t5, hb4.t8, hb4.t9, hb4.t10, hb4.t31⟩, rfl⟩
      · obtain ⟨rfl, hb7, h327⟩ := hK7
        refine go_step (hT1 0) rfl rfl (fun w => stepG_inLoop) ?_
        have hin := hi.n
        refine ih (k + 1) β7 _ a7 s7 w7 0 (by omega) (le15.trans (le6.trans hle7)) ha7 hs7 ⟨?_, fun i h1 => ?_, fun i h1 h2 => ?_⟩ hb7 h327
        · show H4.n + 2 = _; omega
        · rw [UO (by simp [goD]; omega), VN (by omega), o4 i (by omega)]; exact hi.old i h1
        · change i < H4.n + 2 at h2
          rcases Nat.lt_or_ge i H3.n with h3 | h3
          · rw [UO (by simp [goD]; omega), VN (by omega), o4 i h3]; exact hi.new i h1 h3
          · have hD : goD H4 H3.n i = true := by simp [goD]; omega
            show ((goH H4 H.n 33 (vw H3.n im ist iwk io ifi)).f i).kill (goD H4 H3.n i) = .gone
            rw [hD]
            rcases Nat.lt_or_ge i H4.n with h4 | h4
            · obtain rfl : i = H3.n := by omega
              rw [VN h4, f4]; rfl
            · obtain rfl | rfl : i = H4.n ∨ i = H4.n + 1 := by omega
              · simp [goH, Heap.alloc, Ab.upd, Blk.kill]
              · simp [goH, Heap.alloc, Ab.upd, Blk.kill]
end
end Go.Proofs.Ytochgocgmeeppaa.Co
namespace Go.Proofs.Ytochgocgmeeppaa.Co
set_option maxRecDepth 100000
set_option maxHeartbeats 1000000
open Go Go.Conc Go.ConcN Go.Ab Go.Ab.Wg Go.Proofs Go.Proofs.Ytochgocgmeeppaa Go.Conc.Lib Go.ConcR.Gen Go.Proofs.Ytochgocgmeeppaa.G
open Go.ConcR (WgAt stA smA Payload DC0 wgBlock)
noncomputable def linT:Code:=match parT with
 | .seq _ c=>c
 | _=>.skip
theorem zdg {ρ:Operand→Value} {o:Oper} (ho:o.op=.alloc 64) (w:World):(execOp ρ o).run Try.prog w=.ok (.value (.pointer (some ⟨w.heap.size,0,none⟩))) { w with heap:=w.heap.push (wgBlock 64 0 0) }:=by
 have h1:=Try.zeroValue64 w
 simp [execOp,ho,Instr.alloc,h1,newVar,newRow,wgBlock,Value.cells]
theorem zen {ρ:Operand→Value} {o:Oper} (ho:o.op=.alloc 64) (w:World):(execOp ρ o).events Try.prog w #[]=#[]:=by
 simp [execOp,ho,Instr.alloc,newVar,newRow]
section
variable {R:Nat→Prop} {Wd:World} (hlow:∀ b,R b→b<Wd.heap.size) {Post:Value→World→Prop} {m W:Nat} {rO rF:Nat} {lens:Nat→Nat} {ys:Nat→List Nat} {y:Nat→Bool} (hm:m≤8) (hW:1≤W∧W≤8)
 {v0:AV} {w0:List (List AV)} {l0:List (List Nat)} {a1:Nat} (hl:l0.length=m) (hsol:∀ o,o<m→∀ K:List Nat→Bool→Prop,K (ys o) (y o)→impl_SolveLine.wp (l0.getD o []) a1 K)
 (hlens:∀ o,o<m→(uI ys o).length=lens o*1) (hall:(∀ o,o<m→y o=true)→∀ o,o<m→uI ys o≠[])
 {H:Heap} {im ist iwk io ifi:Nat} (r1:PtAt H im 0 [v0]) (r2:PtAt H iwk 0 [.int .i64 W]) (r3:PtAt H ist 0 [.flt .f32 a1]) (r4:PtAt H io 0 [.sl rO 0 m 1]) (r5:PtAt H ifi 0 [.sl rF 0 m 1])
 {cO cF:List AV} (zO:H.f rO=.own cO) (zF:H.f rF=.own cF) (nO:cO.length=m) (nF:cF.length=m) (hOF:rO≠rF)
 (hne:∀ i,i=im∨i=iwk∨i=ist∨i=io∨i=ifi→i≠rO∧i≠rF) {n0:Nat} (hn0:n0≤H.n∧n0≤rO∧n0≤rF) (hrO:rO<H.n) (hrF:rF<H.n) (gd:∀ H',n0≤H'.n→(∀ i,i<n0→(H'.f i).cs=(H.f i).cs)→DSh H' v0 1 yt l0 w0)
 {cs:List Frame}
include hlow hm hW hl hsol hlens hall r1 r2 r3 r4 r5 zO zF nO nF hOF hne hn0 hrO hrF gd
theorem par_seg {β:Emb} {w:World} {a:Act} {s:Nat→TV} (ha:AR β s a 42) (hs:@SRI Try.prog (cls0 Try.prog 64 R) β H w) (h3:s 3=.v (.ptr im 0)) (h4:s 4=.v (.ptr ist 0)) (h5:s 5=.v (.ptr iwk 0)) (h8:s 8=.v (.ptr io 0)) (h9:s 9=.v (.ptr ifi 0))
  (hok:(∀ o,o<m→y o=true)→∀ β3 a3 s3 w3,Le β β3→AR β3 s3 a3 42→@SRI Try.prog (cls0 Try.prog 64 R) β3 (endH H (H.n+1+3*W) rO rF m 1 lens (uI ys) y) w3→FrC β H w β3 (endH H (H.n+1+3*W) rO rF m 1 lens (uI ys) y) w3→s3 8=.v (.ptr io 0)→s3 9=.v (.ptr ifi 0) →
   T0 Try.prog 64 Post R Wd (Live β3 (endH H (H.n+1+3*W) rO rF m 1 lens (uI ys) y)) (G ((Conc.base 9).at a3 [.code linT]) cs) w3)
  (hbad:¬(∀ o,o<m→y o=true)→∀ β3 a3 s3 w3,Le β β3→AR β3 s3 a3 42→@SRI Try.prog (cls0 Try.prog 64 R) β3 (wW H (H.n+1+3*W) rO rF m y) w3→FrC β H w β3 (wW H (H.n+1+3*W) rO rF m y) w3→s3 8=.v (.ptr io 0)→s3 9=.v (.ptr ifi 0) →
   T0 Try.prog 64 Post R Wd (Live β3 (wW H (H.n+1+3*W) rO rF m y)) (G ((Conc.base 9).at a3 [.code linT]) cs) w3) :
  T0 Try.prog 64 Post R Wd (Live β H) (G ((Conc.base 9).at a [.code linP]) cs) w:=by
 have hT0:@Cls.ok Try.prog (cls0 Try.prog 64 R) (T0 Try.prog 64 Post R Wd):=⟨Post,Wd,hlow,rfl⟩;refine @go_step Try.prog (cls0 Try.prog 64 R) _ hT0 _ _ _ _ rfl rfl (fun w=>stepG_seq) ?_;refine @go_step Try.prog (cls0 Try.prog 64 R) _ hT0 _ _ _ _ rfl rfl (fun w=>stepG_region) ?_;have hsr0:SR β H w:=@SRI.sr Try.prog (cls0 Try.prog 64 R) β H w hs;obtain⟨lO,eO⟩:=hsr0.tot rO hrO (by rw [zO];exact fun h=>nomatch h);obtain⟨lF,eF⟩:=hsr0.tot rF hrF (by rw [zF];exact fun h=>nomatch h);refine T0.enter (Wk:=W) (n:=1) hs rfl rfl (by decide) (fun w=>zdg rfl w) (fun w=>zen rfl w) hOF eO eF zO zF nO nF (uI ys) y fun bs B0 R1 Shun wg xn xt W0 β1 w1 hbeg=>⟨0,?_⟩;obtain⟨E,hE⟩:∃ E,E=wV bs B0 R1 Shun wg lO.blk lO.base lF.blk lF.base m W 1 xn xt (uI ys) y W0:=⟨_,rfl⟩;rw [←hE] at hbeg ⊢;have e:=hbeg.good
 letI:Cls Try.prog:=clsP Try.prog 64 E
 have hT:∀ r,Cls.ok (P:=Try.prog) (TP Try.prog 64 E Post bs 0 (some (.sp r 5)) bs):=fun r=>⟨Post,_,0,_,_,e,(by rw [hE];show bs - bs+1<_;omega),by simp,rfl⟩;have hWg:E.Wg=wg:=by rw [hE];rfl
 obtain⟨T,D⟩:=a;have hz:T.size=42:=ha.size;obtain rfl:D=[]:=ha.defers;have hv:Vals β s ⟨T,[]⟩:=ha.val;have hv1:=(hv.mono hbeg.le).put (u:=.pointer (some ⟨wg,0,none⟩)) (v:=.v (.ptr H.n 0)) ⟨_,hbeg.grp,by rw [hWg];rfl⟩ (d:=some 10) fun t ht=>by cases ht;show _<T.size;rw [hz];decide
 have hz1:(T.setIfInBounds 10 (.pointer (some ⟨wg,0,none⟩))).size=42:=by simp [hz]
 change Vals β1 _ ⟨T.setIfInBounds 10 (.pointer (some ⟨wg,0,none⟩)),[]⟩ at hv1
 change TP Try.prog 64 E Post bs 0 (some (.sp 0 5)) bs (Live β1 (parH H rO rF)) (G ((Conc.base 9).at ⟨T.setIfInBounds 10 (.pointer (some ⟨wg,0,none⟩)),[]⟩ _) _) w1
 generalize T.setIfInBounds 10 (.pointer (some ⟨wg,0,none⟩))=T1 at hv1 hz1 ⊢;have hsri:=hbeg.sri;have hpc:∀ i,i<H.n→i≠rO→i≠rF→((parH H rO rF).f i).cs=(H.f i).cs:=fun i hi h1 h2=>by
  rw [show (parH H rO rF).f i=(H.f i).frz (outD rO rF i) by simp [parH,Heap.alloc,Heap.frz,Ab.upd,Nat.ne_of_lt hi],show outD rO rF i=false by simp [outD,h1,h2],zdf]
 refine go_step (hT 0) rfl rfl (fun w=>stepG_region_end) ?_;refine go_step (hT 0) rfl rfl (fun w=>stepG_seq) ?_;refine go_step (hT 0) rfl rfl (fun w=>stepG_seq) ?_;refine xW (K:=fun s' H'=>H'=parH H rO rF∧LSt s' im iwk ist io ifi H.n W∧s' 32=.v (.int .i64 (0:Nat))) (N:=42) (hT 0) (by decide) F.hm (by kernel_rfl) (.inl ?_) ⟨hz1,hv1,rfl⟩ hsri (fun β2 s2 H2 a2 w2 hK2 hle2 ha2 hs2 _=>?_)
 ·refine wU (YW r2 (show _<H.n+1 by have:=r2.1;omega) (hpc _ r2.1 (hne _ (by simp)).1 (hne _ (by simp)).2)) 0 rfl h5 (by kernel_rfl) ?_;refine za (v:=.v (.int .i64 (0:Nat))) rfl ?_;exact yP ⟨rfl,⟨h3,h4,h5,h8,h9,rfl,rfl⟩,rfl⟩
 obtain⟨rfl,hb2,h232⟩:=hK2;refine go_step (hT 0) rfl rfl (fun w=>stepG_block) ?_;refine go_step (hT 0) rfl rfl (fun w=>stepG_loop) ?_;refine zem hE hbeg eO eF hm hW hl hsol r1 r2 r3 r4 r5 hne hn0 gd (fun β3 H3 a3 s3 w3 r le3 ha3 hs3 hi3 hb3=>?_) W 0 β2 _ a2 s2 w2 0 (by omega) hle2 ha2 hs2 ⟨rfl,fun i _=>rfl,fun i h1 h2=>absurd h2 (Nat.not_lt.2 h1)⟩ hb2 h232;have hT3:∀ r,Cls.ok (P:=Try.prog) (TP Try.prog 64 E Post (bs+W) 0 (some (.sp r 5)) (bs+W)):=fun r=>⟨Post,_,0,_,_,e,(by rw [hE];show bs+W - bs+1<_;omega),by simp,rfl⟩;refine go_step (hT3 r) rfl rfl (fun w=>stepG_seq) ?_;refine go_step (hT3 r) rfl rfl (fun w=>stepG_region) ?_;refine go_step (hT3 r) rfl rfl (fun w=>qC rfl rfl (by decide) rfl YV.f_wait nmWait rfl) ?_;obtain⟨T3,D3⟩:=a3;have hz3:T3.size=42:=ha3.size;obtain rfl:D3=[]:=ha3.defers;have hv3:Vals β3 s3 ⟨T3,[]⟩:=ha3.val;have eg3:β3 H.n=some ⟨E.Wg,0,2⟩:=le3 _ _ hbeg.grp;have hg10:T3.getD 10 undef=.pointer (some ⟨E.Wg,0,none⟩):=by
  have:=hv3 10;rw [hb3.t10] at this;obtain⟨l,e1,e2⟩:∃ l,β3 H.n=some l∧T3.getD 10 undef=ptrV l 0:=this;obtain rfl:l=⟨E.Wg,0,2⟩:=Option.some.inj (e1.symm.trans eg3);exact e2
 have m1:(#[Operand.tmp 10].map (Act.eval ⟨T3,[]⟩))=#[.pointer (some ⟨E.Wg,0,none⟩)]:=by simp [Act.eval,hg10]
 rw [m1];have hRR:=hbeg.rr;refine zdc (W:=Wd) e (by rw [hE];show bs+W - bs+1<_;omega) hRR hlow fun w4 Fs k1 k2 k3 k4 k5 k6 k7 k8=>?_;subst hE;have hin:=hi3.n;have hsr3:=hs3.sr;have dom2:∀ i,H.n+1+3*W≤i→β3 i=none:=fun i h=>hsr3.dom i (by omega);have tot2:∀ i,H.n≤i→i<H.n+1+3*W→∃ l,β3 i=some l:=fun i h1 h2=>by
  refine hsr3.tot i (by omega) fun hh=>?_;rcases Nat.lt_or_ge i (H.n+1) with h|h
  ·obtain rfl:i=H.n:=by omega
   rw [hi3.old _ h] at hh;simp [parH,Heap.alloc,Heap.frz,Ab.upd] at hh
  ·rw [hi3.new i h (by omega)] at hh;cases hh
 have old2:∀ i l,i<H.n→β3 i=some l→H.f i≠.hole:=fun i l hi el hh=>by
  have hr:=hsr3.row i l el;rw [hi3.old i (by omega),show (parH H rO rF).f i=(H.f i).frz (outD rO rF i) by simp [parH,Heap.alloc,Heap.frz,Ab.upd,Nat.ne_of_lt hi],hh] at hr
  cases h:outD rO rF i<;>rw [h] at hr<;>exact hr
 have hput:∀ {γ:Emb},Le β3 γ→AR γ (aput s3 (some 38) (.t [])) ⟨T3.setIfInBounds 38 (.tuple #[]),[]⟩ 42:=fun hle=>⟨by simp [hz3],(hv3.mono hle).put (u:=.tuple #[]) (v:=.t []) ⟨[],rfl,trivial⟩ (d:=some 38) fun t ht=>by cases ht;show _<T3.size;rw [hz3];decide,rfl⟩
 by_cases hy:∀ o,o<m→y o=true
 ·obtain⟨β4,le4,hs4,hF4,fr4,hR4⟩:=join_ok (P:=Try.prog) (lens:=lens) hs hbeg hOF eO eF (by rw [zO];rfl) (by rw [zF];rfl) le3 (N:=H.n+1+3*W) (by omega) dom2 tot2 old2 k2 (fun i h1 h2 b hb=>⟨(k3 i h1 h2 b hb).1,(k3 i h1 h2 b hb).2.1,(k3 i h1 h2 b hb).2.2.1⟩) k4 k6 k7 k8 (by omega) (by decide) hlens (hall hy);refine⟨_,hF4,hR4,?_⟩;refine @go_step Try.prog (cls0 Try.prog 64 R) _ hT0 _ _ _ _ rfl rfl (fun w=>stepG_region_end) ?_;exact hok hy β4 _ _ w4 (hbeg.le.trans (le3.trans le4)) (hput le4) hs4 fr4 hb3.t8 hb3.t9
 ·obtain⟨hs4,hF4,fr4,hR4⟩:=zce (P:=Try.prog) hs hbeg hOF eO eF (by rw [zO];rfl) (by rw [zF];rfl) le3 (N:=H.n+1+3*W) (by omega) dom2 tot2 old2 k2 k4 k6 k7 k8 (by omega);refine⟨_,hF4,hR4,?_⟩;refine @go_step Try.prog (cls0 Try.prog 64 R) _ hT0 _ _ _ _ rfl rfl (fun w=>stepG_region_end) ?_;exact hbad hy β3 _ _ w4 (hbeg.le.trans le3) (hput (Le.refl _)) hs4 fr4 hb3.t8 hb3.t9
end
end Go.Proofs.Ytochgocgmeeppaa.Co
namespace Go.Proofs.Ytochgocgmeeppaa.Co
set_option maxRecDepth 100000
set_option maxHeartbeats 1000000
open Go Go.Conc Go.ConcN Go.Ab Go.Ab.Wg Go.Proofs Go.Proofs.Ytochgocgmeeppaa Go.Conc.Lib Go.ConcR.Gen Go.Proofs.Ytochgocgmeeppaa.G
open Go.ConcR (WgAt stA smA Payload DC0 wgBlock)
noncomputable def opsM:Array Oper:=match linC with
 | .seq _ (.seq _ (.seq (.region _ o _) _))=>o
 | _=>#[]
def eNil:Unit→List AV:=fun _=>[.nilsl]
def mkH (H1:Heap) (mm:Nat) (m:List Bool):Heap:=
 ⟨H1.n+4,fun i=>if i=H1.n then (if m.getD 0 false=true then .own (enc eNil (List.replicate mm ())) else .hole) else if i=H1.n+1 then (if m.getD 1 false=true then .own (enc Zg (List.replicate mm false)) else .hole)
  else if i=H1.n+2 then (if m.getD 2 false=true then .own [if m.getD 4 false=true then .sl H1.n 0 mm 1 else .nilsl] else .hole) else if i=H1.n+3 then (if m.getD 3 false=true then .own [if m.getD 5 false=true then .sl (H1.n+1) 0 mm 1 else .nilsl] else .hole) else H1.f i⟩
abbrev Cm:List Nat:=[2,5,6,7,8,9]
theorem zeo (H1:Heap) (mm:Nat):mkH H1 mm (Cm.map fun _=>false)=holes 4 H1:=by
 refine uL rfl fun i=>?_;simp only [mkH,holes,Heap.alloc,Ab.upd,Cm,List.map_cons,List.map_nil]
 by_cases h0:i=H1.n
 ·subst h0;simp
 ·by_cases h1:i=H1.n+1
  ·subst h1;simp
  ·by_cases h2:i=H1.n+2
   ·subst h2;simp
   ·by_cases h3:i=H1.n+3
    ·subst h3;simp
    ·simp [h0,h1,h2,h3]
theorem UZ : ∀ {n : Nat} {m : List Bool}, m ∈ uS n → m.length = n
  | 0, m, h => by simp [uS] at h; subst h; rfl
  | n + 1, m, h => by
    simp only [uS, List.mem_append, List.mem_map] at h
    rcases h with ⟨m', h, rfl⟩ | ⟨m', h, rfl⟩ <;> simp [UZ h]
theorem six {ops:List Oper} {i:Nat} {m:List Bool} (h:m∈jM ops Cm i):∃ b0 b1 b2 b3 b4 b5,m=[b0,b1,b2,b3,b4,b5]∧mayM ops Cm i m=true:=by
 obtain⟨h1,h2⟩:=List.mem_filter.1 h;have:=UZ h1
 match m,this with
 | [b0,b1,b2,b3,b4,b5],_=>exact⟨b0,b1,b2,b3,b4,b5,rfl,h2⟩
theorem XJ {H1:Heap} {mm:Nat} {m:List Bool} {i:Nat} (h:i<H1.n):(mkH H1 mm m).f i=H1.f i:=by
 simp [mkH,show i≠H1.n by omega,show i≠H1.n+1 by omega,show i≠H1.n+2 by omega,show i≠H1.n+3 by omega]
theorem X5 {H:Heap} {k:Nat} (h:k<H.n) (hf:H.f k=.hole):Sep H [.hole k]:=⟨⟨h,hf⟩,fun _ h=>absurd h (List.not_mem_nil),trivial⟩
theorem Yo {i:Nat} {p:List Bool→Bool} (h:((jM opsM.toList Cm i).all p)=true) {m:List Bool} (hm:m∈jM opsM.toList Cm i):p m=true:=List.all_eq_true.1 h m hm
theorem zdh [Cls Try.prog] {H1:Heap} {s:Nat→TV} {im:Nat} {v0:AV} {l0:List (List Nat)} {w0:List (List AV)} (r1:PtAt H1 im 0 [v0]) (h3:s 3=.v (.ptr im 0)) (gd:∀ H',H1.n≤H'.n→(∀ i,i<H1.n→H'.f i=H1.f i)→DSh H' v0 1 yt l0 w0) (hl:l0.length≤8)
  {K:(Nat→TV)→Heap→Prop} (hK:∀ s',s' 3=s 3→s' 4=s 4→s' 5=s 5→s' 8=.v (.ptr (H1.n+2) 0)→s' 9=.v (.ptr (H1.n+3) 0)→K s' (mkH H1 l0.length [true,true,true,true,true,true])) :
  wopm Try.prog opsM.toList Cm (mkH H1 l0.length) opsM.toList 0 s K:=by
 have hpt:∀ m,PtAt (mkH H1 l0.length m) im 0 [v0]:=fun m=>YW r1 (show im<H1.n+4 by have:=r1.1;omega) (by rw [XJ r1.1]);have hds:∀ m,DSh (mkH H1 l0.length m) v0 1 yt l0 w0:=fun m=>gd _ (by show H1.n≤H1.n+4;omega) fun i hi=>XJ hi;have hz:(0:Int)≤(l0.length:Int)∧(l0.length:Int)≤(l0.length:Int)∧(l0.length:Int)≤2 ^ 40:=⟨by omega,by omega,by omega⟩;refine vN (.v v0) rfl rfl (fun m hm=>?_) ?_
 ·obtain⟨b0,b1,b2,b3,b4,b5,rfl,_⟩:=six hm;rw [show wX Cm 0 [b0,b1,b2,b3,b4,b5]=[b0,b1,b2,b3,b4,b5] by simp [wX,Cm]];exact jm (i:=0) rfl (wU (hpt _) 0 rfl h3 (by kernel_rfl) (yP ⟨rfl,rfl⟩))
 refine vN (.v (.int .i64 l0.length)) rfl rfl (fun m hm=>?_) ?_
 ·obtain⟨b0,b1,b2,b3,b4,b5,rfl,_⟩:=six hm;rw [show wX Cm 1 [b0,b1,b2,b3,b4,b5]=[b0,b1,b2,b3,b4,b5] by simp [wX,Cm]];exact jm (i:=0) rfl (qB (hds _) (by decide) rfl (by kernel_rfl) (yP ⟨rfl,rfl⟩))
 refine vN (.v (.sl H1.n 0 l0.length 1)) rfl rfl (fun m hm=>?_) ?_
 ·have hst:=Yo (p:=fun m=>!(m.getD 0 false)) (by kernel_rfl) hm;obtain⟨b0,b1,b2,b3,b4,b5,rfl,_⟩:=six hm;obtain rfl:b0=false:=by simpa using hst
  rw [show wX Cm 2 [false,b1,b2,b3,b4,b5]=[true,b1,b2,b3,b4,b5] by simp [wX,Cm]];refine Ku (et:=25) (l:=[.hole H1.n]) (k:=H1.n) (X5 (by show H1.n<H1.n+4;omega) (by simp [mkH])) 0 rfl eNil () (n:=l0.length) (m:=l0.length) (bys:=24) ⟨hz.1,hz.2.1,hz.2.2,by omega⟩ rfl rfl (by kernel_rfl) (by kernel_rfl) (by kernel_rfl) (by kernel_rfl) (fun _=>rfl) rfl (fun _ c hc=>by simp [eNil] at hc;subst hc;rfl) (by simp) (uL rfl fun i=>?_);simp only [mkH,Heap.put,Ab.upd,Int.toNat_natCast,List.getD_cons_zero,List.getD_cons_succ,if_true,Bool.false_eq_true,if_false]
  split<;>rfl
 refine vN (.v v0) rfl rfl (fun m hm=>?_) ?_
 ·obtain⟨b0,b1,b2,b3,b4,b5,rfl,_⟩:=six hm;rw [show wX Cm 3 [b0,b1,b2,b3,b4,b5]=[b0,b1,b2,b3,b4,b5] by simp [wX,Cm]];exact jm (i:=0) rfl (wU (hpt _) 0 rfl h3 (by kernel_rfl) (yP ⟨rfl,rfl⟩))
 refine vN (.v (.int .i64 l0.length)) rfl rfl (fun m hm=>?_) ?_
 ·obtain⟨b0,b1,b2,b3,b4,b5,rfl,_⟩:=six hm;rw [show wX Cm 4 [b0,b1,b2,b3,b4,b5]=[b0,b1,b2,b3,b4,b5] by simp [wX,Cm]];exact jm (i:=0) rfl (qB (hds _) (by decide) rfl (by kernel_rfl) (yP ⟨rfl,rfl⟩))
 refine vN (.v (.sl (H1.n+1) 0 l0.length 1)) rfl rfl (fun m hm=>?_) ?_
 ·have hst:=Yo (p:=fun m=>!(m.getD 1 false)) (by kernel_rfl) hm;obtain⟨b0,b1,b2,b3,b4,b5,rfl,_⟩:=six hm;obtain rfl:b1=false:=by simpa using hst
  rw [show wX Cm 5 [b0,false,b2,b3,b4,b5]=[b0,true,b2,b3,b4,b5] by simp [wX,Cm]];refine Ku (et:=4) (l:=[.hole (H1.n+1)]) (k:=H1.n+1) (X5 (by show H1.n+1<H1.n+4;omega) (by simp [mkH])) 0 rfl Zg false (n:=l0.length) (m:=l0.length) (bys:=1) ⟨hz.1,hz.2.1,hz.2.2,by omega⟩ rfl rfl (by kernel_rfl) (by kernel_rfl) (by kernel_rfl) (by kernel_rfl) (fun _=>rfl) rfl (fun _ c hc=>by simp [Zg] at hc;subst hc;rfl) (by simp) (uL rfl fun i=>?_);simp only [mkH,Heap.put,Ab.upd,Int.toNat_natCast,List.getD_cons_zero,List.getD_cons_succ,if_true,Bool.false_eq_true,if_false]
  by_cases h1:i=H1.n+1
  ·subst h1;simp
  ·simp [h1]
 refine vN (.v (.ptr (H1.n+2) 0)) rfl rfl (fun m hm=>?_) ?_
 ·have hst:=Yo (p:=fun m=>!(m.getD 2 false)&&!(m.getD 4 false)) (by kernel_rfl) hm;obtain⟨b0,b1,b2,b3,b4,b5,rfl,_⟩:=six hm;obtain⟨rfl,rfl⟩:b2=false∧b4=false:=by simpa using hst
  rw [show wX Cm 6 [b0,b1,false,b3,false,b5]=[b0,b1,true,b3,false,b5] by simp [wX,Cm]];refine QW (l:=[.hole (H1.n+2)]) (z:=[.nilsl]) (X5 (by show H1.n+2<H1.n+4;omega) (by simp [mkH])) 0 rfl (by kernel_rfl) rfl (fun c hc=>by simp at hc;subst hc;rfl) (uL rfl fun i=>?_);simp only [mkH,Heap.put,Ab.upd,List.getD_cons_zero,List.getD_cons_succ,if_true,Bool.false_eq_true,if_false]
  by_cases h1:i=H1.n+2
  ·subst h1;simp
  ·simp [h1]
 refine vN (.v (.ptr (H1.n+3) 0)) rfl rfl (fun m hm=>?_) ?_
 ·have hst:=Yo (p:=fun m=>!(m.getD 3 false)&&!(m.getD 5 false)) (by kernel_rfl) hm;obtain⟨b0,b1,b2,b3,b4,b5,rfl,_⟩:=six hm;obtain⟨rfl,rfl⟩:b3=false∧b5=false:=by simpa using hst
  rw [show wX Cm 7 [b0,b1,b2,false,b4,false]=[b0,b1,b2,true,b4,false] by simp [wX,Cm]];refine QW (l:=[.hole (H1.n+3)]) (z:=[.nilsl]) (X5 (by show H1.n+3<H1.n+4;omega) (by simp [mkH])) 0 rfl (by kernel_rfl) rfl (fun c hc=>by simp at hc;subst hc;rfl) (uL rfl fun i=>?_);simp only [mkH,Heap.put,Ab.upd,List.getD_cons_zero,List.getD_cons_succ,if_true,Bool.false_eq_true,if_false]
  by_cases h1:i=H1.n+3
  ·subst h1;simp
  ·simp [h1]
 refine⟨.v .und,.inr (fun m hm=>?_),?_⟩
 ·have hst:=Yo (p:=fun m=>m.getD 0 false&&(m.getD 2 false&&(m.getD 3 false&&(!(m.getD 4 false)&&!(m.getD 5 false))))) (by kernel_rfl) hm;obtain⟨b0,b1,b2,b3,b4,b5,rfl,_⟩:=six hm;obtain⟨rfl,rfl,rfl,rfl,rfl⟩:b0=true∧b2=true∧b3=true∧b4=false∧b5=false:=by simpa using hst
  refine .plain (.inl rfl) (jg (show Xi Try.prog 31 _ (.v (.ptr (H1.n+2) 0)) (.v (.sl H1.n 0 l0.length 1))=_ from Z7 (c:=[.sl H1.n 0 l0.length 1]) rfl (n:=1) (by kernel_rfl) rfl ((qz (cs:=[.nilsl]) (by simp [mkH]) (by simp) rfl).trans (congrArg some (uL rfl fun i=>?_)))));simp only [mkH,Heap.put,Ab.upd,wX,Cm,List.zip_cons_cons,List.map_cons,List.getD_cons_zero,List.getD_cons_succ,if_true,Bool.false_eq_true,if_false]
  by_cases h1:i=H1.n+2
  ·subst h1;simp [splice]
  ·simp [h1]
 refine⟨.v .und,.inr (fun m hm=>?_),?_⟩
 ·have hst:=Yo (p:=fun m=>m.getD 0 false&&(m.getD 1 false&&(m.getD 2 false&&(m.getD 3 false&&((m.getD 4 false)&&!(m.getD 5 false)))))) (by kernel_rfl) hm;obtain⟨b0,b1,b2,b3,b4,b5,rfl,_⟩:=six hm;obtain⟨rfl,rfl,rfl,rfl,rfl,rfl⟩:b0=true∧b1=true∧b2=true∧b3=true∧b4=true∧b5=false:=by simpa using hst
  refine .plain (.inl rfl) (jg (show Xi Try.prog 54 _ (.v (.ptr (H1.n+3) 0)) (.v (.sl (H1.n+1) 0 l0.length 1))=_ from Z7 (c:=[.sl (H1.n+1) 0 l0.length 1]) rfl (n:=1) (by kernel_rfl) rfl ((qz (cs:=[.nilsl]) (by simp [mkH]) (by simp) rfl).trans (congrArg some (uL rfl fun i=>?_)))));simp only [mkH,Heap.put,Ab.upd,wX,Cm,List.zip_cons_cons,List.map_cons,List.getD_cons_zero,List.getD_cons_succ,if_true,Bool.false_eq_true,if_false]
  by_cases h1:i=H1.n+3
  ·subst h1;simp [splice]
  ·simp [h1]
 exact hK _ rfl rfl rfl rfl rfl
end Go.Proofs.Ytochgocgmeeppaa.Co
namespace Go.Proofs.Ytochgocgmeeppaa.Co
set_option maxRecDepth 100000
set_option maxHeartbeats 1000000
open Go Go.Conc Go.ConcN Go.Ab Go.Ab.Wg Go.Proofs Go.Proofs.Ytochgocgmeeppaa Go.Conc.Lib Go.ConcR.Gen Go.Proofs.Ytochgocgmeeppaa.G
open Go.ConcR (WgAt stA smA Payload DC0 wgBlock)
theorem Uz (l : List Bool) (hlen : l.length ≤ 8) (K : Bool → Prop) (h : K (l.any fun b => !b)) : slices_Contains_bool_bool.wp l false K := by
  unfold slices_Contains_bool_bool.wp slices_Index_bool_bool.wp
  intro X hX
  have key : ∀ (d i : Nat), l.length ≤ i + d → i ≤ l.length → ((l.take i).any fun b => !b) = false → X (i : Int) := by
    intro d
    induction d with
    | zero =>
      intro i h1 h2 h3
      obtain rfl : i = l.length := by omega
      rw [List.take_length] at h3
      refine hX _ ⟨fun h => by omega, fun _ => ?_⟩
      rw [h3] at h
      exact h
    | succ d ih =>
      intro i h1 h2 h3
      refine hX _ ⟨fun hi => ⟨⟨by omega, hi⟩, fun hb => ?_, fun hb => ?_⟩, fun hi => ?_⟩
      · have hlt : i < l.length := by omega
        have e1 : l.getD i false = false := by simpa using hb
        have e2 : (l.any fun b => !b) = true := List.any_eq_true.2 ⟨l.getD i false, by rw [List.getD_eq_getElem?_getD, List.getElem?_eq_getElem hlt]; exact List.getElem_mem hlt, by rw [e1]; rfl⟩
        rw [e2] at h
        show K (decide _)
        rw [decide_eq_true (by omega)]; exact h
      · have hlt : i < l.length := by omega
        have e1 : l.getD i false = true := by simpa using hb
        rw [Xk (by omega)]
        refine ih (i + 1) (by omega) (by omega) ?_
        rw [List.take_add_one, List.any_append, h3]
        rw [List.getD_eq_getElem?_getD] at e1
        cases hg : l[i]? with
        | none => simp
        | some b => rw [hg] at e1; simp at e1; simp [e1]
      · obtain rfl : i = l.length := by omega
        rw [List.take_length] at h3
        rw [h3] at h
        exact h
  exact key l.length 0 (by omega) (by omega) (by simp)
class RR where
 R:Nat→Prop
@[reducible] instance instRR [r:RR]:Cls Try.prog:=cls0 Try.prog 64 r.R
def argH (H:Heap) (v0:AV) (a1:Nat) (a2:Int):Heap:=((H.alloc (.own [v0])).alloc (.own [.flt .f32 a1])).alloc (.own [.int .i64 a2])
theorem jW {H:Heap} {fr:List Pc} (hs:Sep H fr) (v0:AV) (a1:Nat) (a2:Int):Sep (argH H v0 a1 a2) (.box (H.n+2) [.int .i64 a2]::.box (H.n+1) [.flt .f32 a1]::.box H.n [v0]::fr):=((hs.alloc [v0]).alloc [.flt .f32 a1]).alloc [.int .i64 a2]
theorem WO {H:Heap} {v0:AV} {a1:Nat} {a2:Int} {i:Nat} (h:i<H.n):(argH H v0 a1 a2).f i=H.f i:=by
 simp [argH,Heap.alloc,Ab.upd,show i≠H.n by omega,show i≠H.n+1 by omega,show i≠H.n+1+1 by omega]
def Qlin (fr:List Pc) (K:List (List Nat)→Bool→Prop) (r:TV) (H2:Heap):Prop:=∃ (y0:List (List Nat)) (y1:Bool),K y0 y1∧∃ (w0_:AV) (wsw0_:List (List AV)) (Sw0_:Nat→Prop),r=(.t [(.v w0_),(.v (.bool y1))])∧Sep H2 (dpc w0_ 1 yt ug y0 wsw0_ Sw0_::fr)
section
variable [RR] {fr:List Pc} {H:Heap} (v0:AV) (w0:List (List AV)) (l0:List (List Nat)) (a1:Nat) (a2:Int) (hs:Sep H fr) (g0:∀ H,Sep H fr→DSh H v0 1 yt l0 w0) (K:List (List Nat)→Bool→Prop)
include hs g0
theorem zep (c101:(8:Int)<(l0.length:Int)) (h:K [] false):OkQ Try.prog 9 [(.v v0),(.v (.flt .f32 a1)),(.v (.int .i64 a2))] H (Qlin fr K):=by
 refine yI Try.f9 F.hm Try.func9 rfl Try.call9 (by kernel_rfl) (by simp) ?_;have hs3:=jW hs v0 a1 a2;have gd:=g0 _ hs3.tl.tl.tl;refine zf ?_;refine ze ?_;refine uD rfl rfl (by kernel_rfl) (by simp [gd.stor]) nofun ?_
 refine uD rfl rfl (by kernel_rfl) rfl nofun ?_
 refine uD rfl rfl (by kernel_rfl) rfl nofun ?_
 refine zb (v:=(.v .nilsl)) rfl ?_;refine zb (v:=(.v (.bool false))) rfl ?_;refine zg ?_
 change Fin _ _ _ (argH H v0 a1 a2) _
 refine zf ?_;refine zf ?_;refine ze ?_;refine wU (hs3.ptat 2 rfl) 0 rfl rfl (by kernel_rfl) ?_;refine qB gd (by decide) rfl (by kernel_rfl) ?_;refine zi rfl rfl uR ?_;refine za (v:=(.v (.bool (decide ((8:Int)<(l0.length:Int)))))) rfl ?_;refine zh rfl (decide_eq_true c101) ?_;refine zh rfl (decide_eq_true c101) ?_;refine zh rfl (decide_eq_true c101) ?_;refine zl (v:=(.v (.bool true))) rfl (decide_eq_true c101) rfl ?_;refine za (v:=(.v (.bool true))) rfl ?_;refine zh rfl rfl ?_;refine zh rfl rfl ?_;refine zh rfl rfl ?_;refine zl (v:=(.v (.bool true))) rfl rfl rfl ?_;refine zg ?_;refine zo rfl rfl ?_;refine zf ?_;refine ze ?_;refine zb (v:=(.v .nilsl)) rfl ?_;refine zb (v:=(.v (.bool false))) rfl ?_;refine zg ?_;exact zm rfl ⟨_,_,h,_,_,_,rfl,(Sep.dnil hs3.tl.tl.tl 1 yt ug)⟩
theorem zeq (c101:¬(8:Int)<(l0.length:Int)) (hok:Ok Try.prog 29 [.v (.flt .f32 a1)] (argH H v0 a1 a2) (.v (.bool false)) (argH H v0 a1 a2)) (h:K [] false):OkQ Try.prog 9 [(.v v0),(.v (.flt .f32 a1)),(.v (.int .i64 a2))] H (Qlin fr K):=by
 refine yI Try.f9 F.hm Try.func9 rfl Try.call9 (by kernel_rfl) (by simp) ?_;have hs3:=jW hs v0 a1 a2;have gd:=g0 _ hs3.tl.tl.tl;refine zf ?_;refine ze ?_;refine uD rfl rfl (by kernel_rfl) (by simp [gd.stor]) nofun ?_
 refine uD rfl rfl (by kernel_rfl) rfl nofun ?_
 refine uD rfl rfl (by kernel_rfl) rfl nofun ?_
 refine zb (v:=(.v .nilsl)) rfl ?_;refine zb (v:=(.v (.bool false))) rfl ?_;refine zg ?_
 change Fin _ _ _ (argH H v0 a1 a2) _
 refine zf ?_;refine zf ?_;refine ze ?_;refine wU (hs3.ptat 2 rfl) 0 rfl rfl (by kernel_rfl) ?_;refine qB gd (by decide) rfl (by kernel_rfl) ?_;refine zi rfl rfl uR ?_;refine za (v:=(.v (.bool (decide ((8:Int)<(l0.length:Int)))))) rfl ?_;refine zk rfl (decide_eq_false c101) ?_;refine wU (hs3.ptat 1 rfl) 0 rfl rfl (by kernel_rfl) ?_;refine zk rfl (decide_eq_false c101) ?_;refine uT rfl rfl hok nofun ?_
 refine zk rfl (decide_eq_false c101) ?_;refine xh rfl y5 ?_;refine zP (v:=(.v (.bool true))) rfl (decide_eq_false c101) rfl ?_;refine za (v:=(.v (.bool true))) rfl ?_;refine zh rfl rfl ?_;refine zh rfl rfl ?_;refine zh rfl rfl ?_;refine zl (v:=(.v (.bool true))) rfl rfl rfl ?_;refine zg ?_;refine zo rfl rfl ?_;refine zf ?_;refine ze ?_;refine zb (v:=(.v .nilsl)) rfl ?_;refine zb (v:=(.v (.bool false))) rfl ?_;refine zg ?_;exact zm rfl ⟨_,_,h,_,_,_,rfl,(Sep.dnil hs3.tl.tl.tl 1 yt ug)⟩
theorem zer (c101:¬(8:Int)<(l0.length:Int)) (hok:Ok Try.prog 29 [.v (.flt .f32 a1)] (argH H v0 a1 a2) (.v (.bool true)) (argH H v0 a1 a2)) (hok2:Ok Try.prog 31 [(.v (.int .i64 a2)),(.v (.int .i64 1)),(.v (.int .i64 8))] (argH H v0 a1 a2) (.v (.bool false)) (argH H v0 a1 a2)) (h:K [] false):OkQ Try.prog 9 [(.v v0),(.v (.flt .f32 a1)),(.v (.int .i64 a2))] H (Qlin fr K):=by
 refine yI Try.f9 F.hm Try.func9 rfl Try.call9 (by kernel_rfl) (by simp) ?_;have hs3:=jW hs v0 a1 a2;have gd:=g0 _ hs3.tl.tl.tl;refine zf ?_;refine ze ?_;refine uD rfl rfl (by kernel_rfl) (by simp [gd.stor]) nofun ?_
 refine uD rfl rfl (by kernel_rfl) rfl nofun ?_
 refine uD rfl rfl (by kernel_rfl) rfl nofun ?_
 refine zb (v:=(.v .nilsl)) rfl ?_;refine zb (v:=(.v (.bool false))) rfl ?_;refine zg ?_
 change Fin _ _ _ (argH H v0 a1 a2) _
 refine zf ?_;refine zf ?_;refine ze ?_;refine wU (hs3.ptat 2 rfl) 0 rfl rfl (by kernel_rfl) ?_;refine qB gd (by decide) rfl (by kernel_rfl) ?_;refine zi rfl rfl uR ?_;refine za (v:=(.v (.bool (decide ((8:Int)<(l0.length:Int)))))) rfl ?_;refine zk rfl (decide_eq_false c101) ?_;refine wU (hs3.ptat 1 rfl) 0 rfl rfl (by kernel_rfl) ?_;refine zk rfl (decide_eq_false c101) ?_;refine uT rfl rfl hok nofun ?_
 refine zk rfl (decide_eq_false c101) ?_;refine xh rfl y5 ?_;refine zP (v:=(.v (.bool false))) rfl (decide_eq_false c101) rfl ?_;refine za (v:=(.v (.bool false))) rfl ?_;refine zk rfl rfl ?_;refine wU (hs3.ptat 0 rfl) 0 rfl rfl (by kernel_rfl) ?_;refine zk rfl rfl ?_;refine uT rfl rfl hok2 nofun ?_
 refine zk rfl rfl ?_;refine xh rfl y5 ?_;refine zP (v:=(.v (.bool true))) rfl rfl rfl ?_;refine zg ?_;refine zo rfl rfl ?_;refine zf ?_;refine ze ?_;refine zb (v:=(.v .nilsl)) rfl ?_;refine zb (v:=(.v (.bool false))) rfl ?_;refine zg ?_;exact zm rfl ⟨_,_,h,_,_,_,rfl,(Sep.dnil hs3.tl.tl.tl 1 yt ug)⟩
end
theorem JC {H H':Heap} {v:AV} {n:Nat} {cs:List AV} (h:yf H v n cs) (hn:H.n≤H'.n) (hc:∀ i,i<H.n→(H'.f i).cs=(H.f i).cs):yf H' v n cs:=by
 rcases h with h|⟨id,off,len,h1,h2,h3,h4,h5⟩
 ·exact .inl h
 ·exact .inr ⟨id,off,len,h1,h2,Nat.lt_of_lt_of_le h3 hn,by rw [hc id h3];exact h4,by rw [hc id h3];exact h5⟩
theorem dsh_cs {H H':Heap} {v:AV} {l:List (List Nat)} {ws:List (List AV)} (h:DSh H v 1 yt l ws) (hn:H.n≤H'.n) (hc:∀ i,i<H.n→(H'.f i).cs=(H.f i).cs):DSh H' v 1 yt l ws:=
 ⟨JC h.1 hn hc,h.2,h.3.mono fun a b ⟨e,hs⟩=>⟨e,JC hs hn hc⟩⟩
theorem U6 (y:Nat→Bool):∀ (l:List Nat),enc Zg (l.map y)=l.map fun o=>.bool (y o)
 | []=>rfl
 | a::l=>by rw [List.map_cons,wE,U6 y l];rfl
def rowH (H:Heap) (v0:AV) (a1:Nat) (a2:Int) (m:Nat):Heap:=mkH (argH H v0 a1 a2) m [true,true,true,true,true,true]
def lastN (H:Heap) (W:Nat):Nat:=H.n+7+1+3*W
def qK (H:Heap) (v0:AV) (a1:Nat) (a2:Int) (m W:Nat) (ys:Nat→List Nat) (y:Nat→Bool):Heap:=endH (rowH H v0 a1 a2 m) (lastN H W) (H.n+3) (H.n+4) m 1 (fun o=>(ys o).length) (uI ys) y
def jA (H:Heap) (v0:AV) (a1:Nat) (a2:Int) (m W:Nat) (y:Nat→Bool):Heap:=wW (rowH H v0 a1 a2 m) (lastN H W) (H.n+3) (H.n+4) m y
section
variable [RR] {fr:List Pc} {H:Heap} {v0:AV} {w0:List (List AV)} {l0:List (List Nat)} {a1:Nat} {a2:Int} (hs:Sep H fr) (g0:∀ H,Sep H fr→DSh H v0 1 yt l0 w0)
 (c101:¬(8:Int)<(l0.length:Int)) (hok:Ok Try.prog 29 [.v (.flt .f32 a1)] (argH H v0 a1 a2) (.v (.bool true)) (argH H v0 a1 a2)) (hok2:Ok Try.prog 31 [(.v (.int .i64 a2)),(.v (.int .i64 1)),(.v (.int .i64 8))] (argH H v0 a1 a2) (.v (.bool true)) (argH H v0 a1 a2))
 {W:Nat} (hW:a2=W∧1≤W∧W≤8) {ys:Nat→List Nat} {y:Nat→Bool} (hsol:∀ o,o<l0.length→∀ K':List Nat→Bool→Prop,K' (ys o) (y o)→impl_SolveLine.wp (l0.getD o []) a1 K') (hall:(∀ o,o<l0.length→y o=true)→∀ o,o<l0.length→ys o≠[])
include hs g0 c101 hok hok2 hW hsol hall
theorem lin_T {r:TV} {H2:Heap} (hA:(∀ o,o<l0.length→y o=true)→∀ s3:Nat→TV,s3 8=.v (.ptr (H.n+5) 0)→s3 9=.v (.ptr (H.n+6) 0)→Fin Try.prog [.code linT] s3 (qK H v0 a1 a2 l0.length W ys y) fun s' H'=>vg Try.prog Try.f9 s' H'=some r∧H'=H2)
  (hB:¬(∀ o,o<l0.length→y o=true)→∀ s3:Nat→TV,s3 8=.v (.ptr (H.n+5) 0)→s3 9=.v (.ptr (H.n+6) 0)→Fin Try.prog [.code linT] s3 (jA H v0 a1 a2 l0.length W y) fun s' H'=>vg Try.prog Try.f9 s' H'=some r∧H'=H2) :
  Ok Try.prog 9 [(.v v0),(.v (.flt .f32 a1)),(.v (.int .i64 a2))] H r H2:=by
 obtain⟨rfl,hW⟩:=hW;refine Ok.of_T Try.func9 rfl Try.call9 (by show 3≤42;decide) fun T hT β a w c0 cs ha hsr hend=>?_;have hs3:=jW hs v0 a1 W;have gd:=g0 _ hs3.tl.tl.tl;have hT':=hT;obtain⟨Post,Wd,hlow,rfl⟩:=hT'
 change AR β _ a 42 at ha
 refine go_step hT rfl rfl (fun w=>stepG_seq) ?_;refine xW (K:=fun s' H'=>H'=argH H v0 a1 W∧s' 3=.v (.ptr H.n 0)∧s' 4=.v (.ptr (H.n+1) 0)∧s' 5=.v (.ptr (H.n+2) 0)) hT (by decide) F.hm (by kernel_rfl) (.inl ?_) ha hsr (fun β1 s1 H1 a1' w1 hK1 le1 ha1 hs1 fr1=>?_)
 ·refine uD rfl rfl (by kernel_rfl) (by simp [gd.stor]) nofun ?_
  refine uD rfl rfl (by kernel_rfl) rfl nofun ?_
  refine uD rfl rfl (by kernel_rfl) rfl nofun ?_
  refine zb (v:=(.v .nilsl)) rfl ?_;refine zb (v:=(.v (.bool false))) rfl ?_;exact yP ⟨rfl,rfl,rfl,rfl⟩
 obtain⟨rfl,h13,h14,h15⟩:=hK1;refine go_step hT rfl rfl (fun w=>stepG_seq) ?_;refine go_step hT rfl rfl (fun w=>stepG_seq) ?_;refine xW (K:=fun s' H'=>H'=argH H v0 a1 W∧s' 3=.v (.ptr H.n 0)∧s' 4=.v (.ptr (H.n+1) 0)∧s' 5=.v (.ptr (H.n+2) 0)∧s' 24=.v (.bool false)) hT (by decide) F.hm (by kernel_rfl) (.inl ?_) ha1 hs1 (fun β2 s2 H2' a2' w2 hK2 le2 ha2 hs2 fr2=>?_)
 ·refine wU (hs3.ptat 2 rfl) 0 rfl h13 (by kernel_rfl) ?_;refine qB gd (by decide) rfl (by kernel_rfl) ?_;refine zi rfl rfl uR ?_;refine za (v:=(.v (.bool (decide ((8:Int)<(l0.length:Int)))))) rfl ?_;refine zk rfl (decide_eq_false c101) ?_;refine wU (hs3.ptat 1 rfl) 0 rfl h14 (by kernel_rfl) ?_;refine zk rfl (decide_eq_false c101) ?_;refine uT rfl rfl hok nofun ?_
  refine zk rfl (decide_eq_false c101) ?_;refine xh rfl y5 ?_;refine zP (v:=(.v (.bool false))) rfl (decide_eq_false c101) rfl ?_;refine za (v:=(.v (.bool false))) rfl ?_;refine zk rfl rfl ?_;refine wU (hs3.ptat 0 rfl) 0 rfl h15 (by kernel_rfl) ?_;refine zk rfl rfl ?_;refine uT rfl rfl hok2 nofun ?_
  refine zk rfl rfl ?_;refine xh rfl y5 ?_;refine zP (v:=(.v (.bool false))) rfl rfl rfl ?_;exact yP ⟨rfl,h13,h14,h15,rfl⟩
 obtain⟨rfl,h23,h24,h25,h2c⟩:=hK2;have hv:=ha2.val 24;rw [h2c] at hv;refine go_step hT rfl rfl (fun w=>stepG_cond hv) ?_;refine go_step hT rfl rfl (fun w=>stepG_skip) ?_;refine go_step hT rfl rfl (fun w=>stepG_seq) ?_;have hn1:(argH H v0 a1 W).n=H.n+3:=rfl;refine xW (K:=fun s' H'=>H'=rowH H v0 a1 W l0.length∧s' 3=.v (.ptr H.n 0)∧s' 4=.v (.ptr (H.n+1) 0)∧s' 5=.v (.ptr (H.n+2) 0)∧s' 8=.v (.ptr (H.n+5) 0)∧s' 9=.v (.ptr (H.n+6) 0)) hT (by decide) F.hm (by kernel_rfl)
  (.inr ⟨rfl,.inr ⟨Cm,mkH (argH H v0 a1 W) l0.length,4,by decide,zeo _ _,zdh (im:=H.n) (hs3.ptat 2 rfl) h23 (fun H' h1 h2=>g0 _ ?_) (by omega) fun s' e3 e4 e5 e8 e9=>⟨rfl,e3.trans h23,e4.trans h24,e5.trans h25,e8,e9⟩⟩⟩) ha2 hs2 (fun β3 s3 H3 a3 w3 hK3 le3 ha3 hs3' fr3=>?_)
 ·exact Sep.frame hs3.tl.tl.tl h1 fun p hp i hi=>h2 i (Pc.at_lt (Sep.mem hs3.tl.tl.tl p hp) hi)
 obtain⟨rfl,h33,h34,h35,h38,h39⟩:=hK3;have le03:=le1.trans (le2.trans le3);have fr03:FrC β H w β3 (rowH H v0 a1 W l0.length) w3:=fr1.trans (fr2.trans fr3);have hrn:(rowH H v0 a1 W l0.length).n=H.n+7:=rfl;have hrf:∀ i,i<H.n+3→(rowH H v0 a1 W l0.length).f i=(argH H v0 a1 W).f i:=fun i hi=>XJ (by rw [hn1];exact hi);have fO:(rowH H v0 a1 W l0.length).f (H.n+3)=.own (enc eNil (List.replicate l0.length ())):=by simp [rowH,mkH,hn1]
 have fF:(rowH H v0 a1 W l0.length).f (H.n+4)=.own (enc Zg (List.replicate l0.length false)):=by simp [rowH,mkH,hn1]
 have f5:(rowH H v0 a1 W l0.length).f (H.n+5)=.own [.sl (H.n+3) 0 l0.length 1]:=by simp [rowH,mkH,hn1]
 have f6:(rowH H v0 a1 W l0.length).f (H.n+6)=.own [.sl (H.n+4) 0 l0.length 1]:=by simp [rowH,mkH,hn1]
 have pt:∀ {i:Nat} {c:AV},i<H.n+7→(rowH H v0 a1 W l0.length).f i=.own [c]→PtAt (rowH H v0 a1 W l0.length) i 0 [c]:=fun {i c} hi hf=>⟨hi,fun j x hj=>by
  simp only [wN,hf,Blk.cs,Nat.zero_add];exact hj⟩
 refine par_seg (m:=l0.length) (W:=W) (rO:=H.n+3) (rF:=H.n+4) (lens:=fun o=>(ys o).length) (ys:=ys) (y:=y) (im:=H.n) (iwk:=H.n+2) (ist:=H.n+1) (io:=H.n+5) (ifi:=H.n+6) (n0:=H.n) (v0:=v0) (w0:=w0) (l0:=l0) (a1:=a1) hlow (by omega) hW rfl hsol (fun o _=>by simp [uI,y9 (e:=eFlt .f32) (n:=1) (fun _=>rfl)]) (fun hy o ho hx=>?_)
  (pt (by omega) ((hrf _ (by omega)).trans ?_)) (pt (by omega) ((hrf _ (by omega)).trans ?_)) (pt (by omega) ((hrf _ (by omega)).trans ?_)) (pt (by omega) f5) (pt (by omega) f6) fO fF (by rw [y9 (e:=eNil) (n:=1) (fun _=>rfl)];simp) (by rw [y9 (e:=Zg) (n:=1) (fun _=>rfl)];simp) (by omega) (fun i hi=>by omega) ⟨by rw [hrn];omega,by omega,by omega⟩ (by rw [hrn];omega) (by rw [hrn];omega) (fun H' h1 h2=>?_) ha3 hs3' h33 h34 h35 h38 h39
  (fun hy β4 a4 s4 w4 le4 ha4 hs4 fr4 h48 h49=>Vt hT F.hm Try.func9 (hA hy s4 h48 h49) (by kernel_rfl) ha4 hs4 fun β5 rv w5 le5 hs5 hrv fr5=>hend β5 rv w5 (le03.trans (le4.trans le5)) hs5 hrv (fr03.trans (fr4.trans fr5)))
  (fun hy β4 a4 s4 w4 le4 ha4 hs4 fr4 h48 h49=>Vt hT F.hm Try.func9 (hB hy s4 h48 h49) (by kernel_rfl) ha4 hs4 fun β5 rv w5 le5 hs5 hrv fr5=>hend β5 rv w5 (le03.trans (le4.trans le5)) hs5 hrv (fr03.trans (fr4.trans fr5)))
 ·have:=congrArg List.length hx
  simp [uI,y9 (e:=eFlt .f32) (n:=1) (fun _=>rfl)] at this
  exact hall hy o ho this
 ·simp [argH,Heap.alloc,Ab.upd]
  intro h;omega
 ·simp [argH,Heap.alloc,Ab.upd]
 ·simp [argH,Heap.alloc,Ab.upd]
 ·refine dsh_cs (g0 _ hs) h1 fun i hi=>?_;rw [h2 i hi,hrf i (by omega),WO hi]
end
theorem Wp [RR] {Hx:Heap} {rF m:Nat} {y:Nat→Bool} (hr:rF<Hx.n) (hf:Hx.f rF=.own ((List.range m).map fun o=>.bool (y o))) (hm:m≤8):Ok Try.prog 35 [.v (.sl rF 0 m 1),.v (.bool false)] Hx (.v (.bool (((List.range m).map y).any fun b=>!b))) Hx:=by
 have hsh:yf Hx (.sl rF 0 m 1) 1 (enc Zg ((List.range m).map y)):=by
  rw [U6];exact .inr ⟨rF,0,m,rfl,by simp,hr,by rw [hf];simp [Blk.cs],by rw [hf];simp only [Blk.cs,List.drop_zero];exact List.take_of_length_le (Nat.le_refl _)⟩
 obtain⟨r,H',h,y0,e0,rfl,rfl⟩:=jV (fr:=came Hx) (H:=Hx) (.sl rF 0 m 1) ((List.range m).map y) false (YO Hx) (jo hsh) (fun b=>b=(((List.range m).map y).any fun b=>!b)) (Uz _ (by simpa using hm) _ rfl);rw [←e0];exact h
section
variable [RR] {H:Heap} {v0:AV} {a1:Nat} {a2:Int} {m W:Nat} {ys:Nat→List Nat} {y:Nat→Bool} {s:Nat→TV} (hm:m≤8) (h8:s 8=.v (.ptr (H.n+5) 0)) (h9:s 9=.v (.ptr (H.n+6) 0))
include hm h8 h9
theorem tail_ok (hy:∀ o,o<m→y o=true):Fin Try.prog [.code linT] s (qK H v0 a1 a2 m W ys y) fun s' H'=>vg Try.prog Try.f9 s' H'=some (.t [(.v (.sl (H.n+3) 0 m 1)),(.v (.bool true))])∧H'=qK H v0 a1 a2 m W ys y:=by
 have hn:(qK H v0 a1 a2 m W ys y).n=H.n+7+1+3*W+m:=rfl;have rn:(rowH H v0 a1 a2 m).n=H.n+7:=rfl;have an:(argH H v0 a1 a2).n=H.n+3:=rfl;have f4:(qK H v0 a1 a2 m W ys y).f (H.n+4)=.own ((List.range m).map fun o=>.bool (y o)):=by simp [qK,endH,rn]
 have f5:(qK H v0 a1 a2 m W ys y).f (H.n+5)=.own [.sl (H.n+3) 0 m 1]:=by simp [qK,endH,rn,rowH,mkH,an]
 have f6:(qK H v0 a1 a2 m W ys y).f (H.n+6)=.own [.sl (H.n+4) 0 m 1]:=by simp [qK,endH,rn,rowH,mkH,an]
 have hc:=Wp (Hx:=qK H v0 a1 a2 m W ys y) (rF:=H.n+4) (m:=m) (y:=y) (by rw [hn];omega) f4 hm;rw [show ((List.range m).map y).any (fun b=>!b)=false from Bool.eq_false_iff.2 fun h=>by
  obtain⟨b,hb,hb'⟩:=List.any_eq_true.1 h;obtain⟨o,ho,rfl⟩:=List.mem_map.1 hb;rw [hy o (List.mem_range.1 ho)] at hb';cases hb'] at hc
 refine zf ?_;refine zf ?_;refine ze ?_;refine Zp (c:=.sl (H.n+4) 0 m 1) h9 (by kernel_rfl) (by simp [wN,f6,Blk.cs]) ?_;refine uT rfl rfl hc nofun ?_
 refine zg ?_;refine zy rfl rfl ?_;refine zN ?_;refine zf ?_;refine ze ?_;refine Zp (c:=.sl (H.n+3) 0 m 1) h8 (by kernel_rfl) (by simp [wN,f5,Blk.cs]) ?_;refine zb (v:=(.v (.sl (H.n+3) 0 m 1))) rfl ?_;refine zb (v:=(.v (.bool true))) rfl ?_;refine zg ?_;exact QO ⟨rfl,rfl⟩
theorem zes (hy:¬∀ o,o<m→y o=true):Fin Try.prog [.code linT] s (jA H v0 a1 a2 m W y) fun s' H'=>vg Try.prog Try.f9 s' H'=some (.t [(.v .nilsl),(.v (.bool false))])∧H'=jA H v0 a1 a2 m W y:=by
 have hn:(jA H v0 a1 a2 m W y).n=H.n+7+1+3*W:=rfl;have rn:(rowH H v0 a1 a2 m).n=H.n+7:=rfl;have an:(argH H v0 a1 a2).n=H.n+3:=rfl;have f4:(jA H v0 a1 a2 m W y).f (H.n+4)=.own ((List.range m).map fun o=>.bool (y o)):=by simp [jA,wW,rn]
 have f6:(jA H v0 a1 a2 m W y).f (H.n+6)=.own [.sl (H.n+4) 0 m 1]:=by simp [jA,wW,rn,rowH,mkH,an]
 have hc:=Wp (Hx:=jA H v0 a1 a2 m W y) (rF:=H.n+4) (m:=m) (y:=y) (by rw [hn];omega) f4 hm;rw [show ((List.range m).map y).any (fun b=>!b)=true from by
  obtain⟨o,ho⟩:=Classical.not_forall.1 hy;obtain⟨h1,h2⟩:=Classical.not_imp.1 ho;exact List.any_eq_true.2 ⟨y o,List.mem_map.2 ⟨o,List.mem_range.2 h1,rfl⟩,by cases h:y o<;>simp_all⟩] at hc
 refine zf ?_;refine zf ?_;refine ze ?_;refine Zp (c:=.sl (H.n+4) 0 m 1) h9 (by kernel_rfl) (by simp [wN,f6,Blk.cs]) ?_;refine uT rfl rfl hc nofun ?_
 refine zg ?_;refine zo rfl rfl ?_;refine zf ?_;refine ze ?_;refine zb (v:=(.v .nilsl)) rfl ?_;refine zb (v:=(.v (.bool false))) rfl ?_;refine zg ?_;exact QO ⟨rfl,rfl⟩
end
end Go.Proofs.Ytochgocgmeeppaa.Co
namespace Go.Proofs.Ytochgocgmeeppaa.G
open Go Go.Ab Go.Proofs Go.Proofs.Ytochgocgmeeppaa.Co
theorem Xb [RR] {fr : List Pc} {H : Heap} (v0 : AV) (w0 : List (List AV)) (l0 : List (List (Nat))) (a1 : Nat) (a2 : Int) (hs : Sep H (fr)) (g0 : ∀ H, Sep H fr → DSh H v0 1 yt l0 w0) (K : (List (List (Nat))) → Bool → Prop) (h : impl_LinesShared.wp l0 a1 a2 K) : OkQ Try.prog 9 [(.v v0), (.v (.flt .f32 a1)), (.v (.int .i64 a2))] H (fun r H2 => ∃ (y0 : List (List (Nat))) (y1 : Bool), K y0 y1 ∧ ∃ (w0_ : AV) (wsw0_ : List (List AV)) (Sw0_ : Nat → Prop), r = (.t [(.v w0_), (.v (.bool y1))]) ∧ Sep H2 (dpc w0_ 1 yt ug y0 wsw0_ Sw0_ :: fr)) := by
  unfold impl_LinesShared.wp at h
  by_cases c101 : (8 : Int) < (l0.length : Int)
  · exact zep v0 w0 l0 a1 a2 hs g0 K c101 (h.1 c101)
  replace h := h.2 c101
  obtain ⟨r, H', hok, y102, h, rfl, rfl⟩ := qm a1 (jW hs v0 a1 a2) _ h
  cases y102 with
  | false => exact zeq v0 w0 l0 a1 a2 hs g0 K c101 hok (h.2 rfl)
  | true =>
    obtain ⟨r, H', hok2, y105, h, rfl, rfl⟩ := uH a2 1 8 (jW hs v0 a1 a2) _ (h.1 rfl)
    cases y105 with
    | false => exact zer v0 w0 l0 a1 a2 hs g0 K c101 hok hok2 (h.2 rfl)
    | true =>
      obtain ⟨W, hW1, hW2, hW3, ys, y, hsol, h⟩ := h.1 rfl
      have hm : l0.length ≤ 8 := by omega
      have hfr : Sep (rowH H v0 a1 a2 l0.length) fr := Sep.frame hs (by show H.n ≤ H.n + 7; omega) fun p hp i hi => by
        have hlt := Pc.at_lt (Sep.mem hs p hp) hi
        rw [show (rowH H v0 a1 a2 l0.length).f i = (argH H v0 a1 a2).f i from XJ (show i < H.n + 3 by omega), WO hlt]
      have hrf : ∀ i, i < H.n → (rowH H v0 a1 a2 l0.length).f i = H.f i := fun i hi => by
        rw [show (rowH H v0 a1 a2 l0.length).f i = (argH H v0 a1 a2).f i from XJ (show i < H.n + 3 by omega), WO hi]
      rcases h with ⟨hy, hne, hK⟩ | ⟨hy, hK⟩
      · have hsep : Sep (qK H v0 a1 a2 l0.length W ys y) _ := zd4 (e := eFlt .f32) (xs := ys) (y := y) (m := l0.length) (N := lastN H W) (lens := fun o => (ys o).length) (H := rowH H v0 a1 a2 l0.length) (rO := H.n + 3) (rF := H.n + 4) hs ⟨by show H.n ≤ H.n + 7; omega, by omega, by omega⟩ hrf (by show H.n + 3 < H.n + 7; omega) (by show H.n + 7 ≤ H.n + 7 + 1 + 3 * W; omega) (fun o _ => by simp [y9 (e := eFlt .f32) (n := 1) (fun _ => rfl)])
        exact ⟨_, _, lin_T hs g0 c101 hok hok2 ⟨hW1, hW2, hW3⟩ hsol (fun _ => hne) (fun _ s3 h8 h9 => tail_ok hm h8 h9 hy) (fun hx => absurd hy hx), _, _, hK, _, _, _, rfl, hsep⟩
      · have hsep : Sep (jA H v0 a1 a2 l0.length W y) _ := Sep.dnil (Sep.frame hs (by show H.n ≤ H.n + 7 + 1 + 3 * W; omega) fun p hp i hi => by
          have hlt := Pc.at_lt (Sep.mem hs p hp) hi
          have rn : (rowH H v0 a1 a2 l0.length).n = H.n + 7 := rfl
          simp only [jA, wW]
          rw [if_pos (by omega), if_neg (by omega), if_neg (by omega)]
          exact hrf i hlt) 1 yt ug
        exact ⟨_, _, lin_T hs g0 c101 hok hok2 ⟨hW1, hW2, hW3⟩ hsol (fun hx => absurd hx hy) (fun hx => absurd hx hy) (fun _ s3 h8 h9 => zes hm h8 h9 hy), _, _, hK, _, _, _, rfl, hsep⟩
end Go.Proofs.Ytochgocgmeeppaa.G
