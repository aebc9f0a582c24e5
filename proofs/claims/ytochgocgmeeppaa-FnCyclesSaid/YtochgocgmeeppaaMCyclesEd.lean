/-
  The engine: abstract values, heaps of pieces, what the operations do; only what this claim leans on. Nothing here is trusted.
-/
import Derived.Test.YtochgocgmeeppaaMCyclesEc
set_option linter.unusedVariables false
set_option linter.unusedSimpArgs false
set_option linter.unusedSectionVars false
namespace Go.Ab.Wg
open Go.Conc Go.ConcN Go.RowKit Go.Conc.Lib Go.ConcR.Gen Go.ConcN.Gen
open Go.ConcR (KK wgBlock WgAt stA smA rd wr mk Payload DC0)
variable [Payload] {L:WgLink}
section
variable {Wg:Nat} {b₀:Frame} {a₀:Act} {ops₀:Array Oper} {i₀:Nat} {rest₀:List Nat} {k₀:List Item} {cs:List Frame}
set_option maxRecDepth 100000 in
set_option maxHeartbeats 8000000 in
theorem waitRound {P:Program} (H:WgLib P L) (g:Goroutine) (w:World) (h:Head L Wg (b₀.at a₀ (.inRegion ops₀ (i₀::rest₀)::k₀)) cs g w) :
  ∃ m,Goes P true (RL L.tWg Wg) DC0 (At1 P L.tWg Wg (Head L Wg (b₀.at a₀ (.inRegion ops₀ (i₀::rest₀)::k₀)) cs) (LeftW P (G (b₀.at (a₀.put ((ops₀[i₀]?).bind (·.dst)) (.tuple #[])) (.inRegion ops₀ rest₀::k₀)) cs))) m g w:=by
 lib_facts
 obtain⟨T,rfl,hT84,t0,hF⟩:=h;obtain⟨v0,v1,v2,v3,v4,v5,v6,v7,v8,v9,v10,v11,v12,v13,v14,v15,v16,v17,v18,v19,v20,v21,v22,v23,v24,v25,v26,v27,v28,v29,v30,v31,v32,v33,v34,v35,v36,v37,v38,v39,v40,v41,v42,v43,v44,v45,v46,v47,v48,v49,v50,v51,v52,v53,v54,v55,v56,v57,v58,v59,v60,v61,v62,v63,v64,v65,v66,v67,v68,v69,v70,v71,v72,v73,v74,v75,v76,v77,v78,v79,v80,v81,v82,v83,rfl⟩:=array84 T hT84;simp only [List.getElem?_toArray,List.getElem?_cons_zero,Option.some.injEq] at t0;subst t0;refine⟨40,?_⟩;simp only [L7,body_wait,waitFn,Option.getD_some]
 u_c stepG_block rl hF
 u_c stepG_seq rl hF
 u_reg rl hF
 u_op rl hF
 u_op rl hF
 u_op rl hF
 u_call H.f_uLoad (nm_uLoad L) uLoadFn rl hF
 u_c stepG_seq rl hF
 u_reg rl hF
 u_op rl hF
 u_c stepG_region_end rl hF
 u_c stepG_seq rl hF
 u_reg rl hF
 u_op rl hF
 u_op rl hF
 u_op rl hF
 refine Goes.stop (fun w₁ h₁=>?_);replace hF:=rl hF h₁;clear h₁;refine⟨rfl,fun v hv hw=>?_⟩;rcases Nat.eq_zero_or_pos v with rfl|hvp
 ·replace hw:WgAt L.tWg Wg w₁ 0 0:=by simpa using hw
  refine⟨_,stepG_load_atomic (v:=0) rfl rfl (by k_ne) rfl H.f_loadU64 (x_loadU64_n L) (x_loadU64_b L) (x_loadU64_x L) .u64 (x_loadU64_f L) rfl hw.cellSt,fun _=>⟨100,?_⟩,fun h=>absurd rfl h⟩;clear hw
  walk_nrm
  u_op rl hF
  u_c stepG_region_end rl hF
  u_c stepG_ret' rl hF
  u_leave1 H.f_uLoad rl hF
  u_op rl hF
  u_c stepG_region_end rl hF
  u_c stepG_seq rl hF
  u_reg rl hF
  u_op rl hF
  u_op rl hF
  u_op rl hF
  u_op rl hF
  u_c stepG_region_end rl hF
  u_c stepG_seq rl hF
  u_reg rl hF
  u_op rl hF
  u_op rl hF
  u_op rl hF
  u_op rl hF
  u_c stepG_region_end rl hF
  u_c stepG_seq rl hF
  u_c stepG_seq rl hF
  u_reg rl hF
  u_op rl hF
  u_op rl hF
  u_c stepG_region_end rl hF
  u_cond true rl hF
  u_c stepG_seq rl hF
  u_cond true rl hF
  u_c stepG_seq rl hF
  u_reg rl hF
  refine Goes.stop (fun w₅ h₅=>?_);replace hF:=rl hF h₅;clear h₅;refine⟨rfl,_,stepG_mark0 .enable (by simp) rfl rfl (by k_ne) rfl H.f_enable (x_enable_n L) (x_enable_b L) (x_enable_x L) (x_enable_f L),30,?_⟩
  walk_nrm
  u_c stepG_region_end rl hF
  u_reg rl hF
  u_op rl hF
  u_conv H.underlying_tWgP H.room_tWg (WgLive.cell0 hF).choose_spec rl hF
  refine Goes.stop (fun w₆ h₆=>?_);replace hF:=rl hF h₆;clear h₆;refine⟨rfl,_,stepG_markAt .acquire (by simp) rfl rfl (by k_ne) rfl H.f_acquire (x_acquire_n L) (x_acquire_b L) (x_acquire_x L) (x_acquire_f L) (by simp [Act.eval,stA]),⟨100,?_⟩⟩;clear hF;have hN:True:=trivial
  walk_nrm
  u_c stepG_region_end tv hN
  u_c stepG_seq tv hN
  u_c stepG_seq tv hN
  u_reg tv hN
  u_op tv hN
  u_op tv hN
  u_op tv hN
  u_op tv hN
  u_op tv hN
  u_op tv hN
  u_op tv hN
  u_op tv hN
  u_skip tv hN
  u_skip tv hN
  u_op tv hN
  u_c stepG_region_end tv hN
  u_cond false tv hN
  u_c stepG_skip tv hN
  u_c stepG_ret' tv hN
  u_leave0 H.f_wait tv hN
  exact Goes.stop (fun _ _=>rfl)
 ·obtain⟨S,hS⟩:∃ S:Int,(v:Int)*KK=S:=⟨_,rfl⟩;have a1:S / 4294967296=(v:Int):=by rw [←hS];simp only [KK];omega
  have b1:bits .and .u64 S 2147483648=0:=by rw [←hS];have:=st_flag v 0 (by omega) (by omega);simpa [KK] using this
  have b2:bits .and .u64 S 2147483647=0:=by rw [←hS];have:=st_waiters v 0 (by omega) (by omega);simpa [KK] using this
  have c1:IntKind.i32.wrap (v:Int)=(v:Int):=by rw [IntKind.wrap_i32];omega
  have w1:IntKind.u64.wrap (S+1)=S+1:=by rw [IntKind.wrap_u64,←hS];simp only [KK];omega
  have q3:decide ((v:Int)<0)=false:=decide_eq_false (by omega);have q4:decide (0<(v:Int))=true:=decide_eq_true (by omega);have q5:((v:Int) == 0)=false:=by simp;omega
  have q6:decide ((v:Int)=0)=false:=decide_eq_false (by omega);rw [hS] at hw;refine⟨_,stepG_load_atomic (v:=S) rfl rfl (by k_ne) rfl H.f_loadU64 (x_loadU64_n L) (x_loadU64_b L) (x_loadU64_x L) .u64 (x_loadU64_f L) rfl hw.cellSt,fun h0=>absurd h0 (by omega),fun _=>⟨100,?_⟩⟩;clear hw
  walk_nrm
  u_op rl hF
  u_c stepG_region_end rl hF
  u_c stepG_ret' rl hF
  u_leave1 H.f_uLoad rl hF
  u_op rl hF
  u_c stepG_region_end rl hF
  u_c stepG_seq rl hF
  u_reg rl hF
  u_op rl hF
  u_op rl hF
  u_op rl hF
  u_op rl hF
  u_c stepG_region_end rl hF
  u_c stepG_seq rl hF
  u_reg rl hF
  u_op rl hF
  u_op rl hF
  u_op rl hF
  u_op rl hF
  u_c stepG_region_end rl hF
  u_c stepG_seq rl hF
  u_c stepG_seq rl hF
  u_reg rl hF
  u_op rl hF
  u_op rl hF
  u_c stepG_region_end rl hF
  u_cond false rl hF
  u_c stepG_skip rl hF
  u_c stepG_seq rl hF
  u_reg rl hF
  u_op rl hF
  u_op rl hF
  u_op rl hF
  u_op rl hF
  u_op rl hF
  u_op rl hF
  u_call H.f_uCas (nm_uCas L) uCasFn rl hF
  u_c stepG_seq rl hF
  u_reg rl hF
  u_op rl hF
  u_c stepG_region_end rl hF
  u_c stepG_seq rl hF
  u_reg rl hF
  u_op rl hF
  u_op rl hF
  u_op rl hF
  u_op rl hF
  u_op rl hF
  refine Goes.stop (fun w₂ h₂=>?_);replace hF:=rl hF h₂;clear h₂;refine⟨rfl,fun v' hv' hw=>⟨fun e=>?_,fun e=>?_⟩⟩
  ·subst e;rw [hS] at hw ⊢;refine⟨_,(stepG_cas_hit (v:=S) (n:=S+1) rfl rfl (by k_ne) rfl H.f_casU64 (x_casU64_n L) (x_casU64_b L) (x_casU64_x L) .u64 (x_casU64_f L) rfl rfl rfl hw.cellSt (hw.thaw 0)).trans (by rfl),100,?_⟩;replace hF:WgLive L.tWg Wg (w₂.setCell (stA Wg) (.int .u64 (S+1))):=⟨_,_,hw.setSt _⟩;clear hw
   walk_nrm
   u_op rl hF
   u_c stepG_region_end rl hF
   u_c stepG_ret' rl hF;u_leave1 H.f_uCas rl hF
   u_c stepG_region_end rl hF
   u_cond true rl hF
   u_c stepG_seq rl hF
   u_c stepG_seq rl hF
   u_reg rl hF
   u_op rl hF
   u_op rl hF
   u_op rl hF
   u_op rl hF
   u_c stepG_region_end rl hF
   u_cond true rl hF
   u_reg rl hF
   u_op rl hF
   u_op rl hF
   u_op rl hF
   u_conv H.underlying_tPU32 H.room_tU32 (WgLive.cell1 hF).choose_spec rl hF
   refine Goes.stop (fun w₇ h₇=>?_);replace hF:=rl hF h₇;clear h₇;refine⟨rfl,_,stepG_markAt .write (by simp) rfl rfl (by k_ne) rfl H.f_raceWrite (x_raceWrite_n L) (x_raceWrite_b L) (x_raceWrite_x L) (x_raceWrite_f L) (ad:=⟨Wg,1,none⟩) (by simp [Act.eval]),60,?_⟩
   walk_nrm
   u_c stepG_region_end rl hF
   u_c stepG_seq rl hF
   u_reg rl hF
   u_op rl hF
   u_c stepG_region_end rl hF
   u_c stepG_seq rl hF
   u_c stepG_seq rl hF
   u_reg rl hF
   u_op rl hF
   u_op rl hF
   u_op rl hF
   u_op rl hF
   u_skip rl hF
   u_op rl hF
   u_c stepG_region_end rl hF
   u_cond false rl hF
   u_c stepG_skip rl hF
   u_c stepG_seq rl hF
   u_reg rl hF
   u_op rl hF
   u_op rl hF
   u_op rl hF
   u_op rl hF
   refine Goes.stop (fun w₃ h₃=>?_);replace hF:=rl hF h₃;clear h₃;refine⟨rfl,rfl,fun ⟨st,hw⟩=>stepG_semacquire_wait rfl rfl rfl H.f_semacquire (x_semacquire_n L) (x_semacquire_b L) (x_semacquire_x L) (x_semacquire_f L) (by simp [Act.eval,smA]) hw.cellSm,fun hf=>?_⟩;refine⟨_,(stepG_semacquire (n:=1) rfl rfl (by k_ne) rfl H.f_semacquire (x_semacquire_n L) (x_semacquire_b L) (x_semacquire_x L) (x_semacquire_f L) (by simp [Act.eval,smA]) hf.cellSm (by k_ne) (hf.thaw 1)).trans (by rfl),60,?_⟩;replace hF:WgLive L.tWg Wg (w₃.setCell (smA Wg) (.int .u32 0)):=⟨_,_,hf.setSm 0⟩;clear hf
   walk_nrm
   u_c stepG_region_end rl hF
   u_c stepG_seq rl hF
   u_reg rl hF
   u_op rl hF
   u_op rl hF
   u_op rl hF
   u_call H.f_uLoad (nm_uLoad L) uLoadFn rl hF
   u_c stepG_seq rl hF
   u_reg rl hF
   u_op rl hF
   u_c stepG_region_end rl hF
   u_c stepG_seq rl hF
   u_reg rl hF
   u_op rl hF
   u_op rl hF
   u_op rl hF
   refine Goes.stop (fun w₄ h₄=>?_);replace hF:=rl hF h₄;clear h₄;refine⟨rfl,fun hw=>⟨_,stepG_load_atomic (v:=0) rfl rfl (by k_ne) rfl H.f_loadU64 (x_loadU64_n L) (x_loadU64_b L) (x_loadU64_x L) .u64 (x_loadU64_f L) rfl hw.cellSt,60,?_⟩⟩;clear hw
   walk_nrm
   u_op rl hF
   u_c stepG_region_end rl hF
   u_c stepG_ret' rl hF
   u_leave1 H.f_uLoad rl hF
   u_op rl hF
   u_op rl hF
   u_c stepG_region_end rl hF
   u_c stepG_seq rl hF
   u_cond true rl hF
   u_c stepG_seq rl hF
   u_reg rl hF
   refine Goes.stop (fun w₅ h₅=>?_);replace hF:=rl hF h₅;clear h₅;refine⟨rfl,_,stepG_mark0 .enable (by simp) rfl rfl (by k_ne) rfl H.f_enable (x_enable_n L) (x_enable_b L) (x_enable_x L) (x_enable_f L),30,?_⟩
   walk_nrm
   u_c stepG_region_end rl hF
   u_reg rl hF
   u_op rl hF
   u_conv H.underlying_tWgP H.room_tWg (WgLive.cell0 hF).choose_spec rl hF
   refine Goes.stop (fun w₆ h₆=>?_);replace hF:=rl hF h₆;clear h₆;refine⟨rfl,_,stepG_markAt .acquire (by simp) rfl rfl (by k_ne) rfl H.f_acquire (x_acquire_n L) (x_acquire_b L) (x_acquire_x L) (x_acquire_f L) (by simp [Act.eval,stA]),⟨60,?_⟩⟩;clear hF;have hN:True:=trivial
   walk_nrm
   u_c stepG_region_end tv hN
   u_c stepG_seq tv hN
   u_c stepG_seq tv hN
   u_reg tv hN
   u_op tv hN
   u_c stepG_region_end tv hN
   u_cond false tv hN
   u_c stepG_skip tv hN
   u_c stepG_ret' tv hN
   u_leave0 H.f_wait tv hN
   exact Goes.stop (fun _ _=>rfl)
  ·refine⟨_,(stepG_cas_miss (v:=(v':Int)*KK) (old:=S) (n:=S+1) rfl rfl (by k_ne) rfl H.f_casU64 (x_casU64_n L) (x_casU64_b L) (x_casU64_x L) .u64 (x_casU64_f L) rfl rfl rfl hw.cellSt (hw.thaw 0)) (by rw [←hS];simp only [KK];omega),60,?_⟩;clear hw
   walk_nrm
   u_op rl hF
   u_c stepG_region_end rl hF
   u_c stepG_ret' rl hF
   u_leave1 H.f_uCas rl hF
   u_c stepG_region_end rl hF
   u_cond false rl hF
   u_c stepG_skip rl hF
   u_c stepG_inBlock rl hF
   u_c stepG_inLoop rl hF
   refine Goes.stop (fun w₃ h₃=>?_);replace hF:=rl hF h₃;exact⟨_,rfl,by simp,by simp,hF⟩
set_option maxRecDepth 100000 in
theorem waitStart {P:Program} (H:WgLib P L) (w:World) (hF:WgLive L.tWg Wg w) :
  Goes P true (RL L.tWg Wg) DC0 (At0 P L.tWg Wg (Head L Wg (b₀.at a₀ (.inRegion ops₀ (i₀::rest₀)::k₀)) cs)) 10
   (G ((base L.wait).at ⟨#[.pointer (some ⟨Wg,0,none⟩)]++Array.replicate 83 undef,[]⟩ [.code (body_wait L)]) (b₀.at a₀ (.inRegion ops₀ (i₀::rest₀)::k₀)::cs)) w:=by
 lib_facts
 simp only [body_wait,waitFn,Option.getD_some,Array.replicate,List.replicate,List.append_toArray,List.cons_append,List.nil_append]
 u_c stepG_seq rl hF
 u_cond true rl hF
 u_reg rl hF
 refine Goes.stop (fun w₁ h₁=>?_);replace hF:=rl hF h₁;clear h₁;refine⟨rfl,_,stepG_mark0 .disable (by simp) rfl rfl (by k_ne) rfl H.f_disable (x_disable_n L) (x_disable_b L) (x_disable_x L) (x_disable_f L),10,?_⟩
 walk_nrm
 u_c stepG_region_end rl hF
 u_c stepG_block rl hF
 u_c stepG_loop rl hF
 exact Goes.stop (fun w₂ h₂=>⟨_,rfl,by simp,by simp,rl hF h₂⟩)
end
end Go.Ab.Wg
namespace Go.Ab.Wg
open Go.Conc Go.ConcN Go.RowKit Go.Conc.Lib Go.ConcR.Gen Go.ConcN.Gen
open Go.ConcR (KK wgBlock WgAt stA smA rd wr mk Payload DC0)
variable [Payload] {L:WgLink}
section
variable {P:Program} {R:World→World→Prop} {D:World→World→Array Event→Prop} {S T:Goroutine→World→Prop}
theorem WA {S' : Goroutine → World → Prop} (hS : ∀ g w, S g w → S' g w) : ∀ {n : Nat} {g : Goroutine} {w : World}, Goes P false R D S n g w → Goes P false R D S' n g w := by
  intro n
  induction n with
  | zero => exact fun h w1 h1 => hS _ _ (h w1 h1)
  | succ n ih =>
    intro g w h
    rcases h with h | ⟨hr, h⟩
    · exact .inl fun w1 h1 => hS _ _ (h w1 h1)
    · refine .inr ⟨hr, fun w1 h1 => ?_⟩
      have h2 := h w1 h1
      cases hgo : stepG P false g w1 with
      | go g' w' es => rw [hgo, goes_go] at h2; exact ⟨h2.1, ih h2.2⟩
      | _ => rw [hgo] at h2; exact h2.elim
theorem merge (hR : ∀ w, R w w) (htr : ∀ a b c, R a b → R b c → R a c) (hT : ∀ g w g', T g w → stepG P false g w ≠ .go g' w #[]) : ∀ (m n : Nat) (g : Goroutine) (w : World), m ≤ n → Goes P false R DC0 S m g w → Goes P false R D T n g w →
    Goes P false R DC0 (fun g w => S g w ∧ ∃ n', n ≤ n' + m ∧ Goes P false R D T n' g w) m g w := by
  intro m
  induction m with
  | zero => exact fun n g w _ h hb w1 h1 => ⟨h w1 h1, n, by omega, hb.rely htr h1⟩
  | succ m ih =>
    intro n g w hmn h hb
    rcases h with h | ⟨hrun, h⟩
    · exact .inl fun w1 h1 => ⟨h w1 h1, n, by omega, hb.rely htr h1⟩
    · refine .inr ⟨hrun, fun w1 h1 => ?_⟩
      have h2 := h w1 h1
      cases hgo : stepG P false g w1 with
      | go g' w' es =>
        rw [hgo, goes_go] at h2
        obtain ⟨⟨rfl, rfl⟩, hG⟩ := h2
        refine ⟨⟨rfl, rfl⟩, ?_⟩
        rcases Goes.cases (hb.rely htr h1) with hstop | ⟨n', rfl, hstep⟩
        · exact absurd hgo (hT _ _ _ (hstop w' (hR w')))
        · obtain ⟨g2, w2, es2, hgo2, _, hG2⟩ := hstep w' (hR w')
          rw [hgo] at hgo2
          cases hgo2
          exact WA (fun g w ⟨a, k, b, c⟩ => ⟨a, k, by omega, c⟩) (ih n' g' w' (by omega) hG hG2)
      | _ => rw [hgo] at h2; exact h2.elim
theorem never (hR : ∀ w, R w w) : ∀ (m : Nat) (g : Goroutine) (w : World), Goes P false R DC0 (fun _ _ => False) m g w → False := by
  intro m
  induction m with
  | zero => exact fun g w h => h w (hR w)
  | succ m ih =>
    intro g w h
    rcases h with h | ⟨_, h⟩
    · exact h w (hR w)
    · have h2 := h w (hR w)
      cases hgo : stepG P false g w with
      | go g' w' es => rw [hgo, goes_go] at h2; exact ih g' w' h2.2
      | _ => rw [hgo] at h2; exact h2.elim
end
section
variable {Wg C n ci:Nat} {val:Value} {b₀:Frame} {a₀:Act} {ops₀:Array Oper} {i₀:Nat} {rest₀:List Nat} {k₀:List Item} {cs:List Frame} {qt:Nat}
theorem kn {ty:TypeId} {w w₁:World} (h:WgLive ty Wg w∧Has C ci val w) (r:RW ty Wg C n 0 ci w w₁):WgLive ty Wg w₁∧Has C ci val w₁:=⟨r.live h.1,r.cell.trans h.2⟩
def AtRm (P:Program) (ty:TypeId) (Wg C n ci:Nat) (val:Value) (g:Goroutine) (w:World):Prop:=
 g.status=.running∧∃ g1,stepG P false g w=.go g1 w #[mk (.releaseMerge (stA Wg))]∧Goes P false (RW ty Wg C n 0 ci) DC0 (fun g w=>∃ g',stepG P false g w=.go g' w #[mk .disable]) 5 g1 w
set_option maxRecDepth 100000 in
set_option maxHeartbeats 8000000 in
theorem addNegS {P:Program} (H:WgLib P L) (w:World) (hF:WgLive L.tWg Wg w∧Has C ci val w) :
  Goes P false (RW L.tWg Wg C n 0 ci) DC0 (AtRm P L.tWg Wg C n ci val) 13
   (G ((base L.add).at ⟨#[.pointer (some ⟨Wg,0,none⟩),.int .i64 (-1)]++Array.replicate 115 undef,[]⟩ [.code (body_add L)]) (b₀.at a₀ (.inRegion ops₀ (i₀::rest₀)::k₀)::cs)) w:=by
 lib_facts
 simp only [body_add,addFn,Option.getD_some,Array.replicate,List.replicate,List.append_toArray,List.cons_append,List.nil_append]
 u_c stepG_seq kn hF
 u_cond true kn hF
 u_c stepG_seq kn hF
 u_c stepG_seq kn hF
 u_reg kn hF
 u_op kn hF
 u_op kn hF
 u_c stepG_region_end kn hF
 u_cond true kn hF
 u_reg kn hF
 u_op kn hF
 u_conv H.underlying_tWgP H.room_tWg (WgLive.cell0 hF.1).choose_spec kn hF
 refine Goes.stop (fun w₁ h₁=>?_);replace hF:=kn hF h₁;clear h₁;refine⟨rfl,_,stepG_markAt .releaseMerge (by simp) rfl rfl (by k_ne) rfl H.f_relMerge (x_relMerge_n L) (x_relMerge_b L) (x_relMerge_x L) (x_relMerge_f L) (by simp [Act.eval,stA]),?_⟩
 walk_nrm
 u_c stepG_region_end kn hF
 u_c stepG_seq kn hF
 u_reg kn hF
 exact Goes.stop (fun w₂ h₂=>⟨_,stepG_mark0 .disable (by simp) rfl rfl (by k_ne) rfl H.f_disable (x_disable_n L) (x_disable_b L) (x_disable_x L) (x_disable_f L)⟩)
set_option maxRecDepth 100000 in
theorem addNegC {P:Program} (H:WgLib P L) (hT:QuitsD P qt 0 (G (b₀.at (a₀.put ((ops₀[i₀]?).bind (·.dst)) (.tuple #[])) (.inRegion ops₀ rest₀::k₀)) cs)) (w:World) (hF:WgLive L.tWg Wg w∧Has C ci val w) :
  Goes P false (RW L.tWg Wg C n 0 ci) DC0 (AtR0 P L.tWg Wg C n 0 (ci+1) val) 13
   (G ((base L.add).at ⟨#[.pointer (some ⟨Wg,0,none⟩),.int .i64 (-1)]++Array.replicate 115 undef,[]⟩ [.code (body_add L)]) (b₀.at a₀ (.inRegion ops₀ (i₀::rest₀)::k₀)::cs)) w:=by
 have hB:=@addNegN _ L P H no no Wg C n 0 (ci+1) val b₀ a₀ ops₀ i₀ rest₀ k₀ cs qt hT w hF;have hS:=@addNegS _ L Wg C n ci val b₀ a₀ ops₀ i₀ rest₀ k₀ cs P H w hF;simp only [Array.replicate,List.replicate,List.append_toArray,List.cons_append,List.nil_append] at hS ⊢;have hrefl:∀ w,RW L.tWg Wg C n 0 ci w w:=fun w=>RW.refl w;have htr:∀ a b c,RW L.tWg Wg C n 0 ci a b→RW L.tWg Wg C n 0 ci b c→RW L.tWg Wg C n 0 ci a c:=fun _ _ _ h1 h2=>h1.trans h2;have hno:∀ g w g',AtR0 P L.tWg Wg C n 0 (ci+1) val g w→stepG P false g w≠.go g' w #[]:=by
  rintro g w g' ⟨_,_,g2,hgo,_⟩ h;rw [hgo] at h
  simp at h
 refine WA ?_ (merge hrefl htr hno 13 20 _ w (by omega) hS hB);rintro g w ⟨⟨hrun,g1,hgo,hG⟩,n',hn',hb⟩;rcases Goes.cases hb with hstop|⟨n2,rfl,hstep⟩
 ·exact hstop w (hrefl w)
 ·exfalso
  obtain⟨g2,w2,es,hgo2,_,hG2⟩:=hstep w (hrefl w);rw [hgo] at hgo2
  cases hgo2
  refine never hrefl 5 g1 w (WA ?_ (merge hrefl htr hno 5 n2 g1 w (by omega) hG hG2));rintro g w ⟨⟨g3,hgo3⟩,n3,hn3,hb3⟩;rcases Goes.cases hb3 with hstop|⟨n4,rfl,hstep⟩
  ·obtain⟨_,_,g4,hgo4,_⟩:=hstop w (hrefl w);rw [hgo3] at hgo4
   simp [mk] at hgo4
  ·obtain⟨g4,w4,es4,hgo4,hD,_⟩:=hstep w (hrefl w);rw [hgo3] at hgo4
   cases hgo4
   exact (hD.2 (mk .disable) (by simp)).2.1 rfl
end
end Go.Ab.Wg
namespace Go.Ab
open Go.Conc Go.ConcN Go.Ab.Wg
open Go.ConcR (KK wgBlock WgAt stA smA rd wr mk Payload DC0 Bk g_of_ofEvents bk_of_mute again_blocked ofEvent_loc_mark)
section
variable {P:Program} {ty:TypeId} {E:Env} [Payload] {Post:Value→World→Prop} {n d0 N:Nat} {tg tg':CTag} {F:Nat→Prop} {w0 wS:World} {K A:Goroutine→World→Prop}
theorem Grp.live {D:Nat→CD} {w:World} (h:Grp ty E n (some tg) D w):WgLive ty E.Wg w:=let ⟨st,sm,h1,_⟩:=h;⟨st,sm,h1⟩
theorem TP.of_goes (e : E.Good ty) (hs : n - E.base + 1 < 2147483648) (hb : tg ≠ .blk) (hK : ∀ g w, K g w → g.status = .running)
    (hS : ∀ g w, Keep E.R F wS w → (∀ w1, RL ty E.Wg w w1 → K g w1) → TP P ty E Post n d0 (some tg) N F g w) :
    ∀ (m : Nat) (g : Goroutine) (w : World), Keep E.R F wS w → Goes P true (RL ty E.Wg) DC0 K m g w → TP P ty E Post n d0 (some tg) N F g w := by
  have hb' : some tg ≠ some CTag.blk := fun h => hb (Option.some.inj h)
  intro m
  induction m with
  | zero => exact fun g w hk h => hS g w hk h
  | succ m ih =>
    intro g w hk h
    rcases h with h | ⟨hrun, h⟩
    · exact hS g w hk h
    · refine TP.lib e hs hb' fun D w1 hg hk1 hN hV => ?_
      have h1 := h w1 fun _ => hg.live
      cases hgo : stepG P true g w1 with
      | go g' w' es =>
        rw [hgo, goes_go] at h1
        obtain ⟨⟨rfl, rfl⟩, hG⟩ := h1
        exact ⟨g', w', #[], some tg, N, by rw [xQ hb'], Goes.running hK w' id hG, fun x => absurd x hb', .refl _ _, hg.live, by simp, hg, hN, ih g' w' (hk.trans hk1) hG⟩
      | _ => rw [hgo] at h1; exact h1.elim
theorem V8 (e:E.Good ty) {w w':World} (hF:∀ b,F b→¬E.Shun b) (h:Aside E.Wg w w'):Keep E.R F w w':=ql h fun b hb hx=>hb.elim (fun x=>hF b x (hx▸e.wg)) fun x=>(e.rs b x).1 (hx▸e.wg)
theorem TP.said (e:E.Good ty) (hs:n - E.base+1<2147483648) (hb:tg≠.blk) (hb':tg'≠.blk) (m:Mark) {g:Goroutine} (hm:BkM E.Wg (mk m)) {d1:Nat} (hd:deafBehind d0 #[mk m]=d1)
  (hmode:∀ (D:Nat→CD) st sm,ConcN.Mode n (wd D) tg st sm→ConcN.Mode n (wd D) tg' st sm)
  (h:∀ w,Keep E.R F w0 w→WgLive ty E.Wg w→∃ g',stepG P true g w=.go g' w #[mk m]∧g'.status=.running∧TP P ty E Post n d1 (some tg') N F g' w):TP P ty E Post n d0 (some tg) N F g w0:=by
 refine TP.lib e hs (fun h=>hb (Option.some.inj h)) fun D w hg hk hN hV=>?_;obtain⟨g',hgo,hr,hT⟩:=h w hk hg.live;obtain⟨st,sm,hw,hmd⟩:=hg;exact⟨g',w,_,some tg',N,by rw [xQ (fun h=>hb' (Option.some.inj h))];exact hgo,hr,fun x=>absurd (Option.some.inj x) hb',.refl _ _,⟨st,sm,hw⟩,by intro x hx;simp at hx;subst hx;exact hm,⟨st,sm,hw,hmode D st sm hmd⟩,hN,by rw [hd];exact hT⟩
theorem xC (hK:∀ g w,K g w→g.status=.running) {m:Nat} {g:Goroutine} {w:World} (h:Goes P true (RL ty E.Wg) DC0 K m g w):g.status=.running:=Goes.running hK w id h
theorem TP.add1 (e:E.Good ty) (hs:n - E.base+1<2147483648) {r:Nat} {gn:Goroutine} (hgn:gn.status=.running) (hF:∀ b,F b→¬E.Shun b) (hnext:∀ w1,Keep E.R F wS w1→TP P ty E Post n 0 (some (.sp r 2)) n F gn w1) :
  ∀ (m:Nat) (g:Goroutine) (w:World),Keep E.R F wS w→Goes P true (RL ty E.Wg) DC0 (AtD P ty E.Wg fun g _=>g=gn) m g w→TP P ty E Post n 0 (some (.sp r 5)) n F g w:=by
 have reopen:∀ (s s':Nat) (D:Nat→CD) st sm,ConcN.Mode n (wd D) (.sp r s) st sm→pend (.sp r s')=pend (.sp r s)→ConcN.Mode n (wd D) (.sp r s') st sm:=fun s s' D st sm h hp=>h.reopen trivial trivial hp (by simp);have hEn:∀ (m:Nat) (g:Goroutine) (w:World),Keep E.R F wS w→Goes P true (RL ty E.Wg) DC0 (AtE P ty E.Wg fun g _=>g=gn) m g w→TP P ty E Post n 1 (some (.sp r 3)) n F g w:=by
  refine TP.of_goes e hs (by simp) (fun g w h=>h.1) fun g w hk h=>?_;refine TP.said e hs (by simp) (by simp) .enable (.inl (.inr (.inl rfl))) rfl (fun D st sm hm=>reopen 3 2 D st sm hm rfl) fun w1 hk1 hl=>?_;obtain⟨_,g',hgo,m',hG⟩:=h w1 fun _=>hl;refine⟨g',hgo,xC (fun g w h=>by rw [h];exact hgn) hG,?_⟩;exact TP.of_goes e hs (by simp) (fun g w h=>by rw [h];exact hgn) (fun g w hk h=>by rw [h w id];exact hnext w hk) m' g' w1 (hk.trans hk1) hG
 refine TP.of_goes e hs (by simp) (fun g w h=>h.1) fun g w hk h=>?_;refine TP.said e hs (by simp) (by simp) .disable (.inl (.inl rfl)) (d1:=1) rfl (fun D st sm hm=>reopen 5 4 D st sm hm rfl) fun w1 hk1 hl=>?_;obtain⟨_,g',hgo,m',hG⟩:=h w1 fun _=>hl;refine⟨g',hgo,xC (fun g w h=>h.1) hG,?_⟩;refine TP.of_goes e hs (by simp) (fun g w h=>h.1) (fun g w hk h=>?_) m' g' w1 (hk.trans hk1) hG;refine Zr e hs (by simp) fun D gs w2 sl t hp hN=>.inr ?_;have hc:=hp.crew;obtain⟨st,sm,hw,hmd⟩:=hp.grp;obtain⟨ho,rfl,rfl,_⟩:=hmd.open_inv trivial;have hv:=hc.vc;have hbn:=hc.bn;obtain⟨_,hstep⟩:=h w2 fun _=>⟨_,_,hw⟩;obtain⟨g2,hgo2,hz,hnz⟩:=hstep (Vc n (wd D)) (by omega) (by simpa [pend] using hw);have hAs:=aside_setCell w2 (stA E.Wg) (.int .u64 ((((Vc n (wd D):Nat):Int)+1)*KK));have hw':=hw.setSt ((((Vc n (wd D):Nat):Int)+1)*KK);have hgrp:Grp ty E n (some (.sp r 3)) D (w2.setCell (stA E.Wg) (.int .u64 ((((Vc n (wd D):Nat):Int)+1)*KK))):=by
  refine⟨_,_,hw',?_⟩;have:=ConcN.Mode.opn (j:=n) (D:=wd D) (tag:=.sp r 3) trivial ho (by simp)
  simpa [pend] using this
 have hk2:Keep E.R F wS (w2.setCell (stA E.Wg) (.int .u64 ((((Vc n (wd D):Nat):Int)+1)*KK))):=(hk.trans hp.keep).trans (V8 e hF hAs);have hT:g2.status=.running∧TP P ty E Post n 1 (some (.sp r 3)) n F g2 (w2.setCell (stA E.Wg) (.int .u64 ((((Vc n (wd D):Nat):Int)+1)*KK))):=by
  by_cases h0:Vc n (wd D)=0
  ·obtain⟨m2,hG2⟩:=hz h0;refine⟨xC (fun g w h=>h.1) hG2,TP.of_goes e hs (by simp) (fun g w h=>h.1) (fun g w hk h=>?_) m2 g2 _ hk2 hG2⟩;refine TP.said e hs (by simp) (by simp) (.read (smA E.Wg)) (.inr ⟨_,rfl,.inl rfl⟩) rfl (fun D st sm hm=>hm) fun w1 hk1 hl=>?_;obtain⟨_,g',hgo,m',hG⟩:=h w1 fun _=>hl;exact⟨g',hgo,xC (fun g w h=>h.1) hG,hEn m' g' w1 (hk.trans hk1) hG⟩
  ·obtain⟨m2,hG2⟩:=hnz h0;exact⟨xC (fun g w h=>h.1) hG2,hEn m2 g2 _ hk2 hG2⟩
 have hbk:∀ x∈#[rd (stA E.Wg),wr (stA E.Wg)],BkM E.Wg x:=fun x hx=>.inl (bk_rw x hx);obtain⟨gs',ops,h1,h2⟩:=hp.step0 (sl:=sl) (tag':=some (.sp r 3)) (F':=F) e.toGood0 (by simp) (by rw [xQ (by simp)];exact hgo2) hT.1 (fun x=>by cases x) (fun k hk=>jr e hAs ⟨_,_,hw'⟩ fun b hb=>(hc.off k hk b hb).1) (jr (i:=n) e hAs ⟨_,_,hw'⟩ fun b hb=>hb.elim).z (Q3 e hbk) (Q4 e (by rw [hAs.size];exact hc.B0) hbk) (fun b hb=>.inl hb) hgrp;exact⟨_,_,h1,hT.2 D gs' _ sl _ h2 (Vc_le _ _)⟩
theorem wins_w3 (e : E.Good ty) (hs : n - E.base + 1 < 2147483648) {g : Goroutine} (h3 : ∀ w1, Keep E.R F wS w1 → WgLive ty E.Wg w1 → At3 P ty E.Wg K g w1) (hF : ∀ b, F b → ¬ E.Shun b)
    (h4 : ∀ m g' w1, Keep E.R F wS w1 → Goes P true (RL ty E.Wg) DC0 (At4 P ty E.Wg K) m g' w1 → TP P ty E Post n 1 (some .w4) n F g' w1) :
    ∀ D w0, Keep E.R F wS w0 → (∀ gs w sl t, PM P ty E n 1 (some .w3) F g w0 D gs w t → Wins P Post (crowd gs w sl) t) ∧ (∀ gs w sl t, PM P ty E n 1 (some .blk) F g w0 D gs w t → Wins P Post (crowd gs w sl) t) := by
  intro D
  induction jq.acc n D with
  | intro D _ ih =>
    have hblk : ∀ w0, Keep E.R F wS w0 → ∀ gs w sl t, PM P ty E n 1 (some .blk) F g w0 D gs w t → Wins P Post (crowd gs w sl) t := by
      intro w0 hk gs w sl t h
      have hc := h.crew
      have some1 : ∃ (i : Nat) (g : Goroutine), gs[i]? = some g ∧ g.status = .running := by
        obtain ⟨st, sm, _, hm⟩ := h.grp
        cases hm with
        | opn h1 _ _ => exact h1.elim
        | reg _ _ h3 =>
          obtain ⟨i, hi, h5⟩ := exists_counted h3
          obtain ⟨x, hx, hsx⟩ := hc.wk i hi
          exact ⟨i + 1, x, hx, hsx.runs (by have : 5 ≤ (D i).stage := h5; omega)⟩
        | last L _ h2 h3 _ =>
          obtain ⟨x, hx, hsx⟩ := hc.wk L h2
          exact ⟨L + 1, x, hx, hsx.runs (by have : (D L).stage = 4 ∨ (D L).stage = 3 ∨ (D L).stage = 2 := h3; omega)⟩
        | fin h1 _ => exact h1.elim
      obtain ⟨i, x, d, sl', hx, hrun, hstep⟩ := crowd_pick (P := P) (w := w) (sl := sl) h.awake some1
      cases i with
      | zero =>
        rw [h.zero] at hx
        cases hx
        simp [jv] at hrun
      | succ i =>
        have hi : i < n := by have := (Array.getElem?_eq_some_iff.1 hx).1; rw [hc.size] at this; omega
        obtain ⟨gs', w', ops, D', tag', h1, h2, h3, h4⟩ := (h.at e.toGood0 d).worker (sl := sl') e hs hi hx hrun
        refine Wins.next (hstep.trans h1) ?_
        rcases h4 with rfl | ⟨_, rfl⟩
        · exact (ih D' h2 w0 hk).2 gs' w' sl' _ h3
        · exact (ih D' h2 w0 hk).1 gs' w' sl' _ h3
    intro w0 hk
    refine ⟨fun gs w sl t h => ?_, hblk w0 hk⟩
    obtain ⟨i, x, d, sl', hx, hrun, hstep⟩ := crowd_pick (P := P) (w := w) (sl := sl) h.awake ⟨0, g, h.zero, h.run⟩
    have h' := h.at e.toGood0 d
    have hc := h'.crew
    cases i with
    | zero =>
      obtain ⟨st, sm, hw, hm⟩ := h'.grp
      obtain ⟨_, hno, hwait, hpass⟩ := h3 (w.at d) (hk.trans h'.keep) ⟨st, sm, hw⟩
      have blocks : sm = 0 → ConcN.Mode n (wd D) .blk st sm → Wins P Post (crowd gs w sl) t := by
        rintro rfl hm'
        obtain ⟨gs', ops, h1, h2⟩ := h'.step0 (sl := sl') (tag' := some .blk) (F' := F) (g' := g) (es := #[]) e.toGood0 (by simp) (hwait ⟨st, hw⟩) h.run (fun _ => hno) (fun k _ => .refl _) (RelW.refl (ty := ty) (i := n) _).z (by intro op hop; simp [Conc.ofEvents_eq] at hop) (by simp) (fun b hb => .inl hb) ⟨st, 0, hw, hm'⟩
        exact Wins.next (hstep.trans h1) (hblk _ (hk.trans h'.keep) gs' _ sl' _ h2)
      cases hm with
      | opn h1 _ _ => exact h1.elim
      | reg h1 h2 h3 => exact blocks rfl (.reg trivial h2 h3)
      | last L h1 h2 h3 h4 => exact blocks rfl (.last L trivial h2 h3 h4)
      | sema hall =>
        obtain ⟨g', hgo, m, hG⟩ := hpass hw
        have hAs := aside_setCell (w.at d) (smA E.Wg) (.int .u32 0)
        have hw' := hw.setSm 0
        have hbk : ∀ x ∈ semEvents (smA E.Wg), BkM E.Wg x := fun x hx => .inl (bk_sem x hx)
        obtain ⟨gs', ops, h1, h2⟩ := h'.step0 (sl := sl') (tag' := some .w4) (F' := F) e.toGood0 (by simp) (by rw [xQ (by simp)]; exact hgo) (xC (fun g w h => h.1) hG) (fun x => by cases x) (fun k hk => jr e hAs ⟨_, _, hw'⟩ fun b hb => (hc.off k hk b hb).1) (jr (i := n) e hAs ⟨_, _, hw'⟩ fun b hb => hb.elim).z (Q3 e hbk) (Q4 e (by rw [hAs.size]; exact hc.B0) hbk) (fun b hb => .inl hb) ⟨0, 0, hw', .fin trivial hall⟩
        have hT := h4 m g' _ ((hk.trans h'.keep).trans (V8 e hF hAs)) hG
        exact Wins.next (hstep.trans h1) (hT D gs' _ sl' _ h2 (Vc_le _ _))
      | fin h1 _ => exact h1.elim
    | succ i =>
      have hi : i < n := by have := (Array.getElem?_eq_some_iff.1 hx).1; rw [hc.size] at this; omega
      obtain ⟨gs', w', ops, D', tag', h1, h2, h3, h4⟩ := h'.worker (sl := sl') e hs hi hx hrun
      refine Wins.next (hstep.trans h1) ?_
      obtain rfl : tag' = some .w3 := h4.resolve_right fun x => by cases x.1
      exact (ih D' h2 w0 hk).1 gs' w' sl' _ h3
theorem TP.wait (e : E.Good ty) (hs : n - E.base + 1 < 2147483648) {r : Nat} (hF : ∀ b, F b → ¬ E.Shun b) (hAr : ∀ g w, A g w → g.status = .running)
    (hround : ∀ g w, A g w → ∃ m, Goes P true (RL ty E.Wg) DC0 (At1 P ty E.Wg A K) m g w)
    (hnext : ∀ g w, Keep E.R F wS w → (∀ w1, Keep E.R F w w1 → WgLive ty E.Wg w1 → AtQ P E.Wg K g w1) → TP P ty E Post n 0 (some .acq) n F g w) :
    ∀ (m : Nat) (g : Goroutine) (w : World), Keep E.R F wS w → Goes P true (RL ty E.Wg) DC0 (At0 P ty E.Wg A) m g w → TP P ty E Post n 0 (some (.sp r 5)) n F g w := by
  have hKe : ∀ (m : Nat) (g : Goroutine) (w : World), Keep E.R F wS w → Goes P true (RL ty E.Wg) DC0 (AtKe P ty E.Wg K) m g w → TP P ty E Post n 1 (some .ke) n F g w := by
    refine TP.of_goes e hs (by simp) (fun g w h => h.1) fun g w hk h => ?_
    refine TP.said (tg' := .acq) e hs (by simp) (by simp) .enable (.inl (.inr (.inl rfl))) rfl (fun D st sm hm => by obtain ⟨h1, rfl, rfl⟩ := hm.fin_inv trivial; exact .fin (tag := .acq) trivial h1) fun w1 hk1 hl => ?_
    obtain ⟨_, g', hgo, m', hG⟩ := h w1 fun _ => hl
    refine ⟨g', hgo, xC (fun g w h => h.1) hG, ?_⟩
    exact TP.of_goes e hs (by simp) (fun g w h => h.1) (fun g w hk h => hnext g w hk fun w1 _ hl => h w1 fun _ => hl) m' g' w1 (hk.trans hk1) hG
  have h4 : ∀ (m : Nat) (g : Goroutine) (w : World), Keep E.R F wS w → Goes P true (RL ty E.Wg) DC0 (At4 P ty E.Wg K) m g w → TP P ty E Post n 1 (some .w4) n F g w := by
    refine TP.of_goes e hs (by simp) (fun g w h => h.1) fun g w hk h => ?_
    refine TP.lib e hs (by simp) fun D w1 hg hk1 hN hV => ?_
    obtain ⟨_, h'⟩ := h w1 fun _ => hg.live
    obtain ⟨st, sm, hw, hm⟩ := hg
    obtain ⟨hall, rfl, rfl⟩ := hm.fin_inv trivial
    obtain ⟨g', hgo, m, hG⟩ := h' hw
    exact ⟨g', w1, _, some .ke, n, by rw [xQ (by simp)]; exact hgo, xC (fun g w h => h.1) hG, (fun x => by cases x), .refl _ _, ⟨_, _, hw⟩, fun x hx => .inl (bk_rd x hx), ⟨0, 0, hw, .fin trivial hall⟩, Vc_le _ _, hKe m g' w1 (hk.trans hk1) hG⟩
  have hA : ∀ N g w, Keep E.R F wS w → A g w → TP P ty E Post n 1 (some .anch) N F g w := by
    intro N
    induction N using Nat.strongRecOn with
    | _ N ih =>
      intro g w hk ha
      obtain ⟨m, hG⟩ := hround g w ha
      refine TP.of_goes e hs (by simp) (fun g w h => h.1) (fun g w hk h => ?_) m g w hk hG
      refine TP.lib e hs (by simp) fun D w1 hg hk1 hN hV => ?_
      obtain ⟨_, h'⟩ := h w1 fun _ => hg.live
      obtain ⟨st, sm, hw, hm⟩ := hg
      obtain ⟨ho, rfl, rfl, _⟩ := hm.open_inv trivial
      by_cases hbig : Vc n (wd D) < 2147483648
      · obtain ⟨g', hgo, h0, hne⟩ := h' (Vc n (wd D)) hbig (by simpa [pend] using hw)
        by_cases hv : Vc n (wd D) = 0
        · obtain ⟨m2, hG2⟩ := h0 hv
          refine ⟨g', w1, _, some .ke, n, by rw [xQ (by simp)]; exact hgo, xC (fun g w h => h.1) hG2, (fun x => by cases x), .refl _ _, ⟨_, _, hw⟩, fun x hx => .inl (bk_rd x hx), ⟨_, _, hw, ?_⟩, Vc_le _ _, hKe m2 g' w1 (hk.trans hk1) hG2⟩
          have e0 : ((Vc n (wd D) + pend .anch : Nat) : Int) * KK = 0 := by rw [hv]; simp [pend]
          rw [e0]
          exact .fin trivial (allQuit_of ho hv)
        · obtain ⟨m2, hG2⟩ := hne hv
          refine ⟨g', w1, _, some (.w2 (Vc n (wd D))), Vc n (wd D), by rw [xQ (by simp)]; exact hgo, xC (fun g w h => h.1) hG2, (fun x => by cases x), .refl _ _, ⟨_, _, hw⟩, fun x hx => .inl (bk_rd x hx), ⟨_, _, hw, hm.reopen trivial trivial rfl (fun vs ev => by cases ev; omega)⟩, Nat.le_refl _, ?_⟩
          generalize hvs : Vc n (wd D) = vs at hG2 hv hN hbig
          refine TP.of_goes e hs (by simp) (fun g w h => h.1) (fun g w hk h => ?_) m2 g' w1 (hk.trans hk1) hG2
          refine TP.lib e hs (by simp) fun D2 w2 hg2 hk2 hN2 hV2 => ?_
          obtain ⟨_, hc⟩ := h w2 fun _ => hg2.live
          obtain ⟨st, sm, hw2, hm2⟩ := hg2
          obtain ⟨ho2, rfl, rfl, hv2⟩ := hm2.open_inv trivial
          obtain ⟨hhit, hmiss⟩ := hc (Vc n (wd D2)) (by omega) (by simpa [pend] using hw2)
          by_cases he : Vc n (wd D2) = vs
          · obtain ⟨g3, hgo3, m3, hG3⟩ := hhit he
            have hAs := aside_setCell w2 (stA E.Wg) (.int .u64 (((Vc n (wd D2) : Nat) : Int) * KK + 1))
            have hw3 := hw2.setSt (((Vc n (wd D2) : Nat) : Int) * KK + 1)
            have hk3 : Keep E.R F wS (w2.setCell (stA E.Wg) (.int .u64 (((Vc n (wd D2) : Nat) : Int) * KK + 1))) := (hk.trans hk2).trans (V8 e hF hAs)
            refine ⟨g3, _, _, some .w3, n, by rw [xQ (by simp)]; exact hgo3, xC (fun g w h => h.1) hG3, (fun x => by cases x), hAs, ⟨_, _, hw3⟩, fun x hx => .inl (bk_rw x hx), ⟨_, _, hw3, .reg trivial ho2 (by omega)⟩, Vc_le _ _, ?_⟩
            refine TP.of_goes e hs (by simp) (fun g w h => h.1) (fun g w hk h => ?_) m3 g3 _ hk3 hG3
            refine TP.said e hs (by simp) (by simp) (.write (smA E.Wg)) (.inr ⟨_, rfl, .inr rfl⟩) rfl (fun D st sm hm => hm) fun w4 hk4 hl4 => ?_
            obtain ⟨_, g', hgo, m', hG⟩ := h w4 fun _ => hl4
            refine ⟨g', hgo, xC (fun g w h => h.1) hG, ?_⟩
            refine TP.of_goes e hs (by simp) (fun g w h => h.1) (fun g w hk h => ?_) m' g' w4 (hk.trans hk4) hG
            intro D5 gs5 w5 sl5 t5 hp5 _
            exact (wins_w3 (wS := w) e hs (fun w1 hk1 hl1 => h w1 fun _ => hl1) hF (fun m g' w1 hk1 hG => h4 m g' w1 (hk.trans hk1) hG) D5 w (.refl _ _ _)).1 gs5 w5 sl5 t5 hp5
          · obtain ⟨g3, hgo3, m3, hG3⟩ := hmiss he
            refine ⟨g3, w2, _, some .anch, Vc n (wd D2), by rw [xQ (by simp)]; exact hgo3, xC hAr hG3, (fun x => by cases x), .refl _ _, ⟨_, _, hw2⟩, fun x hx => .inl (bk_rd x hx), ⟨_, _, hw2, hm2.reopen trivial trivial rfl (by simp)⟩, Nat.le_refl _, ?_⟩
            exact TP.of_goes e hs (by simp) hAr (fun g w hk h => ih _ (by have := (hv2 vs rfl).1; omega) g w hk (h w id)) m3 g3 w2 (hk.trans hk2) hG3
      · exact absurd hV (by omega)
  refine TP.of_goes e hs (by simp) (fun g w h => h.1) fun g w hk h => ?_
  refine TP.said e hs (by simp) (by simp) .disable (.inl (.inl rfl)) (d1 := 1) (tg' := .anch) rfl (fun D st sm hm => hm.reopen trivial trivial rfl (by simp)) fun w1 hk1 hl => ?_
  obtain ⟨_, g', hgo, m', hG⟩ := h w1 fun _ => hl
  exact ⟨g', hgo, xC hAr hG, TP.of_goes e hs (by simp) hAr (fun g w hk h => hA n g w hk (h w id)) m' g' w1 (hk.trans hk1) hG⟩
theorem TP.live {g:Goroutine} (h:∀ w1,Keep E.R F w0 w1→WgLive ty E.Wg w1→E.B0≤w1.heap.size→TP P ty E Post n d0 (some tg) N F g w1):TP P ty E Post n d0 (some tg) N F g w0:=
 fun D gs w sl t hp hN=>h w hp.keep hp.grp.live hp.crew.B0 D gs w sl t ⟨hp.run,hp.zero,hp.none_,.refl _ _ _,hp.crew,hp.low,hp.off,hp.apart,hp.grp⟩ hN
theorem TP.offs {g:Goroutine} (h:(∀ b,F b→¬E.Shun b∧¬E.X b)→TP P ty E Post n d0 (some tg) N F g w0):TP P ty E Post n d0 (some tg) N F g w0:=
 fun D gs w sl t hp hN=>h hp.off D gs w sl t hp hN
end
end Go.Ab
namespace Go.Ab
open Go.Conc
section
variable {P:Program} {main:Bool} {b:Frame} {a:Act} {k:List Item} {cs:List Frame} {w:World}
def bot (P:Program):Frame:={ (default:Frame) with fn:=P.funcs.size,defers:=[],mode:=.panicking [goexitEntry] }
def cl (f:FuncId) (caps:Array Value):Deferred:={ target:=.fn (.func f) caps,args:=#[] }
theorem za0 {f:FuncId} {fn:Func} {c:Code} {caps:Array Value} (hf:P.funcs[f]?=some fn) (hname:(fn.name == "runtime.NumGoroutine")=false) (hb:fn.body=some c) :
  stepG P main (born P (cl f caps)) w=.go (G ((baseD f).at { tmps:=caps++Array.replicate (fn.ntmps - caps.size) undef,defers:=[] } [.code c]) [bot P]) w #[]:=by
 have h1:¬fn.name="runtime.NumGoroutine":=by simpa using hname
 rw [←enter_atD caps hf hb]
 simp [born,G,stepG,unwind,callDeferred,bot,cl,invoke,callFunc,hf,h1,hb,GStep.after,seen_none]
theorem Q5 {ops:Array Oper} {i:Nat} {rest:List Nat} {o:Oper} {x:Operand} {f:FuncId} {caps:Array Value} {ats:Array TypeId} (ho:ops[i]?=some o) (hw:Region.wanted o (yielded ops a.tmps)=true) (hk:b.kind≠.early)
  (hop:o.op=.defer { callee:=.value x,args:=#[],argTypes:=ats }) (hx:a.eval x=.func (.func f) #[] caps) :
  stepG P main (G (b.at a (.inRegion ops (i::rest)::k)) cs) w=.go (G (b.at (Act.put ⟨a.tmps,cl f caps::a.defers⟩ o.dst undef) (.inRegion ops rest::k)) cs) w #[]:=by
 have hr:(execOp a.eval o).run P w=.ok (.defer (cl f caps)) w:=by
  unfold execOp
  simp [hop,resolve,Deferred.ofValue,hx,cl]
 have he:(execOp a.eval o).events P w #[]=#[]:=by
  unfold execOp
  simp [hop,resolve,Deferred.ofValue,hx]
 have hfin:(b.at ⟨a.tmps,cl f caps::a.defers⟩ (.inRegion ops (i::rest)::k)).finish undef=b.at (Act.put ⟨a.tmps,cl f caps::a.defers⟩ o.dst undef) (.inRegion ops rest::k):=by rw [Frame.finish_at,ho];rfl
 have hk':(b.kind == CallKind.early)=false:=by simpa using hk
 rw [stepG_oper ho hw,←hfin]
 simp [stepG.apply,hr,he,G,Frame.at,hk',GStep.after,seen_none]
theorem J4 {ops:Array Oper} {i:Nat} {rest:List Nat} {o:Oper} {x:Operand} {f:FuncId} {fn:Func} {c:Code} {caps:Array Value} {ats:Array TypeId} (ho:ops[i]?=some o) (hw:Region.wanted o (yielded ops a.tmps)=true) (hk:b.kind≠.early)
  (hop:o.op=.call { callee:=.value x,args:=#[],argTypes:=ats }) (hx:a.eval x=.func (.func f) #[] caps) (hf:P.funcs[f]?=some fn) (hname:(fn.name == "runtime.NumGoroutine")=false) (hb:fn.body=some c) :
  stepG P main (G (b.at a (.inRegion ops (i::rest)::k)) cs) w=.go (G ((base f).at { tmps:=caps++Array.replicate (fn.ntmps - caps.size) undef,defers:=[] } [.code c]) (b.at a (.inRegion ops (i::rest)::k)::cs)) w #[]:=by
 have h1:¬fn.name="runtime.NumGoroutine":=by simpa using hname
 have hr:(execOp a.eval o).run P w=.ok (.enter f caps) w:=by
  unfold execOp
  simp [hop,resolve,Deferred.ofValue,hx,invoke,callFunc,hf,h1,hb]
 have he:(execOp a.eval o).events P w #[]=#[]:=by
  unfold execOp
  simp [hop,resolve,Deferred.ofValue,hx,invoke,callFunc,hf,h1,hb]
 rw [stepG_enter ho hw hk hr,enter_at _ hf hb];unfold listed;rw [he,seen_none]
theorem qC {ops:Array Oper} {i:Nat} {rest:List Nat} {o:Oper} {f:FuncId} {fn:Func} {c:Code} {args:Array Operand} {ats:Array TypeId} (ho:ops[i]?=some o) (hw:Region.wanted o (yielded ops a.tmps)=true) (hk:b.kind≠.early)
  (hop:o.op=.call { callee:=.value (.func f),args,argTypes:=ats }) (hf:P.funcs[f]?=some fn) (hname:(fn.name == "runtime.NumGoroutine")=false) (hb:fn.body=some c) :
  stepG P main (G (b.at a (.inRegion ops (i::rest)::k)) cs) w=.go (G ((base f).at { tmps:=args.map a.eval++Array.replicate (fn.ntmps - (args.map a.eval).size) undef,defers:=[] } [.code c]) (b.at a (.inRegion ops (i::rest)::k)::cs)) w #[]:=by
 have hb':fn.body.isNone=false:=by rw [hb];rfl
 rw [stepG_enter ho hw hk (run_call_body hop hf hname hb'),enter_at _ hf hb];unfold listed;rw [events_call_body hop hf hname hb',seen_none]
theorem zcb {ops:Array Oper} {i:Nat} {rest:List Nat} {o:Oper} {x:Operand} {f:FuncId} {caps:Array Value} {ats:Array TypeId} (ho:ops[i]?=some o) (hw:Region.wanted o (yielded ops a.tmps)=true) (hk:b.kind≠.early)
  (hop:o.op=.go { callee:=.value x,args:=#[],argTypes:=ats }) (hx:a.eval x=.func (.func f) #[] caps) :
  stepG P main (G (b.at a (.inRegion ops (i::rest)::k)) cs) w=.spawn (G (b.at (a.put o.dst undef) (.inRegion ops rest::k)) cs) (born P (cl f caps)) w #[]:=by
 have hr:(execOp a.eval o).run P w=.ok (.spawn (cl f caps)) w:=by
  unfold execOp
  simp [hop,resolve,Deferred.ofValue,hx,cl]
 have he:(execOp a.eval o).events P w #[]=#[]:=by
  unfold execOp
  simp [hop,resolve,Deferred.ofValue,hx]
 rw [stepG_spawn ho hw hk hr rfl];unfold listed;rw [he,seen_none]
theorem Qd {todo:List Item} {ds:List Deferred} {f:FuncId} {fn:Func} {c:Code} {caps:Array Value} (hd:a.defers=cl f caps::ds) (hf:P.funcs[f]?=some fn) (hname:(fn.name == "runtime.NumGoroutine")=false) (hb:fn.body=some c) :
  stepG P main (G { b.at a todo with mode:=.returning } cs) w =
   .go (G ((baseD f).at { tmps:=caps++Array.replicate (fn.ntmps - caps.size) undef,defers:=[] } [.code c]) ({ b.at ⟨a.tmps,ds⟩ todo with mode:=.returning }::cs)) w #[]:=by
 have h1:¬fn.name="runtime.NumGoroutine":=by simpa using hname
 rw [←enter_atD caps hf hb]
 simp [G,stepG,unwind,callDeferred,Frame.at,hd,cl,invoke,callFunc,hf,h1,hb,GStep.after,seen_none]
theorem Qe {f:FuncId} {ops:Array Oper} {i:Nat} {rest:List Nat} {o:Oper} {c:Frame} {ats:Array TypeId} (ho:ops[i]?=some o) (hw:Region.wanted o (yielded ops a.tmps)=true)
  (hop:o.op=.call { callee:=.builtin .recover,args:=#[],argTypes:=ats }) (hc:c.mode=.returning) :
  stepG P main (G ((baseD f).at a (.inRegion ops (i::rest)::k)) (c::cs)) w=.go (G ((baseD f).at (a.put o.dst .nilIface) (.inRegion ops rest::k)) (c::cs)) w #[]:=by
 have hr:(execOp a.eval o).run P w=.ok .recover w:=by
  unfold execOp
  simp [hop,resolve,invoke,builtin,go_sem]
 have he:(execOp a.eval o).events P w #[]=#[]:=by
  unfold execOp
  simp [hop,resolve,invoke,builtin,go_sem]
 have hfin:((baseD f).at a (.inRegion ops (i::rest)::k)).finish .nilIface=(baseD f).at (a.put o.dst .nilIface) (.inRegion ops rest::k):=by rw [Frame.finish_at,ho];rfl
 rw [stepG_oper ho hw,←hfin]
 simp [stepG.apply,hr,he,G,Frame.at,baseD,GStep.after,seen_none,tryRecover,hc]
theorem zcc {f:FuncId} {fn:Func} {T:Array Value} {todo:List Item} (hf:P.funcs[f]?=some fn) (hr:fn.results=#[]):QuitsD P 2 0 (G { (baseD f).at ⟨T,[]⟩ todo with mode:=.returning } [bot P]):=by
 refine QuitsD.ctl (g':=G (bot P) []) rfl (fun w=>?_) ?_
 ·simp [G,stepG,unwind,doReturn,results,Frame.at,baseD,bot,hf,hr,seen,GStep.after,goexitEntry]
 refine QuitsD.ctl (g':={ G (bot P) [] with status:=.finished }) rfl (fun w=>?_) ⟨rfl,rfl⟩
 simp [G,stepG,unwind,bot,goexitEntry,Frame.catches]
 rfl
end
end Go.Ab
namespace Go.Ab
open Go.Conc
def Vals (β:Emb) (s:Nat→TV) (a:Act):Prop:=∀ t,TVR β (s t) (a.tmps.getD t undef)
theorem Vals.mono {β β':Emb} {s:Nat→TV} {a:Act} (h:Le β β') (k:Vals β s a):Vals β' s a:=fun t=>TVR.mono h (k t)
theorem Vals.put {β : Emb} {s : Nat → TV} {a : Act} {v : TV} {u : Value} (k : Vals β s a) (h : TVR β v u) : ∀ {d : Option Tmp}, (∀ t, d = some t → t < a.tmps.size) → Vals β (aput s d v) (a.put d u)
  | none, _ => k
  | some d, hd => fun t => by
    rw [jK a d u t (hd d rfl)]
    show TVR β (if t = d then v else s t) _
    split
    · exact h
    · exact k t
theorem Vals.eval {β:Emb} {s:Nat→TV} {a:Act} (k:Vals β s a) (x:Operand):TVR β (zK s x) (a.eval x):=by
 cases x with
 | tmp t=>exact k t
 | const c=>exact Z6 β c
 | global g=>trivial
 | func f=>exact⟨[],rfl,trivial⟩
section
variable {P:Program} [Cls P] {T:Cont} {b:Frame} {k:List Item} {cs:List Frame} {ops:Array Oper} {i:Nat} {rest:List Nat} {o:Oper} {s:Nat→TV} {a:Act} {β:Emb} {H H':Heap} {w:World} {v:TV}
theorem uV (hT:Cls.ok P T) (hst:zM P (zK s) o.op H=some (v,H')) (hs:SRI P β H w) (hv:Vals β s a) (ho:ops[i]?=some o) (hg:o.guard=none) (hd:∀ t,o.dst=some t→t<a.tmps.size) (hb:b.kind≠.early)
  (h:∀ β' u w',Le β β'→SRI P β' H' w'→TVR β' v u→Vals β' (aput s o.dst v) (a.put o.dst u)→FrC β H w β' H' w'→T (Live β' H') (G (b.at (a.put o.dst u) (.inRegion ops rest::k)) cs) w') :
  T (Live β H) (G (b.at a (.inRegion ops (i::rest)::k)) cs) w:=
 jg hst T hT β a w hs (fun x _=>hv.eval x) b ops i rest k cs ho (by simp [Region.wanted,hg]) hb fun β' u w' h1 h2 h3 h4=>h β' u w' h1 h2 h3 ((hv.mono h1).put h3 hd) h4
theorem V9 (hT:Cls.ok P T) {t:TypeId} {x:Operand} {id off:Nat} {c:AV} (hop:o.op=.load t x) (hx:zK s x=.v (.ptr id off)) (h1:tagg P t=some false) (h2:wN H id off=some c) (hs:SRI P β H w) (hv:Vals β s a) (ho:ops[i]?=some o) (hg:o.guard=none) (hd:∀ t,o.dst=some t→t<a.tmps.size) (hb:b.kind≠.early)
  (h:∀ β' u w',Le β β'→SRI P β' H w'→TVR β' (.v c) u→Vals β' (aput s o.dst (.v c)) (a.put o.dst u)→FrC β H w β' H w'→T (Live β' H) (G (b.at (a.put o.dst u) (.inRegion ops rest::k)) cs) w') :
  T (Live β H) (G (b.at a (.inRegion ops (i::rest)::k)) cs) w:=
 uV hT (by rw [hop];simp [zM,hx,h1,h2]) hs hv ho hg hd hb h
theorem T_leave (hT:Cls.ok P T) {fn:Func} {N:Nat} {todo:List Item} {c:Frame} {r:TV} (hk:b.kind=.normal) (hf:P.funcs[b.fn]?=some fn) (ha:AR β s a N) (hs:SRI P β H w) (hr:vg P fn s H=some r)
  (h:∀ rv w1,w.heap.size≤w1.heap.size→SRI P β H w1→TVR β r rv→T (Live β H) (G (c.finish rv) cs) w1):T (Live β H) (G { b.at a todo with mode:=.returning } (c::cs)) w:=by
 refine Cls.closed T hT _ _ _ rfl fun w1 hk1=>?_;have h3':=hs.keep hk1;obtain⟨rv,hrv,hrr⟩:=uC ha h3'.sr hr;obtain⟨rv',hrv',_⟩:=uC ha (h3'.sr.bare h3'.inn.tabs) hr;refine⟨_,_,_,_,Xl hk ha.defers hf hrv,rfl,?_,h rv w1 hk1.size h3' hrr⟩;exact Does.of h3'.inn h3'.sr (Fr.refl _ _ _) fun e he=>jN (YM fn a.tmps) h3'.sr h3'.inn.tabs hrv ⟨_,_,hrv'⟩ e (mem_seen he)
theorem qO {f:FuncId} {fn:Func} {c:Code} {args:List TV} {us:List Value} (hf:P.funcs[f]?=some fn) (hb:fn.body=some c) (hn:args.length≤fn.ntmps) (hargs:All2 (TVR β) args us) :
  AR β (init args) { tmps:=us.toArray++Array.replicate (fn.ntmps - us.toArray.size) undef,defers:=[] } fn.ntmps:=by
 have hlen:us.length=args.length:=hargs.len.symm;refine⟨by simp;omega,fun t=>?_,rfl⟩;unfold init;rcases Nat.lt_or_ge t us.length with ht|ht
 ·obtain⟨x,hx⟩:∃ x,args[t]?=some x:=⟨args[t]'(by omega),by simp⟩;obtain⟨u,hu,hxu⟩:=hargs.get t x hx;have e1:args.getD t (.v .und)=x:=by simp [List.getD_eq_getElem?_getD,hx]
  have e2:(us.toArray++Array.replicate (fn.ntmps - us.toArray.size) undef).getD t undef=u:=by
   simp [Array.getD_eq_getD_getElem?,Array.getElem?_append_left,ht] at hu ⊢
   exact hu
  show TVR β _ _;rw [e1,e2];exact hxu
 ·have e1:args.getD t (.v .und)=.v .und:=by simp [List.getD_eq_getElem?_getD,List.getElem?_eq_none (show args.length≤t by omega)]
  have e2:(us.toArray++Array.replicate (fn.ntmps - us.toArray.size) undef).getD t undef=undef:=by
   simp only [Array.getD_eq_getD_getElem?];rw [Array.getElem?_append_right (by simpa using ht)];simp only [Array.getElem?_replicate]
   split<;>rfl
  show TVR β _ _;rw [e1,e2];rfl
def Blk.frz:Bool→Blk→Blk
 | _,.hole=>.hole
 | false,.own cs=>.ro cs
 | false,.ro cs=>.ro cs
 | _,_=>.gone
def Heap.frz (D:Nat→Bool) (H:Heap):Heap:=⟨H.n,fun i=>(H.f i).frz (D i)⟩
theorem Ua (D:Nat→Bool) (H:Heap) (i:Nat):((H.frz D).f i).isOwn=false:=by
 show ((H.f i).frz (D i)).isOwn=false
 cases H.f i<;>cases D i<;>rfl
theorem SR.frz {D:Nat→Bool} (h:SR β H w):SR β (H.frz D) w:=by
 refine⟨h.dom,fun i hi hh=>h.tot i hi fun e=>hh ?_,fun i l e=>?_,fun i j li lj hne hi hj ho=>by rw [Ua] at ho;cases ho⟩
 ·show (H.f i).frz (D i)=.hole;rw [e];cases D i<;>rfl
 ·have hr:=h.row i l e;show RowR β w l ((H.f i).frz (D i))
  cases hb:H.f i<;>cases hd:D i<;>rw [hb] at hr<;>first
   | trivial
   | exact hr
   | (obtain⟨ccs,e,fz,h1,h2,_⟩:=hr;exact⟨ccs,e,fz,h1,h2⟩)
theorem zd0 {D:Nat→Bool} {c:Nat} (hs:SR β H w) (h:Live β (H.frz D) c):∃ i l,β i=some l∧D i=false∧(H.f i).isGone=false∧l.blk=c:=by
 obtain⟨i,l,e,hg,hl⟩:=h;have hr:=hs.row i l e;refine⟨i,l,e,?_,?_,hl⟩
 ·change ((H.f i).frz (D i)).isGone=false at hg
  cases hb:H.f i<;>cases hd:D i<;>rw [hb,hd] at hg<;>first|rfl|(rw [hb] at hr;exact (hr:False).elim)|(simp [Blk.frz,Blk.isGone] at hg)
 ·change ((H.f i).frz (D i)).isGone=false at hg
  cases hb:H.f i<;>cases hd:D i<;>rw [hb,hd] at hg<;>first|rfl|(cases hg)
def Blk.kill:Bool→Blk→Blk
 | _,.hole=>.hole
 | true,_=>.gone
 | false,b=>b
def Heap.kill (D:Nat→Bool) (H:Heap):Heap:=⟨H.n,fun i=>(H.f i).kill (D i)⟩
theorem UO {D:Nat→Bool} {i:Nat} (h:D i=false):(H.kill D).f i=H.f i:=by
 show (H.f i).kill (D i)=H.f i;rw [h];cases H.f i<;>rfl
theorem Q6 {D:Nat→Bool} {i:Nat} (h:((H.kill D).f i).isOwn=true):D i=false∧(H.f i).isOwn=true:=by
 change ((H.f i).kill (D i)).isOwn=true at h
 cases hb:H.f i<;>cases hd:D i<;>rw [hb,hd] at h<;>first|exact⟨rfl,h⟩|(simp [Blk.kill,Blk.isOwn] at h)
theorem Xt {D:Nat→Bool} {i:Nat} {l:Loc} (hs:SR β H w) (e:β i=some l) (h:((H.kill D).f i).isGone=false):D i=false∧(H.f i).isGone=false:=by
 have hr:=hs.row i l e
 change ((H.f i).kill (D i)).isGone=false at h
 cases hb:H.f i<;>cases hd:D i<;>rw [hb,hd] at h<;>first|exact⟨rfl,h⟩|(rw [hb] at hr;exact (hr:False).elim)|(simp [Blk.kill,Blk.isGone] at h)
theorem SR.kill {D:Nat→Bool} (h:SR β H w):SR β (H.kill D) w:=by
 refine⟨h.dom,fun i hi hh=>h.tot i hi fun e=>hh ?_,fun i l e=>?_,fun i j li lj hne hi hj ho hg=>?_⟩
 ·show (H.f i).kill (D i)=.hole;rw [e];cases D i<;>rfl
 ·have hr:=h.row i l e;show RowR β w l ((H.f i).kill (D i))
  cases hb:H.f i<;>cases hd:D i<;>rw [hb] at hr<;>first|trivial|exact hr
 ·exact h.apart i j li lj hne hi hj (Q6 ho).2 (Xt h hj hg).2
theorem SRI.kill {D:Nat→Bool} (h:SRI P β H w):SRI P β (H.kill D) w:=
 ⟨h.sr.kill,fun b ⟨i,l,e,ho,hl⟩=>h.inn.own b ⟨i,l,e,(Q6 ho).2,hl⟩,fun i b o hx=>h.inn.tabs i b o (by
  change (H.f i).kill (D i)=.tab b o at hx
  cases hb:H.f i<;>cases hd:D i<;>rw [hb,hd] at hx<;>first|exact hx|(simp [Blk.kill] at hx)),h.inn.low⟩
theorem UQ {D:Nat→Bool} {c:Nat} (hs:SR β H w) (h:Live β (H.kill D) c):∃ i l,β i=some l∧D i=false∧(H.f i).isGone=false∧l.blk=c:=by
 obtain⟨i,l,e,hg,hl⟩:=h;exact⟨i,l,e,(Xt hs e hg).1,(Xt hs e hg).2,hl⟩
end
end Go.Ab
namespace Go.Ab
open Go.Conc
def OpW (T T':Cont) (b:Frame) (k:List Item) (cs:List Frame) (ops:Array Oper) (i:Nat) (K:Emb→Heap→Act→World→Prop) (β:Emb) (H:Heap) (a:Act) (w:World):Prop:=
 ∀ rest,(∀ β' H' a' w',K β' H' a' w'→T' (Live β' H') (G (b.at a' (.inRegion ops rest::k)) cs) w')→T (Live β H) (G (b.at a (.inRegion ops (i::rest)::k)) cs) w
variable {ι:Type}
def AnyW (T:Nat→ι→Cont) (b:Frame) (k:List Item) (cs:List Frame) (ops:Array Oper):Nat→Nat→ι→Array Bool→Emb→Heap→Act→World→Prop
 | 0,m,x,E,β,H,a,w=>Region.ready .any ops E=[]∧QT (T m x) b k cs β H a w
 | n+1,m,x,E,β,H,a,w=>(Region.ready .any ops E=[]→QT (T m x) b k cs β H a w)∧∀ i∈Region.ready .any ops E,∃ m' x',OpW (T m x) (T m' x') b k cs ops i (AnyW T b k cs ops n m' x' (E.setIfInBounds i true)) β H a w
theorem za1 {P : Program} [Cls P] {T : Nat → ι → Cont} (hT : ∀ m x, Cls.ok P (T m x)) {b : Frame} {k : List Item} {cs : List Frame} {ops : Array Oper} :
    ∀ (fuel m : Nat) (x : ι) (t : Nat) (E : Array Bool) (β : Emb) (H : Heap) (a : Act) (w : World), AnyW T b k cs ops fuel m x E β H a w → T m x (Live β H) (G (b.at a (.inRegion ops (Region.linearise.go .any ops fuel t E []) :: k)) cs) w := by
  intro fuel
  induction fuel with
  | zero => intro m x t E β H a w h; simpa [Region.linearise.go] using VU (hT m x) _ _ _ _ h.2
  | succ fuel ih =>
    intro m y t E β H a w h
    obtain ⟨h₀, h₁⟩ := h
    simp only [Region.linearise.go]
    change T m y (Live β H) (G (b.at a (.inRegion ops (match (Region.ready .any ops E)[t % (Region.ready .any ops E).length]? with
      | some i => Region.linearise.go .any ops fuel (t / (Region.ready .any ops E).length) (E.setIfInBounds i true) [i]
      | none => [].reverse) :: k)) cs) w
    cases hi : (Region.ready .any ops E)[t % (Region.ready .any ops E).length]? with
    | none =>
      have hnil : Region.ready .any ops E = [] := by
        cases hr : Region.ready .any ops E with
        | nil => rfl
        | cons x xs =>
          rw [hr] at hi
          have hlt : t % (x :: xs).length < (x :: xs).length := Nat.mod_lt _ (by simp)
          simp at hi
          simp at hlt
          omega
      simpa using VU (hT m y) _ _ _ _ (h₀ hnil)
    | some i =>
      simp only []
      rw [linearise_go_acc, List.reverse_singleton, List.singleton_append]
      obtain ⟨m', x', h₂⟩ := h₁ i (List.mem_of_getElem? hi)
      exact h₂ _ fun β' H' a' w' hk => ih _ _ _ _ _ _ _ _ hk
theorem za2 {P:Program} [Cls P] (hm:P.follows .mixedOrders=true) {T:Nat→ι→Cont} (hT:∀ m x,Cls.ok P (T m x)) {b:Frame} {k:List Item} {cs:List Frame} {ops:Array Oper} {id:Nat} {β:Emb} {H:Heap} {a:Act} {w:World} {x:ι} (hs:SRI P β H w)
  (h:∀ w',w.heap.size≤w'.heap.size→SRI P β H w'→AnyW T b k cs ops ops.size 0 x (Array.replicate ops.size false) β H a w'):T 0 x (Live β H) (G (b.at a (.code (.region id ops true)::k)) cs) w:=by
 refine Cls.closed (T 0 x) (hT 0 x) _ _ _ rfl fun w1 hk=>⟨_,_,_,Live β H,WX,rfl,Does.drew _,?_⟩;simp only [Region.schedule,hm,Bool.true_or,if_true];exact za1 hT ops.size 0 x _ _ _ _ _ _ (h _ hk.size ((hs.keep hk).draw _))
section
variable {P:Program} [Cls P] {F:List Nat} {T:Nat→ι→Cont} {b:Frame} {k:List Item} {cs:List Frame} {ops:Array Oper} {N:Nat} {S:Nat→Nat→TV} {Hs:Nat→Heap} {V:Nat→TV} {mem:Nat→Act→ι→ι} {Gd:Nat→Emb→ι→Prop}
def Moves (P : Program) [Cls P] (T : Nat → ι → Cont) (b : Frame) (k : List Item) (cs : List Frame) (ops : Array Oper) (N : Nat) (S : Nat → Nat → TV) (Hs : Nat → Heap) (V : Nat → TV) (mem : Nat → Act → ι → ι) (Gd : Nat → Emb → ι → Prop) (j : Nat) (o : Oper) : Prop :=
  ∀ (x : ι) β a w, Gd j β x → SRI P β (Hs j) w → a.tmps.size = N → a.defers = [] → (∀ t ∈ named ops.toList o, TVR β (S j t) (a.tmps.getD t undef)) → ∀ K : Emb → Heap → Act → World → Prop,
    (∀ β' u w', Le β β' → SRI P β' (Hs (j + 1)) w' → TVR β' (V j) u → FrC β (Hs j) w β' (Hs (j + 1)) w' → K β' (Hs (j + 1)) (a.put o.dst u) w') → Gd (j + 1) β (mem j a x) ∧ OpW (T j x) (T (j + 1) (mem j a x)) b k cs ops j K β (Hs j) a w
structure TraceW (P:Program) [Cls P] (F:List Nat) (T:Nat→ι→Cont) (b:Frame) (k:List Item) (cs:List Frame) (ops:Array Oper) (N:Nat) (S:Nat→Nat→TV) (Hs:Nat→Heap) (V:Nat→TV) (mem:Nat→Act→ι→ι) (Gd:Nat→Emb→ι→Prop):Prop where
 mono:∀ j β β' x,Le β β'→Gd j β x→Gd j β' x
 step:∀ j o,ops.toList[j]?=some o→(T (j+1)=T j∧(∀ a x,mem j a x=x)∧(∀ β x,Gd j β x→Gd (j+1) β x)∧StepR P ops.toList (S j) (Hs j) o (V j) (Hs (j+1)))∨Moves P T b k cs ops N S Hs V mem Gd j o
 next:∀ j o,ops.toList[j]?=some o→S (j+1)=aput (S j) o.dst (V j)
 quiet:∀ j o,ops.toList[j]?=some o→(Hs (j+1)=Hs j∧T (j+1)=T j∧(∀ a x,mem j a x=x)∧∀ β x,Gd (j+1) β x↔Gd j β x)∨yz ops.toList F j=true
 pure:∀ j o,ops.toList[j]?=some o→vK ops.toList F j=true→∀ m,m≤ops.size→StepR P ops.toList (S j) (Hs m) o (V j) (Hs m)
theorem zcd (ht:TraceW P F T b k cs ops N S Hs V mem Gd) (hd:∀ o∈ops.toList,∀ d,o.dst=some d→d<N) {i:Nat} {o:Oper} (ho:ops[i]?=some o)
  {β:Emb} {a:Act} {w:World} (hs:SRI P β (Hs i) w) (hsz:a.tmps.size=N) (hdf:a.defers=[]) (hv:∀ t∈named ops.toList o,TVR β (S i t) (a.tmps.getD t undef)) {x:ι} (hx:Gd i β x)
  (hT:∀ m x,Cls.ok P (T m x)) (hb:b.kind≠.early) {K:Emb→Heap→Act→World→Prop} (hK:∀ β' u w',Le β β'→SRI P β' (Hs (i+1)) w'→TVR β' (V i) u→FrC β (Hs i) w β' (Hs (i+1)) w'→Gd (i+1) β' (mem i a x)→K β' (Hs (i+1)) (a.put o.dst u) w') :
  OpW (T i x) (T (i+1) (mem i a x)) b k cs ops i K β (Hs i) a w:=by
 rcases ht.step i o (by simpa using ho) with⟨h1,h2,h3,h4⟩|h
 ·rw [h1,h2];exact jL hd ho h4 hs hsz hdf hv (hT i x) hb fun β' u w' k1 k2 k3 k4=>hK β' u w' k1 k2 k3 k4 (by rw [h2];exact ht.mono _ _ _ _ k1 (h3 β x hx))
 ·have hg:Gd (i+1) β (mem i a x):=(h x β a w hx hs hsz hdf hv (fun _ _ _ _=>True) (fun _ _ _ _ _ _ _=>trivial)).1;exact (h x β a w hx hs hsz hdf hv K fun β' u w' k1 k2 k3 k4=>hK β' u w' k1 k2 k3 k4 (ht.mono _ _ _ _ k1 hg)).2
theorem kg (ht : TraceW P F T b k cs ops N S Hs V mem Gd) (t : Tmp) : ∀ i, i ≤ ops.size → S i t = look ops.toList V (S 0 t) (fun j => decide (j < i)) t i
  | 0, _ => rfl
  | i + 1, h => by
    have ho : ops.toList[i]? = some ops[i] := by simp
    rw [ht.next i ops[i] ho]
    have ih := kg ht t i (by omega)
    have e : look ops.toList V (S 0 t) (fun j => decide (j < i + 1)) t i = look ops.toList V (S 0 t) (fun j => decide (j < i)) t i :=
      yV i fun j hj _ => by simp; omega
    simp only [look, ho, Option.bind_some]
    rw [e, ← ih]
    cases hd : (ops[i]).dst with
    | none => simp [aput]
    | some d =>
      simp only [aput, upd]
      by_cases hdt : t = d
      · subst hdt; simp
      · rw [if_neg hdt, if_neg (by simp; exact fun e => hdt e.symm)]
theorem Zi (ht : TraceW P F T b k cs ops N S Hs V mem Gd) : ∀ (d i : Nat), i + d ≤ ops.size → (∀ j, i ≤ j → j < i + d → yz ops.toList F j = false) → Hs (i + d) = Hs i ∧ T (i + d) = T i ∧ ∀ β x, Gd (i + d) β x ↔ Gd i β x
  | 0, i, _, _ => ⟨rfl, rfl, fun _ _ => Iff.rfl⟩
  | d + 1, i, h, hb => by
    have hlt : i + d < ops.size := by omega
    have := ht.quiet (i + d) ops[i + d] (by simp [hlt])
    rw [show i + (d + 1) = i + d + 1 by omega]
    rcases this with h1 | h1
    · have h4 := Zi ht d i (by omega) fun j h2 h3 => hb j h2 (by omega)
      exact ⟨h1.1.trans h4.1, h1.2.1.trans h4.2.1, fun β x => (h1.2.2.2 β x).trans (h4.2.2 β x)⟩
    · rw [hb (i + d) (by omega) (by omega)] at h1
      cases h1
theorem MidF.rowsW {β0:Emb} {w0:World} {E:Array Bool} {a:Act} {w:World} {β:Emb} {m:Nat} (ht:TraceW P F T b k cs ops N S Hs V mem Gd) (hok:xM ops.toList=true) (h:MidF P F ops N S Hs V β0 w0 E a w β m) {i:Nat}
  (hi:i∈Region.ready .any ops E) (hpi:vK ops.toList F i=false):(Hs m=Hs i∧T m=T i∧∀ β x,Gd m β x↔Gd i β x)∧(∀ j,j<ops.size→yz ops.toList F j=true→(j<m↔j<i)):=by
 obtain⟨hlt,he,hbits⟩:=h.ready hok hi;have hEi:E.getD i false=false:=by rw [xS (by rw [h.esize];exact hlt) false true];exact he
 have hlen:ops.toList.length=ops.size:=by simp
 have key:∀ j,j<ops.size→yz ops.toList F j=true→(j<m↔j<i):=by
  intro j hj hb;rw [←h.bar j hj hb];constructor
  ·intro hE;rcases Nat.lt_trichotomy j i with h1|h1|h1
   ·exact h1
   ·subst h1;rw [hEi] at hE;cases hE
   ·have:=(YE hb (j:=i) (by omega) hpi).1 h1;rw [h.closed j hj hE i this] at hEi
    cases hEi
  ·intro h1;exact hbits j ((YE hb (j:=i) (by omega) hpi).2 h1)
 refine⟨?_,key⟩;rcases Nat.le_total m i with h1|h1
 ·have:=Zi ht (i - m) m (by omega) fun j h2 h3=>by
   cases hb:yz ops.toList F j with
   | false=>rfl
   | true=>have:=key j (by omega) hb;omega
  rw [show m+(i - m)=i by omega] at this;exact⟨this.1.symm,this.2.1.symm,fun β x=>(this.2.2 β x).symm⟩
 ·have:=Zi ht (m - i) i (by have:=h.mle;omega) fun j h2 h3=>by
   cases hb:yz ops.toList F j with
   | false=>rfl
   | true=>have:=key j (by have:=h.mle;omega) hb;omega
  rw [show i+(m - i)=m by omega] at this;exact this
theorem MidF.namesW {β0:Emb} {w0:World} {E:Array Bool} {a:Act} {w:World} {β:Emb} {m:Nat} (ht:TraceW P F T b k cs ops N S Hs V mem Gd) (hok:xM ops.toList=true) (h:MidF P F ops N S Hs V β0 w0 E a w β m) {i:Nat} {o:Oper}
  (hi:i∈Region.ready .any ops E) (ho:ops[i]?=some o) {t:Tmp} (htn:t∈named ops.toList o):∀ j,j<ops.size→(ops.toList[j]?).bind (·.dst)=some t→(E.getD j false=true↔j<i):=by
 obtain⟨hlt,he,hbits⟩:=h.ready hok hi;have hEi:E.getD i false=false:=by rw [xS (by rw [h.esize];exact hlt) false true];exact he
 intro j hj hjd;have hoj:ops.toList[j]?=some ops[j]:=by simp [hj]
 rw [hoj] at hjd;simp only [Option.bind_some] at hjd;have hcl:=YD (i:=i) (j:=j) (by simpa using ho) hoj htn hjd;have hlen:ops.toList.length=ops.size:=by simp
 constructor
 ·intro hE;rcases Nat.lt_trichotomy j i with h1|h1|h1
  ·exact h1
  ·subst h1;rw [hEi] at hE;cases hE
  ·have:=uJ hok h1 (by omega) hcl.1;rw [h.closed j hj hE i this] at hEi
   cases hEi
 ·intro h1;exact hbits j (uJ hok h1 (by omega) hcl.2)
theorem J5 (ht : TraceW P F T b k cs ops N S Hs V mem Gd) (hok : xM ops.toList = true) (hd : ∀ o ∈ ops.toList, ∀ d, o.dst = some d → d < N) (hT : ∀ m x, Cls.ok P (T m x)) (hb : b.kind ≠ .early) {β0 : Emb} {w0 : World}
    (hQ : ∀ β' a' w' x, Gd ops.size β' x → Le β0 β' → AR β' (S ops.size) a' N → SRI P β' (Hs ops.size) w' → FrC β0 (Hs 0) w0 β' (Hs ops.size) w' → QT (T ops.size x) b k cs β' (Hs ops.size) a' w') :
    ∀ (fuel : Nat) (E : Array Bool) (a : Act) (w : World) (β : Emb) (m : Nat), unl E ops.size = fuel → ∀ x, Gd m β x → MidF P F ops N S Hs V β0 w0 E a w β m → AnyW T b k cs ops fuel m x E β (Hs m) a w := by
  have hlen : ops.toList.length = ops.size := by simp
  have finish : ∀ (E : Array Bool) (a : Act) (w : World) (β : Emb) (m : Nat), ∀ x, Gd m β x → MidF P F ops N S Hs V β0 w0 E a w β m → (∀ j, j < ops.size → E.getD j true = true) → QT (T m x) b k cs β (Hs m) a w := by
    intro E a w β m x hgx h hall
    have hallf : ∀ j, j < ops.size → E.getD j false = true := fun j hj => by rw [xS (by rw [h.esize]; exact hj) false true]; exact hall j hj
    have hrows : Hs m = Hs ops.size ∧ T m = T ops.size ∧ ∀ β x, Gd m β x ↔ Gd ops.size β x := by
      have := Zi ht (ops.size - m) m (by have := h.mle; omega) fun j h2 h3 => by
        cases hb : yz ops.toList F j with
        | false => rfl
        | true => have := (h.bar j (by omega) hb).1 (hallf j (by omega)); omega
      rw [show m + (ops.size - m) = ops.size by have := h.mle; omega] at this
      exact ⟨this.1.symm, this.2.1.symm, fun β x => (this.2.2 β x).symm⟩
    have hsr := h.sr
    have hfr := h.fr
    rw [hrows.1] at hsr hfr ⊢
    rw [hrows.2.1]
    refine hQ β a w x ((hrows.2.2 β x).1 hgx) h.le ⟨h.size, fun t => ?_, h.defers⟩ hsr hfr
    rw [kg ht t ops.size (Nat.le_refl _)]
    rw [yV (E' := fun j => E.getD j false) ops.size fun j hj _ => by simp [hj, hallf j hj]]
    exact h.val t
  have ready_nil : ∀ (E : Array Bool) (a : Act) (w : World) (β : Emb) (m : Nat), MidF P F ops N S Hs V β0 w0 E a w β m → Region.ready .any ops E = [] → ∀ j, j < ops.size → E.getD j true = true := by
    intro E a w β m h hnil j
    induction j using Nat.strongRecOn with
    | _ j ih =>
      intro hj
      cases hE : E.getD j true with
      | true => rfl
      | false =>
        have : j ∈ Region.ready .any ops E := by
          refine mem_ready.2 ⟨hE, ops[j], by simp [hj], fun e he hb => ?_⟩
          have hlt : e.on < j := by
            have hok' := hok
            unfold xM at hok'
            rw [Bool.and_eq_true] at hok'
            have := List.all_eq_true.1 hok'.1 j (List.mem_range.2 (by omega))
            rw [show ops.toList[j]? = some ops[j] by simp [hj]] at this
            have := List.all_eq_true.1 this e (by simpa using he)
            rw [hb] at this
            simpa using this
          have := ih e.on hlt (by omega)
          rw [xS (by rw [h.esize]; omega) false true]
          exact this
        rw [hnil] at this
        cases this
  intro fuel
  induction fuel with
  | zero =>
    intro E a w β m hu x hgx h
    have hall := ZC E ops.size hu
    refine ⟨?_, finish E a w β m x hgx h hall⟩
    cases hr : Region.ready .any ops E with
    | nil => rfl
    | cons i r =>
      have hi : i ∈ Region.ready .any ops E := by rw [hr]; simp
      obtain ⟨h1, h2, _⟩ := h.ready hok hi
      rw [hall i h1] at h2
      cases h2
  | succ fuel ih =>
    intro E a w β m hu x hgx h
    refine ⟨fun hnil => finish E a w β m x hgx h (ready_nil E a w β m h hnil), fun i hi => ?_⟩
    obtain ⟨hlt, he, hbits⟩ := h.ready hok hi
    have hisz : i < E.size := by rw [h.esize]; exact hlt
    have hEi : E.getD i false = false := by rw [xS hisz false true]; exact he
    have ho : ops[i]? = some ops[i] := by simp [hlt]
    have hoL : ops.toList[i]? = some ops[i] := by simp [hlt]
    have hval : ∀ t ∈ named ops.toList ops[i], TVR β (S i t) (a.tmps.getD t undef) := by
      intro t htn
      rw [kg ht t i (by omega), ← wu i ops.size (by omega)]
      rw [yV (E' := fun j => E.getD j false) ops.size fun j hj hjd => by
        have := h.namesW ht hok hi ho htn j hj hjd
        cases hE : E.getD j false with
        | true => simp [this.1 hE]
        | false => simp; exact Nat.le_of_not_lt fun hlt' => by rw [this.2 hlt'] at hE; cases hE]
      exact h.val t
    have hu' : unl (E.setIfInBounds i true) ops.size = fuel := by
      have := Yc E i hisz he ops.size
      rw [if_pos hlt] at this
      omega
    have hset : ∀ j, j ≠ i → (E.setIfInBounds i true).getD j false = E.getD j false := fun j hj => getD_set_ne' false (Ne.symm hj)
    have hseti : (E.setIfInBounds i true).getD i false = true := uP false hisz
    have hsize' : ∀ u, (a.put ops[i].dst u).tmps.size = N := fun u => by
      cases ops[i].dst <;> simp [Act.put, h.size]
    have hdef' : ∀ u, (a.put ops[i].dst u).defers = [] := fun u => by
      cases ops[i].dst <;> exact h.defers
    have hvals : ∀ (β' : Emb) (u : Value), Le β β' → TVR β' (V i) u → ∀ t, TVR β' (look ops.toList V (S 0 t) (fun j => (E.setIfInBounds i true).getD j false) t ops.size) ((a.put ops[i].dst u).tmps.getD t undef) := by
      intro β' u h1 h3
      intro t
      cases hdst : ops[i].dst with
      | none =>
        show TVR β' _ (a.tmps.getD t undef)
        rw [yV (E' := fun j => E.getD j false) ops.size fun j hj hjd => by
          by_cases hji : j = i
          · subst hji; rw [hoL] at hjd; simp [hdst] at hjd
          · exact hset j hji]
        exact TVR.mono h1 (h.val t)
      | some d =>
        rw [jK a d u t (by rw [h.size]; exact hd ops[i] (by simp) d hdst)]
        by_cases htd : t = d
        · rw [if_pos htd]
          subst htd
          have htn : t ∈ named ops.toList ops[i] := by
            unfold named
            simp [hdst]
          have e1 : look ops.toList V (S 0 t) (fun j => (E.setIfInBounds i true).getD j false) t ops.size = look ops.toList V (S 0 t) (fun j => decide (j < i + 1)) t ops.size := by
            refine yV ops.size fun j hj hjd => ?_
            by_cases hji : j = i
            · subst hji; rw [hseti]; simp
            · rw [hset j hji]
              have := h.namesW ht hok hi ho htn j hj hjd
              cases hE : E.getD j false with
              | true => have := this.1 hE; simp; omega
              | false =>
                simp
                have : ¬ j < i := fun hlt' => by rw [this.2 hlt'] at hE; cases hE
                omega
          rw [e1, wu (i + 1) ops.size (by omega), ← kg ht t (i + 1) (by omega), ht.next i ops[i] hoL, hdst]
          show TVR β' (if t = t then V i else S i t) u
          rw [if_pos rfl]
          exact h3
        · rw [if_neg htd]
          rw [yV (E' := fun j => E.getD j false) ops.size fun j hj hjd => by
            by_cases hji : j = i
            · subst hji; rw [hoL] at hjd; simp [hdst] at hjd; exact absurd hjd.symm htd
            · exact hset j hji]
          exact TVR.mono h1 (h.val t)
    have hclosed' : ∀ j, j < ops.size → (E.setIfInBounds i true).getD j false = true → ∀ k, (maskAt ops.toList j).testBit k = true → (E.setIfInBounds i true).getD k false = true := by
      intro j hj hEj k hk
      by_cases hki : k = i
      · subst hki; exact hseti
      · rw [hset k hki]
        by_cases hji : j = i
        · subst hji; exact hbits k hk
        · rw [hset j hji] at hEj
          exact h.closed j hj hEj k hk
    cases hpi : vK ops.toList F i with
    | true =>
      have hst := ht.pure i ops[i] hoL hpi m h.mle
      refine ⟨m, x, jL hd ho hst h.sr h.size h.defers hval (hT m x) hb fun β' u w' h1 h2 h3 h4 => ?_⟩
      refine ih _ _ _ β' m hu' x (ht.mono _ _ _ _ h1 hgx) ⟨h.le.trans h1, h2, h.fr.trans h4, hsize' u, hdef' u, hvals β' u h1 h3, by simp [h.esize], h.mle, h.mb, fun j hj hbj => ?_, hclosed'⟩
      by_cases hji : j = i
      · subst hji; rw [UG hbj] at hpi; cases hpi
      · rw [hset j hji]
        exact h.bar j hj hbj
    | false =>
    obtain ⟨hrows, hbar⟩ := h.rowsW ht hok hi hpi
    have hsr := h.sr
    have hfr := h.fr
    rw [hrows.1] at hsr hfr ⊢
    have hxi := (hrows.2.2 β x).1 hgx
    rw [hrows.2.1]
    refine ⟨if yz ops.toList F i = true then i + 1 else m, mem i a x, ?_⟩
    have hTi : T (if yz ops.toList F i = true then i + 1 else m) = T (i + 1) := by
      split
      · rfl
      · rename_i hb
        rw [hrows.2.1]
        exact ((ht.quiet i ops[i] hoL).resolve_right hb).2.1.symm
    rw [hTi]
    refine zcd ht hd ho hsr h.size h.defers hval hxi hT hb fun β' u w' h1 h2 h3 h4 h5x => ?_
    have hval' := hvals β' u h1 h3
    have hcase : (yz ops.toList F i = true ∧ True) ∨ (yz ops.toList F i = false ∧ Hs (i + 1) = Hs i) := by
      cases hb : yz ops.toList F i with
      | true => exact .inl ⟨rfl, trivial⟩
      | false =>
        right
        refine ⟨rfl, ?_⟩
        rcases ht.quiet i ops[i] hoL with h5 | h5
        · exact h5.1
        · rw [hb] at h5; cases h5
    rcases hcase with ⟨hb, _⟩ | ⟨hb, hsame⟩
    · rw [if_pos hb]
      refine ih _ _ _ β' (i + 1) hu' _ h5x ⟨h.le.trans h1, h2, hfr.trans h4, hsize' u, hdef' u, hval', by simp [h.esize], by omega, .inr (by simpa using hb), fun j hj hbj => ?_, hclosed'⟩
      by_cases hji : j = i
      · subst hji; rw [hseti]; simp
      · rw [hset j hji, h.bar j hj hbj, hbar j hj hbj]
        omega
    · rw [if_neg (by rw [hb]; decide)]
      rw [hsame] at h2 h4 ⊢
      rw [← hrows.1]
      refine ih _ _ _ β' m hu' _ ((hrows.2.2 β' _).2 (((((ht.quiet i ops[i] hoL).resolve_right (by rw [hb]; decide)).2.2.2 β' _).1 h5x))) ⟨h.le.trans h1, by rw [hrows.1]; exact h2, by rw [hrows.1]; exact hfr.trans h4, hsize' u, hdef' u, hval', by simp [h.esize], h.mle, h.mb, fun j hj hbj => ?_, hclosed'⟩
      by_cases hji : j = i
      · subst hji; rw [hb] at hbj; cases hbj
      · rw [hset j hji]
        exact h.bar j hj hbj
end
end Go.Ab
namespace Go.Ab
open Go.Conc
section
variable {P:Program} [Cls P] {ι:Type} {T:Nat→ι→Cont} {b:Frame} {k:List Item} {cs:List Frame} {ops:Array Oper} {N:Nat} {mem:Nat→Act→ι→ι} {Gd:Nat→Emb→ι→Prop} {F:List Nat} {𝓗:Heap→Prop}
def Yh (P : Program) [Cls P] {ι : Type} (T T' : ι → Cont) (b : Frame) (k : List Item) (cs : List Frame) (ops : Array Oper) (N : Nat) (mem : Act → ι → ι) (G G' : Emb → ι → Prop) (s : Nat → TV) (H : Heap) (v : TV) (H' : Heap) (j : Nat) (o : Oper) : Prop :=
  ∀ x β a w, G β x → SRI P β H w → a.tmps.size = N → a.defers = [] → (∀ t ∈ named ops.toList o, TVR β (s t) (a.tmps.getD t undef)) → ∀ K : Emb → Heap → Act → World → Prop,
    (∀ β' u w', Le β β' → SRI P β' H' w' → TVR β' v u → FrC β H w β' H' w' → K β' H' (a.put o.dst u) w') → G' β (mem a x) ∧ OpW (T x) (T' (mem a x)) b k cs ops j K β H a w
def wopW (P : Program) [Cls P] {ι : Type} (T : Nat → ι → Cont) (b : Frame) (k : List Item) (cs : List Frame) (ops : Array Oper) (N : Nat) (mem : Nat → Act → ι → ι) (Gd : Nat → Emb → ι → Prop) (F : List Nat) (𝓗 : Heap → Prop) : List Oper → Nat → (Nat → TV) → Heap → ((Nat → TV) → Heap → Prop) → Prop
  | [], _, s, H, K => 𝓗 H ∧ K s H
  | o :: r, i, s, H, K => 𝓗 H ∧ (
    (o.guard = none ∧ T (i + 1) = T i ∧ (∀ a x, mem i a x = x) ∧ (∀ β x, Gd (i + 1) β x ↔ Gd i β x) ∧ F.contains i = false ∧ wop P (zK s) o.op H fun v H' => (H' = H ∨ yz ops.toList F i = true) ∧ wopW P T b k cs ops N mem Gd F 𝓗 r (i + 1) (aput s o.dst v) H' K) ∨
    (T (i + 1) = T i ∧ (∀ a x, mem i a x = x) ∧ (∀ β x, Gd (i + 1) β x ↔ Gd i β x) ∧ ∃ v, (∀ H', 𝓗 H' → StepR P ops.toList s H' o v H') ∧ wopW P T b k cs ops N mem Gd F 𝓗 r (i + 1) (aput s o.dst v) H K) ∨
    (vU o.op = false ∧ F.contains i = false ∧ yz ops.toList F i = true ∧ ∃ v H', Yh P (T i) (T (i + 1)) b k cs ops N (mem i) (Gd i) (Gd (i + 1)) s H v H' i o ∧ wopW P T b k cs ops N mem Gd F 𝓗 r (i + 1) (aput s o.dst v) H' K))
structure TraceL (P:Program) [Cls P] {ι:Type} (T:Nat→ι→Cont) (b:Frame) (k:List Item) (cs:List Frame) (ops:Array Oper) (N:Nat) (mem:Nat→Act→ι→ι) (Gd:Nat→Emb→ι→Prop) (F:List Nat) (𝓗:Heap→Prop) (l:List Oper) (i:Nat) (S:Nat→Nat→TV) (Hs:Nat→Heap) (V:Nat→TV):Prop where
 step:∀ j o,l[j]?=some o→(T (i+j+1)=T (i+j)∧(∀ a x,mem (i+j) a x=x)∧(∀ β x,Gd (i+j) β x→Gd (i+j+1) β x)∧StepR P ops.toList (S j) (Hs j) o (V j) (Hs (j+1))) ∨
  Yh P (T (i+j)) (T (i+j+1)) b k cs ops N (mem (i+j)) (Gd (i+j)) (Gd (i+j+1)) (S j) (Hs j) (V j) (Hs (j+1)) (i+j) o
 next:∀ j o,l[j]?=some o→S (j+1)=aput (S j) o.dst (V j)
 quiet:∀ j o,l[j]?=some o→(Hs (j+1)=Hs j∧T (i+j+1)=T (i+j)∧(∀ a x,mem (i+j) a x=x)∧∀ β x,Gd (i+j+1) β x↔Gd (i+j) β x)∨yz ops.toList F (i+j)=true
 pure:∀ j o,l[j]?=some o→vU o.op=true∨F.contains (i+j)=true→∀ H2,𝓗 H2→StepR P ops.toList (S j) H2 o (V j) H2
 hp:∀ j,j≤l.length→𝓗 (Hs j)
theorem Vr {K : (Nat → TV) → Heap → Prop} : ∀ (l : List Oper) (i : Nat) (s : Nat → TV) (H : Heap), wopW P T b k cs ops N mem Gd F 𝓗 l i s H K →
    ∃ S Hs V, S 0 = s ∧ Hs 0 = H ∧ TraceL P T b k cs ops N mem Gd F 𝓗 l i S Hs V ∧ K (S l.length) (Hs l.length)
  | [], i, s, H, h => ⟨fun _ => s, fun _ => H, fun _ => .v .und, rfl, rfl, ⟨fun j o e => by simp at e, fun j o e => by simp at e, fun j o e => by simp at e, fun j o e => by simp at e, fun _ _ => h.1⟩, h.2⟩
  | o :: r, i, s, H, h => by
    have glue : ∀ v H', ((T (i + 1) = T i ∧ (∀ a x, mem i a x = x) ∧ (∀ β x, Gd i β x → Gd (i + 1) β x) ∧ StepR P ops.toList s H o v H') ∨ Yh P (T i) (T (i + 1)) b k cs ops N (mem i) (Gd i) (Gd (i + 1)) s H v H' i o) →
        ((H' = H ∧ T (i + 1) = T i ∧ (∀ a x, mem i a x = x) ∧ ∀ β x, Gd (i + 1) β x ↔ Gd i β x) ∨ yz ops.toList F i = true) → (vU o.op = true ∨ F.contains i = true → ∀ H2, 𝓗 H2 → StepR P ops.toList s H2 o v H2) →
        wopW P T b k cs ops N mem Gd F 𝓗 r (i + 1) (aput s o.dst v) H' K → ∃ S Hs V, S 0 = s ∧ Hs 0 = H ∧ TraceL P T b k cs ops N mem Gd F 𝓗 (o :: r) i S Hs V ∧ K (S (o :: r).length) (Hs (o :: r).length) := by
      intro v H' hst hq hp hr
      obtain ⟨S, Hs, V, h1, h2, h3, h4⟩ := Vr r (i + 1) _ _ hr
      subst h2
      refine ⟨fun n => match n with | 0 => s | n + 1 => S n, fun n => match n with | 0 => H | n + 1 => Hs n, fun n => match n with | 0 => v | n + 1 => V n, rfl, rfl, ⟨fun j o' e => ?_, fun j o' e => ?_, fun j o' e => ?_, fun j o' e hpo => ?_, fun j hj => ?_⟩, by simpa using h4⟩
      · cases j with
        | zero => simp at e; subst e; exact hst
        | succ j => have := h3.step j o' (by simpa using e); rw [show i + 1 + j = i + (j + 1) by omega] at this; exact this
      · cases j with
        | zero => simp at e; subst e; exact h1
        | succ j => exact h3.next j o' (by simpa using e)
      · cases j with
        | zero => exact hq
        | succ j => have := h3.quiet j o' (by simpa using e); rw [show i + 1 + j = i + (j + 1) by omega] at this; exact this
      · cases j with
        | zero => simp at e; subst e; exact hp hpo
        | succ j => rw [show i + (j + 1) = i + 1 + j by omega] at hpo; exact h3.pure j o' (by simpa using e) hpo
      · cases j with
        | zero => exact h.1
        | succ j => exact h3.hp j (by simpa using hj)
    have h' := h
    rw [wopW] at h'
    rcases h'.2 with ⟨hg, hT, hm, hG, hF, h⟩ | ⟨hT, hm, hG, v, hst, h⟩ | ⟨hp, hF, hb, v, H', hmv, h⟩
    · cases hp : vU o.op with
      | false =>
        obtain ⟨v, H', h1, h2, h3⟩ := kC h
        exact glue v H' (.inl ⟨hT, hm, fun β x hx => (hG β x).2 hx, .plain (.inl hg) h1⟩) (h2.imp (fun e => ⟨e, hT, hm, hG⟩) id) (fun h => by rw [hp, hF] at h; rcases h with h | h <;> cases h) h3
      | true =>
        obtain ⟨v, h1, h2, h3⟩ := ZB hp h
        exact glue v H (.inl ⟨hT, hm, fun β x hx => (hG β x).2 hx, .plain (.inl hg) (h1 H)⟩) (.inl ⟨rfl, hT, hm, hG⟩) (fun _ H2 _ => .plain (.inl hg) (h1 H2)) h3
    · exact glue v H (.inl ⟨hT, hm, fun β x hx => (hG β x).2 hx, hst H h'.1⟩) (.inl ⟨rfl, hT, hm, hG⟩) (fun _ H2 h2 => hst H2 h2) h
    · exact glue v H' (.inr hmv) (.inr hb) (fun h => by rw [hp, hF] at h; rcases h with h | h <;> cases h) h
theorem zd1 (hm:P.follows .mixedOrders=true) (hok:xM ops.toList=true) (hd:∀ o∈ops.toList,∀ d,o.dst=some d→d<N) (hT:∀ m x,Cls.ok P (T m x)) (hb:b.kind≠.early) (hmono:∀ j β β' x,Le β β'→Gd j β x→Gd j β' x)
  {id:Nat} {s:Nat→TV} {H:Heap} {K:(Nat→TV)→Heap→Prop} (h:wopW P T b k cs ops N mem Gd F 𝓗 ops.toList 0 s H K) {β:Emb} {a:Act} {w:World} {x:ι} (hx:Gd 0 β x) (ha:AR β s a N) (hs:SRI P β H w)
  (hQ:∀ β' s' H' a' w' x',K s' H'→Gd ops.size β' x'→Le β β'→AR β' s' a' N→SRI P β' H' w'→FrC β H w β' H' w'→T ops.size x' (Live β' H') (G (b.at a' k) cs) w'):T 0 x (Live β H) (G (b.at a (.code (.region id ops true)::k)) cs) w:=by
 obtain⟨S,Hs,V,rfl,rfl,ht,hK⟩:=Vr _ _ _ _ h;rw [show ops.toList.length=ops.size by simp] at hK;have ht':TraceW P F T b k cs ops N S Hs V mem Gd:=⟨hmono,fun j o e=>by have:=ht.step j o e;rw [Nat.zero_add] at this;exact this,ht.next,fun j o e=>by have:=ht.quiet j o e;rw [Nat.zero_add] at this;exact this,fun j o e hf m hm=>ht.pure j o e (by
  unfold vK jh at hf;rw [e] at hf
  simpa using hf) _ (ht.hp m (by simpa using hm))⟩
 refine za2 hm hT hs fun wd hsz hsd=>?_;refine J5 ht' hok hd hT hb (β0:=β) (w0:=w) (fun β' a' w' x' hx' h1 h2 h3 h4=>hQ β' _ _ a' w' x' hK hx' h1 h2 h3 h4) ops.size (Array.replicate ops.size false) a wd β 0 (uQ _ _ (Nat.le_refl _)) x hx
  ⟨Le.refl β,hsd,FrC.grew hsz,ha.size,ha.defers,fun t=>?_,by simp,Nat.zero_le _,.inl rfl,fun j hj _=>?_,fun j hj hE=>?_⟩
 ·rw [yV (E':=fun j=>decide (j<0)) ops.size fun j hj _=>by simp [Array.getD_eq_getD_getElem?,hj]];rw [wu 0 ops.size (Nat.zero_le _)];exact ha.val t
 ·simp [Array.getD_eq_getD_getElem?,hj]
 ·simp [Array.getD_eq_getD_getElem?,hj] at hE
end
end Go.Ab
namespace Go.Ab
open Go.Conc Go.ConcN
open Go.ConcR (WgAt stA smA Payload DC0)
theorem za3 {P:Program} {w:World} {o:Oper} {ρ:Operand→Value} {t:TypeId} {x y:Operand} {b off:Nat} {cs:Array Value} {ty:TypeId} {fz:Nat × Nat} (hop:o.op=.store t x y) (hx:ρ x=.pointer (some ⟨b,off,none⟩)) (hy:(∃ a l c,ρ y=.slice a l c)∨∃ t,ρ y=.bool t) (hsz:tsz P t=some 1)
  (hc:w.heap[b]?=some (.cells cs ty fz)) (hlt:off<cs.size) (hnf:NF fz cs.size) :
  (execOp ρ o).run P w=.ok .skip (w.setCell ⟨b,off,none⟩ (ρ y))∧(execOp ρ o).events P w #[]=#[⟨.cell ⟨b,off,none⟩,true,false⟩]:=by
 have hf:w.frozen? ⟨b,off,none⟩=false:=by
  have:=hnf.not off hlt
  simp [World.frozen?,hc];omega
 have hcl:w.cell? ⟨b,off,none⟩=some cs[off]:=by simp [World.cell?,hc,hlt]
 have hsr:∀ w,(sizeOf t).run P w=.ok 1 w:=fun w=>wm hsz;rcases hy with⟨a,l,c,h⟩|⟨t,h⟩<;>constructor<;>simp [execOp,hop,Instr.storeAt,hx,Instr.sureAddr,storeVar,h,hsr,storeCells,hf,hcl,go_sem]<;>(rw [events_store _ _ _ _ _ _ rfl];simp [hcl,hf])
section
variable {P:Program} {ty:TypeId} {E:Env} [Payload] {i:Nat}
theorem Wn (e:E.Good ty) {ι:Type} {X X':ι→World→Prop} (hX:∀ x,jP ty E i (X x)) {b:Frame} {k:List Item} {cs:List Frame} {ops:Array Oper} {N:Nat} {Gp Gp':Emb→ι→Prop} {f:Value→ι→ι} {s:Nat→TV} {H:Heap} {j:Nat} {o:Oper} {t:TypeId} {x y:Operand} {id off bk of':Nat} {vy:AV}
  (hnr:(P.funcs[b.fn]?).any (·.norace)=false) (hbk:b.kind≠.early) (hoj:ops[j]?=some o) (hg:o.guard=none) (hop:o.op=.store t x y) (hd:o.dst=none) (hsz:tsz P t=some 1) (hx:zK s x=.v (.ptr id off)) (hy:zK s y=.v vy) (hnx:∀ tm,x=.tmp tm→tm∈named ops.toList o) (hny:∀ tm,y=.tmp tm→tm∈named ops.toList o) (hcx:∃ tm,x=.tmp tm) (hcy:∃ tm,y=.tmp tm)
  (hsv:∀ β u,VR β vy u→(∃ a l c,u=.slice a l c)∨∃ t,u=.bool t)
  (hid:∀ β l x,Gp β x→β id=some l→l.blk=bk∧l.base+off=of') (hm:E.Mine i bk of') (hlt:of'<E.xn bk) (hnf:NF (E.xt bk).2 (E.xn bk))
  (hXs:∀ x w,X x w→∃ cs,w.heap[bk]?=some (.cells cs (E.xt bk).1 (E.xt bk).2)∧cs.size=E.xn bk) (hXX:∀ x w u,X x w→X' (f u x) (w.setCell ⟨bk,of',none⟩ u)) (hGG:∀ β x u,Gp β x→VR β vy u→Gp' β (f u x)) :
  @Yh P (clsW P ty E i) ι (fun x=>TW P ty E i (X x)) (fun x=>TW P ty E i (X' x)) b k cs ops N (fun a x=>f (a.eval y) x) Gp Gp' s H (.v .und) H j o:=by
 letI:Cls P:=clsW P ty E i
 intro z β a w hG hs hN hdf hv K hK;obtain⟨tx,rfl⟩:=hcx;obtain⟨tyy,rfl⟩:=hcy;have hvx:=hv tx (hnx tx rfl);have hvy:=hv tyy (hny tyy rfl);rw [show s tx=.v (.ptr id off) from hx] at hvx;rw [show s tyy=.v vy from hy] at hvy;obtain⟨l,hl,hpx⟩:=hvx;obtain⟨h1,h2⟩:=hid β l z hG hl;have hpx':a.eval (.tmp tx)=.pointer (some ⟨bk,of',none⟩):=by show a.tmps.getD tx undef=_;rw [hpx,ptrV,h1,h2]
 have hbX:=(e.mine i bk of' hm).1;refine⟨hGG β z _ hG hvy,fun rest hrest=>?_⟩;refine TW.offs fun hoff=>?_;refine TW.store (g':=G (b.at (a.put o.dst undef) (.inRegion ops rest::k)) cs) (v:=a.eval (.tmp tyy)) (X':=X' (f (a.eval (.tmp tyy)) z)) e (hX z) rfl rfl hm fun w1 hk hx1=>?_;obtain⟨ccs,hc,hcs⟩:=hXs z w1 hx1;obtain⟨hr,hev⟩:=za3 (P:=P) (ρ:=a.eval) hop hpx' (hsv β _ hvy) hsz hc (by rw [hcs];exact hlt) (by rw [hcs];exact hnf);have hw:Region.wanted o (yielded ops a.tmps)=true:=by simp [Region.wanted,hg]
 have hs1:=hs.keep hk;refine⟨ccs,_,hc,by rw [hcs];exact hlt,?_,hXX z w1 _ hx1,?_⟩
 ·rw [stepG_none hoj hw hbk hr];unfold listed;rw [hev]
  congr 1
  simp [seen_def,seenStep,hnr]
 ·have hAs:=aside_setCell w1 ⟨bk,of',none⟩ (a.eval (.tmp tyy));have hk2:Keep E.R (Live β H) w1 (w1.setCell ⟨bk,of',none⟩ (a.eval (.tmp tyy))):=ql hAs fun c hc' hx'=>by
   have hx'':c=bk:=hx';subst hx'';rcases hc' with hc'|hc'
   ·exact (hoff c hc').1.2 hbX
   ·exact (e.rs c hc').2.1 hbX
  exact hrest β H _ _ (hK β undef _ (Le.refl β) (hs1.keep hk2) rfl (FrC.grew (by rw [hAs.size];exact hk.size)))
end
section
variable {P:Program} [Cls P] {ι:Type} {T:Nat→ι→Cont} {b:Frame} {k:List Item} {cs:List Frame} {ops:Array Oper} {N:Nat} {mem:Nat→Act→ι→ι} {Gd:Nat→Emb→ι→Prop} {F:List Nat} {𝓗:Heap→Prop} {o:Oper} {r:List Oper} {i:Nat} {s:Nat→TV} {H:Heap} {K:(Nat→TV)→Heap→Prop}
theorem jQ (h𝓗:𝓗 H) (hg:o.guard=none) (hT:T (i+1)=T i) (hm:∀ a x,mem i a x=x) (hG:∀ β x,Gd (i+1) β x↔Gd i β x) (hF:F.contains i=false) (h:wops P false ops.toList [o] i s H fun s' H'=>(H'=H∨yz ops.toList F i=true)∧wopW P T b k cs ops N mem Gd F 𝓗 r (i+1) s' H' K):wopW P T b k cs ops N mem Gd F 𝓗 (o::r) i s H K:=by
 refine⟨h𝓗,.inl ⟨hg,hT,hm,hG,hF,?_⟩⟩;rw [wops,hg] at h;exact ZE (fun v H' ⟨_,h2⟩=>h2) h
theorem uK (h𝓗:𝓗 H) (hT:T (i+1)=T i) (hm:∀ a x,mem i a x=x) (hG:∀ β x,Gd (i+1) β x↔Gd i β x) {d:Tmp} (hd:o.dst=some d) (v:TV) (hst:∀ H',𝓗 H'→wops P false ops.toList [o] i s H' fun s' H2=>H2=H'∧s' d=v)
  (h:wopW P T b k cs ops N mem Gd F 𝓗 r (i+1) (aput s (some d) v) H K):wopW P T b k cs ops N mem Gd F 𝓗 (o::r) i s H K:=
 ⟨h𝓗,.inr (.inl ⟨hT,hm,hG,v,fun H' hh=>jm hd (hst H' hh),by rw [hd];exact h⟩)⟩
theorem Vs (h𝓗:𝓗 H) {v:TV} {H':Heap} (hp:vU o.op=false) (hF:F.contains i=false) (hb:yz ops.toList F i=true) (hm:Yh P (T i) (T (i+1)) b k cs ops N (mem i) (Gd i) (Gd (i+1)) s H v H' i o) (h:wopW P T b k cs ops N mem Gd F 𝓗 r (i+1) (aput s o.dst v) H' K):wopW P T b k cs ops N mem Gd F 𝓗 (o::r) i s H K:=
 ⟨h𝓗,.inr (.inr ⟨hp,hF,hb,v,H',hm,h⟩)⟩
end
end Go.Ab
namespace Go.Ab
open Go.Conc Go.ConcN
open Go.ConcR (WgAt stA smA Payload DC0)
def One (L:Loc):Emb:=fun i=>if i=0 then some L else none
def ORow (R:Nat→Prop) (B:Nat) (F:Nat→Prop) (w:World) (L:Option Loc) (n:Nat) (cs:List AV) (u:Value):Prop:=
 match L with
 | none=>u=.slice none 0 0∧cs=[]
 | some l=>(∃ len,cs.length=len*n∧VR (One l) (.sl 0 0 len n) u)∧RowR (fun _=>none) w l (.own cs)∧F l.blk∧¬R l.blk∧B≤l.blk
theorem ORow.mono {R:Nat→Prop} {B:Nat} {F F':Nat→Prop} {w:World} {L:Option Loc} {n:Nat} {cs:List AV} {u:Value} (hf:∀ b,F b→F' b) (h:ORow R B F w L n cs u):ORow R B F' w L n cs u:=by
 cases L with
 | none=>exact h
 | some l=>exact⟨h.1,h.2.1,hf _ h.2.2.1,h.2.2.2⟩
theorem ORow.keep {R : Nat → Prop} {B : Nat} {F : Nat → Prop} {w w1 : World} {L : Option Loc} {n : Nat} {cs : List AV} {u : Value} (hk : Keep R F w w1) (h : ORow R B F w L n cs u) : ORow R B F w1 L n cs u := by
  cases L with
  | none => exact h
  | some l =>
    obtain ⟨h1, ⟨ccs, e, fz, a1, a2⟩, h3, h4⟩ := h
    exact ⟨h1, ⟨ccs, e, fz, (hk.block _ (.inl h3)).trans a1, a2⟩, h3, h4⟩
theorem refless {β γ:Emb} {v:AV} {u:Value} (hr:v.refs=[]) (h:VS β v u):VS γ v u:=by
 have:v.ren (fun i=>i)=v:=by cases v<;>simp [AV.ren]
 exact⟨VR.ren (β:=β) (ρ:=fun i=>i) (by rw [this];exact h.1) (fun id hid=>by rw [hr] at hid;cases hid),h.2⟩
theorem orow_of {P:Program} [Cls P] {β:Emb} {H:Heap} {w:World} {v:AV} {n:Nat} {cs:List AV} {u:Value} (hs:SRI P β H w) (hp:(Pc.osl v n cs).holds H) (hv:VR β v u) (hr:∀ c∈cs,c.refs=[]) {B:Nat} (hB:∀ b,Live β H b→b<B→Cls.R P b) :
  ∃ L,ORow (Cls.R P) B (Live β H) w L n cs u∧∀ l,L=some l→∃ id off len lb,v=.sl id off len n∧β id=some lb∧lb.blk=l.blk∧(H.f id).isOwn=true:=by
 rcases hp with⟨rfl,rfl⟩|⟨id,off,len,pre,rfl,h1,h2,h3,h4⟩
 ·exact⟨none,⟨hv,rfl⟩,fun l e=>by cases e⟩
 ·obtain⟨l,a,cap,e,rfl,hc,ha⟩:=hv;have hrow:=hs.sr.row id l e;rw [h4] at hrow;obtain⟨ccs,ty,fz,a1,a2,a3,a4,a5⟩:=hrow;rw [List.length_append,h1] at a4;refine⟨some ⟨l.blk,l.base+off,l.size - off⟩,⟨⟨len,h2,⟨l.blk,l.base+off,l.size - off⟩,a,cap,rfl,rfl,hc,?_⟩,⟨ccs,ty,fz,a1,fun j c hj=>?_,?_,?_,a5⟩,⟨id,l,e,by rw [h4];rfl,rfl⟩,hs.inn.own _ ⟨id,l,e,by rw [h4];rfl,rfl⟩,Nat.not_lt.1 fun hlt=>hs.inn.own _ ⟨id,l,e,by rw [h4];rfl,rfl⟩ (hB _ ⟨id,l,e,by rw [h4];rfl,rfl⟩ hlt)⟩,fun l' e'=>?_⟩
  ·rcases ha with⟨x,y⟩|x
   ·exact .inl ⟨by rw [x];rfl,by show 0+cap*n≤l.size - off;omega⟩
   ·exact .inr x
  ·have h5:(pre++cs)[off+j]?=some c:=by
    rw [List.getElem?_append_right (by omega),←h1]
    simpa using hj
   obtain⟨u,hu,hvs⟩:=a2 _ _ h5;exact⟨u,by show ccs[l.base+off+j]?=_;rw [Nat.add_assoc];exact hu,refless (hr c (List.mem_of_getElem? hj)) hvs⟩
  ·show l.base+off+(l.size - off)≤ccs.size;omega
  ·show cs.length≤l.size - off;omega
  ·cases e'
   exact⟨id,off,len,l,rfl,e,rfl,by rw [h4];rfl⟩
theorem Kw {H : Heap} {α : Type} {f : α → Pc} {r : List Pc} : ∀ {l : List α}, Sep H (l.map f ++ r) → ∀ a ∈ l, ∀ b ∈ l, a ≠ b → (f a).apart (f b)
  | x :: l, h, a, ha, b, hb, hne => by
    have h1 : ∀ y ∈ l, (f x).apart (f y) := fun y hy => h.2.1 _ (List.mem_append_left _ (List.mem_map.2 ⟨y, hy, rfl⟩))
    rcases List.mem_cons.1 ha with ha | ha <;> rcases List.mem_cons.1 hb with hb | hb
    · exact absurd (ha.trans hb.symm) hne
    · rw [ha]; exact h1 b hb
    · rw [hb]; exact (h1 a ha).symm
    · exact Kw (l := l) h.2.2 a ha b hb hne
def ResP (R : Nat → Prop) (B bO pO bF pF m W n : Nat) (cs : Nat → List AV) (y : Nat → Bool) (k : Nat) (F : Nat → Prop) (w : World) : Prop :=
  ∃ (U : Nat → Value) (L : Nat → Option Loc), (∀ o, o < m → o % W = k → w.cell? ⟨bO, pO + o, none⟩ = some (U o) ∧ w.cell? ⟨bF, pF + o, none⟩ = some (.bool (y o)) ∧ ORow R B F w (L o) n (cs o) (U o)) ∧
    ∀ o o', o < m → o % W = k → o' < m → o' % W = k → o ≠ o' → ∀ l l', L o = some l → L o' = some l' → l.blk ≠ l'.blk
theorem ResP.mono {R:Nat→Prop} {B bO pO bF pF m W n:Nat} {cs:Nat→List AV} {y:Nat→Bool} {k:Nat} {F F':Nat→Prop} {w:World} (hf:∀ b,F b→F' b) (h:ResP R B bO pO bF pF m W n cs y k F w):ResP R B bO pO bF pF m W n cs y k F' w:=by
 obtain⟨U,L,h1,h2⟩:=h;exact⟨U,L,fun o a b=>⟨(h1 o a b).1,(h1 o a b).2.1,(h1 o a b).2.2.mono hf⟩,h2⟩
theorem ResP.rel {B bO pO bF pF m W n:Nat} {cs:Nat→List AV} {y:Nat→Bool} {k i:Nat} {F:Nat→Prop} {w w1:World} {ty:TypeId} {E:Env} (hm:∀ o,o<m→o % W=k→E.Mine i bO (pO+o)∧E.Mine i bF (pF+o)) (hr:RelW ty E i F w w1) (h:ResP E.R B bO pO bF pF m W n cs y k F w):ResP E.R B bO pO bF pF m W n cs y k F w1:=by
 obtain⟨U,L,h1,h2⟩:=h;exact⟨U,L,fun o a b=>⟨(hr.cells _ _ (hm o a b).1).trans (h1 o a b).1,(hr.cells _ _ (hm o a b).2).trans (h1 o a b).2.1,(h1 o a b).2.2.keep hr.keep⟩,h2⟩
abbrev Cellsm:=Nat→Nat→Option Value
def Cellsm.put (A:Cellsm) (b o:Nat) (v:Value):Cellsm:=fun b' o'=>if b'=b∧o'=o then some v else A b' o'
structure XS (ty:TypeId) (E:Env) (A:Cellsm) (w:World):Prop where
 shape:∀ b,E.X b→∃ cs,w.heap[b]?=some (.cells cs (E.xt b).1 (E.xt b).2)∧cs.size=E.xn b
 live:WgLive ty E.Wg w
 cells:∀ b o v,A b o=some v→w.cell? ⟨b,o,none⟩=some v
theorem XS.stable {ty:TypeId} {E:Env} {A:Cellsm} {i:Nat} (hm:∀ b o v,A b o=some v→E.Mine i b o):jP ty E i (XS ty E A):=fun w w1 hr h=>
 ⟨fun b hb=>let ⟨cs,e,hn⟩:=h.shape b hb;let ⟨cs',e',hn'⟩:=hr.shape b hb cs _ e;⟨cs',e',hn'.trans hn⟩,hr.live h.live,fun b o v hv=>(hr.cells _ _ (hm b o v hv)).trans (h.cells b o v hv)⟩
theorem zd2 {w:World} {b o:Nat} {v:Value} {cs:Array Value} {y:TypeId × (Nat × Nat)} (hc:w.heap[b]?=some (.cells cs y.1 y.2)) (ho:o<cs.size) (b' o':Nat):(w.setCell ⟨b,o,none⟩ v).cell? ⟨b',o',none⟩=if b'=b∧o'=o then some v else w.cell? ⟨b',o',none⟩:=by
 have h1:∀ (w:World) (b o:Nat),w.cell? ⟨b,o,none⟩=(match w.heap[b]? with|some (.cells cs _ _)=>cs[o]?|_=>none):=fun w b o=>by simp only [World.cell?];rfl
 rw [h1,h1,q8]
 by_cases hb:b'=b
 ·subst hb;simp only [true_and,if_true,hc,Option.map_some]
  by_cases h:o'=o
  ·subst h;simp [ho]
  ·rw [if_neg h];show (cs.setIfInBounds o v)[o']?=_;rw [Array.getElem?_setIfInBounds_ne (Ne.symm h)]
 ·rw [if_neg (fun h=>hb h.symm),if_neg (fun h=>hb h.1)]
theorem XS.store {ty:TypeId} {E:Env} (e:E.Good ty) {A:Cellsm} {w:World} (h:XS ty E A w) {b o:Nat} (hX:E.X b) (ho:o<E.xn b) (v:Value):XS ty E (A.put b o v) (w.setCell ⟨b,o,none⟩ v):=by
 obtain⟨cs,hc,hn⟩:=h.shape b hX;refine⟨fun b' hb'=>?_,?_,fun b' o' v' hv'=>?_⟩
 ·obtain⟨cs',hc',hn'⟩:=h.shape b' hb';rw [q8]
  by_cases hbb:b=b'
  ·subst hbb;rw [if_pos rfl,hc];rw [hc] at hc';have e1:=Option.some.inj hc';exact⟨cs.setIfInBounds o v,rfl,by simp [hn]⟩
  ·rw [if_neg hbb];exact⟨cs',hc',hn'⟩
 ·obtain⟨st,sm,hw⟩:=h.live;refine⟨st,sm,?_⟩;show (w.setCell ⟨b,o,none⟩ v).heap[E.Wg]?=_;rw [q8,if_neg (fun hb=>(e.xs b hX).1 (by rw [show b=E.Wg from hb];exact e.wg))];exact hw
 ·rw [zd2 hc (by rw [hn];exact ho)];unfold Cellsm.put at hv'
  by_cases hbo:b'=b∧o'=o
  ·rw [if_pos hbo] at hv' ⊢;exact hv'
  ·rw [if_neg hbo] at hv' ⊢;exact h.cells b' o' v' hv'
theorem resP_of {P:Program} [Cls P] {β:Emb} {H:Heap} {w:World} {B bO pO bF pF m W n k:Nat} {cs:Nat→List AV} {y:Nat→Bool} {U:Nat→Value} {pcs:List (Nat × AV)} {r:List Pc} (hs:SRI P β H w) (hp:Sep H (pcs.map (fun p=>Pc.osl p.2 n (cs p.1))++r)) (hv:∀ p∈pcs,VR β p.2 (U p.1)) (hr:∀ o,∀ c∈cs o,c.refs=[]) (hB:∀ b,Live β H b→b<B→Cls.R P b)
  (hall:∀ o,o<m→o % W=k→∃ p∈pcs,p.1=o) (h1:∀ o,o<m→o % W=k→w.cell? ⟨bO,pO+o,none⟩=some (U o)) (h2:∀ o,o<m→o % W=k→w.cell? ⟨bF,pF+o,none⟩=some (.bool (y o))):ResP (Cls.R P) B bO pO bF pF m W n cs y k (Live β H) w:=by
 classical
 have key:∀ o,∃ (L:Option Loc),(o<m∧o % W=k)→ORow (Cls.R P) B (Live β H) w L n (cs o) (U o)∧∃ p∈pcs,p.1=o∧∀ l,L=some l→∃ id off len lb,p.2=.sl id off len n∧β id=some lb∧lb.blk=l.blk∧(H.f id).isOwn=true:=by
  intro o
  by_cases ho:o<m∧o % W=k
  ·obtain⟨p,hpm,rfl⟩:=hall o ho.1 ho.2;obtain⟨L,hL1,hL2⟩:=orow_of hs (hp.mem (Pc.osl p.2 n (cs p.1)) (List.mem_append_left _ (List.mem_map.2 ⟨p,hpm,rfl⟩))) (hv p hpm) (hr _) hB;exact⟨L,fun _=>⟨hL1,p,hpm,rfl,hL2⟩⟩
  ·exact⟨none,fun h=>absurd h ho⟩
 refine⟨U,fun o=>(key o).choose,fun o a b=>⟨h1 o a b,h2 o a b,((key o).choose_spec ⟨a,b⟩).1⟩,fun o o' a b a' b' hne l l' e e'=>?_⟩;obtain⟨p,hp1,rfl,hp3⟩:=((key o).choose_spec ⟨a,b⟩).2;obtain⟨q,hq1,rfl,hq3⟩:=((key o').choose_spec ⟨a',b'⟩).2;obtain⟨i1,of1,n1,l1,v1,b1,c1,d1⟩:=hp3 l e;obtain⟨i2,of2,n2,l2,v2,b2,c2,d2⟩:=hq3 l' e';have hap:=Kw hp p hp1 q hq1 (fun x=>hne (by rw [x]));have hid:i1≠i2:=fun x=>hap (.inl rfl) i1 ⟨of1,n1,n,v1⟩ ⟨of2,n2,n,by rw [x];exact v2⟩;rw [←c1,←c2];exact hs.sr.apart i1 i2 l1 l2 hid b1 b2 d1 (by cases hh:H.f i2<;>rw [hh] at d2<;>first|rfl|cases d2)
end Go.Ab
namespace Go.Ab
open Go.Conc Go.ConcN
open Go.ConcR (KK wgBlock WgAt stA smA rd wr mk Payload DC0)
def wV (base B0:Nat) (R Shun:Nat→Prop) (wg bO pO bF pF m W n:Nat) (xn:Nat→Nat) (xt:Nat→TypeId × (Nat × Nat)) (cs:Nat→List AV) (y:Nat→Bool) (W0:World):Env where
 base:=base
 B0:=B0
 R:=R
 Shun:=Shun
 X:=fun b=>b=bO∨b=bF
 Wg:=wg
 Mine:=fun i b o=>base≤i∧∃ q,q<m∧q % W=i - base∧((b=bO∧o=pO+q)∨(b=bF∧o=pF+q))
 Res:=fun i F w=>base≤i→ResP R B0 bO pO bF pF m W n cs y (i - base) F w
 xn:=xn
 xt:=xt
 W0:=W0
theorem wV.good {ty:TypeId} {base B0:Nat} {R Shun:Nat→Prop} {wg bO pO bF pF m W n:Nat} {xn:Nat→Nat} {xt:Nat→TypeId × (Nat × Nat)} {cs:Nat→List AV} {y:Nat→Bool} {W0:World} (hne:bO≠bF)
  (hR:∀ b,R b→¬Shun b∧¬(b=bO∨b=bF)∧b<B0) (hX:∀ b,b=bO∨b=bF→¬Shun b∧b<B0) (hs:∀ b,Shun b→b<B0) (hwg:Shun wg):(wV base B0 R Shun wg bO pO bF pF m W n xn xt cs y W0).Good ty:=by
 refine⟨⟨hR,hX,hs,.inr hwg,fun i b o ⟨h1,q,h2,h3,h4⟩=>⟨h4.imp (·.1) (·.1),h1⟩,?_,fun i F w w1 hr h hb=>?_,fun i F F' w hf h hb=>(h hb).mono hf⟩,hwg⟩
 ·rintro i k b o ⟨h1,q,h2,h3,h4⟩ ⟨h1',q',h2',h3',h4'⟩;have:q=q':=by
   rcases h4 with⟨e1,e2⟩|⟨e1,e2⟩<;>rcases h4' with⟨e1',e2'⟩|⟨e1',e2'⟩
   ·omega
   ·exact absurd (e1.symm.trans e1') hne
   ·exact absurd (e1'.symm.trans e1) hne
   ·omega
  subst this;have h1:base≤i:=h1;have h1':base≤k:=h1';omega
 ·exact ResP.rel (E:=wV base B0 R Shun wg bO pO bF pF m W n xn xt cs y W0) (ty:=ty) (fun o ho hk=>⟨⟨hb,o,ho,hk,.inl ⟨rfl,rfl⟩⟩,⟨hb,o,ho,hk,.inr ⟨rfl,rfl⟩⟩⟩) hr (h hb)
def outD (rO rF:Nat):Nat→Bool:=fun i=>decide (i=rO∨i=rF)
def parH (H:Heap) (rO rF:Nat):Heap:=(H.frz (outD rO rF)).alloc .gone
theorem za4 {β:Emb} {H:Heap} {w:World} (hs:SR β H w) {l:Loc} {b:Nat} (h:Live (β.ext H.n l) (H.alloc .gone) b):Live β H b:=by
 obtain⟨i,l',e,hg,hl⟩:=h
 by_cases hi:i=H.n
 ·subst hi;simp [Heap.alloc,upd,Blk.isGone] at hg
 ·refine⟨i,l',?_,?_,hl⟩
  ·unfold Emb.ext upd at e;rw [if_neg hi] at e;exact e
  ·simpa [Heap.alloc,upd,hi] using hg
structure Begun (P:Program) (ty:TypeId) [Payload] (R:Nat→Prop) (W:World) (β:Emb) (H:Heap) (w:World) (rO rF m:Nat) (lO lF:Loc) (E:Env) (β1:Emb) (w1:World):Prop where
 good:E.Good ty
 rr:∀ b,R b→E.R b
 le:Le β β1
 grp:β1 H.n=some ⟨E.Wg,0,2⟩
 sri:@SRI P (clsP P ty E) β1 (parH H rO rF) w1
 ro:∀ i l,β1 i=some l→((parH H rO rF).f i).isGone=false→E.R l.blk
 keep:∀ i l,β i=some l→i≠rO→i≠rF→(H.f i).isGone=false→E.R l.blk
 sr0:SR β H E.W0
 w0:Same R W E.W0
 size:w.heap.size≤E.B0
 xO:lO.base+m≤E.xn lO.blk
 xF:lF.base+m≤E.xn lF.blk
 fO:NF (E.xt lO.blk).2 (E.xn lO.blk)
 fF:NF (E.xt lF.blk).2 (E.xn lF.blk)
 sO:lO.base+lO.size≤E.xn lO.blk
 sF:lF.base+lF.size≤E.xn lF.blk
 ne:lO.blk≠lF.blk
 mO:m≤lO.size
 mF:m≤lF.size
section
variable {P:Program} {ty:TypeId} [Payload] {Post:Value→World→Prop} {R:Nat→Prop} {W:World}
theorem T0.enter {β:Emb} {H:Heap} {w:World} (hs:@SRI P (cls0 P ty R) β H w) {b:Frame} {a:Act} {ops:Array Oper} {i:Nat} {rest:List Nat} {k:List Item} {cs:List Frame} {o:Oper} (ho:ops[i]?=some o) (hg:o.guard=none) (hb:b.kind≠.early)
  (hrun:∀ w:World,(execOp a.eval o).run P w=.ok (.value (.pointer (some ⟨w.heap.size,0,none⟩))) { w with heap:=w.heap.push (wgBlock ty 0 0) }) (hev:∀ w:World,(execOp a.eval o).events P w #[]=#[])
  {rO rF m Wk n:Nat} {lO lF:Loc} (hne:rO≠rF) (eO:β rO=some lO) (eF:β rF=some lF) {cO cF:List AV} (zO:H.f rO=.own cO) (zF:H.f rF=.own cF) (nO:cO.length=m) (nF:cF.length=m) (cells:Nat→List AV) (y:Nat→Bool)
  (h:∀ base B0 R1 Shun wg xn xt W0 β1 w1,Begun P ty R W β H w rO rF m lO lF (wV base B0 R1 Shun wg lO.blk lO.base lF.blk lF.base m Wk n xn xt cells y W0) β1 w1 →
   ∃ r,TP P ty (wV base B0 R1 Shun wg lO.blk lO.base lF.blk lF.base m Wk n xn xt cells y W0) Post base 0 (some (.sp r 5)) base (Live β1 (parH H rO rF)) (G (b.at (a.put o.dst (.pointer (some ⟨wg,0,none⟩))) (.inRegion ops rest::k)) cs) w1) :
  T0 P ty Post R W (Live β H) (G (b.at a (.inRegion ops (i::rest)::k)) cs) w:=by
 refine T0.open fun w1 E0 e0 hER hB0 hk hRW hF=>?_
 letI:Cls P:=cls0 P ty R
 have hs1:SRI P β H w1:=SRI.keep hs hk;have hrowO:=hs1.sr.row rO lO eO;have hrowF:=hs1.sr.row rF lF eF;rw [zO] at hrowO;rw [zF] at hrowF;obtain⟨ccO,tO,fzO,bO1,bO2,bO3,bO4,bO5⟩:=hrowO;obtain⟨ccF,tF,fzF,bF1,bF2,bF3,bF4,bF5⟩:=hrowF;have hap:lO.blk≠lF.blk:=hs1.sr.apart rO rF lO lF hne eO eF (by rw [zO];rfl) (by rw [zF];rfl);have lvO:Live β H lO.blk:=⟨rO,lO,eO,by rw [zO];rfl,rfl⟩;have lvF:Live β H lF.blk:=⟨rF,lF,eF,by rw [zF];rfl,rfl⟩;obtain⟨R1,hR1⟩:∃ R1:Nat→Prop,∀ c,R1 c↔R c∨∃ i l,β i=some l∧i≠rO∧i≠rF∧(H.f i).isGone=false∧l.blk=c:=⟨_,fun _=>Iff.rfl⟩;obtain⟨w',hw'⟩:∃ w':World,w'={ w1 with heap:=w1.heap.push (wgBlock ty 0 0) }:=⟨_,rfl⟩;have hsz:w'.heap.size=w1.heap.size+1:=by rw [hw'];simp
 have hold:∀ c,c<w1.heap.size→w'.heap[c]?=w1.heap[c]?:=fun c hc=>by
  rw [hw'];show (w1.heap.push _)[c]?=_;rw [Array.getElem?_push,if_neg (Nat.ne_of_lt hc)]
 have hR1b:∀ c,R1 c→¬E0.Shun c∧c≠lO.blk∧c≠lF.blk∧c<w1.heap.size:=by
  intro c hc;rcases (hR1 c).1 hc with hc|⟨i,l,e,h1,h2,h3,rfl⟩
  ·have h5:=e0.rs c (by rw [hER];exact hc);exact⟨h5.1,fun hx=>hs1.inn.own _ ⟨rO,lO,eO,by rw [zO];rfl,hx.symm⟩ hc,fun hx=>hs1.inn.own _ ⟨rF,lF,eF,by rw [zF];rfl,hx.symm⟩ hc,by omega⟩
  ·have h5:=hF l.blk ⟨i,l,e,h3,rfl⟩;exact⟨h5.2,fun hx=>hs1.sr.apart rO i lO l (fun hx=>h1 hx.symm) eO e (by rw [zO];rfl) h3 hx.symm,fun hx=>hs1.sr.apart rF i lF l (fun hx=>h2 hx.symm) eF e (by rw [zF];rfl) h3 hx.symm,h5.1⟩
 obtain⟨E1,hE1⟩:∃ E1,E1=wV E0.base w'.heap.size R1 (fun c=>E0.Shun c∨c=w1.heap.size) w1.heap.size lO.blk lO.base lF.blk lF.base m Wk n (fun c=>if c=lO.blk then ccO.size else ccF.size) (fun c=>if c=lO.blk then (tO,fzO) else (tF,fzF)) cells y w':=⟨_,rfl⟩;have e1:E1.Good ty:=by
  rw [hE1];refine wV.good hap (fun c hc=>?_) (fun c hc=>?_) (fun c hc=>?_) (.inr rfl)
  ·obtain⟨h1,h2,h3,h4⟩:=hR1b c hc;exact⟨fun hx=>hx.elim h1 (fun hx=>by omega),fun hx=>hx.elim h2 h3,by omega⟩
  ·have h5:c<w1.heap.size∧¬E0.Shun c:=by
    rcases hc with rfl|rfl
    ·exact hF _ lvO
    ·exact hF _ lvF
   exact⟨fun hx=>hx.elim h5.2 (fun hx=>by omega),by omega⟩
  ·rcases hc with hc|rfl
   ·have:=e0.ss c hc;omega
   ·omega
 have hsr':SR (β.ext H.n ⟨w1.heap.size,0,2⟩) (parH H rO rF) w':=by rw [hw'];exact SR.allocB (hs1.sr.frz) (wgBlock ty 0 0) 2 .gone (fun _=>trivial)
 have hlive:∀ c,Live (β.ext H.n ⟨w1.heap.size,0,2⟩) (parH H rO rF) c→∃ i l,β i=some l∧i≠rO∧i≠rF∧(H.f i).isGone=false∧l.blk=c:=by
  intro c hc;obtain⟨i,l,e,hd,hg,hl⟩:=zd0 hs1.sr (za4 (H:=H.frz (outD rO rF)) hs1.sr.frz hc);have hd':¬(i=rO∨i=rF):=by simpa [outD] using hd
  exact⟨i,l,e,fun hx=>hd' (.inl hx),fun hx=>hd' (.inr hx),hg,hl⟩
 have hXs:∀ c,E1.X c→∃ ccs,w'.heap[c]?=some (.cells ccs (E1.xt c).1 (E1.xt c).2)∧ccs.size=E1.xn c:=by
  rw [hE1];rintro c (rfl|rfl)
  ·exact⟨ccO,by rw [hold _ (hF _ lvO).1,bO1];simp [wV],by simp [wV]⟩
  ·exact⟨ccF,by rw [hold _ (hF _ lvF).1,bF1];simp [wV,Ne.symm hap],by simp [wV,Ne.symm hap]⟩
 have hbeg:Begun P ty R W β H w rO rF m lO lF E1 (β.ext H.n ⟨w1.heap.size,0,2⟩) w':=by
  refine⟨e1,fun c hc=>by rw [hE1];exact (hR1 c).2 (.inl hc),Le.ext (hs1.sr.dom _ (Nat.le_refl _)),by rw [hE1];simp [Emb.ext,upd,wV],@SRI.mk P (clsP P ty E1) _ _ _ hsr' ⟨fun c ⟨i,l,e,hoo,hl⟩ _=>?_,fun i c o hx=>?_,fun c hc=>?_⟩,fun i l e hg=>?_,fun i l e h1 h2 h3=>?_,?_,⟨by rw [hE1];show w'.os=_;rw [hw'];exact hRW.os,by rw [hE1];show w'.tape=_;rw [hw'];exact hRW.tape,by rw [hE1];show w'.output=_;rw [hw'];exact hRW.output,fun c hc=>?_⟩,?_,?_,?_,?_,?_,?_,?_,hap,by omega,by omega⟩
  ·by_cases hi:i=H.n
   ·subst hi;simp [parH,Heap.alloc,Heap.frz,upd,Blk.isOwn] at hoo
   ·rw [show (parH H rO rF).f i=(H.frz (outD rO rF)).f i by simp [parH,Heap.alloc,Heap.frz,upd,hi],Ua] at hoo;cases hoo
  ·by_cases hi:i=H.n
   ·subst hi;simp [parH,Heap.alloc,Heap.frz,upd] at hx
   ·rw [show (parH H rO rF).f i=(H.frz (outD rO rF)).f i by simp [parH,Heap.alloc,Heap.frz,upd,hi]] at hx
    change (H.f i).frz (outD rO rF i)=.tab c o at hx
    cases h1:H.f i<;>cases h2:outD rO rF i<;>rw [h1,h2] at hx<;>simp [Blk.frz] at hx
  ·rw [hE1] at hc;have:=(hR1b c hc).2.2.2;omega
  ·rw [hE1];exact (hR1 _).2 (.inr (hlive l.blk ⟨i,l,e,hg,rfl⟩))
  ·rw [hE1];exact (hR1 _).2 (.inr ⟨i,l,e,h1,h2,h3,rfl⟩)
  ·rw [hE1];exact hs1.sr.keep (R:=fun _=>False) (w1:=w') ⟨by rw [hw'],by rw [hw'],by rw [hw'],by omega,fun c hc=>by
    rcases hc with hc|hc
    ·exact hold c (hF c hc).1
    ·exact hc.elim⟩
  ·rw [hE1];show w'.heap[c]?=_;rw [hold c (hR1b c ((hR1 c).2 (.inl hc))).2.2.2,hRW.block c hc]
  ·rw [hE1];have:=hk.size;show w.heap.size≤w'.heap.size;omega
  all_goals rw [hE1];simp only [wV,if_true,if_neg (Ne.symm hap)]
  ·omega
  ·omega
  ·exact bO5
  ·exact bF5
  ·exact bO3
  ·exact bF3
 obtain⟨r,hT⟩:=h E0.base w'.heap.size R1 (fun c=>E0.Shun c∨c=w1.heap.size) w1.heap.size (fun c=>if c=lO.blk then ccO.size else ccF.size) (fun c=>if c=lO.blk then (tO,fzO) else (tF,fzF)) w' (β.ext H.n ⟨w1.heap.size,0,2⟩) w' (hE1▸hbeg);rw [←hE1] at hT;have hw:Region.wanted o (yielded ops a.tmps)=true:=by simp [Region.wanted,hg]
 have hl0:∀ x∈listed P b.fn a o w1,False:=fun x hx=>by
  have:=mem_listed hx;rw [hev] at this
  simp at this
 refine⟨_,w',_,Live (β.ext H.n ⟨w1.heap.size,0,2⟩) (parH H rO rF),E1,r,stepG_value ho hw hb (by rw [hw'];exact hrun w1),rfl,⟨by rw [hw'],by rw [hw'],by rw [hw'],by omega,fun c hc _=>hold c hc,fun x hx=>(hl0 x hx).elim,fun c hc hlt=>?_,fun c hc=>.inr ?_⟩,fun x hx=>(hl0 x hx).elim,?_,e1,by rw [hE1];rfl,by rw [hE1];rfl,fun c=>by rw [hE1];exact Iff.rfl,by rw [hE1];exact Nat.le_refl _,hXs,fun c hc=>?_,by rw [hE1];exact .refl _ _,?_⟩
 ·obtain⟨i,l,e,_,_,hg,hl⟩:=hlive c hc;exact⟨i,l,e,hg,hl⟩
 ·obtain⟨i,l,e,_,_,hg,hl⟩:=hlive c hc;have:=(hF c ⟨i,l,e,hg,hl⟩).1;omega
 ·show w'.heap[w1.heap.size]?=_;rw [hw'];simp
 ·have h1:=hlive c hc;have h2:=hR1b c ((hR1 c).2 (.inr h1));exact⟨by omega,by rw [hE1];exact fun hx=>hx.elim h2.2.1 h2.2.2.1⟩
 ·rw [hE1] at hT ⊢;exact hT
end
end Go.Ab
namespace Go.Ab
open Go.Conc Go.ConcN
open Go.ConcR (KK wgBlock WgAt stA smA rd wr mk Payload DC0)
def endH (H:Heap) (N rO rF m n:Nat) (lens:Nat→Nat) (cells:Nat→List AV) (y:Nat→Bool):Heap:=
 ⟨N+m,fun i=>if i<H.n then (if i=rO then .own ((List.range m).map fun o=>.sl (N+o) 0 (lens o) n) else if i=rF then .own ((List.range m).map fun o=>.bool (y o)) else H.f i) else if i<N then .gone else if i<N+m then .own (cells (i - N)) else .gone⟩
def wW (H:Heap) (N rO rF m:Nat) (y:Nat→Bool):Heap:=
 ⟨N,fun i=>if i<H.n then (if i=rO then .gone else if i=rF then .own ((List.range m).map fun o=>.bool (y o)) else H.f i) else .gone⟩
theorem ZP {m j o:Nat} (h:(List.range m)[j]?=some o):j<m∧o=j:=by
 rcases Nat.lt_or_ge j m with hj|hj
 ·rw [List.getElem?_range hj] at h;exact⟨hj,(Option.some.inj h).symm⟩
 ·rw [List.getElem?_eq_none (by simpa using hj)] at h;cases h
section
variable {P:Program} {ty:TypeId} [Payload] {R:Nat→Prop} {W:World} {β:Emb} {H:Heap} {w:World} {rO rF m Wk n N base B0 wg:Nat} {lO lF:Loc} {R1 Shun:Nat→Prop} {xn:Nat→Nat} {xt:Nat→TypeId × (Nat × Nat)} {W0:World} {β1 β2:Emb} {wb w1:World} {cells:Nat→List AV} {y:Nat→Bool} {lens:Nat→Nat} {Fs:Nat→Nat→Prop} {F:Nat→Prop}
theorem Ky (hbeg:Begun P ty R W β H w rO rF m lO lF (wV base B0 R1 Shun wg lO.blk lO.base lF.blk lF.base m Wk n xn xt cells y W0) β1 wb) {γ:Emb} (hle:Le β γ) (h8:Same R1 W0 w1) {i:Nat} {l:Loc} (e:β i=some l) (h1:i≠rO) (h2:i≠rF):RowR γ w1 l (H.f i):=
 RowR.mono hle (fun hg=>h8.block _ (hbeg.keep i l e h1 h2 hg)) (hbeg.sr0.row i l e)
theorem Q7 {w:World} {b q:Nat} {ccs:Array Value} {t:TypeId} {fz:Nat × Nat} {u:Value} (hc:w.heap[b]?=some (.cells ccs t fz)) (h:w.cell? ⟨b,q,none⟩=some u):ccs[q]?=some u:=by
 simpa [World.cell?,hc] using h
theorem Q8 (hbeg:Begun P ty R W β H w rO rF m lO lF (wV base B0 R1 Shun wg lO.blk lO.base lF.blk lF.base m Wk n xn xt cells y W0) β1 wb) {γ:Emb} (h7:∀ b,(b=lO.blk∨b=lF.blk)→∃ cs,w1.heap[b]?=some (.cells cs (xt b).1 (xt b).2)∧cs.size=xn b)
  (hc:∀ o,o<m→w1.cell? ⟨lF.blk,lF.base+o,none⟩=some (.bool (y o))):RowR γ w1 lF (.own ((List.range m).map fun o=>.bool (y o))):=by
 obtain⟨ccs,e,hn⟩:=h7 lF.blk (.inr rfl);have h1:lF.base+lF.size≤xn lF.blk:=hbeg.sF;have h2:NF (xt lF.blk).2 (xn lF.blk):=hbeg.fF;refine⟨ccs,_,_,e,fun j c hj=>?_,by omega,by simpa using hbeg.mF,by rw [hn];exact h2⟩;rw [List.getElem?_map] at hj;obtain⟨o,ho,rfl⟩:=Option.map_eq_some_iff.1 hj;obtain⟨ho1,rfl⟩:=ZP ho;exact⟨_,Q7 e (hc o ho1),rfl,rfl⟩
theorem zd3 (hbeg:Begun P ty R W β H w rO rF m lO lF (wV base B0 R1 Shun wg lO.blk lO.base lF.blk lF.base m Wk n xn xt cells y W0) β1 wb) {γ:Emb} (h7:∀ b,(b=lO.blk∨b=lF.blk)→∃ cs,w1.heap[b]?=some (.cells cs (xt b).1 (xt b).2)∧cs.size=xn b)
  {U:Nat→Value} (hc:∀ o,o<m→w1.cell? ⟨lO.blk,lO.base+o,none⟩=some (U o)) (hv:∀ o,o<m→VR γ (.sl (N+o) 0 (lens o) n) (U o)):RowR γ w1 lO (.own ((List.range m).map fun o=>.sl (N+o) 0 (lens o) n)):=by
 obtain⟨ccs,e,hn⟩:=h7 lO.blk (.inl rfl);have h1:lO.base+lO.size≤xn lO.blk:=hbeg.sO;have h2:NF (xt lO.blk).2 (xn lO.blk):=hbeg.fO;refine⟨ccs,_,_,e,fun j c hj=>?_,by omega,by simpa using hbeg.mO,by rw [hn];exact h2⟩;rw [List.getElem?_map] at hj;obtain⟨o,ho,rfl⟩:=Option.map_eq_some_iff.1 hj;obtain⟨ho1,rfl⟩:=ZP ho;exact⟨_,Q7 e (hc o ho1),hv o ho1,rfl⟩
theorem Q9 (h2 : ∀ i, base ≤ i → i < base + Wk → (wV base B0 R1 Shun wg lO.blk lO.base lF.blk lF.base m Wk n xn xt cells y W0).Res i (Fs i) w1)
    (h4 : ∀ i k, base ≤ i → i < base + Wk → base ≤ k → k < base + Wk → i ≠ k → ∀ b, Fs i b → Fs k b → R1 b) (hW : 0 < Wk) :
    ∃ (U : Nat → Value) (L : Nat → Option Loc), (∀ o, o < m → w1.cell? ⟨lO.blk, lO.base + o, none⟩ = some (U o) ∧ w1.cell? ⟨lF.blk, lF.base + o, none⟩ = some (.bool (y o)) ∧ ∃ i, base ≤ i ∧ i < base + Wk ∧ ORow R1 B0 (Fs i) w1 (L o) n (cells o) (U o)) ∧
      ∀ o o', o < m → o' < m → o ≠ o' → ∀ l l', L o = some l → L o' = some l' → l.blk ≠ l'.blk := by
  have key : ∀ k, ∃ p : (Nat → Value) × (Nat → Option Loc), k < Wk → (∀ o, o < m → o % Wk = k → w1.cell? ⟨lO.blk, lO.base + o, none⟩ = some (p.1 o) ∧ w1.cell? ⟨lF.blk, lF.base + o, none⟩ = some (.bool (y o)) ∧ ORow R1 B0 (Fs (base + k)) w1 (p.2 o) n (cells o) (p.1 o)) ∧
      ∀ o o', o < m → o % Wk = k → o' < m → o' % Wk = k → o ≠ o' → ∀ l l', p.2 o = some l → p.2 o' = some l' → l.blk ≠ l'.blk := by
    intro k
    by_cases hk : k < Wk
    · obtain ⟨U, L, h5, h6⟩ : ResP R1 B0 lO.blk lO.base lF.blk lF.base m Wk n cells y (base + k - base) (Fs (base + k)) w1 := h2 (base + k) (by omega) (by omega) (Nat.le_add_right _ _)
      rw [Nat.add_sub_cancel_left] at h5 h6
      exact ⟨(U, L), fun _ => ⟨h5, h6⟩⟩
    · exact ⟨(fun _ => .bool false, fun _ => none), fun h => absurd h hk⟩
  obtain ⟨f, hf⟩ := Classical.skolem.1 key
  have hmod : ∀ o, o % Wk < Wk := fun o => Nat.mod_lt _ hW
  refine ⟨fun o => (f (o % Wk)).1 o, fun o => (f (o % Wk)).2 o, fun o ho => ?_, fun o o' ho ho' hne l l' e e' => ?_⟩
  · obtain ⟨h5, _⟩ := hf (o % Wk) (hmod o)
    obtain ⟨a, b, c⟩ := h5 o ho rfl
    exact ⟨a, b, base + o % Wk, by omega, by have := hmod o; omega, c⟩
  · by_cases hmm : o' % Wk = o % Wk
    · obtain ⟨_, h6⟩ := hf (o % Wk) (hmod o)
      change (f (o' % Wk)).2 o' = some l' at e'
      rw [hmm] at e'
      exact h6 o o' ho rfl ho' hmm hne l l' e e'
    · intro hb
      obtain ⟨h5, _⟩ := hf (o % Wk) (hmod o)
      obtain ⟨h5', _⟩ := hf (o' % Wk) (hmod o')
      have c := (h5 o ho rfl).2.2
      have c' := (h5' o' ho' rfl).2.2
      rw [show (f (o % Wk)).2 o = some l from e] at c
      rw [show (f (o' % Wk)).2 o' = some l' from e'] at c'
      obtain ⟨_, _, d1, d2, _⟩ := c
      obtain ⟨_, _, d1', _, _⟩ := c'
      have := hmod o; have := hmod o'
      exact d2 (h4 (base + o % Wk) (base + o' % Wk) (by omega) (by omega) (by omega) (by omega) (by omega) _ d1 (hb ▸ d1'))
theorem join_ok (hs : @SRI P (cls0 P ty R) β H w) (hbeg : Begun P ty R W β H w rO rF m lO lF (wV base B0 R1 Shun wg lO.blk lO.base lF.blk lF.base m Wk n xn xt cells y W0) β1 wb) (hne : rO ≠ rF) (eO : β rO = some lO) (eF : β rF = some lF) (zO : (H.f rO).isOwn = true) (zF : (H.f rF).isOwn = true) (le2 : Le β1 β2)
    (hN : H.n ≤ N) (dom2 : ∀ i, N ≤ i → β2 i = none) (tot2 : ∀ i, H.n ≤ i → i < N → ∃ l, β2 i = some l) (old2 : ∀ i l, i < H.n → β2 i = some l → H.f i ≠ .hole)
    (h2 : ∀ i, base ≤ i → i < base + Wk → (wV base B0 R1 Shun wg lO.blk lO.base lF.blk lF.base m Wk n xn xt cells y W0).Res i (Fs i) w1)
    (h3 : ∀ i, base ≤ i → i < base + Wk → ∀ b, Fs i b → b < w1.heap.size ∧ ¬ Shun b ∧ ¬ (b = lO.blk ∨ b = lF.blk))
    (h4 : ∀ i k, base ≤ i → i < base + Wk → base ≤ k → k < base + Wk → i ≠ k → ∀ b, Fs i b → Fs k b → R1 b) (hB : B0 ≤ w1.heap.size)
    (h7 : ∀ b, (b = lO.blk ∨ b = lF.blk) → ∃ cs, w1.heap[b]? = some (.cells cs (xt b).1 (xt b).2) ∧ cs.size = xn b) (h8 : Same R1 W0 w1) (hW : 0 < Wk) (hn : 0 < n) (hlens : ∀ o, o < m → (cells o).length = lens o * n) (hall : ∀ o, o < m → cells o ≠ []) :
    ∃ β3, Le β2 β3 ∧ @SRI P (cls0 P ty R) β3 (endH H N rO rF m n lens cells y) w1 ∧ (∀ b, Live β3 (endH H N rO rF m n lens cells y) b → b < w1.heap.size ∧ ¬ Shun b) ∧ FrC β H w β3 (endH H N rO rF m n lens cells y) w1 ∧ Same R W w1 := by
  letI : Cls P := cls0 P ty R
  obtain ⟨U, L, hU, hap⟩ := Q9 h2 h4 hW
  have hL : ∀ o, ∃ l, o < m → L o = some l := fun o => by
    by_cases ho : o < m
    · cases hl : L o with
      | none =>
        obtain ⟨_, _, i, _, _, hr⟩ := hU o ho
        rw [hl] at hr
        exact absurd hr.2 (hall o ho)
      | some l => exact ⟨l, fun _ => rfl⟩
    · exact ⟨lO, fun h => absurd h ho⟩
  obtain ⟨lr, hlr⟩ := Classical.skolem.1 hL
  have hR : ∀ o, o < m → ((∃ len, (cells o).length = len * n ∧ VR (One (lr o)) (.sl 0 0 len n) (U o)) ∧ RowR (fun _ => none) w1 (lr o) (.own (cells o))) ∧ (lr o).blk < w1.heap.size ∧ ¬ Shun (lr o).blk ∧ (lr o).blk ≠ lO.blk ∧ (lr o).blk ≠ lF.blk ∧ ¬ R1 (lr o).blk ∧ B0 ≤ (lr o).blk := by
    intro o ho
    obtain ⟨_, _, i, hi1, hi2, hr⟩ := hU o ho
    rw [hlr o ho] at hr
    obtain ⟨a, b, c, d, e⟩ := hr
    obtain ⟨f1, f2, f3⟩ := h3 i hi1 hi2 _ c
    exact ⟨⟨a, b⟩, f1, f2, fun hx => f3 (.inl hx), fun hx => f3 (.inr hx), d, e⟩
  obtain ⟨β3, hβ3⟩ : ∃ β3 : Emb, β3 = fun i => if N ≤ i ∧ i < N + m then some (lr (i - N)) else β2 i := ⟨_, rfl⟩
  have b3new : ∀ o, o < m → β3 (N + o) = some (lr o) := fun o ho => by rw [hβ3]; simp [ho]
  have b3old : ∀ i, i < N → β3 i = β2 i := fun i hi => by rw [hβ3]; simp only []; rw [if_neg (by omega)]
  have le23 : Le β2 β3 := fun i l e => by
    rcases Nat.lt_or_ge i N with h | h
    · rw [b3old i h]; exact e
    · rw [dom2 i h] at e; cases e
  have le03 : Le β β3 := hbeg.le.trans (le2.trans le23)
  have old : ∀ i l, i < H.n → β3 i = some l → β i = some l := fun i l hi e => by
    obtain ⟨l', e'⟩ := hbeg.sr0.tot i hi (old2 i l hi (by rw [← b3old i (by omega)]; exact e))
    rw [le03 _ _ e'] at e; rw [← e]; exact e'
  have fold : ∀ i, i < H.n → i ≠ rO → i ≠ rF → (endH H N rO rF m n lens cells y).f i = H.f i := fun i hi h1 h2 => by simp [endH, hi, h1, h2]
  have ltO : rO < H.n := hbeg.sr0.lt eO
  have ltF : rF < H.n := hbeg.sr0.lt eF
  have fO : (endH H N rO rF m n lens cells y).f rO = .own ((List.range m).map fun o => .sl (N + o) 0 (lens o) n) := by simp [endH, ltO]
  have fF : (endH H N rO rF m n lens cells y).f rF = .own ((List.range m).map fun o => .bool (y o)) := by simp [endH, ltF, Ne.symm hne]
  have fmid : ∀ i, H.n ≤ i → i < N → (endH H N rO rF m n lens cells y).f i = .gone := fun i h1 h2 => by simp [endH, Nat.not_lt.2 h1, h2]
  have fnew : ∀ o, o < m → (endH H N rO rF m n lens cells y).f (N + o) = .own (cells o) := fun o ho => by
    simp [endH, show ¬ N + o < H.n by omega, show ¬ N + o < N by omega, ho]
  have cases3 : ∀ i, i < N + m → (i < H.n ∧ i ≠ rO ∧ i ≠ rF) ∨ i = rO ∨ i = rF ∨ (H.n ≤ i ∧ i < N) ∨ ∃ o, o < m ∧ i = N + o := by
    intro i hi
    rcases Nat.lt_or_ge i H.n with h | h
    · by_cases h1 : i = rO
      · exact .inr (.inl h1)
      · by_cases h2 : i = rF
        · exact .inr (.inr (.inl h2))
        · exact .inl ⟨h, h1, h2⟩
    · rcases Nat.lt_or_ge i N with h' | h'
      · exact .inr (.inr (.inr (.inl ⟨h, h'⟩)))
      · exact .inr (.inr (.inr (.inr ⟨i - N, by omega, by omega⟩)))
  have lt3 : ∀ i l, β3 i = some l → i < N + m := fun i l e => by
    rcases Nat.lt_or_ge i (N + m) with h | h
    · exact h
    · rw [hβ3] at e; simp only [] at e; rw [if_neg (by omega), dom2 i (by omega)] at e; cases e
  have lk : ∀ i l, β3 i = some l → ((endH H N rO rF m n lens cells y).f i).isGone = false → (i < H.n ∧ i ≠ rO ∧ i ≠ rF ∧ β i = some l ∧ (H.f i).isGone = false) ∨ (i = rO ∧ l = lO) ∨ (i = rF ∧ l = lF) ∨ ∃ o, o < m ∧ i = N + o ∧ l = lr o := by
    intro i l e hg
    rcases cases3 i (lt3 i l e) with ⟨h, h1, h2⟩ | rfl | rfl | ⟨h, h'⟩ | ⟨o, ho, rfl⟩
    · exact .inl ⟨h, h1, h2, old i l h e, by rw [fold i h h1 h2] at hg; exact hg⟩
    · exact .inr (.inl ⟨rfl, Option.some.inj ((old _ l ltO e).symm.trans eO)⟩)
    · exact .inr (.inr (.inl ⟨rfl, Option.some.inj ((old _ l ltF e).symm.trans eF)⟩))
    · rw [fmid i h h'] at hg; cases hg
    · exact .inr (.inr (.inr ⟨o, ho, rfl, Option.some.inj (e.symm.trans (b3new o ho))⟩))
  have hsr : SR β3 (endH H N rO rF m n lens cells y) w1 := by
    refine ⟨fun i hi => ?_, fun i hi hh => ?_, fun i l e => ?_, fun i j li lj hij ei ej ho hg => ?_⟩
    · cases h : β3 i with
      | none => rfl
      | some l => have h1 := lt3 i l h; have h2 : N + m ≤ i := hi; omega
    · rcases cases3 i hi with ⟨h, h1, h2⟩ | rfl | rfl | ⟨h, h'⟩ | ⟨o, ho, rfl⟩
      · rw [fold i h h1 h2] at hh
        obtain ⟨l, e⟩ := hbeg.sr0.tot i h hh
        exact ⟨l, le03 _ _ e⟩
      · exact ⟨_, le03 _ _ eO⟩
      · exact ⟨_, le03 _ _ eF⟩
      · obtain ⟨l, e⟩ := tot2 i h h'
        exact ⟨l, le23 _ _ e⟩
      · exact ⟨_, b3new o ho⟩
    · rcases cases3 i (lt3 i l e) with ⟨h, h1, h2⟩ | rfl | rfl | ⟨h, h'⟩ | ⟨o, ho, rfl⟩
      · rw [fold i h h1 h2]
        exact Ky hbeg le03 h8 (old i l h e) h1 h2
      · obtain rfl : l = lO := Option.some.inj ((old _ l ltO e).symm.trans eO)
        rw [fO]
        refine zd3 hbeg h7 (fun o ho => (hU o ho).1) fun o ho => ?_
        obtain ⟨⟨⟨len, hlen, hv⟩, _⟩, _⟩ := hR o ho
        have : len = lens o := Nat.eq_of_mul_eq_mul_right hn (hlen.symm.trans (hlens o ho))
        subst this
        obtain ⟨l, a, cap, e1, e2, e3⟩ := hv
        have : l = lr o := by simpa [One] using e1.symm
        subst this
        exact ⟨lr o, a, cap, b3new o ho, e2, e3⟩
      · obtain rfl : l = lF := Option.some.inj ((old _ l ltF e).symm.trans eF)
        rw [fF]
        exact Q8 hbeg h7 fun o ho => (hU o ho).2.1
      · rw [fmid i h h']; trivial
      · obtain rfl : l = lr o := Option.some.inj (e.symm.trans (b3new o ho))
        rw [fnew o ho]
        exact RowR.mono (fun i l e => by cases e) (fun _ => rfl) (hR o ho).1.2
    · have hg' : ((endH H N rO rF m n lens cells y).f i).isGone = false := vT ho
      rcases lk i li ei hg' with ⟨h, hi1, hi2, e, hgi⟩ | ⟨rfl, rfl⟩ | ⟨rfl, rfl⟩ | ⟨o, ho', rfl, rfl⟩ <;> rcases lk j lj ej hg with ⟨k, k1, k2, e', hgj⟩ | ⟨rfl, rfl⟩ | ⟨rfl, rfl⟩ | ⟨o', ho2, rfl, rfl⟩
      · rw [fold i h hi1 hi2] at ho
        exact hbeg.sr0.apart i j li lj hij e e' ho hgj
      · rw [fold i h hi1 hi2] at ho
        exact hbeg.sr0.apart i j li lj hij e eO ho (vT zO)
      · rw [fold i h hi1 hi2] at ho
        exact hbeg.sr0.apart i j li lj hij e eF ho (vT zF)
      · intro hx
        exact (hR o' ho2).2.2.2.2.2.1 (hx ▸ hbeg.keep i li e hi1 hi2 hgi)
      · exact hbeg.sr0.apart i j li lj hij eO e' zO hgj
      · exact absurd rfl hij
      · exact hbeg.ne
      · exact fun hx => (hR o' ho2).2.2.2.1 hx.symm
      · exact hbeg.sr0.apart i j li lj hij eF e' zF hgj
      · exact fun hx => hbeg.ne hx.symm
      · exact absurd rfl hij
      · exact fun hx => (hR o' ho2).2.2.2.2.1 hx.symm
      · intro hx
        exact (hR o ho').2.2.2.2.2.1 (hx ▸ hbeg.keep j lj e' k1 k2 hgj)
      · exact (hR o ho').2.2.2.1
      · exact (hR o ho').2.2.2.2.1
      · exact hap o o' ho' ho2 (fun hx => hij (by rw [hx])) _ _ (hlr o ho') (hlr o' ho2)
  have hnt : wT (endH H N rO rF m n lens cells y) := by
    intro i b o hx
    simp only [endH] at hx
    split at hx
    · split at hx
      · cases hx
      · split at hx
        · cases hx
        · exact hs.inn.tabs i b o hx
    · split at hx
      · cases hx
      · split at hx <;> cases hx
  have hgd := hbeg.good
  have hB0 : w.heap.size ≤ B0 := hbeg.size
  have hnot : ∀ b, Owns β3 (endH H N rO rF m n lens cells y) b → (Owns β H b ∧ b < B0) ∨ (¬ R1 b ∧ B0 ≤ b) := by
    rintro b ⟨i, l, e, ho, rfl⟩
    rcases lk i l e (vT ho) with ⟨h, h1, h2, e, hgi⟩ | ⟨rfl, rfl⟩ | ⟨rfl, rfl⟩ | ⟨o, ho', rfl, rfl⟩
    · rw [fold i h h1 h2] at ho
      exact .inl ⟨⟨i, l, e, ho, rfl⟩, (hgd.rs _ (hbeg.keep i l e h1 h2 hgi)).2.2⟩
    · exact .inl ⟨⟨_, _, eO, zO, rfl⟩, (hgd.xs _ (.inl rfl)).2⟩
    · exact .inl ⟨⟨_, _, eF, zF, rfl⟩, (hgd.xs _ (.inr rfl)).2⟩
    · exact .inr (hR o ho').2.2.2.2.2
  refine ⟨β3, le23, ⟨hsr, ⟨fun b hb hr => ?_, fun i b o hx => ?_, fun b hb => ?_⟩⟩, fun b hb => ⟨hsr.live_lt hb, fun hx => ?_⟩, ⟨by omega, fun b hlt hb => ?_, fun b hlt hb => ?_, fun _ i b o hx => ?_⟩, hbeg.w0.trans h8 hbeg.rr⟩
  · rcases hnot b hb with ⟨h, _⟩ | ⟨h, _⟩
    · exact hs.inn.own b h hr
    · exact h (hbeg.rr b hr)
  · exact hnt i b o hx
  · have := hs.inn.low b hb; omega
  · obtain ⟨i, l, e, hg, rfl⟩ := hb
    rcases lk i l e hg with ⟨h, h1, h2, e, hgi⟩ | ⟨rfl, rfl⟩ | ⟨rfl, rfl⟩ | ⟨o, ho', rfl, rfl⟩
    · exact (hgd.rs _ (hbeg.keep i l e h1 h2 hgi)).1 hx
    · exact (hgd.xs _ (.inl rfl)).1 hx
    · exact (hgd.xs _ (.inr rfl)).1 hx
    · exact (hR o ho').2.2.1 hx
  · rcases hnot b hb with ⟨h, _⟩ | ⟨_, h⟩
    · exact h
    · omega
  · obtain ⟨i, l, e, hg, rfl⟩ := hb
    rcases lk i l e hg with ⟨h, h1, h2, e, hgi⟩ | ⟨rfl, rfl⟩ | ⟨rfl, rfl⟩ | ⟨o, ho', rfl, rfl⟩
    · exact ⟨i, l, e, hgi, rfl⟩
    · exact ⟨_, _, eO, vT zO, rfl⟩
    · exact ⟨_, _, eF, vT zF, rfl⟩
    · have := (hR o ho').2.2.2.2.2.2; omega
  · exact hnt i b o hx
theorem zce (hs:@SRI P (cls0 P ty R) β H w) (hbeg:Begun P ty R W β H w rO rF m lO lF (wV base B0 R1 Shun wg lO.blk lO.base lF.blk lF.base m Wk n xn xt cells y W0) β1 wb) (hne:rO≠rF) (eO:β rO=some lO) (eF:β rF=some lF) (zO:(H.f rO).isOwn=true) (zF:(H.f rF).isOwn=true) (le2:Le β1 β2)
  (hN:H.n≤N) (dom2:∀ i,N≤i→β2 i=none) (tot2:∀ i,H.n≤i→i<N→∃ l,β2 i=some l) (old2:∀ i l,i<H.n→β2 i=some l→H.f i≠.hole)
  (h2:∀ i,base≤i→i<base+Wk→(wV base B0 R1 Shun wg lO.blk lO.base lF.blk lF.base m Wk n xn xt cells y W0).Res i (Fs i) w1)
  (h4:∀ i k,base≤i→i<base+Wk→base≤k→k<base+Wk→i≠k→∀ b,Fs i b→Fs k b→R1 b) (hB:B0≤w1.heap.size)
  (h7:∀ b,(b=lO.blk∨b=lF.blk)→∃ cs,w1.heap[b]?=some (.cells cs (xt b).1 (xt b).2)∧cs.size=xn b) (h8:Same R1 W0 w1) (hW:0<Wk) :
  @SRI P (cls0 P ty R) β2 (wW H N rO rF m y) w1∧(∀ b,Live β2 (wW H N rO rF m y) b→b<w1.heap.size∧¬Shun b)∧FrC β H w β2 (wW H N rO rF m y) w1∧Same R W w1:=by
 letI:Cls P:=cls0 P ty R
 obtain⟨U,L,hU,hap⟩:=Q9 h2 h4 hW;have le03:Le β β2:=hbeg.le.trans le2;have old:∀ i l,i<H.n→β2 i=some l→β i=some l:=fun i l hi e=>by
  obtain⟨l',e'⟩:=hbeg.sr0.tot i hi (old2 i l hi e);rw [le03 _ _ e'] at e;rw [←e];exact e'
 have fold:∀ i,i<H.n→i≠rO→i≠rF→(wW H N rO rF m y).f i=H.f i:=fun i hi h1 h2=>by simp [wW,hi,h1,h2]
 have ltO:rO<H.n:=hbeg.sr0.lt eO;have ltF:rF<H.n:=hbeg.sr0.lt eF;have fO:(wW H N rO rF m y).f rO=.gone:=by simp [wW,ltO]
 have fF:(wW H N rO rF m y).f rF=.own ((List.range m).map fun o=>.bool (y o)):=by simp [wW,ltF,Ne.symm hne]
 have fmid:∀ i,H.n≤i→(wW H N rO rF m y).f i=.gone:=fun i h1=>by simp [wW,Nat.not_lt.2 h1]
 have cases3:∀ i,(i<H.n∧i≠rO∧i≠rF)∨i=rO∨i=rF∨H.n≤i:=by
  intro i;rcases Nat.lt_or_ge i H.n with h|h
  ·by_cases h1:i=rO
   ·exact .inr (.inl h1)
   ·by_cases h2:i=rF
    ·exact .inr (.inr (.inl h2))
    ·exact .inl ⟨h,h1,h2⟩
  ·exact .inr (.inr (.inr h))
 have lk:∀ i l,β2 i=some l→((wW H N rO rF m y).f i).isGone=false→(i<H.n∧i≠rO∧i≠rF∧β i=some l∧(H.f i).isGone=false)∨(i=rF∧l=lF):=by
  intro i l e hg;rcases cases3 i with⟨h,h1,h2⟩|rfl|rfl|h
  ·exact .inl ⟨h,h1,h2,old i l h e,by rw [fold i h h1 h2] at hg;exact hg⟩
  ·rw [fO] at hg;cases hg
  ·exact .inr ⟨rfl,Option.some.inj ((old _ l ltF e).symm.trans eF)⟩
  ·rw [fmid i h] at hg;cases hg
 have hsr:SR β2 (wW H N rO rF m y) w1:=by
  refine⟨dom2,fun i hi hh=>?_,fun i l e=>?_,fun i j li lj hij ei ej ho hg=>?_⟩
  ·rcases cases3 i with⟨h,h1,h2⟩|rfl|rfl|h
   ·rw [fold i h h1 h2] at hh;obtain⟨l,e⟩:=hbeg.sr0.tot i h hh;exact⟨l,le03 _ _ e⟩
   ·exact⟨_,le03 _ _ eO⟩
   ·exact⟨_,le03 _ _ eF⟩
   ·exact tot2 i h hi
  ·rcases cases3 i with⟨h,h1,h2⟩|rfl|rfl|h
   ·rw [fold i h h1 h2];exact Ky hbeg le03 h8 (old i l h e) h1 h2
   ·rw [fO];trivial
   ·obtain rfl:l=lF:=Option.some.inj ((old _ l ltF e).symm.trans eF);rw [fF];exact Q8 hbeg h7 fun o ho=>(hU o ho).2.1
   ·rw [fmid i h];trivial
  ·have hg':((wW H N rO rF m y).f i).isGone=false:=vT ho;rcases lk i li ei hg' with⟨h,hi1,hi2,e,hgi⟩|⟨rfl,rfl⟩<;>rcases lk j lj ej hg with⟨k,k1,k2,e',hgj⟩|⟨rfl,rfl⟩
   ·rw [fold i h hi1 hi2] at ho;exact hbeg.sr0.apart i j li lj hij e e' ho hgj
   ·rw [fold i h hi1 hi2] at ho;exact hbeg.sr0.apart i j li lj hij e eF ho (vT zF)
   ·exact hbeg.sr0.apart i j li lj hij eF e' zF hgj
   ·exact absurd rfl hij
 have hnt:wT (wW H N rO rF m y):=by
  intro i b o hx;simp only [wW] at hx
  split at hx
  ·split at hx
   ·cases hx
   ·split at hx
    ·cases hx
    ·exact hs.inn.tabs i b o hx
  ·cases hx
 have hgd:=hbeg.good;have hB0:w.heap.size≤B0:=hbeg.size;have hnot:∀ b,Owns β2 (wW H N rO rF m y) b→Owns β H b:=by
  rintro b ⟨i,l,e,ho,rfl⟩;rcases lk i l e (vT ho) with⟨h,h1,h2,e,hgi⟩|⟨rfl,rfl⟩
  ·rw [fold i h h1 h2] at ho;exact⟨i,l,e,ho,rfl⟩
  ·exact⟨_,_,eF,zF,rfl⟩
 refine⟨⟨hsr,⟨fun b hb hr=>hs.inn.own b (hnot b hb) hr,fun i b o hx=>hnt i b o hx,fun b hb=>?_⟩⟩,fun b hb=>⟨hsr.live_lt hb,fun hx=>?_⟩,⟨by omega,fun b hlt hb=>hnot b hb,fun b hlt hb=>?_,fun _ i b o hx=>hnt i b o hx⟩,hbeg.w0.trans h8 hbeg.rr⟩
 ·have:=hs.inn.low b hb;omega
 ·obtain⟨i,l,e,hg,rfl⟩:=hb;rcases lk i l e hg with⟨h,h1,h2,e,hgi⟩|⟨rfl,rfl⟩
  ·exact (hgd.rs _ (hbeg.keep i l e h1 h2 hgi)).1 hx
  ·exact (hgd.xs _ (.inr rfl)).1 hx
 ·obtain⟨i,l,e,hg,rfl⟩:=hb;rcases lk i l e hg with⟨h,h1,h2,e,hgi⟩|⟨rfl,rfl⟩
  ·exact⟨i,l,e,hgi,rfl⟩
  ·exact⟨_,_,eF,vT zF,rfl⟩
end
end Go.Ab
namespace Go.Ab
open Go.Conc Go.ConcN
section
variable {P:Program} [Cls P]
theorem Ok.of_T {f:FuncId} {fn:Func} {c:Code} {args:List TV} {H:Heap} {r:TV} {H2:Heap} (hf:P.funcs[f]?=some fn) (hb:fn.body=some c) (hcall:∀ (as:Array Value) (w:World),(callFunc f as).run P w=.ok (.enter f as) w) (hn:args.length≤fn.ntmps)
  (h:∀ T,Cls.ok P T→∀ β a w c0 cs,AR β (init args) a fn.ntmps→SRI P β H w→(∀ β2 rv w2,Le β β2→SRI P β2 H2 w2→TVR β2 r rv→FrC β H w β2 H2 w2→T (Live β2 H2) (G (c0.finish rv) cs) w2)→T (Live β H) (G ((Conc.base f).at a [.code c]) (c0::cs)) w):Ok P f args H r H2:=by
 intro T hT β us w hs hargs;rw [hcall];simp only;refine⟨trivial,ZO hf hb _ _,fun c0 cs hB=>?_⟩;rw [enter_at _ hf hb];exact h T hT β _ w c0 cs (qO hf hb hn hargs) hs hB
theorem Vt {T:Cont} (hT:Cls.ok P T) (hm:P.follows .mixedOrders=true) {f:FuncId} {fn:Func} {c0:Frame} {cs:List Frame} (hf:P.funcs[f]?=some fn) {todo:List Item} {s:Nat→TV} {H:Heap} {r:TV} {H2:Heap} (h:Fin P todo s H fun s' H'=>vg P fn s' H'=some r∧H'=H2) (hok:todo.all (wZ fn.ntmps)=true)
  {β:Emb} {a:Act} {w:World} (ha:AR β s a fn.ntmps) (hs:SRI P β H w) (hB:∀ β2 rv w2,Le β β2→SRI P β2 H2 w2→TVR β2 r rv→FrC β H w β2 H2 w2→T (Live β2 H2) (G (c0.finish rv) cs) w2):T (Live β H) (G ((Conc.base f).at a todo) (c0::cs)) w:=by
 obtain⟨k,hk⟩:=h;refine Xh hT (show (Conc.base f).kind≠.early from fun h=>nomatch h) hm k todo s H _ hk hok β a w ha hs fun β' s' H' a' w' todo' hR le ha' hs' fr'=>?_;obtain⟨hr,rfl⟩:=hR;exact T_leave hT rfl hf ha' hs' hr fun rv w1 hsz hs1 hrv=>hB β' rv w1 le hs1 hrv (fr'.trans (FrC.grew hsz))
theorem Kz {α : Type} {H : Heap} {f : α → Pc} : ∀ {l : List α}, (∀ a ∈ l, (f a).holds H) → l.Pairwise (fun a b => (f a).apart (f b)) → Sep H (l.map f)
  | [], _, _ => trivial
  | a :: l, h, hp => ⟨h a (List.mem_cons_self ..), fun q hq => by
      obtain ⟨b, hb, rfl⟩ := List.mem_map.1 hq
      exact (List.pairwise_cons.1 hp).1 b hb, Kz (fun b hb => h b (List.mem_cons_of_mem _ hb)) (List.pairwise_cons.1 hp).2⟩
theorem Ub {α β γ δ:Type} {f:β→γ→δ} {g:α→β} {h:α→γ}:∀ (l:List α),List.zipWith f (l.map g) (l.map h)=l.map fun a=>f (g a) (h a)
 | []=>rfl
 | a::l=>by rw [List.map_cons,List.map_cons,List.zipWith_cons_cons,Ub l,List.map_cons]
theorem YQ {α:Type} {x:α→AV}:∀ (l:List α),enc id (l.map fun a=>[x a])=l.map x
 | []=>rfl
 | a::l=>by rw [List.map_cons,wE,YQ l];rfl
theorem zd4 {α:Type} {e:α→List AV} {H Hc:Heap} {N rO rF m:Nat} {xs:Nat→List α} {y:Nat→Bool} {lens:Nat→Nat} {fr:List Pc} (hs:Sep Hc fr) (hc:Hc.n≤H.n∧Hc.n≤rO∧Hc.n≤rF) (hf:∀ i,i<Hc.n→H.f i=Hc.f i) (hrO:rO<H.n) (hN:H.n≤N) (hl:∀ o,o<m→(enc e (xs o)).length=lens o*1) :
  Sep (endH H N rO rF m 1 lens (fun o=>enc e (xs o)) y) (dpc (.sl rO 0 m 1) 1 (fun H x c=>c=[(c.getD 0 .und)]∧yf H (c.getD 0 .und) 1 (enc e x)) (fun x c=>Pc.osl (c.getD 0 .und) 1 (enc e x)) ((List.range m).map xs) ((List.range m).map fun o=>[.sl (N+o) 0 (lens o) 1]) (fun i=>N≤i∧i<N+m)::fr):=by
 have fO:(endH H N rO rF m 1 lens (fun o=>enc e (xs o)) y).f rO=.own ((List.range m).map fun o=>.sl (N+o) 0 (lens o) 1):=by simp [endH,hrO]
 have fnew:∀ o,o<m→(endH H N rO rF m 1 lens (fun o=>enc e (xs o)) y).f (N+o)=.own (enc e (xs o)):=fun o ho=>by
  simp [endH,show ¬N+o<H.n by omega,show ¬N+o<N by omega,ho]
 have hn:(endH H N rO rF m 1 lens (fun o=>enc e (xs o)) y).n=N+m:=rfl;have holds:∀ o,o<m→(Pc.osl (.sl (N+o) 0 (lens o) 1) 1 (enc e (xs o))).holds (endH H N rO rF m 1 lens (fun o=>enc e (xs o)) y):=fun o ho=>
  .inr ⟨N+o,0,lens o,[],rfl,rfl,hl o ho,by rw [hn];omega,by rw [fnew o ho];rfl⟩
 refine Sep.add hs (by rw [hn];omega) (fun i hi=>?_) (DOwn.holds ⟨.inr ⟨rO,0,m,[],rfl,rfl,by rw [YQ];simp,by rw [hn];omega,by rw [fO,YQ];rfl⟩,fun c hc=>?_,fun i hi=>by rw [hn];exact hi.2,fun i hi hS=>?_,by simp,fun j x c h1 h2 H' hH hf'=>?_,?_,fun p hp=>?_⟩) (fun i hi=>?_)
 ·simp only [endH];rw [if_pos (by omega),if_neg (by omega),if_neg (by omega)];exact hf i hi
 ·obtain⟨o,_,rfl⟩:=List.mem_map.1 hc;rfl
 ·obtain⟨_,_,_,h⟩:=hi
  cases h
  omega
 ·rw [List.getElem?_map] at h1 h2;obtain⟨o,ho,rfl⟩:=Option.map_eq_some_iff.1 h1;obtain⟨o',ho',rfl⟩:=Option.map_eq_some_iff.1 h2;obtain⟨hj,rfl⟩:=ZP ho;obtain⟨_,rfl⟩:=ZP ho';refine⟨rfl,?_⟩;have h3:=holds _ hj;exact yf.of_own (Pc.frame h3 hH hf')
 ·rw [Ub];refine Kz (fun o ho=>holds o (List.mem_range.1 ho)) ?_;refine List.Pairwise.imp (R:=fun a b=>a≠b) (fun {a b} hne _ i h1 h2=>?_) List.nodup_range;obtain⟨_,_,_,h1⟩:=h1;obtain⟨_,_,_,h2⟩:=h2;have e1:N+a=i:=congrArg AV.id0 h1;have e2:N+b=i:=congrArg AV.id0 h2;omega
 ·rw [Ub] at hp;obtain⟨o,ho,rfl⟩:=List.mem_map.1 hp;have:=List.mem_range.1 ho;refine⟨rfl,fun i hi=>?_⟩;obtain⟨_,_,_,h1⟩:=hi
  cases h1
  omega
 ·rcases hi with⟨_,_,_,h⟩|h
  ·cases h;omega
  ·omega
end
end Go.Ab
namespace Go.Ab
inductive Sh where
 | bool
 | int (k:IntKind)
 | flt (k:FloatKind)
 | str
 | sl (e:Sh)
 | unit
 | pair (a b:Sh)
def Sh.T:Sh→Type
 | .bool=>Bool
 | .int _=>Int
 | .flt _=>Nat
 | .str=>ByteArray
 | .sl e=>List e.T
 | .unit=>Unit
 | .pair a b=>a.T × b.T
def Sh.size:Sh→Nat
 | .unit=>0
 | .pair a b=>a.size+b.size
 | _=>1
def Lies (H:Heap):(s:Sh)→s.T→List AV→Prop
 | .bool,(b:Bool),cs=>cs=[.bool b]
 | .int k,(n:Int),cs=>cs=[.int k n]∧(Lit.int k n).wf=true
 | .flt k,(c:Nat),cs=>cs=[.flt k c]∧∃ b,(Lit.float k b).wf=true∧cz k b=c
 | .str,(x:ByteArray),cs=>cs=[.str x]∧x.size≤maxLen
 | .sl e,(l:List e.T),cs=>∃ id parts,cs=[.sl id 0 l.length e.size]∧id<H.n∧l.length≤maxLen∧((l=[]∧H.f id=.gone)∨H.f id=.ro parts.flatten)∧All2 (fun x c=>Lies H e x c) l parts
 | .unit,_,cs=>cs=[]
 | .pair a b,(x:a.T × b.T),cs=>∃ c d,cs=c++d∧Lies H a x.1 c∧Lies H b x.2 d
theorem Lies.len {H:Heap}:∀ {s:Sh} {x:s.T} {cs:List AV},Lies H s x cs→cs.length=s.size
 | .bool,_,_,h=>by cases h;rfl
 | .int _,_,_,⟨h,_⟩=>by cases h;rfl
 | .flt _,_,_,⟨h,_⟩=>by cases h;rfl
 | .str,_,_,⟨h,_⟩=>by cases h;rfl
 | .sl _,_,_,⟨_,_,h,_⟩=>by cases h;rfl
 | .unit,_,_,h=>by cases h;rfl
 | .pair a b,x,_,⟨c,d,h,h1,h2⟩=>by cases h;rw [List.length_append,h1.len,h2.len];rfl
def XT (H:Heap):Prop:=∀ i,(H.f i).isOwn=false∧∀ b o,H.f i≠.tab b o
def Ext (H H':Heap):Prop:=H.n≤H'.n∧∀ i,i<H.n→H'.f i=H.f i
theorem Ext.refl (H:Heap):Ext H H:=⟨Nat.le_refl _,fun _ _=>rfl⟩
theorem Ext.trans {a b c:Heap} (h:Ext a b) (k:Ext b c):Ext a c:=⟨Nat.le_trans h.1 k.1,fun i hi=>(k.2 i (Nat.lt_of_lt_of_le hi h.1)).trans (h.2 i hi)⟩
theorem Lies.ext {H H':Heap} (he:Ext H H'):∀ {s:Sh} {x:s.T} {cs:List AV},Lies H s x cs→Lies H' s x cs
 | .bool,_,_,h=>h
 | .int _,_,_,h=>h
 | .flt _,_,_,h=>h
 | .str,_,_,h=>h
 | .sl e,_,_,⟨id,parts,h,hid,hm,hr,ha⟩=>⟨id,parts,h,Nat.lt_of_lt_of_le hid he.1,hm,by rw [he.2 id hid];exact hr,ha.mono fun _ _ h=>h.ext he⟩
 | .unit,_,_,h=>h
 | .pair a b,x,_,⟨c,d,h,h1,h2⟩=>⟨c,d,h,h1.ext he,h2.ext he⟩
theorem Lies.stor {H : Heap} : ∀ {s : Sh} {x : s.T} {cs : List AV}, Lies H s x cs → ∀ c ∈ cs, c.stor = true
  | .bool, _, _, h => by cases h; simp [AV.stor]
  | .int _, _, _, ⟨h, _⟩ => by cases h; simp [AV.stor]
  | .flt _, _, _, ⟨h, _⟩ => by cases h; simp [AV.stor]
  | .str, _, _, ⟨h, _⟩ => by cases h; simp [AV.stor]
  | .sl _, _, _, ⟨_, _, h, _⟩ => by cases h; simp [AV.stor]
  | .unit, _, _, h => by cases h; simp
  | .pair a b, x, _, ⟨c, d, h, h1, h2⟩ => by
    cases h
    intro y hy
    rcases List.mem_append.1 hy with hy | hy
    · exact h1.stor y hy
    · exact h2.stor y hy
def Zt (sh:TypeId→Option Sh):Nat→List Field→Option Sh
 | _,[]=>some .unit
 | o,f::r=>if f.offset=o then (sh f.type).bind fun s=>(Zt sh (o+s.size) r).map (.pair s) else none
def Ja (P:Program) (sh:TypeId→Option Sh) (t:TypeId):Option Sh:=
 match P.underlying t with
 | some .bool=>some .bool
 | some (.int k)=>some (.int k)
 | some (.float k)=>some (.flt k)
 | some .string=>some .str
 | some (.slice e)=>(sh e).map .sl
 | some (.struct fs)=>Zt sh 0 fs.toList
 | _=>none
def shape (P:Program):Nat→TypeId→Option Sh
 | 0,_=>none
 | d+1,t=>(Ja P (shape P d) t).bind fun s=>if s.size=P.cellsOf t∧0<s.size then some s else none
theorem Zj {P : Program} : ∀ {d : Nat} {t : TypeId} {s : Sh}, shape P d t = some s → s.size = P.cellsOf t ∧ 0 < s.size
  | 0, _, _, h => by cases h
  | d + 1, t, s, h => by
    simp only [shape, Option.bind_eq_some_iff] at h
    obtain ⟨s', _, h⟩ := h
    split at h
    · cases h; assumption
    · cases h
structure RdL (w:World) (β:Emb) (H:Heap) (β':Emb) (H':Heap):Prop where
 le:Le β β'
 sr:SR β' H' w
 ro:XT H'
 ext:Ext H H'
theorem RdL.trans {w:World} {β β' β'':Emb} {H H' H'':Heap} (h:RdL w β H β' H') (k:RdL w β' H' β'' H''):RdL w β H β'' H'':=⟨h.le.trans k.le,k.sr,k.ro,h.ext.trans k.ext⟩
theorem SR.addRow {β : Emb} {H : Heap} {w : World} (h : SR β H w) (hro : XT H) (l : Loc) (b : Blk) (hb : b.isOwn = false ∧ ∀ c o, b ≠ .tab c o) (hr : RowR β w l b) :
    RdL w β H (fun i => if i = H.n then some l else β i) (H.alloc b) := by
  have hle : Le β (fun i => if i = H.n then some l else β i) := fun i l' e => by
    have := h.lt e
    show (if i = H.n then some l else β i) = some l'
    rw [if_neg (Nat.ne_of_lt this)]; exact e
  have hown : XT (H.alloc b) := fun i => by
    rw [wH]; split
    · exact hb
    · exact hro i
  have hmono' : ∀ {l' : Loc} {b : Blk}, RowR β w l' b → RowR (fun i => if i = H.n then some l else β i) w l' b := fun {l' b'} hr => by
    cases b' with
    | gone => trivial
    | ro cs =>
      obtain ⟨ccs, e, fz, h1, h2⟩ := hr
      refine ⟨ccs, e, fz, h1, fun j v hv => ?_⟩
      obtain ⟨u, hu, hvs⟩ := h2 j v hv
      exact ⟨u, hu, hvs.1.mono hle, hvs.2⟩
    | own cs =>
      obtain ⟨ccs, e, fz, h1, h2, h3⟩ := hr
      refine ⟨ccs, e, fz, h1, fun j v hv => ?_, h3⟩
      obtain ⟨u, hu, hvs⟩ := h2 j v hv
      exact ⟨u, hu, hvs.1.mono hle, hvs.2⟩
    | tab b o => exact hr
    | hole => exact hr.elim
    | mp _ _ _ => exact hr
  refine ⟨hle, ⟨fun i hi => ?_, fun i hi hh => ?_, fun i l' e => ?_, fun i j li lj hij hi hj ho hg => ?_⟩, hown, Nat.le_succ _, fun i hi => by rw [wH, if_neg (Nat.ne_of_lt hi)]⟩
  · have hi' : H.n + 1 ≤ i := hi
    show (if i = H.n then some l else β i) = none
    rw [if_neg (by omega)]; exact h.dom i (by omega)
  · have hi' : i < H.n + 1 := hi
    by_cases e : i = H.n
    · exact ⟨l, if_pos e⟩
    · obtain ⟨l', hl'⟩ := h.tot i (by omega) (by rw [wH, if_neg e] at hh; exact hh)
      exact ⟨l', by show (if i = H.n then some l else β i) = some l'; rw [if_neg e]; exact hl'⟩
  · rw [wH]
    by_cases e' : i = H.n
    · rw [if_pos e']
      have : (if i = H.n then some l else β i) = some l' := e
      rw [if_pos e'] at this
      cases this
      exact hmono' hr
    · rw [if_neg e']
      have : (if i = H.n then some l else β i) = some l' := e
      rw [if_neg e'] at this
      exact hmono' (h.row i l' this)
  · rw [(hown i).1] at ho; cases ho
def ZQ (w:World) (s:Sh) (cs:List Value):Prop:=
 ∀ β H,SR β H w→XT H→∃ β' H' x acs,RdL w β H β' H'∧All2 (VR β') acs cs∧Lies H' s x acs
theorem Vu {w : World} {s : Sh} {ι : Type} (row : ι → List Value) : ∀ (is : List ι), (∀ i ∈ is, ZQ w s (row i)) → ∀ β H, SR β H w → XT H →
    ∃ β' H' xs parts, RdL w β H β' H' ∧ All2 (fun p i => All2 (VR β') p (row i)) parts is ∧ All2 (fun x c => Lies H' s x c) xs parts
  | [], _, β, H, hs, hr => ⟨β, H, [], [], ⟨Le.refl β, hs, hr, Ext.refl H⟩, trivial, trivial⟩
  | i :: is, h, β, H, hs, hr => by
    obtain ⟨β1, H1, x, acs, r1, a1, l1⟩ := h i (List.mem_cons_self ..) β H hs hr
    obtain ⟨β2, H2, xs, parts, r2, a2, l2⟩ := Vu row is (fun j hj => h j (List.mem_cons_of_mem _ hj)) β1 H1 r1.sr r1.ro
    exact ⟨β2, H2, x :: xs, acs :: parts, r1.trans r2, ⟨a1.mono fun _ _ h => h.mono r2.le, a2⟩, ⟨l1.ext r2.ext, l2⟩⟩
theorem mapM_some {α γ : Type} {f : α → Option γ} : ∀ {l : List α} {r : List γ}, l.mapM f = some r → r.length = l.length ∧ ∀ a ∈ l, ∃ c, f a = some c
  | [], r, h => by simp at h; subst h; exact ⟨rfl, by simp⟩
  | a :: l, r, h => by
    rw [List.mapM_cons] at h
    cases ha : f a with
    | none => rw [ha] at h; cases h
    | some c =>
      rw [ha] at h
      cases hl : l.mapM f with
      | none => rw [hl] at h; cases h
      | some cs =>
        rw [hl] at h
        cases h
        obtain ⟨h1, h2⟩ := mapM_some hl
        refine ⟨by simp [h1], fun b hb => ?_⟩
        rcases List.mem_cons.1 hb with rfl | hb
        · exact ⟨c, ha⟩
        · exact h2 b hb
theorem All2.flat {α β γ : Type} {R : α → β → Prop} {row : γ → List β} : ∀ {parts : List (List α)} {is : List γ}, All2 (fun p i => All2 R p (row i)) parts is → All2 R parts.flatten (is.flatMap row)
  | [], [], _ => trivial
  | p :: ps, i :: is, ⟨h, k⟩ => by
    rw [List.flatten_cons, List.flatMap_cons]
    exact All2.append h k.flat
theorem Xu {w : World} {base : Nat} {a : Addr} {n : Nat} {vs : List Value} (h : w.cells? base a n = some vs) : vs.length = n ∧ ∀ j, j < n → w.cell? (a.add j) = vs[j]? := by
  unfold World.cells? at h
  split at h
  · have : ∀ (m k : Nat) (vs : List Value), ((List.range' k m).mapM fun i => w.cell? (a.add i)) = some vs → vs.length = m ∧ ∀ j, j < m → w.cell? (a.add (k + j)) = vs[j]? := by
      intro m
      induction m with
      | zero => intro k vs h; simp at h; subst h; exact ⟨rfl, fun j hj => absurd hj (Nat.not_lt_zero _)⟩
      | succ m ih =>
        intro k vs h
        rw [List.range'_succ, List.mapM_cons] at h
        cases h1 : w.cell? (a.add k) with
        | none => rw [h1] at h; cases h
        | some v =>
          rw [h1] at h
          cases h2 : (List.range' (k + 1) m).mapM fun i => w.cell? (a.add i) with
          | none => rw [h2] at h; cases h
          | some r =>
            rw [h2] at h
            cases h
            obtain ⟨e1, e2⟩ := ih (k + 1) r h2
            refine ⟨by simp [e1], fun j hj => ?_⟩
            cases j with
            | zero => simpa using h1
            | succ j =>
              have := e2 j (by omega)
              rw [List.getElem?_cons_succ, ← this]
              congr 2; omega
    rw [List.range_eq_range'] at h
    obtain ⟨e1, e2⟩ := this n 0 vs h
    exact ⟨e1, fun j hj => by simpa using e2 j hj⟩
  · cases h
theorem Uc {w:World} {a:Addr} {j:Nat} {v:Value} (h:w.cell? (a.add j)=some v):∃ ccs e fz,w.heap[a.block]?=some (.cells ccs e fz)∧ccs[a.off+j]?=some v∧(j=0→a.spot=none):=by
 unfold World.cell? at h;have hb:(a.add j).block=a.block:=by unfold Addr.add;split<;>rfl
 have ho:(a.add j).off=a.off+j:=by unfold Addr.add;split<;>simp_all
 rw [hb,ho] at h
 split at h
 ·rename_i ccs e fz hh
  split at h
  ·cases h
  ·rename_i hn
   refine⟨ccs,e,fz,hh,h,fun hj=>?_⟩;subst hj;simp only [Addr.add,if_true] at hn
   cases hs:a.spot with
   | none=>rfl
   | some x=>rw [hs] at hn;simp at hn
 ·cases h
theorem Lies.row {H : Heap} {e : Sh} {f : e.T → List AV} (hf : ∀ x c, Lies H e x c → c = f x) {l : List e.T} {cs : List AV} (h : Lies H (.sl e) l cs) :
    ∃ id, cs = [.sl id 0 l.length e.size] ∧ Row H id 0 (enc f l) ∧ l.length ≤ maxLen := by
  obtain ⟨id, parts, h1, h2, h3, h4, h5⟩ := h
  have hp : ∀ (l : List e.T) (parts : List (List AV)), All2 (fun x c => Lies H e x c) l parts → parts.flatten = enc f l := by
    intro l
    induction l with
    | nil => intro parts h; cases parts with
      | nil => rfl
      | cons _ _ => cases h
    | cons x l ih => intro parts h; cases parts with
      | nil => cases h
      | cons c ps => rw [List.flatten_cons, ih ps h.2, hf x c h.1]; rfl
  refine ⟨id, h1, ?_, h3⟩
  rcases h4 with ⟨rfl, hg⟩ | hg
  · exact ⟨h2, by rw [hg]; exact Nat.zero_le _, rfl⟩
  · exact Row.of_f h2 (by rw [hg]; exact hp l parts h5)
theorem enc_map {α β:Type} (e:β→List AV) (g:α→β) (l:List α):enc e (l.map g)=enc (fun x=>e (g x)) l:=by
 simp [enc,List.flatMap_map]
theorem Xv (a:Addr) (x y:Nat):(a.add x).add y=a.add (x+y):=by
 unfold Addr.add
 by_cases hx:x=0
 ·subst hx;simp
 ·by_cases hy:y=0
  ·subst hy;simp
  ·have:¬x+y=0:=by omega
   simp [hx,hy,this,Nat.add_assoc]
theorem KA {w : World} {a : Addr} {n : Nat} (row : Nat → List Value) : ∀ (m k : Nat), (∀ i, k ≤ i → i < k + m → w.cells? 0 (a.add (i * n)) n = some (row i)) →
    ∀ (j : Nat) (u : Value), ((List.range' k m).flatMap row)[j]? = some u → w.cell? (a.add (k * n + j)) = some u
  | 0, k, _, j, u, h => by simp at h
  | m + 1, k, hr, j, u, h => by
    rw [List.range'_succ, List.flatMap_cons] at h
    obtain ⟨hl, hc⟩ := Xu (hr k (Nat.le_refl _) (by omega))
    by_cases hj : j < n
    · rw [List.getElem?_append_left (by omega)] at h
      rw [← Xv, hc j hj, h]
    · rw [List.getElem?_append_right (by omega), hl] at h
      have := KA row m (k + 1) (fun i h1 h2 => hr i (by omega) (by omega)) (j - n) u h
      rw [Nat.succ_mul] at this
      rw [← this]
      congr 2; omega
theorem Xw {w : World} {sh : TypeId → Option Sh} {P : Program} (hsz : ∀ t s, sh t = some s → s.size = P.cellsOf t) (cs : List Value) : ∀ (fs : List Field) (o : Nat) (s : Sh), Zt sh o fs = some s → cs.length = o + s.size →
    (∀ f ∈ fs, ∀ s, sh f.type = some s → ZQ w s ((cs.drop f.offset).take (P.cellsOf f.type))) → ZQ w s (cs.drop o)
  | [], o, s, h, hl, _ => by
    cases h
    intro β H hs hr
    refine ⟨β, H, (), [], ⟨Le.refl β, hs, hr, Ext.refl H⟩, ?_, rfl⟩
    have : cs.drop o = [] := List.drop_eq_nil_of_le (by simp [Sh.size] at hl; omega)
    rw [this]; trivial
  | f :: r, o, s, h, hl, hf => by
    unfold Zt at h
    split at h
    · rename_i ho
      cases h1 : sh f.type with
      | none => rw [h1] at h; cases h
      | some s1 =>
        rw [h1] at h
        cases h2 : Zt sh (o + s1.size) r with
        | none => rw [Option.bind_some, h2] at h; cases h
        | some s2 =>
          rw [Option.bind_some, h2] at h
          cases h
          have hz := hsz _ _ h1
          have k1 := hf f (List.mem_cons_self ..) s1 h1
          have hl' : cs.length = o + s1.size + s2.size := by rw [hl]; simp [Sh.size]; omega
          have k2 := Xw hsz cs r (o + s1.size) s2 h2 hl' fun g hg => hf g (List.mem_cons_of_mem _ hg)
          intro β H hs hr
          obtain ⟨β1, H1, x, acs, r1, a1, l1⟩ := k1 β H hs hr
          obtain ⟨β2, H2, y, bcs, r2, a2, l2⟩ := k2 β1 H1 r1.sr r1.ro
          refine ⟨β2, H2, (x, y), acs ++ bcs, r1.trans r2, ?_, ⟨acs, bcs, rfl, l1.ext r2.ext, l2⟩⟩
          have e : cs.drop o = (cs.drop f.offset).take (P.cellsOf f.type) ++ cs.drop (o + s1.size) := by
            rw [ho, ← hz, ← List.drop_drop, List.take_append_drop]
          rw [e]
          exact All2.append (a1.mono fun _ _ h => h.mono r2.le) a2
    · cases h
theorem Xx {w:World} {s:Sh} {a:Option Addr} {cap:Nat} (h:a=none∧cap=0∨(∃ b,a=some b∧b.spot=none)∨cap=0):ZQ w (.sl s) [.slice a 0 cap]:=by
 intro β H hs hr;have r:=SR.addRow hs hr ⟨((a.map (·.block)).getD 0),((a.map (·.off)).getD 0),cap*s.size⟩ .gone ⟨rfl,nofun⟩ trivial;refine⟨_,_,([]:List s.T),[.sl H.n 0 0 s.size],r,⟨⟨_,a,cap,if_pos rfl,rfl,Nat.zero_le _,?_⟩,trivial⟩,⟨H.n,[],rfl,Nat.lt_succ_self _,Nat.zero_le _,.inl ⟨rfl,by rw [wH,if_pos rfl]⟩,trivial⟩⟩;rcases h with⟨rfl,rfl⟩|⟨b,rfl,hb⟩|rfl
 ·exact .inr ⟨rfl,rfl⟩
 ·left
  refine⟨?_,by simp⟩
  cases b;simp at hb;subst hb;rfl
 ·exact .inr ⟨rfl,rfl⟩
theorem J6 {w:World} {s:Sh} {a:Addr} {len cap:Nat} {row:Nat→List Value} (hn:0<s.size) (hlen:0<len) (hc:len≤cap) (hm:cap≤maxLen)
  (hrow:∀ i,i<len→w.cells? 0 (a.add (i*s.size)) s.size=some (row i)) (ho:∀ i,i<len→ZQ w s (row i)):ZQ w (.sl s) [.slice (some a) len cap]:=by
 intro β H hs hr;obtain⟨β1,H1,xs,parts,r1,a1,l1⟩:=Vu row (List.range len) (fun i hi=>ho i (List.mem_range.1 hi)) β H hs hr;have hlen1:parts.length=len:=by have:=a1.len;simpa using this
 have hlen2:xs.length=len:=by rw [l1.len,hlen1]
 have hfl:=a1.flat
 have hat:∀ (j:Nat) (u:Value),((List.range len).flatMap row)[j]?=some u→w.cell? (a.add j)=some u:=by
  intro j u h;rw [List.range_eq_range'] at h;have:=KA row len 0 (fun i _ h2=>hrow i (by omega)) j u h
  simpa using this
 obtain⟨hl0,hc0⟩:=Xu (hrow 0 hlen);obtain⟨u0,hu0⟩:∃ u,(row 0)[0]?=some u:=⟨(row 0)[0]'(by omega),by rw [List.getElem?_eq_getElem]⟩;have h00:=hc0 0 hn;rw [hu0] at h00;simp only [Nat.zero_mul] at h00;have h00':w.cell? (a.add 0)=some u0:=by rw [Xv] at h00;exact h00
 obtain⟨ccs,e,fz,hheap,_,hspot⟩:=Uc h00';have hspot:=hspot rfl;have hrowR:RowR β1 w ⟨a.block,a.off,cap*s.size⟩ (.ro parts.flatten):=by
  refine⟨ccs,e,fz,hheap,fun j v hv=>?_⟩;obtain⟨u,hu,hvr⟩:=hfl.get j v hv;obtain⟨ccs',e',fz',hh',hcc,_⟩:=Uc (hat j u hu);rw [hheap] at hh'
  cases hh'
  refine⟨u,hcc,hvr,?_⟩;obtain⟨p,hp,hvp⟩:=List.mem_flatten.1 (List.mem_of_getElem? hv);obtain⟨k,hk,rfl⟩:=List.getElem_of_mem hp;obtain⟨x,hx⟩:∃ x,xs[k]?=some x:=⟨xs[k]'(by omega),by rw [List.getElem?_eq_getElem]⟩;obtain⟨p',hp',hl⟩:=l1.get k x hx;rw [List.getElem?_eq_getElem hk] at hp'
  cases hp'
  exact hl.stor v hvp
 have r2:=SR.addRow r1.sr r1.ro ⟨a.block,a.off,cap*s.size⟩ (.ro parts.flatten) ⟨rfl,nofun⟩ hrowR;refine⟨_,_,xs,[.sl H1.n 0 xs.length s.size],r1.trans r2,⟨⟨_,some a,cap,if_pos rfl,by rw [hlen2],by rw [hlen2];exact hc,.inl ⟨?_,by simp⟩⟩,trivial⟩,
  ⟨H1.n,parts,rfl,Nat.lt_succ_self _,by rw [hlen2];omega,.inr (by rw [wH,if_pos rfl]),l1.mono fun _ _ h=>h.ext r2.ext⟩⟩
 cases a;simp at hspot;subst hspot;rfl
theorem YR {U : Type} {enc : TypeId × Value → U} {P : Program} {w : World} {held : Bool} : ∀ (d : Nat) (t : TypeId) (s : Sh), shape P d t = some s → ∀ fuel cs dat ps, DataW.trod enc P w 0 (fun _ => true) held fuel t cs = some (dat, ps) → ZQ w s cs
  | 0, _, _, h, _, _, _, _, _ => by cases h
  | d + 1, t, s, h, 0, cs, dat, ps, ht => by cases ht
  | d + 1, t, s, h, fuel + 1, cs, dat, ps, ht => by
    have hsz := Zj h
    simp only [shape, Option.bind_eq_some_iff] at h
    obtain ⟨s', h0, h⟩ := h
    split at h
    case isFalse => cases h
    cases h
    unfold Ja at h0
    unfold DataW.trod at ht
    split at h0
    case h_1 hu =>
      cases h0
      rw [hu] at ht
      obtain ⟨b, rfl⟩ : ∃ b, cs = [.bool b] := by
        split at ht <;> simp_all
      exact fun β H hs hr => ⟨β, H, b, [.bool b], ⟨Le.refl β, hs, hr, Ext.refl H⟩, ⟨rfl, trivial⟩, rfl⟩
    case h_2 k hu =>
      cases h0
      rw [hu] at ht
      obtain ⟨n, rfl, hw⟩ : ∃ n, cs = [.int k n] ∧ (Lit.int k n).wf = true := by
        split at ht <;> simp_all
      exact fun β H hs hr => ⟨β, H, n, [.int k n], ⟨Le.refl β, hs, hr, Ext.refl H⟩, ⟨rfl, trivial⟩, rfl, hw⟩
    case h_3 k hu =>
      cases h0
      rw [hu] at ht
      obtain ⟨b, rfl, hw⟩ : ∃ b, cs = [.float k b] ∧ (Lit.float k b).wf = true := by
        split at ht <;> simp_all
      exact fun β H hs hr => ⟨β, H, cz k b, [.flt k (cz k b)], ⟨Le.refl β, hs, hr, Ext.refl H⟩, ⟨⟨b, rfl, rfl⟩, trivial⟩, rfl, b, hw, rfl⟩
    case h_4 hu =>
      cases h0
      rw [hu] at ht
      obtain ⟨x, rfl, hw⟩ : ∃ x, cs = [.string x] ∧ x.size ≤ maxLen := by
        split at ht <;> simp_all
      exact fun β H hs hr => ⟨β, H, x, [.str x], ⟨Le.refl β, hs, hr, Ext.refl H⟩, ⟨rfl, trivial⟩, rfl, hw⟩
    case h_5 e hu =>
      rw [hu] at ht
      cases hse : shape P d e with
      | none => rw [hse] at h0; cases h0
      | some se =>
        rw [hse] at h0
        cases h0
        have hez := Zj hse
        have hcs : (cs = [.slice none 0 0]) ∨ ∃ a len cap, cs = [.slice (some a) len cap] := by
          split at ht <;> simp_all
        rcases hcs with rfl | ⟨a, len, cap, rfl⟩
        · exact Xx (.inl ⟨rfl, rfl⟩)
        · simp only at ht
          split at ht
          case isFalse => cases ht
          rename_i hcond
          obtain ⟨_, hlc, hcm⟩ := hcond
          rw [Option.bind_eq_some_iff] at ht
          obtain ⟨elems, hel, ht⟩ := ht
          rw [if_pos trivial] at ht
          rw [Option.map_eq_some_iff] at ht
          obtain ⟨rest, hrest, _⟩ := ht
          have he := (mapM_some hel).2
          have hr := (mapM_some hrest).2
          rcases Nat.eq_zero_or_pos len with rfl | hlen
          · rcases Nat.eq_zero_or_pos cap with rfl | hcap
            · exact Xx (.inr (.inr rfl))
            · refine Xx (.inr (.inl ⟨a, rfl, ?_⟩))
              obtain ⟨c, hc⟩ := hr 0 (List.mem_range.2 (by omega))
              rw [Option.bind_eq_some_iff] at hc
              obtain ⟨vs, hvs, _⟩ := hc
              obtain ⟨hl, hcell⟩ := Xu hvs
              have h0 := hcell 0 (by omega)
              rw [Xv, List.getElem?_eq_getElem (by omega)] at h0
              simp only [Nat.add_zero, Nat.zero_mul] at h0
              obtain ⟨_, _, _, _, _, hs⟩ := Uc h0
              exact hs rfl
          · have hrow : ∀ i, i < len → ∃ vs, w.cells? 0 (a.add (i * se.size)) se.size = some vs ∧ ZQ w se vs := by
              intro i hi
              obtain ⟨c, hc⟩ := he i (List.mem_range.2 hi)
              rw [Option.bind_eq_some_iff] at hc
              obtain ⟨vs, hvs, hc⟩ := hc
              rw [← hez.1] at hvs
              exact ⟨vs, hvs, YR d e se hse _ vs c.1 c.2 hc⟩
            refine J6 (row := fun i => (w.cells? 0 (a.add (i * se.size)) se.size).getD []) hez.2 hlen hlc hcm (fun i hi => ?_) fun i hi => ?_
            · obtain ⟨vs, hvs, _⟩ := hrow i hi
              rw [hvs]; rfl
            · obtain ⟨vs, hvs, ho⟩ := hrow i hi
              rw [hvs]; exact ho
    case h_6 fs hu =>
      rw [hu] at ht
      simp only at ht
      split at ht
      case isFalse => cases ht
      rename_i hlen
      rw [Option.map_eq_some_iff] at ht
      have hm := ht.imp fun _ h => h.1
      obtain ⟨xs, hm⟩ := hm
      have := Xw (w := w) (P := P) (fun t s h => (Zj h).1) cs fs.toList 0 s h0 (by rw [hlen, ← hsz.1, Nat.zero_add]) fun f hf sf hsf => by
        obtain ⟨c, hc⟩ := (mapM_some hm).2 f hf
        exact YR d f.type sf hsf fuel _ c.1 c.2 hc
      simpa using this
    case h_7 => cases h0
end Go.Ab
namespace Go.Ab
open Go.WideShapes Go.RowKit
def tvOf:Sh→List AV→TV
 | .pair _ _,cs=>.g cs
 | .unit,cs=>.g cs
 | _,cs=>.v (cs.headD .bad)
def Vv:List Sh→Sh
 | []=>.unit
 | s::r=>.pair s (Vv r)
def qP (H:Heap):(ss:List Sh)→(Vv ss).T→List TV→Prop
 | [],_,as=>as=[]
 | s::r,(x:s.T × (Vv r).T),as=>∃ cs rest,as=tvOf s cs::rest∧Lies H s x.1 cs∧qP H r x.2 rest
theorem qP.ext {H H':Heap} (he:Ext H H'):∀ {ss:List Sh} {x:(Vv ss).T} {as:List TV},qP H ss x as→qP H' ss x as
 | [],_,_,h=>h
 | s::r,x,_,⟨cs,rest,h,h1,h2⟩=>⟨cs,rest,h,h1.ext he,h2.ext he⟩
theorem zd5 {P : Program} {w : World} {base d : Nat} {t : TypeId} {s : Sh} {v : Value} (hs : shape P d t = some s) (h : Value.okWide P w .any base t v) {β : Emb} {H : Heap} {x : s.T} {acs : List AV}
    (ha : All2 (VR β) acs v.cells.toList) (hl : Lies H s x acs) : TVR β (tvOf s acs) v := by
  cases d with
  | zero => cases hs
  | succ d =>
    have hsz := Zj hs
    simp only [shape, Option.bind_eq_some_iff] at hs
    obtain ⟨s', h0, hs⟩ := hs
    split at hs
    case isFalse => cases hs
    cases hs
    unfold Ja at h0
    have one : ∀ {u : Value}, (∀ cs, v ≠ .agg cs) → v.cells.toList = [v] := fun hne => by
      cases v <;> first | rfl | exact absurd rfl (hne _)
    have scalar : (∀ cs, v ≠ .agg cs) → s.size = 1 → ∃ c, acs = [c] ∧ VR β c v := fun hne hz => by
      have hlen := hl.len
      rw [hz] at hlen
      rw [one (u := v) hne] at ha
      match acs, ha with
      | [c], ⟨hc, _⟩ => exact ⟨c, rfl, hc⟩
      | [], ha => simp at hlen
      | _ :: _ :: _, ha => simp at hlen
    split at h0
    case h_1 hu =>
      cases h0
      obtain ⟨b, rfl⟩ := okWide_bool hu h
      obtain ⟨c, rfl, hc⟩ := scalar (by simp) rfl
      exact hc
    case h_2 k hu =>
      cases h0
      obtain ⟨b, rfl⟩ := okWide_int hu h
      obtain ⟨c, rfl, hc⟩ := scalar (by simp) rfl
      exact hc
    case h_3 k hu =>
      cases h0
      have : ∀ cs, v ≠ .agg cs := by
        intro cs e
        subst e
        simp only [Value.okWide, hu, Cell.okWide, Cell.ok] at h
      obtain ⟨c, rfl, hc⟩ := scalar this rfl
      exact hc
    case h_4 hu =>
      cases h0
      obtain ⟨b, rfl⟩ := okWide_string hu h
      obtain ⟨c, rfl, hc⟩ := scalar (by simp) rfl
      exact hc
    case h_5 e hu =>
      obtain ⟨a, len, cap, rfl⟩ := okWide_slice hu h
      cases hse : shape P d e with
      | none => rw [hse] at h0; cases h0
      | some se =>
        rw [hse] at h0; cases h0
        obtain ⟨c, rfl, hc⟩ := scalar (by simp) rfl
        exact hc
    case h_6 fs hu =>
      obtain ⟨cs, rfl, hcs⟩ := okWide_struct hu h
      have hg : tvOf s acs = .g acs := by
        cases hf : fs.toList with
        | nil => rw [hf] at h0; cases h0; rfl
        | cons f r =>
          rw [hf] at h0
          unfold Zt at h0
          split at h0
          · cases h1 : shape P d f.type with
            | none => rw [h1] at h0; cases h0
            | some s1 =>
              rw [h1, Option.bind_some, Option.map_eq_some_iff] at h0
              obtain ⟨s2, _, rfl⟩ := h0
              rfl
          · cases h0
      rw [hg]
      exact ⟨cs.toList, by simp, ha⟩
    case h_7 => cases h0
theorem YZ {U : Type} {enc : TypeId × Value → U} {P : Program} {w : World} {base d : Nat} : ∀ (ts : List TypeId) (ss : List Sh) (vs : List Value) (ds : List (DataW U)) (p : List MemPlace), ts.map (shape P d) = ss.map some →
    DataW.TrodAll enc P w 0 (fun _ => true) true ts vs ds p → (∀ (j : Nat) t v, ts[j]? = some t → vs[j]? = some v → Value.okWide P w .any base t v) → ∀ β H, SR β H w → XT H →
    ∃ β' H' x as, RdL w β H β' H' ∧ All2 (TVR β') as vs ∧ qP H' ss x as
  | [], [], [], [], p, _, _, _, β, H, hs, hr => ⟨β, H, (), [], ⟨Le.refl β, hs, hr, Ext.refl H⟩, trivial, rfl⟩
  | t :: ts, s :: ss, v :: vs, dd :: ds, p, hsh, ⟨p1, q, ⟨fuel, h1⟩, h2, _⟩, hv, β, H, hs, hr => by
    simp only [List.map_cons, List.cons.injEq] at hsh
    obtain ⟨β1, H1, x, acs, r1, a1, l1⟩ := YR d t s hsh.1 fuel _ dd p1 h1 β H hs hr
    obtain ⟨β2, H2, y, as, r2, a2, l2⟩ := YZ ts ss vs ds q hsh.2 h2 (fun j t' v' h3 h4 => hv (j + 1) t' v' (by simpa using h3) (by simpa using h4)) β1 H1 r1.sr r1.ro
    refine ⟨β2, H2, (x, y), tvOf s acs :: as, r1.trans r2, ⟨?_, a2⟩, acs, as, rfl, l1.ext r2.ext, l2⟩
    exact (zd5 hsh.1 (hv 0 t v rfl rfl) a1 l1).mono r2.le
  | [], _ :: _, _, _, _, hsh, _, _, _, _, _, _ => by simp at hsh
  | _ :: _, [], _, _, _, hsh, _, _, _, _, _, _ => by simp at hsh
theorem trodAll_stays {U : Type} {enc : TypeId × Value → U} {P : Program} (hl : laidOutB P = true) {W W' : World} (hb : Below W.heap.size W W') : ∀ (ts : List TypeId) (vs : List Value) (ds : List (DataW U)) (p : List MemPlace),
    (∀ t ∈ ts, P.readableRec t = true ∧ t < P.types.size) → DataW.TrodAll enc P W 0 (fun _ => true) true ts vs ds p → DataW.TrodAll enc P W' 0 (fun b => decide (b < W.heap.size)) true ts vs ds p
  | [], [], [], _, _, h => h
  | t :: ts, v :: vs, d :: ds, _, ht, ⟨p1, q, h1, h2, e⟩ => by
    refine ⟨p1, q, Below.trod hl (ht t (List.mem_cons_self ..)).1 (ht t (List.mem_cons_self ..)).2 h1 hb ?_, trodAll_stays hl hb ts vs ds q (fun t h => ht t (List.mem_cons_of_mem _ h)) h2, e⟩
    obtain ⟨m, hm⟩ := h1
    exact fun y hy => DataW.trod_lt m _ _ _ hm y hy
end Go.Ab
namespace Go.Ab
open Go.Conc Go.ConcN Go.WideShapes Go.RowKit
open Go.ConcR (KK wgBlock WgAt stA smA rd wr mk Payload DC0)
theorem UR {H : Heap} {e : Sh} {α : Type} {f : α → List AV} {g : e.T → α} {n : Nat} (hn : e.size = n) (hf : ∀ x c, Lies H e x c → c = f (g x)) {l : List e.T} {cs : List AV} (h : Lies H (.sl e) l cs) :
    ∃ v, cs = [v] ∧ yf H v n (enc f (l.map g)) ∧ l.length ≤ maxLen := by
  obtain ⟨id, rfl, hr, hm⟩ := Lies.row (f := fun x => f (g x)) hf h
  have he : enc (fun x => f (g x)) l = enc f (l.map g) := (enc_map f g l).symm
  have hlen : (enc f (l.map g)).length = l.length * n := by
    rw [← he]
    have h' := h
    obtain ⟨id', parts, _, _, _, _, hp⟩ := h'
    have key : ∀ (xs : List e.T) (ps : List (List AV)), All2 (fun x c => Lies H e x c) xs ps → (enc (fun x => f (g x)) xs).length = xs.length * n := by
      intro xs
      induction xs with
      | nil => intro ps _; simp [enc]
      | cons x xs ih =>
        intro ps hp
        cases ps with
        | nil => exact hp.elim
        | cons p ps =>
          have h1 := hf x p hp.1
          rw [wE, List.length_append, ih ps hp.2, ← h1, hp.1.len, hn, List.length_cons, Nat.succ_mul]; omega
    exact key l parts hp
  refine ⟨_, rfl, .inr ⟨id, 0, l.length, by rw [hn], hlen, ?_⟩, hm⟩
  rw [← he]; exact hr
def TopQ (P:Program) [Cls P] (f:FuncId) (args:List TV) (H:Heap) (Q:TV→Heap→Prop):Prop:=
 ∃ fn c,P.funcs[f]?=some fn∧fn.body=some c∧wY fn.ntmps c=true∧args.length≤fn.ntmps∧P.follows .mixedOrders=true∧Fin P [.code c] (init args) H fun s' H'=>∃ r',vg P fn s' H'=some r'∧Q r' H'
theorem zd6 {P:Program} [Cls P] {f:FuncId} {args:List TV} {H:Heap} {Q:TV→Heap→Prop} (fn:Func) {c:Code} (hm:P.follows .mixedOrders=true) (hf:P.funcs[f]?=some fn) (hb:fn.body=some c)
  (hcall:∀ (as:Array Value) (w:World),(callFunc f as).run P w=.ok (.enter f as) w) (hok:wY fn.ntmps c=true) (hn:args.length≤fn.ntmps)
  (h:Fin P [.code c] (init args) H fun s' H'=>∃ r',vg P fn s' H'=some r'∧Q r' H'):TopQ P f args H Q:=⟨fn,c,hf,hb,hok,hn,hm,h⟩
theorem zcf {P:Program} [Cls P] {f:FuncId} {vs:List TV} {H:Heap} {Q:TV→Heap→Prop} (h:TopQ P f vs H Q) (hq:∀ r H2,Q r H2→r=.v (.bool true)):∃ Q,TopQ P f vs H Q∧∀ r H2,Q r H2→r=.v (.bool true):=⟨Q,h,hq⟩
theorem zcg {P:Program} {b:Frame} {a:Act} {w:World} {fn:Func} {todo:List Item} {v:Value} (hn:b.kind=.normal) (hd:a.defers=[]) (hf:P.funcs[b.fn]?=some fn) (hi:P.inits.idxOf? b.fn=none)
  (hr:(results fn a.tmps).run P w=.ok v w) :
  stepG P true (G { b.at a todo with mode:=.returning } []) w=.ended (.done v) w (seen P b.fn ((results fn a.tmps).events P w #[])):=by
 simp [G,stepG,unwind,doReturn,Frame.at,hn,hd,hf,hr,hi,GStep.after]
section
variable {P:Program} {ty:TypeId} [Payload]
theorem za5 {Post:Value→World→Prop} {W:World} {F:Nat→Prop} {g:Goroutine} (hrun:g.status=.running) (hF:∀ b,F b→b<W.heap.size) (h:T0 P ty Post (fun b=>b<W.heap.size) W F g W):Wins P Post (solo g W) #[]:=by
 let E:Env:={ base:=0,B0:=W.heap.size,R:=fun b=>b<W.heap.size,Shun:=fun _=>False,X:=fun _=>False,Wg:=0,Mine:=fun _ _ _=>False,Res:=fun _ _ _=>True,xn:=fun _=>0,xt:=fun _=>(0,0,0),W0:=W }
 have e:E.Good0 ty:=⟨fun b hb=>⟨id,id,hb⟩,fun b hb=>hb.elim,fun b hb=>hb.elim,.inl rfl,fun i b o hm=>hm.elim,fun i k b o hm=>hm.elim,fun _ _ _ _ _ _=>trivial,fun _ _ _ _ _ _=>trivial⟩;rw [solo_eq_crowd];refine h (.refl _ _) E e rfl (fun _=>⟨1,.leaf,0,0,fun _=>False⟩) #[g] W none #[] ⟨hrun,rfl,(fun hx=>nomatch hx),.refl _ _ _,?_,hF,fun b _=>⟨id,id⟩,fun i hi=>absurd hi (Nat.not_lt_zero i),rfl⟩ (Vc_le _ _);exact⟨rfl,Nat.le_refl _,fun i hi=>absurd hi (Nat.not_lt_zero i),fun i hi=>absurd hi (Nat.not_lt_zero i),TR.nil,fun i hi=>by simp [Trace.act?] at hi,by simp [Deaf,Trace.deaf],fun i hi=>absurd hi (Nat.not_lt_zero i),fun i _ hi=>absurd hi (Nat.not_lt_zero i),fun i _ hi=>absurd hi (Nat.not_lt_zero i),Nat.le_refl _,fun b hb=>hb.elim,fun i hi=>absurd hi (Nat.not_lt_zero i),fun i hi=>absurd hi (Nat.not_lt_zero i),fun i hi=>absurd hi (Nat.not_lt_zero i),.refl _ _⟩
theorem law_leaves {U:Type} {enc:TypeId × Value→U} {f:FuncId} {ts:List TypeId} {ss:List Sh} {d base:Nat} (hin:P.inits.idxOf? f=none)
  (hsh:ts.map (shape P d)=ss.map some) (hok:∀ (R:Nat→Prop) H x as,qP H ss x as→∃ Q,@TopQ P (cls0 P ty R) f as H Q∧∀ r H2,Q r H2→r=.v (.bool true)) {W:World} {args:Array Value} {ds:List (DataW U)} {p:List MemPlace}
  (hA:DataW.TrodAll enc P W 0 (fun _=>true) true ts args.toList ds p) (hval:∀ (j:Nat) t v,ts[j]?=some t→args[j]?=some v→Value.okWide P W .any base t v) :
  Wins P (fun v w'=>v=.bool true∧Below W.heap.size W w') (solo (G (Frame.enter P f args .normal) []) W) #[]:=by
 have h0:SR (fun _=>none) ⟨0,fun _=>.gone⟩ W:=⟨fun _ _=>rfl,fun i hi=>absurd hi (Nat.not_lt_zero i),fun i l e=>(by cases e),fun i j li lj _ e=>(by cases e)⟩;obtain⟨β,H,x,as,r,ha,hl⟩:=YZ ts ss args.toList ds p hsh hA (fun j t v h1 h2=>hval j t v h1 (by simpa using h2)) _ _ h0 (fun _=>⟨rfl,nofun⟩)
 letI:Cls P:=cls0 P ty (fun b=>b<W.heap.size)
 have hs:SRI P β H W:=⟨r.sr,⟨fun b ⟨i,l,_,ho,_⟩ _=>absurd ((r.ro i).1.symm.trans ho) (fun h=>nomatch h),fun i b o hx=>(r.ro i).2 b o hx,fun b hb=>hb⟩⟩;obtain⟨Q,⟨fn,c,hf,hb,hcode,hn,hm,k,hk⟩,hq⟩:=hok (fun b=>b<W.heap.size) H x as hl;have hT:Cls.ok P (T0 P ty (fun v w'=>v=.bool true∧Below W.heap.size W w') (fun b=>b<W.heap.size) W):=⟨_,W,fun b hb=>hb,rfl⟩;refine za5 (ty:=ty) rfl (fun b hb=>r.sr.live_lt hb) ?_;rw [show args=args.toList.toArray by simp,enter_at _ hf hb];refine Xh hT (show (Conc.base f).kind≠.early from fun h=>nomatch h) hm k _ _ _ _ hk (by simpa [wZ] using hcode) β _ W (qO hf hb hn ha) hs fun β' s' H' a' w' todo' hR le ha' hs' fr'=>?_;obtain⟨r',hres,hr'⟩:=hR;obtain rfl:=hq _ _ hr';refine T0.ended fun w1 hk1 hsame=>?_;have h3':=hs'.keep hk1;obtain⟨rv,hrv,hrr⟩:=uC ha' h3'.sr hres;obtain⟨rv',hrv',_⟩:=uC ha' (h3'.sr.bare h3'.inn.tabs) hres;refine⟨_,_,zcg rfl ha'.defers hf hin hrv,fun e he=>?_,hrr,hsame.os,hsame.tape,hsame.output,Nat.le_trans fr'.size hk1.size,fun b hb=>hsame.block b hb⟩;exact EvOk.of_touch h3'.inn (jN (YM fn a'.tmps) h3'.sr h3'.inn.tabs hrv ⟨_,_,hrv'⟩ e (mem_seen he))
end
end Go.Ab
