/-
  The model ends so. Printed by a program of the session; nothing here is trusted.
-/
import Derived.Test.YtecdkjnomkdbkaaProg
import Derived.KernelRfl
import Derived.Test.YtecdkjnomkdbkaaMCutsWa
import Derived.Test.YtecdkjnomkdbkaaMCutsKa
namespace Go.Proofs.Ytecdkjnomkdbkaa.G
open Go Go.Ab Go.Proofs Go.Proofs.Ytecdkjnomkdbkaa
set_option maxRecDepth 100000
set_option linter.unusedVariables false
set_option linter.unusedSimpArgs false
set_option maxHeartbeats 1000000
attribute [local irreducible] wops wopf Go.Ab.Fin
theorem F5.ag2 : tagg Try.prog 2 = some false := by kernel_rfl
theorem F5.ag23 : tagg Try.prog 23 = some false := by kernel_rfl
theorem F5.ag47 : tagg Try.prog 47 = some false := by kernel_rfl
theorem F5.fd49_0 : tfield Try.prog 49 0 = some (0, 1, false) := by kernel_rfl
theorem F5.fd49_1 : tfield Try.prog 49 1 = some (1, 1, false) := by kernel_rfl
theorem F5.fl23 : tflt Try.prog 23 = some .f32 := by kernel_rfl
theorem F5.fl28 : tflt Try.prog 28 = some .f64 := by kernel_rfl
theorem F5.in23 : tint Try.prog 23 = none := by kernel_rfl
theorem F5.in28 : tint Try.prog 28 = none := by kernel_rfl
theorem F5.ti22 : (telem Try.prog 22).isSome = true := by kernel_rfl
theorem F5.ti35 : (telem Try.prog 35).isSome = true := by kernel_rfl
theorem F5.ti47 : (telem Try.prog 47).isSome = true := by kernel_rfl
theorem F5.tl22 : (telem Try.prog 22).bind (tsz Try.prog) = some 1 := by kernel_rfl
theorem F5.tl35 : (telem Try.prog 35).bind (tsz Try.prog) = some 1 := by kernel_rfl
theorem F5.tl47 : (telem Try.prog 47).bind (tsz Try.prog) = some 2 := by kernel_rfl
theorem F5.us2 : (Try.prog.underlying 2).isSome = true := by kernel_rfl
theorem F5.us23 : (Try.prog.underlying 23).isSome = true := by kernel_rfl
theorem laws_FnCuts_ok {fr : List Pc} {H : Heap} (v0 : AV) (l0 : List (Int)) (v1 : AV) (l1 : List (Int)) (hs : Sep H (fr)) (g0 : ∀ H, Sep H fr → Shows H v0 1 (enc (eInt .u8) l0)) (g1 : ∀ H, Sep H fr → Shows H v1 1 (enc (eInt .u8) l1)) (K : Bool → Prop) (h : laws_FnCuts.wp l0 l1 K) : OkQ Try.prog 5 [(.v v0), (.v v1)] H (fun r H2 => ∃ (y0 : Bool), K y0 ∧ r = (.v (.bool y0)) ∧ Sep H2 (fr)) := by
  unfold laws_FnCuts.wp at h
  refine of_body Try.f5 F.hm Try.func5 rfl Try.call5 (by kernel_rfl) (by simp) ?_
  refine fi_seq ?_
  refine fi_region ?_
  refine so_assign (v := (.v (.bool false))) rfl ?_
  refine so_nil ?_
  refine fi_seq ?_
  refine fi_seq ?_
  refine fi_region ?_
  refine so_move (v := (.v v0)) rfl ?_
  refine so_move (v := (.v v1)) rfl ?_
  refine sv_callS (laws_b10Long_ok v0 l0 v1 l1 hs (fun _ hs => (g0 _ hs)) (fun _ hs => (g1 _ hs)) _ h) (fun _ _ ⟨_, _, _, e⟩ => e) rfl rfl ?_
  clear h
  rintro _ _ ⟨y101, h, rfl, rfl⟩
  refine so_nil ?_
  replace h := ofT h; rcases h with ⟨c103, h⟩ | ⟨c103, h⟩
  · refine fi_true rfl c103 ?_
    refine fi_seq ?_
    refine fi_region ?_
    refine so_assign (v := (.v (.bool true))) rfl ?_
    refine so_nil ?_
    exact by_ret rfl ⟨_, h, rfl, hs⟩
  · refine fi_false rfl c103 ?_
    refine fi_skip ?_
    refine fi_seq ?_
    refine fi_region ?_
    refine so_move (v := (.v v0)) rfl ?_
    refine sv_call (spec_B10Blocks_ok v0 l0 hs (fun _ hs => (g0 _ hs)) _ h) rfl rfl nofun ?_
    clear h hs
    rintro _ H109 ⟨y104, h, v105, ws107, S108, rfl, hs⟩
    refine so_assign (v := (.v v105)) rfl ?_
    refine so_nil ?_
    refine fi_seq ?_
    refine fi_region ?_
    refine so_move (v := (.v v1)) rfl ?_
    refine sv_callS (laws_b10At_ok v1 l1 (0 : Int) (17 : Int) hs (fun _ hs => (g1 _ hs.tl)) _ h) (fun _ _ ⟨_, _, _, e⟩ => e) rfl rfl ?_
    clear h
    rintro _ _ ⟨y110, h, rfl, rfl⟩
    refine sv_if rfl F5.us2 F5.in23 F5.fl23 ?_
    refine so_bin rfl rfl ab_fquo ?_
    refine so_assign (v := (.v (.flt .f32 (fop .quo .f32 (itof .f32 y110) (cz .f32 1098907648))))) rfl ?_
    refine so_nil ?_
    refine fi_seq ?_
    refine fi_region ?_
    refine so_move (v := (.v v105)) rfl ?_
    refine so_move (v := (.v (.flt .f32 (fop .quo .f32 (itof .f32 y110) (cz .f32 1098907648))))) rfl ?_
    refine sv_call (impl_SlopeCuts_ok v105 ws107 y104 (fop .quo .f32 (itof .f32 y110) (cz .f32 1098907648)) hs (fun _ hs => (hs.dshows 0 rfl)) _ h) rfl rfl nofun ?_
    clear h hs
    rintro _ H118 ⟨y112, y115, y116, y117, h, v113, rfl, hs⟩
    refine so_move (v := (.t [(.v v113), (.v (.int .i64 y115)), (.v (.flt .f32 y116)), (.v (.bool y117))])) rfl ?_
    refine so_extract rfl rfl rfl ?_
    refine so_extract rfl rfl rfl ?_
    refine so_extract rfl rfl rfl ?_
    refine so_extract rfl rfl rfl ?_
    refine so_assign (v := (.v v113)) rfl ?_
    refine so_assign (v := (.v (.int .i64 y115))) rfl ?_
    refine so_assign (v := (.v (.flt .f32 y116))) rfl ?_
    refine so_assign (v := (.v (.bool y117))) rfl ?_
    refine so_nil ?_
    refine fi_seq ?_
    refine fi_seq ?_
    refine fi_region ?_
    refine so_move (v := (.v (.bool y117))) rfl ?_
    refine so_un rfl au_not ?_
    refine so_move (v := (.v (.bool (!y117)))) rfl ?_
    replace h := ofT h; rcases h with ⟨c119, h⟩ | ⟨c119, h⟩
    · refine so_gyes rfl (not_f c119) ?_
      refine so_move (v := (.v v113)) rfl ?_
      refine so_gyes rfl (not_f c119) ?_
      refine sv_len (hs.shows 0 rfl) (fun _ => rfl) (by decide) rfl F5.ti22 ?_
      refine so_gyes rfl (not_f c119) ?_
      refine so_move (v := (.v v105)) rfl ?_
      refine so_gyes rfl (not_f c119) ?_
      refine sd_len ((hs.dshows 1 rfl) : DSh _ _ 1 R_LePair_eInt_i64_eFlt_f32_o y104 ws107) (by decide) rfl F5.ti35 ?_
      refine so_gyes rfl (not_f c119) ?_
      refine so_bin rfl rfl ab_neq ?_
      refine so_pick_f (v := (.v (.bool (!(decide ((y112.length : Int) = (y104.length : Int))))))) rfl (not_f c119) rfl ?_
      refine so_move (v := (.v (.bool (!(decide ((y112.length : Int) = (y104.length : Int))))))) rfl ?_
      replace h := ofP h; rcases h with ⟨c120, h⟩ | ⟨c120, h⟩
      · refine so_gyes rfl (not_f (decide_eq_true c120)) ?_
        refine so_move (v := (.v (.int .i64 y115))) rfl ?_
        refine so_gyes rfl (not_f (decide_eq_true c120)) ?_
        refine so_bin rfl rfl ab_lss ?_
        refine so_pick_f (v := (.v (.bool (decide (y115 < (0 : Int)))))) rfl (not_f (decide_eq_true c120)) rfl ?_
        refine so_nil ?_
        replace h := ofP h; rcases h with ⟨c121, h⟩ | ⟨c121, h⟩
        · refine fi_true rfl (decide_eq_true c121) ?_
          refine fi_seq ?_
          refine fi_region ?_
          refine so_assign (v := (.v (.bool false))) rfl ?_
          refine so_nil ?_
          exact by_ret rfl ⟨_, h, rfl, (Sep.del 0 (Sep.del 0 hs))⟩
        · refine fi_false rfl (decide_eq_false c121) ?_
          refine fi_skip ?_
          refine fi_seq ?_
          refine fi_region ?_
          refine so_assign (v := (.v (.int .i64 (0 : Int)))) rfl ?_
          refine so_nil ?_
          refine fi_seq ?_
          refine fi_region ?_
          refine so_assign (v := (.v (.flt .f64 (cz .f64 0)))) rfl ?_
          refine so_nil ?_
          refine fi_seq ?_
          refine fi_seq ?_
          refine fi_region ?_
          refine so_move (v := (.v v113)) rfl ?_
          refine sv_len (hs.shows 0 rfl) (fun _ => rfl) (by decide) rfl F5.ti22 ?_
          refine so_move (v := (.v (.int .i64 (0 : Int)))) rfl ?_
          refine so_nil ?_
          refine fi_block ?_
          refine fi_loop ?_
          refine fi_at [(1, (.v v1)), (5, (.v v105)), (7, (.v v113)), (8, (.v (.int .i64 y115))), (9, (.v (.flt .f32 y116))), (11, (.v (.int .i64 (0 : Int)))), (12, (.v (.flt .f64 (cz .f64 0)))), (63, (.v (.int .i64 (y112.length : Int)))), (64, (.v (.int .i64 (0 : Int))))] ⟨rfl, rfl, rfl, rfl, rfl, rfl, rfl, rfl, rfl, trivial⟩ ?_
          refine h (fun (told123 : Int) (sum124 : Nat) (x125 : Int) => ∀ (s : Nat → TV) (H : Heap), Sep H (Pc.osl v113 1 (enc (eInt .i64) y112) :: dpc v105 1 R_LePair_eInt_i64_eFlt_f32_o IR_LePair_eInt_i64_eFlt_f32_o y104 ws107 S108 :: fr) → Fin _ _ (updL s [(1, (.v v1)), (5, (.v v105)), (7, (.v v113)), (8, (.v (.int .i64 y115))), (9, (.v (.flt .f32 y116))), (11, (.v (.int .i64 told123))), (12, (.v (.flt .f64 sum124))), (63, (.v (.int .i64 (y112.length : Int)))), (64, (.v (.int .i64 x125)))]) H _) ?_ _ _ hs
          intro told123 sum124 x125 h s213 H214 hs
          refine fi_inLoop ?_
          refine fi_seq ?_
          refine fi_region ?_
          refine so_bin rfl rfl ab_lss ?_
          refine so_nil ?_
          refine fi_seq ?_
          replace h := ofP h; rcases h with ⟨c126, h⟩ | ⟨c126, h⟩
          · refine fi_true rfl (decide_eq_true c126) ?_
            refine fi_skip ?_
            refine fi_seq ?_
            refine fi_block ?_
            refine fi_seq ?_
            refine fi_region ?_
            refine so_move (v := (.v (.int .i64 x125))) rfl ?_
            refine so_assign (v := (.v (.int .i64 x125))) rfl ?_
            refine so_nil ?_
            refine fi_seq ?_
            refine fi_seq ?_
            refine fi_region ?_
            refine so_move (v := (.v v113)) rfl ?_
            refine so_move (v := (.v (.int .i64 x125))) rfl ?_
            obtain ⟨c127, h⟩ := h
            refine sv_idx (hs.shows 0 rfl) c127 (fun _ => rfl) (by decide) rfl rfl F5.tl22 ?_
            refine sv_cell (hs.shows 0 rfl) c127 (0 : Int) 0 (fun x => (AV.int .i64 x)) (fun _ => rfl) (fun _ => rfl) rfl F5.ag2 ?_
            refine so_bin rfl rfl ab_lss ?_
            refine so_move (v := (.v (.bool (decide ((y112.getD (x125).toNat (0 : Int)) < (0 : Int)))))) rfl ?_
            replace h := ofP h; rcases h with ⟨c128, h⟩ | ⟨c128, h⟩
            · refine so_gno rfl (decide_eq_true c128) ?_
              refine so_gno rfl (decide_eq_true c128) ?_
              refine so_gno rfl (decide_eq_true c128) ?_
              refine so_gno rfl (decide_eq_true c128) ?_
              refine so_gno rfl (decide_eq_true c128) ?_
              refine so_gno rfl (decide_eq_true c128) ?_
              refine so_gno rfl (decide_eq_true c128) ?_
              refine so_gno rfl (decide_eq_true c128) ?_
              refine so_gno rfl (decide_eq_true c128) ?_
              refine so_gno rfl (decide_eq_true c128) ?_
              refine so_pick_t (v := (.v (.bool true))) rfl (decide_eq_true c128) rfl ?_
              refine so_nil ?_
              refine fi_true rfl rfl ?_
              refine fi_seq ?_
              refine fi_region ?_
              refine so_assign (v := (.v (.bool false))) rfl ?_
              refine so_nil ?_
              exact by_ret rfl ⟨_, h, rfl, (Sep.del 0 (Sep.del 0 hs))⟩
            · refine so_gyes rfl (decide_eq_false c128) ?_
              refine so_move (v := (.v v113)) rfl ?_
              refine so_gyes rfl (decide_eq_false c128) ?_
              refine so_move (v := (.v (.int .i64 x125))) rfl ?_
              refine so_gyes rfl (decide_eq_false c128) ?_
              refine sv_idx (hs.shows 0 rfl) c127 (fun _ => rfl) (by decide) rfl rfl F5.tl22 ?_
              refine so_gyes rfl (decide_eq_false c128) ?_
              refine sv_cell (hs.shows 0 rfl) c127 (0 : Int) 0 (fun x => (AV.int .i64 x)) (fun _ => rfl) (fun _ => rfl) rfl F5.ag2 ?_
              refine so_gyes rfl (decide_eq_false c128) ?_
              refine so_move (v := (.v v105)) rfl ?_
              refine so_gyes rfl (decide_eq_false c128) ?_
              refine so_move (v := (.v (.int .i64 x125))) rfl ?_
              refine so_gyes rfl (decide_eq_false c128) ?_
              obtain ⟨c129, h⟩ := h
              refine sd_idx ((hs.dshows 1 rfl) : DSh _ _ 1 R_LePair_eInt_i64_eFlt_f32_o y104 ws107) c129 ([] : List ((Int) × (Nat))) (by decide) rfl rfl F5.tl35 ?_
              refine so_gyes rfl (decide_eq_false c128) ?_
              refine su_ld ((((hs.dshows 1 rfl) : DSh _ _ 1 R_LePair_eInt_i64_eFlt_f32_o y104 ws107)).at (by decide) c129 ([] : List ((Int) × (Nat)))).2.2 0 (congrArg (fun c => c[0]?) ((((hs.dshows 1 rfl) : DSh _ _ 1 R_LePair_eInt_i64_eFlt_f32_o y104 ws107)).at (by decide) c129 ([] : List ((Int) × (Nat)))).2.1.1) rfl F5.ag47 ?_
              refine so_gyes rfl (decide_eq_false c128) ?_
              refine sv_len ((((hs.dshows 1 rfl) : DSh _ _ 1 R_LePair_eInt_i64_eFlt_f32_o y104 ws107)).at (by decide) c129 ([] : List ((Int) × (Nat)))).2.1.2 (fun _ => rfl) (by decide) rfl F5.ti47 ?_
              refine so_gyes rfl (decide_eq_false c128) ?_
              refine so_bin rfl rfl ab_geq ?_
              refine so_pick_f (v := (.v (.bool (decide (((y104.getD (x125).toNat ([] : List ((Int) × (Nat)))).length : Int) ≤ (y112.getD (x125).toNat (0 : Int))))))) rfl (decide_eq_false c128) rfl ?_
              refine so_nil ?_
              replace h := ofP h; rcases h with ⟨c130, h⟩ | ⟨c130, h⟩
              · refine fi_true rfl (decide_eq_true c130) ?_
                refine fi_seq ?_
                refine fi_region ?_
                refine so_assign (v := (.v (.bool false))) rfl ?_
                refine so_nil ?_
                exact by_ret rfl ⟨_, h, rfl, (Sep.del 0 (Sep.del 0 hs))⟩
              · refine fi_false rfl (decide_eq_false c130) ?_
                refine fi_skip ?_
                refine fi_seq ?_
                refine fi_region ?_
                refine so_move (v := (.v (.int .i64 told123))) rfl ?_
                refine so_move (v := (.v v105)) rfl ?_
                refine so_move (v := (.v (.int .i64 x125))) rfl ?_
                refine sd_idx ((hs.dshows 1 rfl) : DSh _ _ 1 R_LePair_eInt_i64_eFlt_f32_o y104 ws107) c129 ([] : List ((Int) × (Nat))) (by decide) rfl rfl F5.tl35 ?_
                refine su_ld ((((hs.dshows 1 rfl) : DSh _ _ 1 R_LePair_eInt_i64_eFlt_f32_o y104 ws107)).at (by decide) c129 ([] : List ((Int) × (Nat)))).2.2 0 (congrArg (fun c => c[0]?) ((((hs.dshows 1 rfl) : DSh _ _ 1 R_LePair_eInt_i64_eFlt_f32_o y104 ws107)).at (by decide) c129 ([] : List ((Int) × (Nat)))).2.1.1) rfl F5.ag47 ?_
                refine so_move (v := (.v v113)) rfl ?_
                refine so_move (v := (.v (.int .i64 x125))) rfl ?_
                refine sv_idx (hs.shows 0 rfl) c127 (fun _ => rfl) (by decide) rfl rfl F5.tl22 ?_
                refine sv_cell (hs.shows 0 rfl) c127 (0 : Int) 0 (fun x => (AV.int .i64 x)) (fun _ => rfl) (fun _ => rfl) rfl F5.ag2 ?_
                obtain ⟨c131, h⟩ := h
                refine sv_idx ((((hs.dshows 1 rfl) : DSh _ _ 1 R_LePair_eInt_i64_eFlt_f32_o y104 ws107)).at (by decide) c129 ([] : List ((Int) × (Nat)))).2.1.2 c131 (fun _ => rfl) (by decide) rfl rfl F5.tl47 ?_
                refine so_fieldAddr rfl F5.fd49_0 ?_
                refine sv_cell ((((hs.dshows 1 rfl) : DSh _ _ 1 R_LePair_eInt_i64_eFlt_f32_o y104 ws107)).at (by decide) c129 ([] : List ((Int) × (Nat)))).2.1.2 c131 ((0 : Int), (0 : Nat)) 0 (fun x => (AV.int .i64 x.1)) (fun _ => rfl) (fun _ => rfl) rfl F5.ag2 ?_
                refine so_bin rfl rfl ab_add ?_
                refine so_assign (v := (.v (.int .i64 (IntKind.i64.wrap (told123 + ((y104.getD (x125).toNat ([] : List ((Int) × (Nat)))).getD ((y112.getD (x125).toNat (0 : Int))).toNat ((0 : Int), (0 : Nat))).1))))) rfl ?_
                refine so_nil ?_
                refine fi_region ?_
                refine so_move (v := (.v (.flt .f64 sum124))) rfl ?_
                refine so_move (v := (.v v105)) rfl ?_
                refine so_move (v := (.v (.int .i64 x125))) rfl ?_
                refine sd_idx ((hs.dshows 1 rfl) : DSh _ _ 1 R_LePair_eInt_i64_eFlt_f32_o y104 ws107) c129 ([] : List ((Int) × (Nat))) (by decide) rfl rfl F5.tl35 ?_
                refine su_ld ((((hs.dshows 1 rfl) : DSh _ _ 1 R_LePair_eInt_i64_eFlt_f32_o y104 ws107)).at (by decide) c129 ([] : List ((Int) × (Nat)))).2.2 0 (congrArg (fun c => c[0]?) ((((hs.dshows 1 rfl) : DSh _ _ 1 R_LePair_eInt_i64_eFlt_f32_o y104 ws107)).at (by decide) c129 ([] : List ((Int) × (Nat)))).2.1.1) rfl F5.ag47 ?_
                refine so_move (v := (.v v113)) rfl ?_
                refine so_move (v := (.v (.int .i64 x125))) rfl ?_
                refine sv_idx (hs.shows 0 rfl) c127 (fun _ => rfl) (by decide) rfl rfl F5.tl22 ?_
                refine sv_cell (hs.shows 0 rfl) c127 (0 : Int) 0 (fun x => (AV.int .i64 x)) (fun _ => rfl) (fun _ => rfl) rfl F5.ag2 ?_
                refine sv_idx ((((hs.dshows 1 rfl) : DSh _ _ 1 R_LePair_eInt_i64_eFlt_f32_o y104 ws107)).at (by decide) c129 ([] : List ((Int) × (Nat)))).2.1.2 c131 (fun _ => rfl) (by decide) rfl rfl F5.tl47 ?_
                refine so_fieldAddr rfl F5.fd49_1 ?_
                refine sv_cell ((((hs.dshows 1 rfl) : DSh _ _ 1 R_LePair_eInt_i64_eFlt_f32_o y104 ws107)).at (by decide) c129 ([] : List ((Int) × (Nat)))).2.1.2 c131 ((0 : Int), (0 : Nat)) 1 (fun x => (AV.flt .f32 x.2)) (fun _ => rfl) (fun _ => rfl) rfl F5.ag23 ?_
                refine sv_ffw rfl F5.us23 F5.in28 F5.fl28 ?_
                refine so_bin rfl rfl ab_fadd ?_
                refine so_assign (v := (.v (.flt .f64 (fop .add .f64 sum124 (widen ((y104.getD (x125).toNat ([] : List ((Int) × (Nat)))).getD ((y112.getD (x125).toNat (0 : Int))).toNat ((0 : Int), (0 : Nat))).2))))) rfl ?_
                refine so_nil ?_
                refine fi_inBlock ?_
                refine fi_region ?_
                refine so_bin rfl rfl ab_add ?_
                refine so_move (v := (.v (.int .i64 (IntKind.i64.wrap (x125 + (1 : Int)))))) rfl ?_
                refine so_nil ?_
                exact fi_at [(1, (.v v1)), (5, (.v v105)), (7, (.v v113)), (8, (.v (.int .i64 y115))), (9, (.v (.flt .f32 y116))), (11, (.v (.int .i64 (IntKind.i64.wrap (told123 + ((y104.getD (x125).toNat ([] : List ((Int) × (Nat)))).getD ((y112.getD (x125).toNat (0 : Int))).toNat ((0 : Int), (0 : Nat))).1))))), (12, (.v (.flt .f64 (fop .add .f64 sum124 (widen ((y104.getD (x125).toNat ([] : List ((Int) × (Nat)))).getD ((y112.getD (x125).toNat (0 : Int))).toNat ((0 : Int), (0 : Nat))).2))))), (63, (.v (.int .i64 (y112.length : Int)))), (64, (.v (.int .i64 (IntKind.i64.wrap (x125 + (1 : Int))))))] ⟨rfl, rfl, rfl, rfl, rfl, rfl, rfl, rfl, rfl, trivial⟩ (h _ _  hs)
          · refine fi_false rfl (decide_eq_false c126) ?_
            refine fi_exit rfl ?_
            refine fi_seq ?_
            refine fi_region ?_
            refine so_move (v := (.v v105)) rfl ?_
            refine so_move (v := (.v (.int .i64 y115))) rfl ?_
            refine sv_call (impl_BestCuts_ok v105 ws107 y104 y115 hs (fun _ hs => (hs.dshows 1 rfl)) _ h) rfl rfl nofun ?_
            clear h hs
            rintro _ H137 ⟨y132, y135, y136, h, v133, rfl, hs⟩
            refine so_move (v := (.t [(.v v133), (.v (.flt .f32 y135)), (.v (.bool y136))])) rfl ?_
            refine so_extract rfl rfl rfl ?_
            refine so_extract rfl rfl rfl ?_
            refine so_extract rfl rfl rfl ?_
            refine so_assign (v := (.v v133)) rfl ?_
            refine so_assign (v := (.v (.flt .f32 y135))) rfl ?_
            refine so_assign (v := (.v (.bool y136))) rfl ?_
            refine so_nil ?_
            refine fi_seq ?_
            refine fi_seq ?_
            refine fi_region ?_
            refine so_move (v := (.v (.int .i64 told123))) rfl ?_
            refine so_move (v := (.v (.int .i64 y115))) rfl ?_
            refine so_bin rfl rfl ab_neq ?_
            refine so_move (v := (.v (.bool (!(decide (told123 = y115)))))) rfl ?_
            replace h := ofP h; rcases h with ⟨c138, h⟩ | ⟨c138, h⟩
            · refine so_gyes rfl (not_f (decide_eq_true c138)) ?_
              refine so_move (v := (.v (.flt .f64 sum124))) rfl ?_
              refine so_gyes rfl (not_f (decide_eq_true c138)) ?_
              refine so_move (v := (.v (.flt .f32 y116))) rfl ?_
              refine so_gyes rfl (not_f (decide_eq_true c138)) ?_
              refine sv_ffw rfl F5.us23 F5.in28 F5.fl28 ?_
              refine so_gyes rfl (not_f (decide_eq_true c138)) ?_
              refine sv_callS (laws_b10Gap_ok sum124 (widen y116) hs  _ h) (fun _ _ ⟨_, _, _, e⟩ => e) rfl rfl ?_
              clear h
              rintro _ _ ⟨y139, h, rfl, rfl⟩
              refine so_gyes rfl (not_f (decide_eq_true c138)) ?_
              refine so_bin rfl rfl ab_fgtr ?_
              refine so_pick_f (v := (.v (.bool (fcmp .gtr .f64 y139 (cz .f64 4576918229304087675))))) rfl (not_f (decide_eq_true c138)) rfl ?_
              refine so_move (v := (.v (.bool (fcmp .gtr .f64 y139 (cz .f64 4576918229304087675))))) rfl ?_
              replace h := ofT h; rcases h with ⟨c141, h⟩ | ⟨c141, h⟩
              · refine so_gno rfl c141 ?_
                refine so_gno rfl c141 ?_
                refine so_pick_t (v := (.v (.bool true))) rfl c141 rfl ?_
                refine so_move (v := (.v (.bool true))) rfl ?_
                refine so_gno rfl rfl ?_
                refine so_gno rfl rfl ?_
                refine so_gno rfl rfl ?_
                refine so_gno rfl rfl ?_
                refine so_gno rfl rfl ?_
                refine so_pick_t (v := (.v (.bool true))) rfl rfl rfl ?_
                refine so_move (v := (.v (.bool true))) rfl ?_
                refine so_gno rfl rfl ?_
                refine so_gno rfl rfl ?_
                refine so_gno rfl rfl ?_
                refine so_gno rfl rfl ?_
                refine so_gno rfl rfl ?_
                refine so_gno rfl rfl ?_
                refine so_pick_t (v := (.v (.bool true))) rfl rfl rfl ?_
                refine so_move (v := (.v (.bool true))) rfl ?_
                refine so_gno rfl rfl ?_
                refine so_gno rfl rfl ?_
                refine so_gno rfl rfl ?_
                refine so_gno rfl rfl ?_
                refine so_gno rfl rfl ?_
                refine so_gno rfl rfl ?_
                refine so_pick_t (v := (.v (.bool true))) rfl rfl rfl ?_
                refine so_nil ?_
                refine fi_true rfl rfl ?_
                refine fi_seq ?_
                refine fi_region ?_
                refine so_assign (v := (.v (.bool false))) rfl ?_
                refine so_nil ?_
                exact by_ret rfl ⟨_, h, rfl, (Sep.del 0 (Sep.del 0 (Sep.del 0 hs)))⟩
              · refine so_gyes rfl c141 ?_
                refine so_move (v := (.v (.bool y136))) rfl ?_
                refine so_gyes rfl c141 ?_
                refine so_un rfl au_not ?_
                refine so_pick_f (v := (.v (.bool (!y136)))) rfl c141 rfl ?_
                refine so_move (v := (.v (.bool (!y136)))) rfl ?_
                replace h := ofT h; rcases h with ⟨c142, h⟩ | ⟨c142, h⟩
                · refine so_gyes rfl (not_f c142) ?_
                  refine so_move (v := (.v v133)) rfl ?_
                  refine so_gyes rfl (not_f c142) ?_
                  refine sv_len (hs.shows 0 rfl) (fun _ => rfl) (by decide) rfl F5.ti22 ?_
                  refine so_gyes rfl (not_f c142) ?_
                  refine so_move (v := (.v v105)) rfl ?_
                  refine so_gyes rfl (not_f c142) ?_
                  refine sd_len ((hs.dshows 2 rfl) : DSh _ _ 1 R_LePair_eInt_i64_eFlt_f32_o y104 ws107) (by decide) rfl F5.ti35 ?_
                  refine so_gyes rfl (not_f c142) ?_
                  refine so_bin rfl rfl ab_neq ?_
                  refine so_pick_f (v := (.v (.bool (!(decide ((y132.length : Int) = (y104.length : Int))))))) rfl (not_f c142) rfl ?_
                  refine so_move (v := (.v (.bool (!(decide ((y132.length : Int) = (y104.length : Int))))))) rfl ?_
                  replace h := ofP h; rcases h with ⟨c143, h⟩ | ⟨c143, h⟩
                  · refine so_gyes rfl (not_f (decide_eq_true c143)) ?_
                    refine so_move (v := (.v (.flt .f32 y135))) rfl ?_
                    refine so_gyes rfl (not_f (decide_eq_true c143)) ?_
                    refine sv_ffw rfl F5.us23 F5.in28 F5.fl28 ?_
                    refine so_gyes rfl (not_f (decide_eq_true c143)) ?_
                    refine so_move (v := (.v (.flt .f32 y116))) rfl ?_
                    refine so_gyes rfl (not_f (decide_eq_true c143)) ?_
                    refine sv_ffw rfl F5.us23 F5.in28 F5.fl28 ?_
                    refine so_gyes rfl (not_f (decide_eq_true c143)) ?_
                    refine so_bin rfl rfl ab_fadd ?_
                    refine so_gyes rfl (not_f (decide_eq_true c143)) ?_
                    refine so_bin rfl rfl ab_fgtr ?_
                    refine so_pick_f (v := (.v (.bool (fcmp .gtr .f64 (widen y135) (fop .add .f64 (widen y116) (cz .f64 4576918229304087675)))))) rfl (not_f (decide_eq_true c143)) rfl ?_
                    refine so_move (v := (.v (.bool (fcmp .gtr .f64 (widen y135) (fop .add .f64 (widen y116) (cz .f64 4576918229304087675)))))) rfl ?_
                    replace h := ofT h; rcases h with ⟨c144, h⟩ | ⟨c144, h⟩
                    · refine so_gno rfl c144 ?_
                      refine so_gno rfl c144 ?_
                      refine so_gno rfl c144 ?_
                      refine so_gno rfl c144 ?_
                      refine so_gno rfl c144 ?_
                      refine so_gno rfl c144 ?_
                      refine so_pick_t (v := (.v (.bool true))) rfl c144 rfl ?_
                      refine so_nil ?_
                      refine fi_true rfl rfl ?_
                      refine fi_seq ?_
                      refine fi_region ?_
                      refine so_assign (v := (.v (.bool false))) rfl ?_
                      refine so_nil ?_
                      exact by_ret rfl ⟨_, h, rfl, (Sep.del 0 (Sep.del 0 (Sep.del 0 hs)))⟩
                    · refine so_gyes rfl c144 ?_
                      refine so_move (v := (.v (.flt .f32 y135))) rfl ?_
                      refine so_gyes rfl c144 ?_
                      refine sv_ffw rfl F5.us23 F5.in28 F5.fl28 ?_
                      refine so_gyes rfl c144 ?_
                      refine so_move (v := (.v (.flt .f32 y116))) rfl ?_
                      refine so_gyes rfl c144 ?_
                      refine sv_ffw rfl F5.us23 F5.in28 F5.fl28 ?_
                      refine so_gyes rfl c144 ?_
                      refine so_bin rfl rfl ab_fsub ?_
                      refine so_gyes rfl c144 ?_
                      refine so_bin rfl rfl ab_flss ?_
                      refine so_pick_f (v := (.v (.bool (fcmp .lss .f64 (widen y135) (fop .sub .f64 (widen y116) (cz .f64 4576918229304087675)))))) rfl c144 rfl ?_
                      refine so_nil ?_
                      replace h := ofT h; rcases h with ⟨c145, h⟩ | ⟨c145, h⟩
                      · refine fi_true rfl c145 ?_
                        refine fi_seq ?_
                        refine fi_region ?_
                        refine so_assign (v := (.v (.bool false))) rfl ?_
                        refine so_nil ?_
                        exact by_ret rfl ⟨_, h, rfl, (Sep.del 0 (Sep.del 0 (Sep.del 0 hs)))⟩
                      · refine fi_false rfl c145 ?_
                        refine fi_skip ?_
                        refine fi_seq ?_
                        refine fi_region ?_
                        refine so_move (v := (.v v1)) rfl ?_
                        refine sv_callS (laws_b10At_ok v1 l1 (1 : Int) (60 : Int) hs (fun _ hs => (g1 _ hs.tl.tl.tl)) _ h) (fun _ _ ⟨_, _, _, e⟩ => e) rfl rfl ?_
                        clear h
                        rintro _ _ ⟨y146, h, rfl, rfl⟩
                        refine so_assign (v := (.v (.int .i64 y146))) rfl ?_
                        refine so_nil ?_
                        refine fi_seq ?_
                        refine fi_region ?_
                        refine so_move (v := (.v v105)) rfl ?_
                        refine so_move (v := (.v (.int .i64 y146))) rfl ?_
                        refine sv_call (impl_BestCuts_ok v105 ws107 y104 y146 hs (fun _ hs => (hs.dshows 2 rfl)) _ h) rfl rfl nofun ?_
                        clear h hs
                        rintro _ H153 ⟨y148, y151, y152, h, v149, rfl, hs⟩
                        refine so_move (v := (.t [(.v v149), (.v (.flt .f32 y151)), (.v (.bool y152))])) rfl ?_
                        refine so_extract rfl rfl rfl ?_
                        refine so_extract rfl rfl rfl ?_
                        refine so_extract rfl rfl rfl ?_
                        refine so_assign (v := (.v v149)) rfl ?_
                        refine so_assign (v := (.v (.flt .f32 y151))) rfl ?_
                        refine so_assign (v := (.v (.bool y152))) rfl ?_
                        refine so_nil ?_
                        refine fi_seq ?_
                        refine fi_region ?_
                        refine so_move (v := (.v v105)) rfl ?_
                        refine so_move (v := (.v (.int .i64 y146))) rfl ?_
                        refine so_bin rfl rfl ab_add ?_
                        refine sv_call (impl_BestCuts_ok v105 ws107 y104 (IntKind.i64.wrap (y146 + (5 : Int))) hs (fun _ hs => (hs.dshows 3 rfl)) _ h) rfl rfl nofun ?_
                        clear h hs
                        rintro _ H159 ⟨y154, y157, y158, h, v155, rfl, hs⟩
                        refine so_move (v := (.t [(.v v155), (.v (.flt .f32 y157)), (.v (.bool y158))])) rfl ?_
                        refine so_extract rfl rfl rfl ?_
                        refine so_extract rfl rfl rfl ?_
                        refine so_extract rfl rfl rfl ?_
                        refine so_assign (v := (.v v155)) rfl ?_
                        refine so_assign (v := (.v (.flt .f32 y157))) rfl ?_
                        refine so_assign (v := (.v (.bool y158))) rfl ?_
                        refine so_nil ?_
                        refine fi_seq ?_
                        refine fi_region ?_
                        refine so_move (v := (.v v105)) rfl ?_
                        refine so_move (v := (.v (.int .i64 y146))) rfl ?_
                        refine sv_call (spec_BestCuts_ok v105 ws107 y104 y146 hs (fun _ hs => (hs.dshows 4 rfl)) _ h) rfl rfl nofun ?_
                        clear h hs
                        rintro _ H165 ⟨y160, y163, y164, h, v161, rfl, hs⟩
                        refine so_move (v := (.t [(.v v161), (.v (.flt .f32 y163)), (.v (.bool y164))])) rfl ?_
                        refine so_extract rfl rfl rfl ?_
                        refine so_extract rfl rfl rfl ?_
                        refine so_extract rfl rfl rfl ?_
                        refine so_assign (v := (.v v161)) rfl ?_
                        refine so_assign (v := (.v (.flt .f32 y163))) rfl ?_
                        refine so_assign (v := (.v (.bool y164))) rfl ?_
                        refine so_nil ?_
                        refine fi_seq ?_
                        refine fi_seq ?_
                        refine fi_region ?_
                        refine so_move (v := (.v (.bool y152))) rfl ?_
                        refine so_un rfl au_not ?_
                        refine so_move (v := (.v (.bool (!y152)))) rfl ?_
                        replace h := ofT h; rcases h with ⟨c166, h⟩ | ⟨c166, h⟩
                        · refine so_gyes rfl (not_f c166) ?_
                          refine so_move (v := (.v (.bool y158))) rfl ?_
                          refine so_gyes rfl (not_f c166) ?_
                          refine so_un rfl au_not ?_
                          refine so_pick_f (v := (.v (.bool (!y158)))) rfl (not_f c166) rfl ?_
                          refine so_move (v := (.v (.bool (!y158)))) rfl ?_
                          replace h := ofT h; rcases h with ⟨c167, h⟩ | ⟨c167, h⟩
                          · refine so_gyes rfl (not_f c167) ?_
                            refine so_move (v := (.v (.bool y164))) rfl ?_
                            refine so_gyes rfl (not_f c167) ?_
                            refine so_un rfl au_not ?_
                            refine so_pick_f (v := (.v (.bool (!y164)))) rfl (not_f c167) rfl ?_
                            refine so_move (v := (.v (.bool (!y164)))) rfl ?_
                            replace h := ofT h; rcases h with ⟨c168, h⟩ | ⟨c168, h⟩
                            · refine so_gyes rfl (not_f c168) ?_
                              refine so_move (v := (.v v149)) rfl ?_
                              refine so_gyes rfl (not_f c168) ?_
                              refine sv_len (hs.shows 2 rfl) (fun _ => rfl) (by decide) rfl F5.ti22 ?_
                              refine so_gyes rfl (not_f c168) ?_
                              refine so_move (v := (.v v105)) rfl ?_
                              refine so_gyes rfl (not_f c168) ?_
                              refine sd_len ((hs.dshows 5 rfl) : DSh _ _ 1 R_LePair_eInt_i64_eFlt_f32_o y104 ws107) (by decide) rfl F5.ti35 ?_
                              refine so_gyes rfl (not_f c168) ?_
                              refine so_bin rfl rfl ab_neq ?_
                              refine so_pick_f (v := (.v (.bool (!(decide ((y148.length : Int) = (y104.length : Int))))))) rfl (not_f c168) rfl ?_
                              refine so_move (v := (.v (.bool (!(decide ((y148.length : Int) = (y104.length : Int))))))) rfl ?_
                              replace h := ofP h; rcases h with ⟨c169, h⟩ | ⟨c169, h⟩
                              · refine so_gyes rfl (not_f (decide_eq_true c169)) ?_
                                refine so_move (v := (.v v155)) rfl ?_
                                refine so_gyes rfl (not_f (decide_eq_true c169)) ?_
                                refine sv_len (hs.shows 1 rfl) (fun _ => rfl) (by decide) rfl F5.ti22 ?_
                                refine so_gyes rfl (not_f (decide_eq_true c169)) ?_
                                refine so_move (v := (.v v105)) rfl ?_
                                refine so_gyes rfl (not_f (decide_eq_true c169)) ?_
                                refine sd_len ((hs.dshows 5 rfl) : DSh _ _ 1 R_LePair_eInt_i64_eFlt_f32_o y104 ws107) (by decide) rfl F5.ti35 ?_
                                refine so_gyes rfl (not_f (decide_eq_true c169)) ?_
                                refine so_bin rfl rfl ab_neq ?_
                                refine so_pick_f (v := (.v (.bool (!(decide ((y154.length : Int) = (y104.length : Int))))))) rfl (not_f (decide_eq_true c169)) rfl ?_
                                refine so_move (v := (.v (.bool (!(decide ((y154.length : Int) = (y104.length : Int))))))) rfl ?_
                                replace h := ofP h; rcases h with ⟨c170, h⟩ | ⟨c170, h⟩
                                · refine so_gyes rfl (not_f (decide_eq_true c170)) ?_
                                  refine so_move (v := (.v v149)) rfl ?_
                                  refine so_gyes rfl (not_f (decide_eq_true c170)) ?_
                                  refine so_move (v := (.v v161)) rfl ?_
                                  refine so_gyes rfl (not_f (decide_eq_true c170)) ?_
                                  refine sv_callS (laws_b10Ints_ok v149 y148 v161 y160 hs (fun _ hs => (hs.shows 2 rfl)) (fun _ hs => (hs.shows 0 rfl)) _ h) (fun _ _ ⟨_, _, _, e⟩ => e) rfl rfl ?_
                                  clear h
                                  rintro _ _ ⟨y171, h, rfl, rfl⟩
                                  refine so_gyes rfl (not_f (decide_eq_true c170)) ?_
                                  refine so_un rfl au_not ?_
                                  refine so_pick_f (v := (.v (.bool (!y171)))) rfl (not_f (decide_eq_true c170)) rfl ?_
                                  refine so_move (v := (.v (.bool (!y171)))) rfl ?_
                                  replace h := ofT h; rcases h with ⟨c173, h⟩ | ⟨c173, h⟩
                                  · refine so_gyes rfl (not_f c173) ?_
                                    refine so_move (v := (.v (.flt .f32 y151))) rfl ?_
                                    refine so_gyes rfl (not_f c173) ?_
                                    refine so_move (v := (.v (.flt .f32 y163))) rfl ?_
                                    refine so_gyes rfl (not_f c173) ?_
                                    refine sv_callS (spec_SameNumber_ok y151 y163 hs  _ h) (fun _ _ ⟨_, _, _, e⟩ => e) rfl rfl ?_
                                    clear h
                                    rintro _ _ ⟨y174, h, rfl, rfl⟩
                                    refine so_gyes rfl (not_f c173) ?_
                                    refine so_un rfl au_not ?_
                                    refine so_pick_f (v := (.v (.bool (!y174)))) rfl (not_f c173) rfl ?_
                                    refine so_move (v := (.v (.bool (!y174)))) rfl ?_
                                    replace h := ofT h; rcases h with ⟨c176, h⟩ | ⟨c176, h⟩
                                    · refine so_gyes rfl (not_f c176) ?_
                                      refine so_move (v := (.v (.flt .f32 y157))) rfl ?_
                                      refine so_gyes rfl (not_f c176) ?_
                                      refine so_move (v := (.v (.flt .f32 y151))) rfl ?_
                                      refine so_gyes rfl (not_f c176) ?_
                                      refine so_bin rfl rfl ab_fgtr ?_
                                      refine so_pick_f (v := (.v (.bool (fcmp .gtr .f32 y157 y151)))) rfl (not_f c176) rfl ?_
                                      refine so_nil ?_
                                      replace h := ofT h; rcases h with ⟨c177, h⟩ | ⟨c177, h⟩
                                      · refine fi_true rfl c177 ?_
                                        refine fi_seq ?_
                                        refine fi_region ?_
                                        refine so_assign (v := (.v (.bool false))) rfl ?_
                                        refine so_nil ?_
                                        exact by_ret rfl ⟨_, h, rfl, (Sep.dropn 6 hs)⟩
                                      · refine fi_false rfl c177 ?_
                                        refine fi_skip ?_
                                        refine fi_seq ?_
                                        refine fi_region ?_
                                        refine so_assign (v := (.v (.int .i64 (0 : Int)))) rfl ?_
                                        refine so_nil ?_
                                        refine fi_seq ?_
                                        refine fi_seq ?_
                                        refine fi_region ?_
                                        refine so_move (v := (.v v149)) rfl ?_
                                        refine sv_len (hs.shows 2 rfl) (fun _ => rfl) (by decide) rfl F5.ti22 ?_
                                        refine so_move (v := (.v (.int .i64 (0 : Int)))) rfl ?_
                                        refine so_nil ?_
                                        refine fi_block ?_
                                        refine fi_loop ?_
                                        replace hs := hs.del 0
                                        replace hs := hs.del 0
                                        replace hs := hs.del 1
                                        replace hs := hs.del 1
                                        refine fi_at [(5, (.v v105)), (17, (.v (.int .i64 y146))), (18, (.v v149)), (27, (.v (.int .i64 (0 : Int)))), (222, (.v (.int .i64 (y148.length : Int)))), (223, (.v (.int .i64 (0 : Int))))] ⟨rfl, rfl, rfl, rfl, rfl, rfl, trivial⟩ ?_
                                        refine h (fun (used179 : Int) (x180 : Int) => ∀ (s : Nat → TV) (H : Heap), Sep H (Pc.osl v149 1 (enc (eInt .i64) y148) :: dpc v105 1 R_LePair_eInt_i64_eFlt_f32_o IR_LePair_eInt_i64_eFlt_f32_o y104 ws107 S108 :: fr) → Fin _ _ (updL s [(5, (.v v105)), (17, (.v (.int .i64 y146))), (18, (.v v149)), (27, (.v (.int .i64 used179))), (222, (.v (.int .i64 (y148.length : Int)))), (223, (.v (.int .i64 x180)))]) H _) ?_ _ _ hs
                                        intro used179 x180 h s211 H212 hs
                                        refine fi_inLoop ?_
                                        refine fi_seq ?_
                                        refine fi_region ?_
                                        refine so_bin rfl rfl ab_lss ?_
                                        refine so_nil ?_
                                        refine fi_seq ?_
                                        replace h := ofP h; rcases h with ⟨c181, h⟩ | ⟨c181, h⟩
                                        · refine fi_true rfl (decide_eq_true c181) ?_
                                          refine fi_skip ?_
                                          refine fi_seq ?_
                                          refine fi_block ?_
                                          refine fi_seq ?_
                                          refine fi_region ?_
                                          refine so_move (v := (.v (.int .i64 x180))) rfl ?_
                                          refine so_assign (v := (.v (.int .i64 x180))) rfl ?_
                                          refine so_nil ?_
                                          refine fi_region ?_
                                          refine so_move (v := (.v (.int .i64 used179))) rfl ?_
                                          refine so_move (v := (.v v105)) rfl ?_
                                          refine so_move (v := (.v (.int .i64 x180))) rfl ?_
                                          obtain ⟨c182, h⟩ := h
                                          refine sd_idx ((hs.dshows 1 rfl) : DSh _ _ 1 R_LePair_eInt_i64_eFlt_f32_o y104 ws107) c182 ([] : List ((Int) × (Nat))) (by decide) rfl rfl F5.tl35 ?_
                                          refine su_ld ((((hs.dshows 1 rfl) : DSh _ _ 1 R_LePair_eInt_i64_eFlt_f32_o y104 ws107)).at (by decide) c182 ([] : List ((Int) × (Nat)))).2.2 0 (congrArg (fun c => c[0]?) ((((hs.dshows 1 rfl) : DSh _ _ 1 R_LePair_eInt_i64_eFlt_f32_o y104 ws107)).at (by decide) c182 ([] : List ((Int) × (Nat)))).2.1.1) rfl F5.ag47 ?_
                                          refine so_move (v := (.v v149)) rfl ?_
                                          refine so_move (v := (.v (.int .i64 x180))) rfl ?_
                                          obtain ⟨c183, h⟩ := h
                                          refine sv_idx (hs.shows 0 rfl) c183 (fun _ => rfl) (by decide) rfl rfl F5.tl22 ?_
                                          refine sv_cell (hs.shows 0 rfl) c183 (0 : Int) 0 (fun x => (AV.int .i64 x)) (fun _ => rfl) (fun _ => rfl) rfl F5.ag2 ?_
                                          obtain ⟨c184, h⟩ := h
                                          refine sv_idx ((((hs.dshows 1 rfl) : DSh _ _ 1 R_LePair_eInt_i64_eFlt_f32_o y104 ws107)).at (by decide) c182 ([] : List ((Int) × (Nat)))).2.1.2 c184 (fun _ => rfl) (by decide) rfl rfl F5.tl47 ?_
                                          refine so_fieldAddr rfl F5.fd49_0 ?_
                                          refine sv_cell ((((hs.dshows 1 rfl) : DSh _ _ 1 R_LePair_eInt_i64_eFlt_f32_o y104 ws107)).at (by decide) c182 ([] : List ((Int) × (Nat)))).2.1.2 c184 ((0 : Int), (0 : Nat)) 0 (fun x => (AV.int .i64 x.1)) (fun _ => rfl) (fun _ => rfl) rfl F5.ag2 ?_
                                          refine so_bin rfl rfl ab_add ?_
                                          refine so_assign (v := (.v (.int .i64 (IntKind.i64.wrap (used179 + ((y104.getD (x180).toNat ([] : List ((Int) × (Nat)))).getD ((y148.getD (x180).toNat (0 : Int))).toNat ((0 : Int), (0 : Nat))).1))))) rfl ?_
                                          refine so_nil ?_
                                          refine fi_inBlock ?_
                                          refine fi_region ?_
                                          refine so_bin rfl rfl ab_add ?_
                                          refine so_move (v := (.v (.int .i64 (IntKind.i64.wrap (x180 + (1 : Int)))))) rfl ?_
                                          refine so_nil ?_
                                          exact fi_at [(5, (.v v105)), (17, (.v (.int .i64 y146))), (18, (.v v149)), (27, (.v (.int .i64 (IntKind.i64.wrap (used179 + ((y104.getD (x180).toNat ([] : List ((Int) × (Nat)))).getD ((y148.getD (x180).toNat (0 : Int))).toNat ((0 : Int), (0 : Nat))).1))))), (222, (.v (.int .i64 (y148.length : Int)))), (223, (.v (.int .i64 (IntKind.i64.wrap (x180 + (1 : Int))))))] ⟨rfl, rfl, rfl, rfl, rfl, rfl, trivial⟩ (h _ _  hs)
                                        · refine fi_false rfl (decide_eq_false c181) ?_
                                          refine fi_exit rfl ?_
                                          refine fi_seq ?_
                                          refine fi_region ?_
                                          refine so_move (v := (.v v105)) rfl ?_
                                          obtain ⟨c185, h⟩ := h
                                          refine sd_idx ((hs.dshows 1 rfl) : DSh _ _ 1 R_LePair_eInt_i64_eFlt_f32_o y104 ws107) c185 ([] : List ((Int) × (Nat))) (by decide) rfl rfl F5.tl35 ?_
                                          refine su_ld ((((hs.dshows 1 rfl) : DSh _ _ 1 R_LePair_eInt_i64_eFlt_f32_o y104 ws107)).at (by decide) c185 ([] : List ((Int) × (Nat)))).2.2 0 (congrArg (fun c => c[0]?) ((((hs.dshows 1 rfl) : DSh _ _ 1 R_LePair_eInt_i64_eFlt_f32_o y104 ws107)).at (by decide) c185 ([] : List ((Int) × (Nat)))).2.1.1) rfl F5.ag47 ?_
                                          refine sv_call (impl_EdgeCosts_ok ((ws107.getD ((0 : Int)).toNat []).getD 0 .und) (y104.getD ((0 : Int)).toNat ([] : List ((Int) × (Nat)))) hs (fun _ hs => ((((hs.dshows 1 rfl) : DSh _ _ 1 R_LePair_eInt_i64_eFlt_f32_o y104 ws107)).at (by decide) c185 ([] : List ((Int) × (Nat)))).2.1.2) _ h) rfl rfl nofun ?_
                                          clear h hs
                                          rintro _ H190 ⟨y186, y189, h, v187, rfl, hs⟩
                                          refine so_move (v := (.t [(.v v187), (.v (.bool y189))])) rfl ?_
                                          refine so_extract rfl rfl rfl ?_
                                          refine so_extract rfl rfl rfl ?_
                                          refine so_assign (v := (.v v187)) rfl ?_
                                          refine so_assign (v := (.v (.bool y189))) rfl ?_
                                          refine so_nil ?_
                                          refine fi_seq ?_
                                          refine fi_seq ?_
                                          refine fi_region ?_
                                          refine so_move (v := (.v (.bool y189))) rfl ?_
                                          refine so_un rfl au_not ?_
                                          refine so_move (v := (.v (.bool (!y189)))) rfl ?_
                                          replace h := ofT h; rcases h with ⟨c191, h⟩ | ⟨c191, h⟩
                                          · refine so_gyes rfl (not_f c191) ?_
                                            refine so_move (v := (.v (.int .i64 used179))) rfl ?_
                                            refine so_gyes rfl (not_f c191) ?_
                                            refine so_move (v := (.v (.int .i64 y146))) rfl ?_
                                            refine so_gyes rfl (not_f c191) ?_
                                            refine so_bin rfl rfl ab_gtr ?_
                                            refine so_pick_f (v := (.v (.bool (decide (y146 < used179))))) rfl (not_f c191) rfl ?_
                                            refine so_move (v := (.v (.bool (decide (y146 < used179))))) rfl ?_
                                            replace h := ofP h; rcases h with ⟨c192, h⟩ | ⟨c192, h⟩
                                            · refine so_gno rfl (decide_eq_true c192) ?_
                                              refine so_gno rfl (decide_eq_true c192) ?_
                                              refine so_gno rfl (decide_eq_true c192) ?_
                                              refine so_pick_t (v := (.v (.bool true))) rfl (decide_eq_true c192) rfl ?_
                                              refine so_move (v := (.v (.bool true))) rfl ?_
                                              refine so_gno rfl rfl ?_
                                              refine so_gno rfl rfl ?_
                                              refine so_gno rfl rfl ?_
                                              refine so_gno rfl rfl ?_
                                              refine so_pick_t (v := (.v (.bool true))) rfl rfl rfl ?_
                                              refine so_move (v := (.v (.bool true))) rfl ?_
                                              refine so_gno rfl rfl ?_
                                              refine so_gno rfl rfl ?_
                                              refine so_gno rfl rfl ?_
                                              refine so_gno rfl rfl ?_
                                              refine so_gno rfl rfl ?_
                                              refine so_gno rfl rfl ?_
                                              refine so_gno rfl rfl ?_
                                              refine so_gno rfl rfl ?_
                                              refine so_gno rfl rfl ?_
                                              refine so_gno rfl rfl ?_
                                              refine so_gno rfl rfl ?_
                                              refine so_gno rfl rfl ?_
                                              refine so_pick_t (v := (.v (.bool true))) rfl rfl rfl ?_
                                              refine so_move (v := (.v (.bool true))) rfl ?_
                                              refine so_gno rfl rfl ?_
                                              refine so_gno rfl rfl ?_
                                              refine so_gno rfl rfl ?_
                                              refine so_gno rfl rfl ?_
                                              refine so_gno rfl rfl ?_
                                              refine so_pick_t (v := (.v (.bool true))) rfl rfl rfl ?_
                                              refine so_nil ?_
                                              refine fi_true rfl rfl ?_
                                              refine fi_seq ?_
                                              refine fi_region ?_
                                              refine so_assign (v := (.v (.bool false))) rfl ?_
                                              refine so_nil ?_
                                              exact by_ret rfl ⟨_, h, rfl, (Sep.del 0 (Sep.del 0 (Sep.del 0 hs)))⟩
                                            · refine so_gyes rfl (decide_eq_false c192) ?_
                                              refine so_move (v := (.v v187)) rfl ?_
                                              refine so_gyes rfl (decide_eq_false c192) ?_
                                              refine sv_len (hs.shows 0 rfl) (fun _ => rfl) (by decide) rfl F5.ti22 ?_
                                              refine so_gyes rfl (decide_eq_false c192) ?_
                                              refine so_bin rfl rfl ab_eql ?_
                                              refine so_pick_f (v := (.v (.bool (decide ((y186.length : Int) = (0 : Int)))))) rfl (decide_eq_false c192) rfl ?_
                                              refine so_move (v := (.v (.bool (decide ((y186.length : Int) = (0 : Int)))))) rfl ?_
                                              replace h := ofP h; rcases h with ⟨c193, h⟩ | ⟨c193, h⟩
                                              · refine so_gno rfl (decide_eq_true c193) ?_
                                                refine so_gno rfl (decide_eq_true c193) ?_
                                                refine so_gno rfl (decide_eq_true c193) ?_
                                                refine so_gno rfl (decide_eq_true c193) ?_
                                                refine so_pick_t (v := (.v (.bool true))) rfl (decide_eq_true c193) rfl ?_
                                                refine so_move (v := (.v (.bool true))) rfl ?_
                                                refine so_gno rfl rfl ?_
                                                refine so_gno rfl rfl ?_
                                                refine so_gno rfl rfl ?_
                                                refine so_gno rfl rfl ?_
                                                refine so_gno rfl rfl ?_
                                                refine so_gno rfl rfl ?_
                                                refine so_gno rfl rfl ?_
                                                refine so_gno rfl rfl ?_
                                                refine so_gno rfl rfl ?_
                                                refine so_gno rfl rfl ?_
                                                refine so_gno rfl rfl ?_
                                                refine so_gno rfl rfl ?_
                                                refine so_pick_t (v := (.v (.bool true))) rfl rfl rfl ?_
                                                refine so_move (v := (.v (.bool true))) rfl ?_
                                                refine so_gno rfl rfl ?_
                                                refine so_gno rfl rfl ?_
                                                refine so_gno rfl rfl ?_
                                                refine so_gno rfl rfl ?_
                                                refine so_gno rfl rfl ?_
                                                refine so_pick_t (v := (.v (.bool true))) rfl rfl rfl ?_
                                                refine so_nil ?_
                                                refine fi_true rfl rfl ?_
                                                refine fi_seq ?_
                                                refine fi_region ?_
                                                refine so_assign (v := (.v (.bool false))) rfl ?_
                                                refine so_nil ?_
                                                exact by_ret rfl ⟨_, h, rfl, (Sep.del 0 (Sep.del 0 (Sep.del 0 hs)))⟩
                                              · refine so_gyes rfl (decide_eq_false c193) ?_
                                                refine so_move (v := (.v v187)) rfl ?_
                                                refine so_gyes rfl (decide_eq_false c193) ?_
                                                obtain ⟨c194, h⟩ := h
                                                refine sv_idx (hs.shows 0 rfl) c194 (fun _ => rfl) (by decide) rfl rfl F5.tl22 ?_
                                                refine so_gyes rfl (decide_eq_false c193) ?_
                                                refine sv_cell (hs.shows 0 rfl) c194 (0 : Int) 0 (fun x => (AV.int .i64 x)) (fun _ => rfl) (fun _ => rfl) rfl F5.ag2 ?_
                                                refine so_gyes rfl (decide_eq_false c193) ?_
                                                refine so_bin rfl rfl ab_neq ?_
                                                refine so_pick_f (v := (.v (.bool (!(decide ((y186.getD ((0 : Int)).toNat (0 : Int)) = (0 : Int))))))) rfl (decide_eq_false c193) rfl ?_
                                                refine so_move (v := (.v (.bool (!(decide ((y186.getD ((0 : Int)).toNat (0 : Int)) = (0 : Int))))))) rfl ?_
                                                replace h := ofP h; rcases h with ⟨c195, h⟩ | ⟨c195, h⟩
                                                · refine so_gyes rfl (not_f (decide_eq_true c195)) ?_
                                                  refine so_move (v := (.v v187)) rfl ?_
                                                  refine so_gyes rfl (not_f (decide_eq_true c195)) ?_
                                                  refine so_move (v := (.v v187)) rfl ?_
                                                  refine so_gyes rfl (not_f (decide_eq_true c195)) ?_
                                                  refine sv_len (hs.shows 0 rfl) (fun _ => rfl) (by decide) rfl F5.ti22 ?_
                                                  refine so_gyes rfl (not_f (decide_eq_true c195)) ?_
                                                  refine so_bin rfl rfl ab_sub ?_
                                                  refine so_gyes rfl (not_f (decide_eq_true c195)) ?_
                                                  obtain ⟨c196, h⟩ := h
                                                  refine sv_idx (hs.shows 0 rfl) c196 (fun _ => rfl) (by decide) rfl rfl F5.tl22 ?_
                                                  refine so_gyes rfl (not_f (decide_eq_true c195)) ?_
                                                  refine sv_cell (hs.shows 0 rfl) c196 (0 : Int) 0 (fun x => (AV.int .i64 x)) (fun _ => rfl) (fun _ => rfl) rfl F5.ag2 ?_
                                                  refine so_gyes rfl (not_f (decide_eq_true c195)) ?_
                                                  refine so_move (v := (.v v105)) rfl ?_
                                                  refine so_gyes rfl (not_f (decide_eq_true c195)) ?_
                                                  refine sd_idx ((hs.dshows 2 rfl) : DSh _ _ 1 R_LePair_eInt_i64_eFlt_f32_o y104 ws107) c185 ([] : List ((Int) × (Nat))) (by decide) rfl rfl F5.tl35 ?_
                                                  refine so_gyes rfl (not_f (decide_eq_true c195)) ?_
                                                  refine su_ld ((((hs.dshows 2 rfl) : DSh _ _ 1 R_LePair_eInt_i64_eFlt_f32_o y104 ws107)).at (by decide) c185 ([] : List ((Int) × (Nat)))).2.2 0 (congrArg (fun c => c[0]?) ((((hs.dshows 2 rfl) : DSh _ _ 1 R_LePair_eInt_i64_eFlt_f32_o y104 ws107)).at (by decide) c185 ([] : List ((Int) × (Nat)))).2.1.1) rfl F5.ag47 ?_
                                                  refine so_gyes rfl (not_f (decide_eq_true c195)) ?_
                                                  refine sv_len ((((hs.dshows 2 rfl) : DSh _ _ 1 R_LePair_eInt_i64_eFlt_f32_o y104 ws107)).at (by decide) c185 ([] : List ((Int) × (Nat)))).2.1.2 (fun _ => rfl) (by decide) rfl F5.ti47 ?_
                                                  refine so_gyes rfl (not_f (decide_eq_true c195)) ?_
                                                  refine so_bin rfl rfl ab_sub ?_
                                                  refine so_gyes rfl (not_f (decide_eq_true c195)) ?_
                                                  refine so_bin rfl rfl ab_neq ?_
                                                  refine so_pick_f (v := (.v (.bool (!(decide ((y186.getD ((IntKind.i64.wrap ((y186.length : Int) - (1 : Int)))).toNat (0 : Int)) = (IntKind.i64.wrap (((y104.getD ((0 : Int)).toNat ([] : List ((Int) × (Nat)))).length : Int) - (1 : Int))))))))) rfl (not_f (decide_eq_true c195)) rfl ?_
                                                  refine so_move (v := (.v (.bool (!(decide ((y186.getD ((IntKind.i64.wrap ((y186.length : Int) - (1 : Int)))).toNat (0 : Int)) = (IntKind.i64.wrap (((y104.getD ((0 : Int)).toNat ([] : List ((Int) × (Nat)))).length : Int) - (1 : Int))))))))) rfl ?_
                                                  replace h := ofP h; rcases h with ⟨c197, h⟩ | ⟨c197, h⟩
                                                  · refine so_gyes rfl (not_f (decide_eq_true c197)) ?_
                                                    refine so_move (v := (.v v105)) rfl ?_
                                                    refine so_gyes rfl (not_f (decide_eq_true c197)) ?_
                                                    refine sd_idx ((hs.dshows 2 rfl) : DSh _ _ 1 R_LePair_eInt_i64_eFlt_f32_o y104 ws107) c185 ([] : List ((Int) × (Nat))) (by decide) rfl rfl F5.tl35 ?_
                                                    refine so_gyes rfl (not_f (decide_eq_true c197)) ?_
                                                    refine su_ld ((((hs.dshows 2 rfl) : DSh _ _ 1 R_LePair_eInt_i64_eFlt_f32_o y104 ws107)).at (by decide) c185 ([] : List ((Int) × (Nat)))).2.2 0 (congrArg (fun c => c[0]?) ((((hs.dshows 2 rfl) : DSh _ _ 1 R_LePair_eInt_i64_eFlt_f32_o y104 ws107)).at (by decide) c185 ([] : List ((Int) × (Nat)))).2.1.1) rfl F5.ag47 ?_
                                                    refine so_gyes rfl (not_f (decide_eq_true c197)) ?_
                                                    refine sv_callS (impl_AreCosts_okS ((ws107.getD ((0 : Int)).toNat []).getD 0 .und) (y104.getD ((0 : Int)).toNat ([] : List ((Int) × (Nat)))) hs (fun _ hs => ((((hs.dshows 2 rfl) : DSh _ _ 1 R_LePair_eInt_i64_eFlt_f32_o y104 ws107)).at (by decide) c185 ([] : List ((Int) × (Nat)))).2.1.2) _ h) (fun _ _ ⟨_, _, _, e⟩ => e) rfl rfl ?_
                                                    clear h
                                                    rintro _ _ ⟨y198, h, rfl, rfl⟩
                                                    refine so_gyes rfl (not_f (decide_eq_true c197)) ?_
                                                    refine so_un rfl au_not ?_
                                                    refine so_pick_f (v := (.v (.bool (!y198)))) rfl (not_f (decide_eq_true c197)) rfl ?_
                                                    refine so_nil ?_
                                                    replace h := ofT h; rcases h with ⟨c200, h⟩ | ⟨c200, h⟩
                                                    · refine fi_false rfl (not_f c200) ?_
                                                      refine fi_skip ?_
                                                      refine fi_seq ?_
                                                      refine fi_seq ?_
                                                      refine fi_region ?_
                                                      refine so_move (v := (.v v187)) rfl ?_
                                                      refine sv_len (hs.shows 0 rfl) (fun _ => rfl) (by decide) rfl F5.ti22 ?_
                                                      refine so_move (v := (.v (.int .i64 (0 : Int)))) rfl ?_
                                                      refine so_nil ?_
                                                      refine fi_block ?_
                                                      refine fi_loop ?_
                                                      replace hs := hs.del 1
                                                      refine fi_at [(5, (.v v105)), (29, (.v v187)), (287, (.v (.int .i64 (y186.length : Int)))), (288, (.v (.int .i64 (0 : Int))))] ⟨rfl, rfl, rfl, rfl, trivial⟩ ?_
                                                      refine h (fun (x202 : Int) => ∀ (s : Nat → TV) (H : Heap), Sep H (Pc.osl v187 1 (enc (eInt .i64) y186) :: dpc v105 1 R_LePair_eInt_i64_eFlt_f32_o IR_LePair_eInt_i64_eFlt_f32_o y104 ws107 S108 :: fr) → Fin _ _ (updL s [(5, (.v v105)), (29, (.v v187)), (287, (.v (.int .i64 (y186.length : Int)))), (288, (.v (.int .i64 x202)))]) H _) ?_ _ _ hs
                                                      intro x202 h s209 H210 hs
                                                      refine fi_inLoop ?_
                                                      refine fi_seq ?_
                                                      refine fi_region ?_
                                                      refine so_bin rfl rfl ab_lss ?_
                                                      refine so_nil ?_
                                                      refine fi_seq ?_
                                                      replace h := ofP h; rcases h with ⟨c203, h⟩ | ⟨c203, h⟩
                                                      · refine fi_true rfl (decide_eq_true c203) ?_
                                                        refine fi_skip ?_
                                                        refine fi_seq ?_
                                                        refine fi_block ?_
                                                        refine fi_seq ?_
                                                        refine fi_region ?_
                                                        refine so_move (v := (.v (.int .i64 x202))) rfl ?_
                                                        refine so_assign (v := (.v (.int .i64 x202))) rfl ?_
                                                        refine so_nil ?_
                                                        refine fi_seq ?_
                                                        refine fi_region ?_
                                                        refine so_move (v := (.v (.int .i64 x202))) rfl ?_
                                                        refine so_bin rfl rfl ab_gtr ?_
                                                        refine so_move (v := (.v (.bool (decide ((0 : Int) < x202))))) rfl ?_
                                                        replace h := ofP h; rcases h with ⟨c204, h⟩ | ⟨c204, h⟩
                                                        · refine so_gyes rfl (decide_eq_true c204) ?_
                                                          refine so_move (v := (.v v187)) rfl ?_
                                                          refine so_gyes rfl (decide_eq_true c204) ?_
                                                          refine so_move (v := (.v (.int .i64 x202))) rfl ?_
                                                          refine so_gyes rfl (decide_eq_true c204) ?_
                                                          obtain ⟨c205, h⟩ := h
                                                          refine sv_idx (hs.shows 0 rfl) c205 (fun _ => rfl) (by decide) rfl rfl F5.tl22 ?_
                                                          refine so_gyes rfl (decide_eq_true c204) ?_
                                                          refine sv_cell (hs.shows 0 rfl) c205 (0 : Int) 0 (fun x => (AV.int .i64 x)) (fun _ => rfl) (fun _ => rfl) rfl F5.ag2 ?_
                                                          refine so_gyes rfl (decide_eq_true c204) ?_
                                                          refine so_move (v := (.v v187)) rfl ?_
                                                          refine so_gyes rfl (decide_eq_true c204) ?_
                                                          refine so_move (v := (.v (.int .i64 x202))) rfl ?_
                                                          refine so_gyes rfl (decide_eq_true c204) ?_
                                                          refine so_bin rfl rfl ab_sub ?_
                                                          refine so_gyes rfl (decide_eq_true c204) ?_
                                                          obtain ⟨c206, h⟩ := h
                                                          refine sv_idx (hs.shows 0 rfl) c206 (fun _ => rfl) (by decide) rfl rfl F5.tl22 ?_
                                                          refine so_gyes rfl (decide_eq_true c204) ?_
                                                          refine sv_cell (hs.shows 0 rfl) c206 (0 : Int) 0 (fun x => (AV.int .i64 x)) (fun _ => rfl) (fun _ => rfl) rfl F5.ag2 ?_
                                                          refine so_gyes rfl (decide_eq_true c204) ?_
                                                          refine so_bin rfl rfl ab_leq ?_
                                                          refine so_gyes rfl (decide_eq_true c204) ?_
                                                          refine so_move (v := (.v (.bool (decide ((y186.getD (x202).toNat (0 : Int)) ≤ (y186.getD ((IntKind.i64.wrap (x202 - (1 : Int)))).toNat (0 : Int))))))) rfl ?_
                                                          replace h := ofP h; rcases h with ⟨c207, h⟩ | ⟨c207, h⟩
                                                          · refine so_gno rfl (decide_eq_true c207) ?_
                                                            refine so_gno rfl (decide_eq_true c207) ?_
                                                            refine so_gno rfl (decide_eq_true c207) ?_
                                                            refine so_gno rfl (decide_eq_true c207) ?_
                                                            refine so_gno rfl (decide_eq_true c207) ?_
                                                            refine so_gno rfl (decide_eq_true c207) ?_
                                                            refine so_gno rfl (decide_eq_true c207) ?_
                                                            refine so_gno rfl (decide_eq_true c207) ?_
                                                            refine so_gno rfl (decide_eq_true c207) ?_
                                                            refine so_gyes rfl (decide_eq_true c204) ?_
                                                            refine so_pick_t (v := (.v (.bool true))) rfl (decide_eq_true c207) rfl ?_
                                                            refine so_pick_t (v := (.v (.bool true))) rfl (decide_eq_true c204) rfl ?_
                                                            refine so_nil ?_
                                                            refine fi_true rfl rfl ?_
                                                            refine fi_seq ?_
                                                            refine fi_region ?_
                                                            refine so_assign (v := (.v (.bool false))) rfl ?_
                                                            refine so_nil ?_
                                                            exact by_ret rfl ⟨_, h, rfl, (Sep.del 0 (Sep.del 0 hs))⟩
                                                          · refine so_gyes rfl (decide_eq_false c207) ?_
                                                            refine so_move (v := (.v v187)) rfl ?_
                                                            refine so_gyes rfl (decide_eq_false c207) ?_
                                                            refine so_move (v := (.v (.int .i64 x202))) rfl ?_
                                                            refine so_gyes rfl (decide_eq_false c207) ?_
                                                            refine sv_idx (hs.shows 0 rfl) c205 (fun _ => rfl) (by decide) rfl rfl F5.tl22 ?_
                                                            refine so_gyes rfl (decide_eq_false c207) ?_
                                                            refine sv_cell (hs.shows 0 rfl) c205 (0 : Int) 0 (fun x => (AV.int .i64 x)) (fun _ => rfl) (fun _ => rfl) rfl F5.ag2 ?_
                                                            refine so_gyes rfl (decide_eq_false c207) ?_
                                                            refine so_move (v := (.v v105)) rfl ?_
                                                            refine so_gyes rfl (decide_eq_false c207) ?_
                                                            refine sd_idx ((hs.dshows 1 rfl) : DSh _ _ 1 R_LePair_eInt_i64_eFlt_f32_o y104 ws107) c185 ([] : List ((Int) × (Nat))) (by decide) rfl rfl F5.tl35 ?_
                                                            refine so_gyes rfl (decide_eq_false c207) ?_
                                                            refine su_ld ((((hs.dshows 1 rfl) : DSh _ _ 1 R_LePair_eInt_i64_eFlt_f32_o y104 ws107)).at (by decide) c185 ([] : List ((Int) × (Nat)))).2.2 0 (congrArg (fun c => c[0]?) ((((hs.dshows 1 rfl) : DSh _ _ 1 R_LePair_eInt_i64_eFlt_f32_o y104 ws107)).at (by decide) c185 ([] : List ((Int) × (Nat)))).2.1.1) rfl F5.ag47 ?_
                                                            refine so_gyes rfl (decide_eq_false c207) ?_
                                                            refine sv_len ((((hs.dshows 1 rfl) : DSh _ _ 1 R_LePair_eInt_i64_eFlt_f32_o y104 ws107)).at (by decide) c185 ([] : List ((Int) × (Nat)))).2.1.2 (fun _ => rfl) (by decide) rfl F5.ti47 ?_
                                                            refine so_gyes rfl (decide_eq_false c207) ?_
                                                            refine so_bin rfl rfl ab_geq ?_
                                                            refine so_gyes rfl (decide_eq_true c204) ?_
                                                            refine so_pick_f (v := (.v (.bool (decide (((y104.getD ((0 : Int)).toNat ([] : List ((Int) × (Nat)))).length : Int) ≤ (y186.getD (x202).toNat (0 : Int))))))) rfl (decide_eq_false c207) rfl ?_
                                                            refine so_pick_t (v := (.v (.bool (decide (((y104.getD ((0 : Int)).toNat ([] : List ((Int) × (Nat)))).length : Int) ≤ (y186.getD (x202).toNat (0 : Int))))))) rfl (decide_eq_true c204) rfl ?_
                                                            refine so_nil ?_
                                                            replace h := ofP h; rcases h with ⟨c208, h⟩ | ⟨c208, h⟩
                                                            · refine fi_true rfl (decide_eq_true c208) ?_
                                                              refine fi_seq ?_
                                                              refine fi_region ?_
                                                              refine so_assign (v := (.v (.bool false))) rfl ?_
                                                              refine so_nil ?_
                                                              exact by_ret rfl ⟨_, h, rfl, (Sep.del 0 (Sep.del 0 hs))⟩
                                                            · refine fi_false rfl (decide_eq_false c208) ?_
                                                              refine fi_skip ?_
                                                              refine fi_inBlock ?_
                                                              refine fi_region ?_
                                                              refine so_bin rfl rfl ab_add ?_
                                                              refine so_move (v := (.v (.int .i64 (IntKind.i64.wrap (x202 + (1 : Int)))))) rfl ?_
                                                              refine so_nil ?_
                                                              exact fi_at [(5, (.v v105)), (29, (.v v187)), (287, (.v (.int .i64 (y186.length : Int)))), (288, (.v (.int .i64 (IntKind.i64.wrap (x202 + (1 : Int))))))] ⟨rfl, rfl, rfl, rfl, trivial⟩ (h _ _  hs)
                                                        · refine so_gno rfl (decide_eq_false c204) ?_
                                                          refine so_gno rfl (decide_eq_false c204) ?_
                                                          refine so_gno rfl (decide_eq_false c204) ?_
                                                          refine so_gno rfl (decide_eq_false c204) ?_
                                                          refine so_gno rfl (decide_eq_false c204) ?_
                                                          refine so_gno rfl (decide_eq_false c204) ?_
                                                          refine so_gno rfl (decide_eq_false c204) ?_
                                                          refine so_gno rfl (decide_eq_false c204) ?_
                                                          refine so_gno rfl (decide_eq_false c204) ?_
                                                          refine so_gno rfl (decide_eq_false c204) ?_
                                                          refine so_gno rfl (decide_eq_false c204) ?_
                                                          refine so_gund rfl ?_
                                                          refine so_gund rfl ?_
                                                          refine so_gund rfl ?_
                                                          refine so_gund rfl ?_
                                                          refine so_gund rfl ?_
                                                          refine so_gund rfl ?_
                                                          refine so_gund rfl ?_
                                                          refine so_gund rfl ?_
                                                          refine so_gund rfl ?_
                                                          refine so_gno rfl (decide_eq_false c204) ?_
                                                          refine so_pick_f (v := (.v (.bool false))) rfl (decide_eq_false c204) rfl ?_
                                                          refine so_nil ?_
                                                          refine fi_false rfl rfl ?_
                                                          refine fi_skip ?_
                                                          refine fi_inBlock ?_
                                                          refine fi_region ?_
                                                          refine so_bin rfl rfl ab_add ?_
                                                          refine so_move (v := (.v (.int .i64 (IntKind.i64.wrap (x202 + (1 : Int)))))) rfl ?_
                                                          refine so_nil ?_
                                                          exact fi_at [(5, (.v v105)), (29, (.v v187)), (287, (.v (.int .i64 (y186.length : Int)))), (288, (.v (.int .i64 (IntKind.i64.wrap (x202 + (1 : Int))))))] ⟨rfl, rfl, rfl, rfl, trivial⟩ (h _ _  hs)
                                                      · refine fi_false rfl (decide_eq_false c203) ?_
                                                        refine fi_exit rfl ?_
                                                        refine fi_seq ?_
                                                        refine fi_region ?_
                                                        refine so_assign (v := (.v (.bool true))) rfl ?_
                                                        refine so_nil ?_
                                                        exact by_ret rfl ⟨_, h, rfl, (Sep.del 0 (Sep.del 0 hs))⟩
                                                    · refine fi_true rfl (not_t c200) ?_
                                                      refine fi_seq ?_
                                                      refine fi_region ?_
                                                      refine so_assign (v := (.v (.bool false))) rfl ?_
                                                      refine so_nil ?_
                                                      exact by_ret rfl ⟨_, h, rfl, (Sep.del 0 (Sep.del 0 (Sep.del 0 hs)))⟩
                                                  · refine so_gno rfl (not_t (decide_eq_false c197)) ?_
                                                    refine so_gno rfl (not_t (decide_eq_false c197)) ?_
                                                    refine so_gno rfl (not_t (decide_eq_false c197)) ?_
                                                    refine so_gno rfl (not_t (decide_eq_false c197)) ?_
                                                    refine so_gno rfl (not_t (decide_eq_false c197)) ?_
                                                    refine so_pick_t (v := (.v (.bool true))) rfl (not_t (decide_eq_false c197)) rfl ?_
                                                    refine so_nil ?_
                                                    refine fi_true rfl rfl ?_
                                                    refine fi_seq ?_
                                                    refine fi_region ?_
                                                    refine so_assign (v := (.v (.bool false))) rfl ?_
                                                    refine so_nil ?_
                                                    exact by_ret rfl ⟨_, h, rfl, (Sep.del 0 (Sep.del 0 (Sep.del 0 hs)))⟩
                                                · refine so_gno rfl (not_t (decide_eq_false c195)) ?_
                                                  refine so_gno rfl (not_t (decide_eq_false c195)) ?_
                                                  refine so_gno rfl (not_t (decide_eq_false c195)) ?_
                                                  refine so_gno rfl (not_t (decide_eq_false c195)) ?_
                                                  refine so_gno rfl (not_t (decide_eq_false c195)) ?_
                                                  refine so_gno rfl (not_t (decide_eq_false c195)) ?_
                                                  refine so_gno rfl (not_t (decide_eq_false c195)) ?_
                                                  refine so_gno rfl (not_t (decide_eq_false c195)) ?_
                                                  refine so_gno rfl (not_t (decide_eq_false c195)) ?_
                                                  refine so_gno rfl (not_t (decide_eq_false c195)) ?_
                                                  refine so_gno rfl (not_t (decide_eq_false c195)) ?_
                                                  refine so_gno rfl (not_t (decide_eq_false c195)) ?_
                                                  refine so_pick_t (v := (.v (.bool true))) rfl (not_t (decide_eq_false c195)) rfl ?_
                                                  refine so_move (v := (.v (.bool true))) rfl ?_
                                                  refine so_gno rfl rfl ?_
                                                  refine so_gno rfl rfl ?_
                                                  refine so_gno rfl rfl ?_
                                                  refine so_gno rfl rfl ?_
                                                  refine so_gno rfl rfl ?_
                                                  refine so_pick_t (v := (.v (.bool true))) rfl rfl rfl ?_
                                                  refine so_nil ?_
                                                  refine fi_true rfl rfl ?_
                                                  refine fi_seq ?_
                                                  refine fi_region ?_
                                                  refine so_assign (v := (.v (.bool false))) rfl ?_
                                                  refine so_nil ?_
                                                  exact by_ret rfl ⟨_, h, rfl, (Sep.del 0 (Sep.del 0 (Sep.del 0 hs)))⟩
                                          · refine so_gno rfl (not_t c191) ?_
                                            refine so_gno rfl (not_t c191) ?_
                                            refine so_gno rfl (not_t c191) ?_
                                            refine so_pick_t (v := (.v (.bool true))) rfl (not_t c191) rfl ?_
                                            refine so_move (v := (.v (.bool true))) rfl ?_
                                            refine so_gno rfl rfl ?_
                                            refine so_gno rfl rfl ?_
                                            refine so_gno rfl rfl ?_
                                            refine so_pick_t (v := (.v (.bool true))) rfl rfl rfl ?_
                                            refine so_move (v := (.v (.bool true))) rfl ?_
                                            refine so_gno rfl rfl ?_
                                            refine so_gno rfl rfl ?_
                                            refine so_gno rfl rfl ?_
                                            refine so_gno rfl rfl ?_
                                            refine so_pick_t (v := (.v (.bool true))) rfl rfl rfl ?_
                                            refine so_move (v := (.v (.bool true))) rfl ?_
                                            refine so_gno rfl rfl ?_
                                            refine so_gno rfl rfl ?_
                                            refine so_gno rfl rfl ?_
                                            refine so_gno rfl rfl ?_
                                            refine so_gno rfl rfl ?_
                                            refine so_gno rfl rfl ?_
                                            refine so_gno rfl rfl ?_
                                            refine so_gno rfl rfl ?_
                                            refine so_gno rfl rfl ?_
                                            refine so_gno rfl rfl ?_
                                            refine so_gno rfl rfl ?_
                                            refine so_gno rfl rfl ?_
                                            refine so_pick_t (v := (.v (.bool true))) rfl rfl rfl ?_
                                            refine so_move (v := (.v (.bool true))) rfl ?_
                                            refine so_gno rfl rfl ?_
                                            refine so_gno rfl rfl ?_
                                            refine so_gno rfl rfl ?_
                                            refine so_gno rfl rfl ?_
                                            refine so_gno rfl rfl ?_
                                            refine so_pick_t (v := (.v (.bool true))) rfl rfl rfl ?_
                                            refine so_nil ?_
                                            refine fi_true rfl rfl ?_
                                            refine fi_seq ?_
                                            refine fi_region ?_
                                            refine so_assign (v := (.v (.bool false))) rfl ?_
                                            refine so_nil ?_
                                            exact by_ret rfl ⟨_, h, rfl, (Sep.del 0 (Sep.del 0 (Sep.del 0 hs)))⟩
                                    · refine so_gno rfl (not_t c176) ?_
                                      refine so_gno rfl (not_t c176) ?_
                                      refine so_gno rfl (not_t c176) ?_
                                      refine so_pick_t (v := (.v (.bool true))) rfl (not_t c176) rfl ?_
                                      refine so_nil ?_
                                      refine fi_true rfl rfl ?_
                                      refine fi_seq ?_
                                      refine fi_region ?_
                                      refine so_assign (v := (.v (.bool false))) rfl ?_
                                      refine so_nil ?_
                                      exact by_ret rfl ⟨_, h, rfl, (Sep.dropn 6 hs)⟩
                                  · refine so_gno rfl (not_t c173) ?_
                                    refine so_gno rfl (not_t c173) ?_
                                    refine so_gno rfl (not_t c173) ?_
                                    refine so_gno rfl (not_t c173) ?_
                                    refine so_pick_t (v := (.v (.bool true))) rfl (not_t c173) rfl ?_
                                    refine so_move (v := (.v (.bool true))) rfl ?_
                                    refine so_gno rfl rfl ?_
                                    refine so_gno rfl rfl ?_
                                    refine so_gno rfl rfl ?_
                                    refine so_pick_t (v := (.v (.bool true))) rfl rfl rfl ?_
                                    refine so_nil ?_
                                    refine fi_true rfl rfl ?_
                                    refine fi_seq ?_
                                    refine fi_region ?_
                                    refine so_assign (v := (.v (.bool false))) rfl ?_
                                    refine so_nil ?_
                                    exact by_ret rfl ⟨_, h, rfl, (Sep.dropn 6 hs)⟩
                                · refine so_gno rfl (not_t (decide_eq_false c170)) ?_
                                  refine so_gno rfl (not_t (decide_eq_false c170)) ?_
                                  refine so_gno rfl (not_t (decide_eq_false c170)) ?_
                                  refine so_gno rfl (not_t (decide_eq_false c170)) ?_
                                  refine so_pick_t (v := (.v (.bool true))) rfl (not_t (decide_eq_false c170)) rfl ?_
                                  refine so_move (v := (.v (.bool true))) rfl ?_
                                  refine so_gno rfl rfl ?_
                                  refine so_gno rfl rfl ?_
                                  refine so_gno rfl rfl ?_
                                  refine so_gno rfl rfl ?_
                                  refine so_pick_t (v := (.v (.bool true))) rfl rfl rfl ?_
                                  refine so_move (v := (.v (.bool true))) rfl ?_
                                  refine so_gno rfl rfl ?_
                                  refine so_gno rfl rfl ?_
                                  refine so_gno rfl rfl ?_
                                  refine so_pick_t (v := (.v (.bool true))) rfl rfl rfl ?_
                                  refine so_nil ?_
                                  refine fi_true rfl rfl ?_
                                  refine fi_seq ?_
                                  refine fi_region ?_
                                  refine so_assign (v := (.v (.bool false))) rfl ?_
                                  refine so_nil ?_
                                  exact by_ret rfl ⟨_, h, rfl, (Sep.dropn 6 hs)⟩
                              · refine so_gno rfl (not_t (decide_eq_false c169)) ?_
                                refine so_gno rfl (not_t (decide_eq_false c169)) ?_
                                refine so_gno rfl (not_t (decide_eq_false c169)) ?_
                                refine so_gno rfl (not_t (decide_eq_false c169)) ?_
                                refine so_gno rfl (not_t (decide_eq_false c169)) ?_
                                refine so_pick_t (v := (.v (.bool true))) rfl (not_t (decide_eq_false c169)) rfl ?_
                                refine so_move (v := (.v (.bool true))) rfl ?_
                                refine so_gno rfl rfl ?_
                                refine so_gno rfl rfl ?_
                                refine so_gno rfl rfl ?_
                                refine so_gno rfl rfl ?_
                                refine so_pick_t (v := (.v (.bool true))) rfl rfl rfl ?_
                                refine so_move (v := (.v (.bool true))) rfl ?_
                                refine so_gno rfl rfl ?_
                                refine so_gno rfl rfl ?_
                                refine so_gno rfl rfl ?_
                                refine so_gno rfl rfl ?_
                                refine so_pick_t (v := (.v (.bool true))) rfl rfl rfl ?_
                                refine so_move (v := (.v (.bool true))) rfl ?_
                                refine so_gno rfl rfl ?_
                                refine so_gno rfl rfl ?_
                                refine so_gno rfl rfl ?_
                                refine so_pick_t (v := (.v (.bool true))) rfl rfl rfl ?_
                                refine so_nil ?_
                                refine fi_true rfl rfl ?_
                                refine fi_seq ?_
                                refine fi_region ?_
                                refine so_assign (v := (.v (.bool false))) rfl ?_
                                refine so_nil ?_
                                exact by_ret rfl ⟨_, h, rfl, (Sep.dropn 6 hs)⟩
                            · refine so_gno rfl (not_t c168) ?_
                              refine so_gno rfl (not_t c168) ?_
                              refine so_gno rfl (not_t c168) ?_
                              refine so_gno rfl (not_t c168) ?_
                              refine so_gno rfl (not_t c168) ?_
                              refine so_pick_t (v := (.v (.bool true))) rfl (not_t c168) rfl ?_
                              refine so_move (v := (.v (.bool true))) rfl ?_
                              refine so_gno rfl rfl ?_
                              refine so_gno rfl rfl ?_
                              refine so_gno rfl rfl ?_
                              refine so_gno rfl rfl ?_
                              refine so_gno rfl rfl ?_
                              refine so_pick_t (v := (.v (.bool true))) rfl rfl rfl ?_
                              refine so_move (v := (.v (.bool true))) rfl ?_
                              refine so_gno rfl rfl ?_
                              refine so_gno rfl rfl ?_
                              refine so_gno rfl rfl ?_
                              refine so_gno rfl rfl ?_
                              refine so_pick_t (v := (.v (.bool true))) rfl rfl rfl ?_
                              refine so_move (v := (.v (.bool true))) rfl ?_
                              refine so_gno rfl rfl ?_
                              refine so_gno rfl rfl ?_
                              refine so_gno rfl rfl ?_
                              refine so_gno rfl rfl ?_
                              refine so_pick_t (v := (.v (.bool true))) rfl rfl rfl ?_
                              refine so_move (v := (.v (.bool true))) rfl ?_
                              refine so_gno rfl rfl ?_
                              refine so_gno rfl rfl ?_
                              refine so_gno rfl rfl ?_
                              refine so_pick_t (v := (.v (.bool true))) rfl rfl rfl ?_
                              refine so_nil ?_
                              refine fi_true rfl rfl ?_
                              refine fi_seq ?_
                              refine fi_region ?_
                              refine so_assign (v := (.v (.bool false))) rfl ?_
                              refine so_nil ?_
                              exact by_ret rfl ⟨_, h, rfl, (Sep.dropn 6 hs)⟩
                          · refine so_gno rfl (not_t c167) ?_
                            refine so_gno rfl (not_t c167) ?_
                            refine so_pick_t (v := (.v (.bool true))) rfl (not_t c167) rfl ?_
                            refine so_move (v := (.v (.bool true))) rfl ?_
                            refine so_gno rfl rfl ?_
                            refine so_gno rfl rfl ?_
                            refine so_gno rfl rfl ?_
                            refine so_gno rfl rfl ?_
                            refine so_gno rfl rfl ?_
                            refine so_pick_t (v := (.v (.bool true))) rfl rfl rfl ?_
                            refine so_move (v := (.v (.bool true))) rfl ?_
                            refine so_gno rfl rfl ?_
                            refine so_gno rfl rfl ?_
                            refine so_gno rfl rfl ?_
                            refine so_gno rfl rfl ?_
                            refine so_gno rfl rfl ?_
                            refine so_pick_t (v := (.v (.bool true))) rfl rfl rfl ?_
                            refine so_move (v := (.v (.bool true))) rfl ?_
                            refine so_gno rfl rfl ?_
                            refine so_gno rfl rfl ?_
                            refine so_gno rfl rfl ?_
                            refine so_gno rfl rfl ?_
                            refine so_pick_t (v := (.v (.bool true))) rfl rfl rfl ?_
                            refine so_move (v := (.v (.bool true))) rfl ?_
                            refine so_gno rfl rfl ?_
                            refine so_gno rfl rfl ?_
                            refine so_gno rfl rfl ?_
                            refine so_gno rfl rfl ?_
                            refine so_pick_t (v := (.v (.bool true))) rfl rfl rfl ?_
                            refine so_move (v := (.v (.bool true))) rfl ?_
                            refine so_gno rfl rfl ?_
                            refine so_gno rfl rfl ?_
                            refine so_gno rfl rfl ?_
                            refine so_pick_t (v := (.v (.bool true))) rfl rfl rfl ?_
                            refine so_nil ?_
                            refine fi_true rfl rfl ?_
                            refine fi_seq ?_
                            refine fi_region ?_
                            refine so_assign (v := (.v (.bool false))) rfl ?_
                            refine so_nil ?_
                            exact by_ret rfl ⟨_, h, rfl, (Sep.dropn 6 hs)⟩
                        · refine so_gno rfl (not_t c166) ?_
                          refine so_gno rfl (not_t c166) ?_
                          refine so_pick_t (v := (.v (.bool true))) rfl (not_t c166) rfl ?_
                          refine so_move (v := (.v (.bool true))) rfl ?_
                          refine so_gno rfl rfl ?_
                          refine so_gno rfl rfl ?_
                          refine so_pick_t (v := (.v (.bool true))) rfl rfl rfl ?_
                          refine so_move (v := (.v (.bool true))) rfl ?_
                          refine so_gno rfl rfl ?_
                          refine so_gno rfl rfl ?_
                          refine so_gno rfl rfl ?_
                          refine so_gno rfl rfl ?_
                          refine so_gno rfl rfl ?_
                          refine so_pick_t (v := (.v (.bool true))) rfl rfl rfl ?_
                          refine so_move (v := (.v (.bool true))) rfl ?_
                          refine so_gno rfl rfl ?_
                          refine so_gno rfl rfl ?_
                          refine so_gno rfl rfl ?_
                          refine so_gno rfl rfl ?_
                          refine so_gno rfl rfl ?_
                          refine so_pick_t (v := (.v (.bool true))) rfl rfl rfl ?_
                          refine so_move (v := (.v (.bool true))) rfl ?_
                          refine so_gno rfl rfl ?_
                          refine so_gno rfl rfl ?_
                          refine so_gno rfl rfl ?_
                          refine so_gno rfl rfl ?_
                          refine so_pick_t (v := (.v (.bool true))) rfl rfl rfl ?_
                          refine so_move (v := (.v (.bool true))) rfl ?_
                          refine so_gno rfl rfl ?_
                          refine so_gno rfl rfl ?_
                          refine so_gno rfl rfl ?_
                          refine so_gno rfl rfl ?_
                          refine so_pick_t (v := (.v (.bool true))) rfl rfl rfl ?_
                          refine so_move (v := (.v (.bool true))) rfl ?_
                          refine so_gno rfl rfl ?_
                          refine so_gno rfl rfl ?_
                          refine so_gno rfl rfl ?_
                          refine so_pick_t (v := (.v (.bool true))) rfl rfl rfl ?_
                          refine so_nil ?_
                          refine fi_true rfl rfl ?_
                          refine fi_seq ?_
                          refine fi_region ?_
                          refine so_assign (v := (.v (.bool false))) rfl ?_
                          refine so_nil ?_
                          exact by_ret rfl ⟨_, h, rfl, (Sep.dropn 6 hs)⟩
                  · refine so_gno rfl (not_t (decide_eq_false c143)) ?_
                    refine so_gno rfl (not_t (decide_eq_false c143)) ?_
                    refine so_gno rfl (not_t (decide_eq_false c143)) ?_
                    refine so_gno rfl (not_t (decide_eq_false c143)) ?_
                    refine so_gno rfl (not_t (decide_eq_false c143)) ?_
                    refine so_gno rfl (not_t (decide_eq_false c143)) ?_
                    refine so_pick_t (v := (.v (.bool true))) rfl (not_t (decide_eq_false c143)) rfl ?_
                    refine so_move (v := (.v (.bool true))) rfl ?_
                    refine so_gno rfl rfl ?_
                    refine so_gno rfl rfl ?_
                    refine so_gno rfl rfl ?_
                    refine so_gno rfl rfl ?_
                    refine so_gno rfl rfl ?_
                    refine so_gno rfl rfl ?_
                    refine so_pick_t (v := (.v (.bool true))) rfl rfl rfl ?_
                    refine so_nil ?_
                    refine fi_true rfl rfl ?_
                    refine fi_seq ?_
                    refine fi_region ?_
                    refine so_assign (v := (.v (.bool false))) rfl ?_
                    refine so_nil ?_
                    exact by_ret rfl ⟨_, h, rfl, (Sep.del 0 (Sep.del 0 (Sep.del 0 hs)))⟩
                · refine so_gno rfl (not_t c142) ?_
                  refine so_gno rfl (not_t c142) ?_
                  refine so_gno rfl (not_t c142) ?_
                  refine so_gno rfl (not_t c142) ?_
                  refine so_gno rfl (not_t c142) ?_
                  refine so_pick_t (v := (.v (.bool true))) rfl (not_t c142) rfl ?_
                  refine so_move (v := (.v (.bool true))) rfl ?_
                  refine so_gno rfl rfl ?_
                  refine so_gno rfl rfl ?_
                  refine so_gno rfl rfl ?_
                  refine so_gno rfl rfl ?_
                  refine so_gno rfl rfl ?_
                  refine so_gno rfl rfl ?_
                  refine so_pick_t (v := (.v (.bool true))) rfl rfl rfl ?_
                  refine so_move (v := (.v (.bool true))) rfl ?_
                  refine so_gno rfl rfl ?_
                  refine so_gno rfl rfl ?_
                  refine so_gno rfl rfl ?_
                  refine so_gno rfl rfl ?_
                  refine so_gno rfl rfl ?_
                  refine so_gno rfl rfl ?_
                  refine so_pick_t (v := (.v (.bool true))) rfl rfl rfl ?_
                  refine so_nil ?_
                  refine fi_true rfl rfl ?_
                  refine fi_seq ?_
                  refine fi_region ?_
                  refine so_assign (v := (.v (.bool false))) rfl ?_
                  refine so_nil ?_
                  exact by_ret rfl ⟨_, h, rfl, (Sep.del 0 (Sep.del 0 (Sep.del 0 hs)))⟩
            · refine so_gno rfl (not_t (decide_eq_false c138)) ?_
              refine so_gno rfl (not_t (decide_eq_false c138)) ?_
              refine so_gno rfl (not_t (decide_eq_false c138)) ?_
              refine so_gno rfl (not_t (decide_eq_false c138)) ?_
              refine so_gno rfl (not_t (decide_eq_false c138)) ?_
              refine so_pick_t (v := (.v (.bool true))) rfl (not_t (decide_eq_false c138)) rfl ?_
              refine so_move (v := (.v (.bool true))) rfl ?_
              refine so_gno rfl rfl ?_
              refine so_gno rfl rfl ?_
              refine so_pick_t (v := (.v (.bool true))) rfl rfl rfl ?_
              refine so_move (v := (.v (.bool true))) rfl ?_
              refine so_gno rfl rfl ?_
              refine so_gno rfl rfl ?_
              refine so_gno rfl rfl ?_
              refine so_gno rfl rfl ?_
              refine so_gno rfl rfl ?_
              refine so_pick_t (v := (.v (.bool true))) rfl rfl rfl ?_
              refine so_move (v := (.v (.bool true))) rfl ?_
              refine so_gno rfl rfl ?_
              refine so_gno rfl rfl ?_
              refine so_gno rfl rfl ?_
              refine so_gno rfl rfl ?_
              refine so_gno rfl rfl ?_
              refine so_gno rfl rfl ?_
              refine so_pick_t (v := (.v (.bool true))) rfl rfl rfl ?_
              refine so_move (v := (.v (.bool true))) rfl ?_
              refine so_gno rfl rfl ?_
              refine so_gno rfl rfl ?_
              refine so_gno rfl rfl ?_
              refine so_gno rfl rfl ?_
              refine so_gno rfl rfl ?_
              refine so_gno rfl rfl ?_
              refine so_pick_t (v := (.v (.bool true))) rfl rfl rfl ?_
              refine so_nil ?_
              refine fi_true rfl rfl ?_
              refine fi_seq ?_
              refine fi_region ?_
              refine so_assign (v := (.v (.bool false))) rfl ?_
              refine so_nil ?_
              exact by_ret rfl ⟨_, h, rfl, (Sep.del 0 (Sep.del 0 (Sep.del 0 hs)))⟩
      · refine so_gno rfl (not_t (decide_eq_false c120)) ?_
        refine so_gno rfl (not_t (decide_eq_false c120)) ?_
        refine so_pick_t (v := (.v (.bool true))) rfl (not_t (decide_eq_false c120)) rfl ?_
        refine so_nil ?_
        refine fi_true rfl rfl ?_
        refine fi_seq ?_
        refine fi_region ?_
        refine so_assign (v := (.v (.bool false))) rfl ?_
        refine so_nil ?_
        exact by_ret rfl ⟨_, h, rfl, (Sep.del 0 (Sep.del 0 hs))⟩
    · refine so_gno rfl (not_t c119) ?_
      refine so_gno rfl (not_t c119) ?_
      refine so_gno rfl (not_t c119) ?_
      refine so_gno rfl (not_t c119) ?_
      refine so_gno rfl (not_t c119) ?_
      refine so_pick_t (v := (.v (.bool true))) rfl (not_t c119) rfl ?_
      refine so_move (v := (.v (.bool true))) rfl ?_
      refine so_gno rfl rfl ?_
      refine so_gno rfl rfl ?_
      refine so_pick_t (v := (.v (.bool true))) rfl rfl rfl ?_
      refine so_nil ?_
      refine fi_true rfl rfl ?_
      refine fi_seq ?_
      refine fi_region ?_
      refine so_assign (v := (.v (.bool false))) rfl ?_
      refine so_nil ?_
      exact by_ret rfl ⟨_, h, rfl, (Sep.del 0 (Sep.del 0 hs))⟩

end Go.Proofs.Ytecdkjnomkdbkaa.G

