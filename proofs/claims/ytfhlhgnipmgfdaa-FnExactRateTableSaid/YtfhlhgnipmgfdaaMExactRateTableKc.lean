/-
  The model ends so. Printed by a program of the session; nothing here is trusted.
-/
import Derived.Test.YtfhlhgnipmgfdaaProg
import Derived.KernelRfl
import Derived.Test.YtfhlhgnipmgfdaaMExactRateTableWa
import Derived.Test.YtfhlhgnipmgfdaaMExactRateTableKb
namespace Go.Proofs.Ytfhlhgnipmgfdaa.G
open Go Go.Ab Go.Proofs Go.Proofs.Ytfhlhgnipmgfdaa
set_option maxRecDepth 100000
set_option linter.unusedVariables false
set_option linter.unusedSimpArgs false
set_option maxHeartbeats 1000000
attribute [local irreducible] wops wopf Go.Ab.Fin
theorem F84.ag26 : tagg Try.prog 26 = some false := by kernel_rfl
theorem F84.ti24 : (telem Try.prog 24).isSome = true := by kernel_rfl
theorem F84.tl24 : (telem Try.prog 24).bind (tsz Try.prog) = some 1 := by kernel_rfl
theorem spec_l02Energy_ok {fr : List Pc} {H : Heap} (v0 : AV) (l0 : List (Nat)) (hs : Sep H (fr)) (g0 : ∀ H, Sep H fr → Shows H v0 1 (enc (eFlt .f32) l0)) (K : Nat → Prop) (h : spec_l02Energy.wp l0 K) : OkQ Try.prog 84 [(.v v0)] H (fun r H2 => ∃ (y0 : Nat), K y0 ∧ r = (.v (.flt .f32 y0)) ∧ H = H2) := by
  unfold spec_l02Energy.wp at h
  refine of_body Try.f84 F.hm Try.func84 rfl Try.call84 (by kernel_rfl) (by simp) ?_
  refine fi_seq ?_
  refine fi_region ?_
  refine so_assign (v := (.v (.flt .f32 (cz .f32 0)))) rfl ?_
  refine so_nil ?_
  refine fi_seq ?_
  refine fi_region ?_
  refine so_assign (v := (.v (.flt .f32 (cz .f32 0)))) rfl ?_
  refine so_nil ?_
  refine fi_seq ?_
  refine fi_seq ?_
  refine fi_region ?_
  refine so_assign (v := (.v (.int .i64 (0 : Int)))) rfl ?_
  refine so_nil ?_
  refine fi_block ?_
  refine fi_loop ?_
  refine fi_at [(0, (.v v0)), (3, (.v (.flt .f32 (cz .f32 0)))), (4, (.v (.int .i64 (0 : Int))))] ⟨rfl, rfl, rfl, trivial⟩ ?_
  refine h (fun (sum102 : Nat) (i103 : Int) => ∀ (s : Nat → TV), Fin _ _ (updL s [(0, (.v v0)), (3, (.v (.flt .f32 sum102))), (4, (.v (.int .i64 i103)))]) _ _) ?_ _
  intro sum102 i103 h s106
  refine fi_inLoop ?_
  refine fi_seq ?_
  refine fi_seq ?_
  refine fi_region ?_
  refine so_move (v := (.v (.int .i64 i103))) rfl ?_
  refine so_move (v := (.v v0)) rfl ?_
  refine sv_len (g0 _ hs) (fun _ => rfl) (by decide) rfl F84.ti24 ?_
  refine so_bin rfl rfl ab_lss ?_
  refine so_nil ?_
  replace h := ofP h; rcases h with ⟨c104, h⟩ | ⟨c104, h⟩
  · refine fi_true rfl (decide_eq_true c104) ?_
    refine fi_skip ?_
    refine fi_seq ?_
    refine fi_block ?_
    refine fi_region ?_
    refine so_move (v := (.v (.flt .f32 sum102))) rfl ?_
    refine so_move (v := (.v v0)) rfl ?_
    refine so_move (v := (.v (.int .i64 i103))) rfl ?_
    obtain ⟨c105, h⟩ := h
    refine sv_idx (g0 _ hs) c105 (fun _ => rfl) (by decide) rfl rfl F84.tl24 ?_
    refine sv_cell (g0 _ hs) c105 (0 : Nat) 0 (fun x => (AV.flt .f32 x)) (fun _ => rfl) (fun _ => rfl) rfl F84.ag26 ?_
    refine so_move (v := (.v v0)) rfl ?_
    refine so_move (v := (.v (.int .i64 i103))) rfl ?_
    refine sv_idx (g0 _ hs) c105 (fun _ => rfl) (by decide) rfl rfl F84.tl24 ?_
    refine sv_cell (g0 _ hs) c105 (0 : Nat) 0 (fun x => (AV.flt .f32 x)) (fun _ => rfl) (fun _ => rfl) rfl F84.ag26 ?_
    refine so_bin rfl rfl ab_fmul ?_
    refine so_bin rfl rfl ab_fadd ?_
    refine so_assign (v := (.v (.flt .f32 (fop .add .f32 sum102 (fop .mul .f32 (l0.getD (i103).toNat (0 : Nat)) (l0.getD (i103).toNat (0 : Nat))))))) rfl ?_
    refine so_nil ?_
    refine fi_inBlock ?_
    refine fi_region ?_
    refine so_move (v := (.v (.int .i64 i103))) rfl ?_
    refine so_bin rfl rfl ab_add ?_
    refine so_assign (v := (.v (.int .i64 (IntKind.i64.wrap (i103 + (1 : Int)))))) rfl ?_
    refine so_nil ?_
    exact fi_at [(0, (.v v0)), (3, (.v (.flt .f32 (fop .add .f32 sum102 (fop .mul .f32 (l0.getD (i103).toNat (0 : Nat)) (l0.getD (i103).toNat (0 : Nat))))))), (4, (.v (.int .i64 (IntKind.i64.wrap (i103 + (1 : Int))))))] ⟨rfl, rfl, rfl, trivial⟩ (h _)
  · refine fi_false rfl (decide_eq_false c104) ?_
    refine fi_exit rfl ?_
    refine fi_seq ?_
    refine fi_region ?_
    refine so_move (v := (.v (.flt .f32 sum102))) rfl ?_
    refine so_assign (v := (.v (.flt .f32 sum102))) rfl ?_
    refine so_nil ?_
    exact by_ret rfl ⟨_, h, rfl, rfl⟩
theorem F27.ag26 : tagg Try.prog 26 = some false := by kernel_rfl
theorem F27.ag38 : tagg Try.prog 38 = some true := by kernel_rfl
theorem F27.fd101_2 : tfield Try.prog 101 2 = some (2, 1, false) := by kernel_rfl
theorem F27.fl26 : tflt Try.prog 26 = some .f32 := by kernel_rfl
theorem F27.in26 : tint Try.prog 26 = none := by kernel_rfl
theorem F27.inf38 : (Try.prog.info? 38).isSome = true := by kernel_rfl
theorem F27.sz2 : tsz Try.prog 2 = some 1 := by kernel_rfl
theorem F27.sz26 : tsz Try.prog 26 = some 1 := by kernel_rfl
theorem F27.sz38 : tsz Try.prog 38 = some 2 := by kernel_rfl
theorem F27.ta24_24 : tapp Try.prog 24 24 = some (1, 4) := by kernel_rfl
theorem F27.ta28_28 : tapp Try.prog 28 28 = some (1, 8) := by kernel_rfl
theorem F27.te24 : telem Try.prog 24 = some 26 := by kernel_rfl
theorem F27.te28 : telem Try.prog 28 = some 2 := by kernel_rfl
theorem F27.ti24 : (telem Try.prog 24).isSome = true := by kernel_rfl
theorem F27.ti49 : (telem Try.prog 49).isSome = true := by kernel_rfl
theorem F27.tl24 : (telem Try.prog 24).bind (tsz Try.prog) = some 1 := by kernel_rfl
theorem F27.us3 : (Try.prog.underlying 3).isSome = true := by kernel_rfl
theorem F27.ze2 : tzero Try.prog 2 = some [(.int .i64 (0 : Int))] := by kernel_rfl
theorem F27.ze26 : tzero Try.prog 26 = some [(.flt .f32 (0 : Nat))] := by kernel_rfl
theorem spec_RateTable_ok {fr : List Pc} {H : Heap} (v0 : AV) (l0 : List (Nat)) (a1 : Nat) (v2 : AV) (l2 : List (Nat)) (a3 : Int) (a4 : Nat) (hs : Sep H (fr)) (g0 : ∀ H, Sep H fr → Shows H v0 1 (enc (eFlt .f32) l0)) (g2 : ∀ H, Sep H fr → Shows H v2 1 (enc (eFlt .f32) l2)) (K : (List (Int)) → (List (Nat)) → Bool → Prop) (h : spec_RateTable.wp l0 a1 l2 a3 a4 K) : OkQ Try.prog 27 [(.g [v0, (.flt .f32 a1)]), (.v v2), (.v (.int .i64 a3)), (.v (.flt .f32 a4))] H (fun r H2 => ∃ (y0 : List (Int)) (y1 : List (Nat)) (y2 : Bool), K y0 y1 y2 ∧ ∃ (w0_ : AV) (w1_ : AV), r = (.t [(.v w0_), (.v w1_), (.v (.bool y2))]) ∧ Sep H2 (Pc.osl w0_ 1 (enc (eInt .i64) y0) :: Pc.osl w1_ 1 (enc (eFlt .f32) y1) :: fr)) := by
  unfold spec_RateTable.wp at h
  refine of_body Try.f27 F.hm Try.func27 rfl Try.call27 (by kernel_rfl) (by simp) ?_
  refine fi_seq ?_
  refine fi_region ?_
  refine sv_box hs rfl (c := [v0, (.flt .f32 a1)]) rfl F27.inf38 (stc (g0 _ hs).stor (stc rfl stn)) nofun (fun id101 H102 hs => ?_)
  refine so_assign (v := (.v .nilsl)) rfl ?_
  refine so_assign (v := (.v .nilsl)) rfl ?_
  refine so_assign (v := (.v (.bool false))) rfl ?_
  refine so_nil ?_
  refine fi_seq ?_
  refine fi_region ?_
  refine sv_lds hs 0 rfl rfl (leb rfl) rfl F27.ag38 F27.sz38 ?_
  refine so_move (v := (.v v2)) rfl ?_
  refine so_move (v := (.v (.int .i64 a3))) rfl ?_
  refine sv_call (spec_LiftDeep_ok v0 l0 a1 v2 l2 a3 hs (fun _ hs => (g0 _ hs.tl)) (fun _ hs => (g2 _ hs.tl)) _ h) rfl rfl nofun ?_
  clear h hs
  rintro _ H110 ⟨y104, y109, h, v105, ws107, S108, rfl, hs⟩
  refine so_move (v := (.t [(.v v105), (.v (.bool y109))])) rfl ?_
  refine so_extract rfl rfl rfl ?_
  refine so_extract rfl rfl rfl ?_
  refine so_assign (v := (.v v105)) rfl ?_
  refine so_assign (v := (.v (.bool y109))) rfl ?_
  refine so_nil ?_
  refine fi_seq ?_
  refine fi_seq ?_
  refine fi_region ?_
  refine so_move (v := (.v (.bool y109))) rfl ?_
  refine so_un rfl au_not ?_
  refine so_nil ?_
  replace h := ofT h; rcases h with ⟨c111, h⟩ | ⟨c111, h⟩
  · refine fi_false rfl (not_f c111) ?_
    refine fi_skip ?_
    refine fi_seq ?_
    refine fi_region ?_
    refine so_move (v := (.v v105)) rfl ?_
    refine sv_call (spec_FlatBands_ok v105 ws107 y104 hs (fun _ hs => (hs.dshows 0 rfl)) _ h) rfl rfl nofun ?_
    clear h hs
    rintro _ H116 ⟨y112, y115, h, v113, rfl, hs⟩
    refine so_move (v := (.t [(.v v113), (.v (.bool y115))])) rfl ?_
    refine so_extract rfl rfl rfl ?_
    refine so_extract rfl rfl rfl ?_
    refine so_assign (v := (.v v113)) rfl ?_
    refine so_assign (v := (.v (.bool y115))) rfl ?_
    refine so_nil ?_
    refine fi_seq ?_
    refine fi_region ?_
    refine so_move (v := (.v v113)) rfl ?_
    refine so_move (v := (.v (.flt .f32 a4))) rfl ?_
    refine sv_call (spec_ScaleList_ok v113 y112 a4 hs (fun _ hs => (hs.shows 0 rfl)) _ h) rfl rfl nofun ?_
    clear h hs
    rintro _ H121 ⟨y117, y120, h, v118, rfl, hs⟩
    refine so_move (v := (.t [(.v v118), (.v (.bool y120))])) rfl ?_
    refine so_extract rfl rfl rfl ?_
    refine so_extract rfl rfl rfl ?_
    refine so_assign (v := (.v v118)) rfl ?_
    refine so_assign (v := (.v (.bool y120))) rfl ?_
    refine so_nil ?_
    refine fi_seq ?_
    refine fi_seq ?_
    refine fi_region ?_
    refine so_move (v := (.v (.bool y115))) rfl ?_
    refine so_un rfl au_not ?_
    refine so_move (v := (.v (.bool (!y115)))) rfl ?_
    replace h := ofT h; rcases h with ⟨c122, h⟩ | ⟨c122, h⟩
    · refine so_gyes rfl (not_f c122) ?_
      refine so_move (v := (.v (.bool y120))) rfl ?_
      refine so_gyes rfl (not_f c122) ?_
      refine so_un rfl au_not ?_
      refine so_pick_f (v := (.v (.bool (!y120)))) rfl (not_f c122) rfl ?_
      refine so_nil ?_
      replace h := ofT h; rcases h with ⟨c123, h⟩ | ⟨c123, h⟩
      · refine fi_false rfl (not_f c123) ?_
        refine fi_skip ?_
        refine fi_seq ?_
        refine fi_region ?_
        refine sv_bslice hs (eInt .i64) ([] : List (Int)) [] F27.te28 F27.sz2 F27.ze2 rfl rfl rfl rfl (fun _ => rfl) rfl (by decide) nofun (fun v124 H125 nv124 hs => ?_)
        refine so_assign (v := (.v v124)) rfl ?_
        refine so_nil ?_
        refine fi_seq ?_
        refine fi_region ?_
        refine sv_bslice hs (eFlt .f32) ([] : List (Nat)) [] F27.te24 F27.sz26 F27.ze26 rfl rfl rfl rfl (fun _ => rfl) rfl (by decide) nofun (fun v127 H128 nv127 hs => ?_)
        refine so_assign (v := (.v v127)) rfl ?_
        refine so_nil ?_
        refine fi_seq ?_
        refine fi_seq ?_
        refine fi_region ?_
        refine so_move (v := (.v v118)) rfl ?_
        refine sv_callS (spec_l06Planes_ok v118 y117 hs (fun _ hs => (hs.shows 2 rfl)) _ h) (fun _ _ ⟨_, _, _, e⟩ => e) rfl rfl ?_
        clear h
        rintro _ _ ⟨y130, h, rfl, rfl⟩
        refine so_assign (v := (.v (.int .i64 y130))) rfl ?_
        refine so_nil ?_
        refine fi_block ?_
        refine fi_loop ?_
        replace hs := hs.del 3
        replace hs := hs.del 3
        refine fi_at [(1, (.v v2)), (2, (.v (.int .i64 a3))), (3, (.v (.flt .f32 a4))), (4, (.v (.ptr id101 0))), (15, (.v v118)), (17, (.v v124)), (18, (.v v127)), (19, (.v (.int .i64 y130)))] ⟨rfl, rfl, rfl, rfl, rfl, rfl, rfl, rfl, trivial⟩ ?_
        refine h (fun (misses240 : List (Nat)) (bits242 : List (Int)) (plane244 : Int) => ∀ (s : Nat → TV) (H : Heap) (v241 : AV) (nv241 : v241 ≠ .nilsl) (v243 : AV) (nv243 : v243 ≠ .nilsl), Sep H (Pc.osl v241 1 (enc (eFlt .f32) misses240) :: Pc.osl v243 1 (enc (eInt .i64) bits242) :: Pc.osl v118 1 (enc (eInt .i64) y117) :: Pc.box id101 [v0, (.flt .f32 a1)] :: fr) → Fin _ _ (updL s [(1, (.v v2)), (2, (.v (.int .i64 a3))), (3, (.v (.flt .f32 a4))), (4, (.v (.ptr id101 0))), (15, (.v v118)), (17, (.v v243)), (18, (.v v241)), (19, (.v (.int .i64 plane244)))]) H _) ?_ _ _ _ nv127 _ nv124 hs
        intro misses240 bits242 plane244 h s346 H347 v241 nv241 v243 nv243 hs
        refine fi_inLoop ?_
        refine fi_seq ?_
        refine fi_seq ?_
        refine fi_region ?_
        refine so_move (v := (.v (.int .i64 plane244))) rfl ?_
        refine so_bin rfl rfl ab_geq ?_
        refine so_nil ?_
        replace h := ofP h; rcases h with ⟨c245, h⟩ | ⟨c245, h⟩
        · refine fi_true rfl (decide_eq_true c245) ?_
          refine fi_skip ?_
          refine fi_seq ?_
          refine fi_block ?_
          refine fi_seq ?_
          refine fi_region ?_
          refine so_move (v := (.v v118)) rfl ?_
          refine so_move (v := (.v (.int .i64 plane244))) rfl ?_
          refine sv_call (spec_l06Cleared_ok v118 y117 plane244 hs (fun _ hs => (hs.shows 2 rfl)) _ h) rfl rfl nofun ?_
          clear h hs
          rintro _ H249 ⟨y246, h, v247, rfl, hs⟩
          refine so_move (v := (.v (.flt .f32 a4))) rfl ?_
          refine sv_call (spec_ListOfScale_ok v247 y246 a4 (cz .f32 1056964608) hs (fun _ hs => (hs.shows 0 rfl)) _ h) rfl rfl nofun ?_
          clear h hs
          rintro _ H254 ⟨y250, y253, h, v251, rfl, hs⟩
          refine so_move (v := (.t [(.v v251), (.v (.bool y253))])) rfl ?_
          refine so_extract rfl rfl rfl ?_
          refine so_extract rfl rfl rfl ?_
          refine so_assign (v := (.v v251)) rfl ?_
          refine so_assign (v := (.v (.bool y253))) rfl ?_
          refine so_nil ?_
          refine fi_seq ?_
          refine fi_seq ?_
          refine fi_region ?_
          refine so_move (v := (.v (.bool y253))) rfl ?_
          refine so_un rfl au_not ?_
          refine so_nil ?_
          replace h := ofT h; rcases h with ⟨c255, h⟩ | ⟨c255, h⟩
          · refine fi_false rfl (not_f c255) ?_
            refine fi_skip ?_
            refine fi_seq ?_
            refine fi_region ?_
            refine so_move (v := (.v v251)) rfl ?_
            refine so_move (v := (.v (.int .i64 a3))) rfl ?_
            refine sv_call (spec_l02Cut_ok v251 y250 a3 hs (fun _ hs => (hs.shows 0 rfl)) _ h) rfl rfl nofun ?_
            clear h hs
            rintro _ H261 ⟨y256, h, v257, ws259, S260, rfl, hs⟩
            refine sv_call (spec_l02Undeep_ok id101 0 v0 l0 a1 v257 ws259 y256 hs (fun _ hs => (g0 _ hs.tl.tl.tl.tl.tl.tl.tl)) (fun _ hs => (hs.ptat 6 rfl)) (fun _ hs => (hs.dshows 0 rfl)) _ h) rfl rfl nofun ?_
            clear h hs
            rintro _ H266 ⟨y262, y265, h, v263, rfl, hs⟩
            refine so_move (v := (.t [(.v v263), (.v (.bool y265))])) rfl ?_
            refine so_extract rfl rfl rfl ?_
            refine so_extract rfl rfl rfl ?_
            refine so_assign (v := (.v v263)) rfl ?_
            refine so_assign (v := (.v (.bool y265))) rfl ?_
            refine so_nil ?_
            refine fi_seq ?_
            refine fi_seq ?_
            refine fi_region ?_
            refine so_move (v := (.v (.bool y265))) rfl ?_
            refine so_un rfl au_not ?_
            refine so_nil ?_
            replace h := ofT h; rcases h with ⟨c267, h⟩ | ⟨c267, h⟩
            · refine fi_false rfl (not_f c267) ?_
              refine fi_skip ?_
              refine fi_seq ?_
              refine fi_region ?_
              refine sv_bslice hs (eFlt .f32) ([] : List (Nat)) [] F27.te24 F27.sz26 F27.ze26 rfl rfl rfl rfl (fun _ => rfl) rfl (by decide) nofun (fun v268 H269 nv268 hs => ?_)
              refine so_assign (v := (.v v268)) rfl ?_
              refine so_nil ?_
              refine fi_seq ?_
              refine fi_seq ?_
              refine fi_region ?_
              refine so_assign (v := (.v (.int .i64 (0 : Int)))) rfl ?_
              refine so_nil ?_
              refine fi_block ?_
              refine fi_loop ?_
              replace hs := hs.del 2
              replace hs := hs.del 2
              replace hs := hs.del 2
              refine fi_at [(1, (.v v2)), (2, (.v (.int .i64 a3))), (3, (.v (.flt .f32 a4))), (4, (.v (.ptr id101 0))), (15, (.v v118)), (17, (.v v243)), (18, (.v v241)), (19, (.v (.int .i64 plane244))), (22, (.v v263)), (24, (.v v268)), (25, (.v (.int .i64 (0 : Int))))] ⟨rfl, rfl, rfl, rfl, rfl, rfl, rfl, rfl, rfl, rfl, rfl, trivial⟩ ?_
              refine h (fun (less307 : List (Nat)) (i309 : Int) => ∀ (s : Nat → TV) (H : Heap) (v308 : AV) (nv308 : v308 ≠ .nilsl), Sep H (Pc.osl v308 1 (enc (eFlt .f32) less307) :: Pc.osl v263 1 (enc (eFlt .f32) y262) :: Pc.osl v241 1 (enc (eFlt .f32) misses240) :: Pc.osl v243 1 (enc (eInt .i64) bits242) :: Pc.osl v118 1 (enc (eInt .i64) y117) :: Pc.box id101 [v0, (.flt .f32 a1)] :: fr) → Fin _ _ (updL s [(1, (.v v2)), (2, (.v (.int .i64 a3))), (3, (.v (.flt .f32 a4))), (4, (.v (.ptr id101 0))), (15, (.v v118)), (17, (.v v243)), (18, (.v v241)), (19, (.v (.int .i64 plane244))), (22, (.v v263)), (24, (.v v308)), (25, (.v (.int .i64 i309)))]) H _) ?_ _ _ _ nv268 hs
              intro less307 i309 h s341 H342 v308 nv308 hs
              refine fi_inLoop ?_
              refine fi_seq ?_
              refine fi_seq ?_
              refine fi_region ?_
              refine so_move (v := (.v (.int .i64 i309))) rfl ?_
              refine so_move (v := (.v v2)) rfl ?_
              refine sv_len (g2 _ hs.tl.tl.tl.tl.tl.tl) (fun _ => rfl) (by decide) rfl F27.ti24 ?_
              refine so_bin rfl rfl ab_lss ?_
              refine so_nil ?_
              replace h := ofP h; rcases h with ⟨c310, h⟩ | ⟨c310, h⟩
              · refine fi_true rfl (decide_eq_true c310) ?_
                refine fi_skip ?_
                refine fi_seq ?_
                refine fi_block ?_
                refine fi_region ?_
                refine so_move (v := (.v v308)) rfl ?_
                refine so_move (v := (.v v2)) rfl ?_
                refine so_move (v := (.v (.int .i64 i309))) rfl ?_
                obtain ⟨c311, h⟩ := h
                refine sv_idx (g2 _ hs.tl.tl.tl.tl.tl.tl) c311 (fun _ => rfl) (by decide) rfl rfl F27.tl24 ?_
                refine sv_cell (g2 _ hs.tl.tl.tl.tl.tl.tl) c311 (0 : Nat) 0 (fun x => (AV.flt .f32 x)) (fun _ => rfl) (fun _ => rfl) rfl F27.ag26 ?_
                refine so_move (v := (.v v263)) rfl ?_
                refine so_move (v := (.v (.int .i64 i309))) rfl ?_
                obtain ⟨c312, h⟩ := h
                refine sv_idx (hs.shows 1 rfl) c312 (fun _ => rfl) (by decide) rfl rfl F27.tl24 ?_
                refine sv_cell (hs.shows 1 rfl) c312 (0 : Nat) 0 (fun x => (AV.flt .f32 x)) (fun _ => rfl) (fun _ => rfl) rfl F27.ag26 ?_
                refine so_bin rfl rfl ab_fsub ?_
                refine sv_bslice hs (eFlt .f32) ([(fop .sub .f32 (l2.getD (i309).toNat (0 : Nat)) (y262.getD (i309).toNat (0 : Nat)))] : List (Nat)) [[(.flt .f32 (fop .sub .f32 (l2.getD (i309).toNat (0 : Nat)) (y262.getD (i309).toNat (0 : Nat))))]] F27.te24 F27.sz26 F27.ze26 rfl rfl rfl rfl (fun _ => rfl) rfl (by decide) (fun _ => by kernel_rfl) (fun v313 H314 nv313 hs => ?_)
                obtain ⟨c318, h⟩ := h
                refine sv_app hs 1 rfl (hs.shows 0 rfl) (fun _ => rfl) (by decide) F27.ta24_24 (by decide) c318 rfl rfl (fun _ => by kernel_rfl) (fun v316 H317 kv316 hs => ?_)
                replace hs := hs.del 0
                have nv316 := kv316 nv308
                refine so_assign (v := (.v v316)) rfl ?_
                refine so_nil ?_
                refine fi_inBlock ?_
                refine fi_region ?_
                refine so_move (v := (.v (.int .i64 i309))) rfl ?_
                refine so_bin rfl rfl ab_add ?_
                refine so_assign (v := (.v (.int .i64 (IntKind.i64.wrap (i309 + (1 : Int)))))) rfl ?_
                refine so_nil ?_
                exact fi_at [(1, (.v v2)), (2, (.v (.int .i64 a3))), (3, (.v (.flt .f32 a4))), (4, (.v (.ptr id101 0))), (15, (.v v118)), (17, (.v v243)), (18, (.v v241)), (19, (.v (.int .i64 plane244))), (22, (.v v263)), (24, (.v v316)), (25, (.v (.int .i64 (IntKind.i64.wrap (i309 + (1 : Int))))))] ⟨rfl, rfl, rfl, rfl, rfl, rfl, rfl, rfl, rfl, rfl, rfl, trivial⟩ (h _ _ _ nv316 hs)
              · refine fi_false rfl (decide_eq_false c310) ?_
                refine fi_exit rfl ?_
                refine fi_seq ?_
                refine fi_region ?_
                refine so_move (v := (.v v243)) rfl ?_
                refine so_move (v := (.v v118)) rfl ?_
                refine so_move (v := (.v (.int .i64 plane244))) rfl ?_
                refine sv_call (spec_l06Code_ok v118 y117 plane244 hs (fun _ hs => (hs.shows 4 rfl)) _ h) rfl rfl nofun ?_
                clear h hs
                rintro _ H324 ⟨y319, y320, y321, h, v322, rfl, hs⟩
                refine so_field rfl F27.fd101_2 rfl ?_
                refine sv_len (hs.shows 0 rfl) (fun _ => rfl) (by decide) rfl F27.ti49 ?_
                refine sv_bslice hs (eInt .i64) ([(y321.length : Int)] : List (Int)) [[(.int .i64 (y321.length : Int))]] F27.te28 F27.sz2 F27.ze2 rfl rfl rfl rfl (fun _ => rfl) rfl (by decide) nofun (fun v325 H326 nv325 hs => ?_)
                obtain ⟨c330, h⟩ := h
                refine sv_app hs 5 rfl (hs.shows 0 rfl) (fun _ => rfl) (by decide) F27.ta28_28 (by decide) c330 rfl rfl nofun (fun v328 H329 kv328 hs => ?_)
                replace hs := hs.del 0
                have nv328 := kv328 nv243
                refine so_assign (v := (.v v328)) rfl ?_
                refine so_nil ?_
                refine fi_region ?_
                refine so_move (v := (.v v241)) rfl ?_
                refine so_move (v := (.v v308)) rfl ?_
                refine sv_callS (spec_l02Energy_ok v308 less307 hs (fun _ hs => (hs.shows 1 rfl)) _ h) (fun _ _ ⟨_, _, _, e⟩ => e) rfl rfl ?_
                clear h
                rintro _ _ ⟨y331, h, rfl, rfl⟩
                refine so_move (v := (.v v308)) rfl ?_
                refine sv_len (hs.shows 1 rfl) (fun _ => rfl) (by decide) rfl F27.ti24 ?_
                refine sv_if rfl F27.us3 F27.in26 F27.fl26 ?_
                refine so_bin rfl rfl ab_fquo ?_
                refine sv_callS (spec_l01Sqrt_ok (fop .quo .f32 y331 (itof .f32 (less307.length : Int))) hs  _ h) (fun _ _ ⟨_, _, _, e⟩ => e) rfl rfl ?_
                clear h
                rintro _ _ ⟨y333, h, rfl, rfl⟩
                refine sv_bslice hs (eFlt .f32) ([y333] : List (Nat)) [[(.flt .f32 y333)]] F27.te24 F27.sz26 F27.ze26 rfl rfl rfl rfl (fun _ => rfl) rfl (by decide) nofun (fun v335 H336 nv335 hs => ?_)
                obtain ⟨c340, h⟩ := h
                refine sv_app hs 4 rfl (hs.shows 0 rfl) (fun _ => rfl) (by decide) F27.ta24_24 (by decide) c340 rfl rfl nofun (fun v338 H339 kv338 hs => ?_)
                replace hs := hs.del 0
                have nv338 := kv338 nv241
                refine so_assign (v := (.v v338)) rfl ?_
                refine so_nil ?_
                refine fi_inBlock ?_
                refine fi_region ?_
                refine so_move (v := (.v (.int .i64 plane244))) rfl ?_
                refine so_bin rfl rfl ab_sub ?_
                refine so_assign (v := (.v (.int .i64 (IntKind.i64.wrap (plane244 - (1 : Int)))))) rfl ?_
                refine so_nil ?_
                exact fi_at [(1, (.v v2)), (2, (.v (.int .i64 a3))), (3, (.v (.flt .f32 a4))), (4, (.v (.ptr id101 0))), (15, (.v v118)), (17, (.v v328)), (18, (.v v338)), (19, (.v (.int .i64 (IntKind.i64.wrap (plane244 - (1 : Int))))))] ⟨rfl, rfl, rfl, rfl, rfl, rfl, rfl, rfl, trivial⟩ (h _ _ _ nv338 _ nv328 (Sep.del 0 (Sep.del 0 (Sep.del 0 hs))))
            · refine fi_true rfl (not_t c267) ?_
              refine fi_seq ?_
              refine fi_region ?_
              refine so_assign (v := (.v .nilsl)) rfl ?_
              refine so_assign (v := (.v .nilsl)) rfl ?_
              refine so_assign (v := (.v (.bool false))) rfl ?_
              refine so_nil ?_
              exact by_ret rfl ⟨_, _, _, h, _, _, rfl, (Sep.nil (Sep.nil (Sep.dropn 8 hs) 1) 1)⟩
          · refine fi_true rfl (not_t c255) ?_
            refine fi_seq ?_
            refine fi_region ?_
            refine so_assign (v := (.v .nilsl)) rfl ?_
            refine so_assign (v := (.v .nilsl)) rfl ?_
            refine so_assign (v := (.v (.bool false))) rfl ?_
            refine so_nil ?_
            exact by_ret rfl ⟨_, _, _, h, _, _, rfl, (Sep.nil (Sep.nil (Sep.dropn 6 hs) 1) 1)⟩
        · refine fi_false rfl (decide_eq_false c245) ?_
          refine fi_exit rfl ?_
          refine fi_seq ?_
          refine fi_seq ?_
          refine fi_region ?_
          refine so_move (v := (.v v241)) rfl ?_
          refine sv_callS (spec_l02Finite_ok v241 misses240 hs (fun _ hs => (hs.shows 0 rfl)) _ h) (fun _ _ ⟨_, _, _, e⟩ => e) rfl rfl ?_
          clear h
          rintro _ _ ⟨y343, h, rfl, rfl⟩
          refine so_un rfl au_not ?_
          refine so_nil ?_
          replace h := ofT h; rcases h with ⟨c345, h⟩ | ⟨c345, h⟩
          · refine fi_false rfl (not_f c345) ?_
            refine fi_skip ?_
            refine fi_seq ?_
            refine fi_region ?_
            refine so_move (v := (.v v243)) rfl ?_
            refine so_move (v := (.v v241)) rfl ?_
            refine so_assign (v := (.v v243)) rfl ?_
            refine so_assign (v := (.v v241)) rfl ?_
            refine so_assign (v := (.v (.bool true))) rfl ?_
            refine so_nil ?_
            exact by_ret rfl ⟨_, _, _, h, _, _, rfl, (Sep.front 1 (Sep.del 2 (Sep.del 2 hs)) rfl)⟩
          · refine fi_true rfl (not_t c345) ?_
            refine fi_seq ?_
            refine fi_region ?_
            refine so_assign (v := (.v .nilsl)) rfl ?_
            refine so_assign (v := (.v .nilsl)) rfl ?_
            refine so_assign (v := (.v (.bool false))) rfl ?_
            refine so_nil ?_
            exact by_ret rfl ⟨_, _, _, h, _, _, rfl, (Sep.nil (Sep.nil (Sep.dropn 4 hs) 1) 1)⟩
      · refine fi_true rfl (not_t c123) ?_
        refine fi_seq ?_
        refine fi_region ?_
        refine so_assign (v := (.v .nilsl)) rfl ?_
        refine so_assign (v := (.v .nilsl)) rfl ?_
        refine so_assign (v := (.v (.bool false))) rfl ?_
        refine so_nil ?_
        exact by_ret rfl ⟨_, _, _, h, _, _, rfl, (Sep.nil (Sep.nil (Sep.dropn 4 hs) 1) 1)⟩
    · refine so_gno rfl (not_t c122) ?_
      refine so_gno rfl (not_t c122) ?_
      refine so_pick_t (v := (.v (.bool true))) rfl (not_t c122) rfl ?_
      refine so_nil ?_
      refine fi_true rfl rfl ?_
      refine fi_seq ?_
      refine fi_region ?_
      refine so_assign (v := (.v .nilsl)) rfl ?_
      refine so_assign (v := (.v .nilsl)) rfl ?_
      refine so_assign (v := (.v (.bool false))) rfl ?_
      refine so_nil ?_
      exact by_ret rfl ⟨_, _, _, h, _, _, rfl, (Sep.nil (Sep.nil (Sep.dropn 4 hs) 1) 1)⟩
  · refine fi_true rfl (not_t c111) ?_
    refine fi_seq ?_
    refine fi_region ?_
    refine so_assign (v := (.v .nilsl)) rfl ?_
    refine so_assign (v := (.v .nilsl)) rfl ?_
    refine so_assign (v := (.v (.bool false))) rfl ?_
    refine so_nil ?_
    exact by_ret rfl ⟨_, _, _, h, _, _, rfl, (Sep.nil (Sep.nil (Sep.del 0 (Sep.del 0 hs)) 1) 1)⟩
theorem F29.ag26 : tagg Try.prog 26 = some false := by kernel_rfl
theorem F29.by26 : tbytes Try.prog 26 = some 4 := by kernel_rfl
theorem F29.sz26 : tsz Try.prog 26 = some 1 := by kernel_rfl
theorem F29.te24 : telem Try.prog 24 = some 26 := by kernel_rfl
theorem F29.ti24 : (telem Try.prog 24).isSome = true := by kernel_rfl
theorem F29.tl24 : (telem Try.prog 24).bind (tsz Try.prog) = some 1 := by kernel_rfl
theorem F29.ze26 : tzero Try.prog 26 = some [(.flt .f32 (0 : Nat))] := by kernel_rfl
theorem laws_toFloat32S_ok {fr : List Pc} {H : Heap} (v0 : AV) (l0 : List (Nat)) (hs : Sep H (fr)) (g0 : ∀ H, Sep H fr → Shows H v0 1 (enc (eFlt .f32) l0)) (K : (List (Nat)) → Prop) (h : laws_toFloat32S.wp l0 K) : OkQ Try.prog 29 [(.v v0)] H (fun r H2 => ∃ (y0 : List (Nat)), K y0 ∧ ∃ (w0_ : AV), r = (.v w0_) ∧ Sep H2 (Pc.osl w0_ 1 (enc (eFlt .f32) y0) :: fr)) := by
  unfold laws_toFloat32S.wp at h
  refine of_body Try.f29 F.hm Try.func29 rfl Try.call29 (by kernel_rfl) (by simp) ?_
  refine fi_seq ?_
  refine fi_region ?_
  refine so_assign (v := (.v .nilsl)) rfl ?_
  refine so_nil ?_
  refine fi_seq ?_
  refine fi_region ?_
  refine so_move (v := (.v v0)) rfl ?_
  refine sv_len (g0 _ hs) (fun _ => rfl) (by decide) rfl F29.ti24 ?_
  obtain ⟨c101, h⟩ := h
  refine sv_make hs (eFlt .f32) (0 : Nat) c101 (fun _ => rfl) rfl rfl F29.te24 F29.sz26 F29.by26 F29.ze26 rfl rfl nofun (fun v102 H103 nv102 hs => ?_)
  refine so_assign (v := (.v v102)) rfl ?_
  refine so_nil ?_
  refine fi_seq ?_
  refine fi_seq ?_
  refine fi_region ?_
  refine so_assign (v := (.v (.int .i64 (0 : Int)))) rfl ?_
  refine so_nil ?_
  refine fi_block ?_
  refine fi_loop ?_
  refine fi_at [(0, (.v v0)), (3, (.v v102)), (4, (.v (.int .i64 (0 : Int))))] ⟨rfl, rfl, rfl, trivial⟩ ?_
  refine h (fun (out112 : List (Nat)) (i113 : Int) => ∀ (s : Nat → TV) (H : Heap), Sep H (Pc.osl v102 1 (enc (eFlt .f32) out112) :: fr) → Fin _ _ (updL s [(0, (.v v0)), (3, (.v v102)), (4, (.v (.int .i64 i113)))]) H _) ?_ _ _ hs
  intro out112 i113 h s118 H119 hs
  refine fi_inLoop ?_
  refine fi_seq ?_
  refine fi_seq ?_
  refine fi_region ?_
  refine so_move (v := (.v (.int .i64 i113))) rfl ?_
  refine so_move (v := (.v v0)) rfl ?_
  refine sv_len (g0 _ hs.tl) (fun _ => rfl) (by decide) rfl F29.ti24 ?_
  refine so_bin rfl rfl ab_lss ?_
  refine so_nil ?_
  replace h := ofP h; rcases h with ⟨c114, h⟩ | ⟨c114, h⟩
  · refine fi_true rfl (decide_eq_true c114) ?_
    refine fi_skip ?_
    refine fi_seq ?_
    refine fi_block ?_
    refine fi_region ?_
    refine so_move (v := (.v v102)) rfl ?_
    refine so_move (v := (.v (.int .i64 i113))) rfl ?_
    refine so_move (v := (.v v0)) rfl ?_
    refine so_move (v := (.v (.int .i64 i113))) rfl ?_
    obtain ⟨c115, h⟩ := h
    refine sv_idx (g0 _ hs.tl) c115 (fun _ => rfl) (by decide) rfl rfl F29.tl24 ?_
    refine sv_cell (g0 _ hs.tl) c115 (0 : Nat) 0 (fun x => (AV.flt .f32 x)) (fun _ => rfl) (fun _ => rfl) rfl F29.ag26 ?_
    obtain ⟨c116, h⟩ := h
    refine sv_idx (hs.shows 0 rfl) c116 (fun _ => rfl) (by decide) rfl rfl F29.tl24 ?_
    refine sv_set hs 0 rfl c116 (l0.getD (i113).toNat (0 : Nat)) (fun _ => rfl) (by decide) rfl rfl rfl rfl F29.sz26 nofun (fun H117 hs => ?_)
    refine so_nil ?_
    refine fi_inBlock ?_
    refine fi_region ?_
    refine so_move (v := (.v (.int .i64 i113))) rfl ?_
    refine so_bin rfl rfl ab_add ?_
    refine so_assign (v := (.v (.int .i64 (IntKind.i64.wrap (i113 + (1 : Int)))))) rfl ?_
    refine so_nil ?_
    exact fi_at [(0, (.v v0)), (3, (.v v102)), (4, (.v (.int .i64 (IntKind.i64.wrap (i113 + (1 : Int))))))] ⟨rfl, rfl, rfl, trivial⟩ (h _ _  hs)
  · refine fi_false rfl (decide_eq_false c114) ?_
    refine fi_exit rfl ?_
    refine fi_seq ?_
    refine fi_region ?_
    refine so_move (v := (.v v102)) rfl ?_
    refine so_assign (v := (.v v102)) rfl ?_
    refine so_nil ?_
    exact by_ret rfl ⟨_, h, _, rfl, hs⟩
theorem F28.ag24 : tagg Try.prog 24 = some false := by kernel_rfl
theorem F28.ag26 : tagg Try.prog 26 = some false := by kernel_rfl
theorem F28.ag38 : tagg Try.prog 38 = some true := by kernel_rfl
theorem F28.fd38_0 : tfield Try.prog 38 0 = some (0, 1, false) := by kernel_rfl
theorem F28.fd38_1 : tfield Try.prog 38 1 = some (1, 1, false) := by kernel_rfl
theorem F28.fd54_0 : tfield Try.prog 54 0 = some (0, 1, false) := by kernel_rfl
theorem F28.fd54_1 : tfield Try.prog 54 1 = some (1, 1, false) := by kernel_rfl
theorem F28.inf54 : (Try.prog.info? 54).isSome = true := by kernel_rfl
theorem F28.sz24 : tsz Try.prog 24 = some 1 := by kernel_rfl
theorem F28.sz26 : tsz Try.prog 26 = some 1 := by kernel_rfl
theorem F28.sz38 : tsz Try.prog 38 = some 2 := by kernel_rfl
theorem F28.ze38 : tzero Try.prog 38 = some [.nilsl, (.flt .f32 (0 : Nat))] := by kernel_rfl
theorem laws_toScheme_ok {fr : List Pc} {H : Heap} (v0 : AV) (l0 : List (Nat)) (a1 : Nat) (hs : Sep H (fr)) (g0 : ∀ H, Sep H fr → Shows H v0 1 (enc (eFlt .f32) l0)) (K : (List (Nat)) → Nat → Prop) (h : laws_toScheme.wp l0 a1 K) : OkQ Try.prog 28 [(.g [v0, (.flt .f32 a1)])] H (fun r H2 => ∃ (y0 : List (Nat)) (y1 : Nat), K y0 y1 ∧ ∃ (w0_ : AV), r = (.g [w0_, (.flt .f32 y1)]) ∧ Sep H2 (Pc.osl w0_ 1 (enc (eFlt .f32) y0) :: fr)) := by
  unfold laws_toScheme.wp at h
  refine of_body Try.f28 F.hm Try.func28 rfl Try.call28 (by kernel_rfl) (by simp) ?_
  refine fi_seq ?_
  refine fi_region ?_
  refine sv_box hs rfl (c := [v0, (.flt .f32 a1)]) rfl F28.inf54 (stc (g0 _ hs).stor (stc rfl stn)) nofun (fun id101 H102 hs => ?_)
  refine sv_alloc hs F28.ze38 rfl nofun (fun id104 H105 hs => ?_)
  refine so_nil ?_
  refine fi_seq ?_
  refine fi_region ?_
  refine sv_alloc hs F28.ze38 rfl nofun (fun id107 H108 hs => ?_)
  refine so_nil ?_
  refine fi_seq ?_
  refine fi_region ?_
  refine so_fieldAddr rfl F28.fd54_0 ?_
  refine sv_ld hs 2 rfl rfl rfl F28.ag24 ?_
  refine sv_call (laws_toFloat32S_ok v0 l0 hs (fun _ hs => (g0 _ hs.tl.tl.tl)) _ h) rfl rfl nofun ?_
  clear h hs
  rintro _ H113 ⟨y110, h, v111, rfl, hs⟩
  refine so_fieldAddr rfl F28.fd38_0 ?_
  refine sv_st hs 1 rfl rfl rfl (c := [v111]) rfl F28.sz24 rfl (stc (hs.shows 0 rfl).stor stn) (leb rfl) (cs' := [v111, (.flt .f32 (0 : Nat))]) rfl nofun (fun H114 hs => ?_)
  refine so_nil ?_
  refine fi_seq ?_
  refine fi_region ?_
  refine so_fieldAddr rfl F28.fd54_1 ?_
  refine sv_ld hs 3 rfl rfl rfl F28.ag26 ?_
  refine so_fieldAddr rfl F28.fd38_1 ?_
  refine sv_st hs 1 rfl rfl rfl (c := [(.flt .f32 a1)]) rfl F28.sz26 rfl (stc rfl stn) (leb rfl) (cs' := [v111, (.flt .f32 a1)]) rfl nofun (fun H115 hs => ?_)
  refine so_nil ?_
  refine fi_seq ?_
  refine fi_region ?_
  refine sv_lds hs 1 rfl rfl (leb rfl) rfl F28.ag38 F28.sz38 ?_
  refine sv_st hs 2 rfl rfl rfl (c := [v111, (.flt .f32 a1)]) rfl F28.sz38 rfl (stc (hs.shows 0 rfl).stor (stc rfl stn)) (leb rfl) (cs' := [v111, (.flt .f32 a1)]) rfl nofun (fun H116 hs => ?_)
  refine so_nil ?_
  exact by_ret (res_mk (ar_cells rfl F28.ag38 F28.sz38 (hs.lds 2 rfl (leb rfl) rfl) ar_nil) rfl) ⟨_, _, h, _, rfl, (Sep.del 1 (Sep.del 1 (Sep.del 1 hs)))⟩
theorem F30.ag2 : tagg Try.prog 2 = some false := by kernel_rfl
theorem F30.ti28 : (telem Try.prog 28).isSome = true := by kernel_rfl
theorem F30.tl28 : (telem Try.prog 28).bind (tsz Try.prog) = some 1 := by kernel_rfl
theorem laws_eqInt64S_ok {fr : List Pc} {H : Heap} (v0 : AV) (l0 : List (Int)) (v1 : AV) (l1 : List (Int)) (hs : Sep H (fr)) (g0 : ∀ H, Sep H fr → Shows H v0 1 (enc (eInt .i64) l0)) (g1 : ∀ H, Sep H fr → Shows H v1 1 (enc (eInt .i64) l1)) (K : Bool → Prop) (h : laws_eqInt64S.wp l0 l1 K) : OkQ Try.prog 30 [(.v v0), (.v v1)] H (fun r H2 => ∃ (y0 : Bool), K y0 ∧ r = (.v (.bool y0)) ∧ H = H2) := by
  unfold laws_eqInt64S.wp at h
  refine of_body Try.f30 F.hm Try.func30 rfl Try.call30 (by kernel_rfl) (by simp) ?_
  refine fi_seq ?_
  refine fi_region ?_
  refine so_assign (v := (.v (.bool false))) rfl ?_
  refine so_nil ?_
  refine fi_seq ?_
  refine fi_seq ?_
  refine fi_region ?_
  refine so_move (v := (.v v0)) rfl ?_
  refine sv_len (g0 _ hs) (fun _ => rfl) (by decide) rfl F30.ti28 ?_
  refine so_move (v := (.v v1)) rfl ?_
  refine sv_len (g1 _ hs) (fun _ => rfl) (by decide) rfl F30.ti28 ?_
  refine so_bin rfl rfl ab_neq ?_
  refine so_nil ?_
  replace h := ofP h; rcases h with ⟨c101, h⟩ | ⟨c101, h⟩
  · refine fi_false rfl (not_f (decide_eq_true c101)) ?_
    refine fi_skip ?_
    refine fi_seq ?_
    refine fi_seq ?_
    refine fi_region ?_
    refine so_assign (v := (.v (.int .i64 (0 : Int)))) rfl ?_
    refine so_nil ?_
    refine fi_block ?_
    refine fi_loop ?_
    refine fi_at [(0, (.v v0)), (1, (.v v1)), (5, (.v (.int .i64 (0 : Int))))] ⟨rfl, rfl, rfl, trivial⟩ ?_
    refine h (fun (i103 : Int) => ∀ (s : Nat → TV), Fin _ _ (updL s [(0, (.v v0)), (1, (.v v1)), (5, (.v (.int .i64 i103)))]) _ _) ?_ _
    intro i103 h s108
    refine fi_inLoop ?_
    refine fi_seq ?_
    refine fi_seq ?_
    refine fi_region ?_
    refine so_move (v := (.v (.int .i64 i103))) rfl ?_
    refine so_move (v := (.v v0)) rfl ?_
    refine sv_len (g0 _ hs) (fun _ => rfl) (by decide) rfl F30.ti28 ?_
    refine so_bin rfl rfl ab_lss ?_
    refine so_nil ?_
    replace h := ofP h; rcases h with ⟨c104, h⟩ | ⟨c104, h⟩
    · refine fi_true rfl (decide_eq_true c104) ?_
      refine fi_skip ?_
      refine fi_seq ?_
      refine fi_block ?_
      refine fi_seq ?_
      refine fi_region ?_
      refine so_move (v := (.v v0)) rfl ?_
      refine so_move (v := (.v (.int .i64 i103))) rfl ?_
      obtain ⟨c105, h⟩ := h
      refine sv_idx (g0 _ hs) c105 (fun _ => rfl) (by decide) rfl rfl F30.tl28 ?_
      refine sv_cell (g0 _ hs) c105 (0 : Int) 0 (fun x => (AV.int .i64 x)) (fun _ => rfl) (fun _ => rfl) rfl F30.ag2 ?_
      refine so_move (v := (.v v1)) rfl ?_
      refine so_move (v := (.v (.int .i64 i103))) rfl ?_
      obtain ⟨c106, h⟩ := h
      refine sv_idx (g1 _ hs) c106 (fun _ => rfl) (by decide) rfl rfl F30.tl28 ?_
      refine sv_cell (g1 _ hs) c106 (0 : Int) 0 (fun x => (AV.int .i64 x)) (fun _ => rfl) (fun _ => rfl) rfl F30.ag2 ?_
      refine so_bin rfl rfl ab_neq ?_
      refine so_nil ?_
      replace h := ofP h; rcases h with ⟨c107, h⟩ | ⟨c107, h⟩
      · refine fi_false rfl (not_f (decide_eq_true c107)) ?_
        refine fi_skip ?_
        refine fi_inBlock ?_
        refine fi_region ?_
        refine so_move (v := (.v (.int .i64 i103))) rfl ?_
        refine so_bin rfl rfl ab_add ?_
        refine so_assign (v := (.v (.int .i64 (IntKind.i64.wrap (i103 + (1 : Int)))))) rfl ?_
        refine so_nil ?_
        exact fi_at [(0, (.v v0)), (1, (.v v1)), (5, (.v (.int .i64 (IntKind.i64.wrap (i103 + (1 : Int))))))] ⟨rfl, rfl, rfl, trivial⟩ (h _)
      · refine fi_true rfl (not_t (decide_eq_false c107)) ?_
        refine fi_seq ?_
        refine fi_region ?_
        refine so_assign (v := (.v (.bool false))) rfl ?_
        refine so_nil ?_
        exact by_ret rfl ⟨_, h, rfl, rfl⟩
    · refine fi_false rfl (decide_eq_false c104) ?_
      refine fi_exit rfl ?_
      refine fi_seq ?_
      refine fi_region ?_
      refine so_assign (v := (.v (.bool true))) rfl ?_
      refine so_nil ?_
      exact by_ret rfl ⟨_, h, rfl, rfl⟩
  · refine fi_true rfl (not_t (decide_eq_false c101)) ?_
    refine fi_seq ?_
    refine fi_region ?_
    refine so_assign (v := (.v (.bool false))) rfl ?_
    refine so_nil ?_
    exact by_ret rfl ⟨_, h, rfl, rfl⟩
theorem F85.tb4 : tbool Try.prog 4 = true := by kernel_rfl
theorem laws_sameFloat_ok {fr : List Pc} {H : Heap} (a0 : Nat) (a1 : Nat) (hs : Sep H (fr))  (K : Bool → Prop) (h : laws_sameFloat.wp a0 a1 K) : OkQ Try.prog 85 [(.v (.flt .f64 a0)), (.v (.flt .f64 a1))] H (fun r H2 => ∃ (y0 : Bool), K y0 ∧ r = (.v (.bool y0)) ∧ H = H2) := by
  unfold laws_sameFloat.wp at h
  refine of_body Try.f85 F.hm Try.func85 rfl Try.call85 (by kernel_rfl) (by simp) ?_
  refine fi_seq ?_
  refine fi_region ?_
  refine so_assign (v := (.v (.bool false))) rfl ?_
  refine so_nil ?_
  refine fi_seq ?_
  refine fi_seq ?_
  refine fi_region ?_
  refine so_move (v := (.v (.flt .f64 a0))) rfl ?_
  refine so_move (v := (.v (.flt .f64 a0))) rfl ?_
  refine so_bin rfl rfl ab_fneq ?_
  refine so_move (v := (.v (.bool (fcmp .neq .f64 a0 a0)))) rfl ?_
  replace h := ofT h; rcases h with ⟨c101, h⟩ | ⟨c101, h⟩
  · refine so_gno rfl c101 ?_
    refine so_gno rfl c101 ?_
    refine so_gno rfl c101 ?_
    refine so_pick_t (v := (.v (.bool true))) rfl c101 rfl ?_
    refine so_nil ?_
    refine fi_true rfl rfl ?_
    refine fi_seq ?_
    refine fi_region ?_
    refine so_move (v := (.v (.flt .f64 a0))) rfl ?_
    refine so_move (v := (.v (.flt .f64 a0))) rfl ?_
    refine so_bin rfl rfl ab_fneq ?_
    refine so_move (v := (.v (.bool (fcmp .neq .f64 a0 a0)))) rfl ?_
    refine so_gyes rfl c101 ?_
    refine so_move (v := (.v (.flt .f64 a1))) rfl ?_
    refine so_gyes rfl c101 ?_
    refine so_move (v := (.v (.flt .f64 a1))) rfl ?_
    refine so_gyes rfl c101 ?_
    refine so_bin rfl rfl ab_fneq ?_
    refine so_pick_t (v := (.v (.bool (fcmp .neq .f64 a1 a1)))) rfl c101 rfl ?_
    refine so_assign (v := (.v (.bool (fcmp .neq .f64 a1 a1)))) rfl ?_
    refine so_nil ?_
    exact by_ret rfl ⟨_, h, rfl, rfl⟩
  · refine so_gyes rfl c101 ?_
    refine so_move (v := (.v (.flt .f64 a1))) rfl ?_
    refine so_gyes rfl c101 ?_
    refine so_move (v := (.v (.flt .f64 a1))) rfl ?_
    refine so_gyes rfl c101 ?_
    refine so_bin rfl rfl ab_fneq ?_
    refine so_pick_f (v := (.v (.bool (fcmp .neq .f64 a1 a1)))) rfl c101 rfl ?_
    refine so_nil ?_
    replace h := ofT h; rcases h with ⟨c102, h⟩ | ⟨c102, h⟩
    · refine fi_true rfl c102 ?_
      refine fi_seq ?_
      refine fi_region ?_
      refine so_move (v := (.v (.flt .f64 a0))) rfl ?_
      refine so_move (v := (.v (.flt .f64 a0))) rfl ?_
      refine so_bin rfl rfl ab_fneq ?_
      refine so_move (v := (.v (.bool (fcmp .neq .f64 a0 a0)))) rfl ?_
      refine so_gno rfl c101 ?_
      refine so_gno rfl c101 ?_
      refine so_gno rfl c101 ?_
      refine so_pick_f (v := (.v (.bool false))) rfl c101 rfl ?_
      refine so_assign (v := (.v (.bool false))) rfl ?_
      refine so_nil ?_
      exact by_ret rfl ⟨_, h, rfl, rfl⟩
    · refine fi_false rfl c102 ?_
      refine fi_skip ?_
      refine fi_seq ?_
      refine fi_seq ?_
      refine fi_region ?_
      refine so_move (v := (.v (.flt .f64 a0))) rfl ?_
      refine so_bin rfl rfl ab_feql ?_
      refine so_move (v := (.v (.bool (fcmp .eql .f64 a0 (cz .f64 0))))) rfl ?_
      replace h := ofT h; rcases h with ⟨c103, h⟩ | ⟨c103, h⟩
      · refine so_gyes rfl c103 ?_
        refine so_move (v := (.v (.flt .f64 a1))) rfl ?_
        refine so_gyes rfl c103 ?_
        refine so_bin rfl rfl ab_feql ?_
        refine so_pick_t (v := (.v (.bool (fcmp .eql .f64 a1 (cz .f64 0))))) rfl c103 rfl ?_
        refine so_nil ?_
        replace h := ofT h; rcases h with ⟨c104, h⟩ | ⟨c104, h⟩
        · refine fi_true rfl c104 ?_
          refine fi_seq ?_
          refine fi_region ?_
          refine so_move (v := (.v (.flt .f64 a0))) rfl ?_
          refine so_bin rfl rfl ab_fquo ?_
          refine so_bin rfl rfl ab_fgtr ?_
          refine so_move (v := (.v (.flt .f64 a1))) rfl ?_
          refine so_bin rfl rfl ab_fquo ?_
          refine so_bin rfl rfl ab_fgtr ?_
          refine so_bin rfl rfl (ab_beql F85.tb4) ?_
          refine so_assign (v := (.v (.bool ((fcmp .gtr .f64 (fop .quo .f64 (cz .f64 4607182418800017408) a0) (cz .f64 0)) == (fcmp .gtr .f64 (fop .quo .f64 (cz .f64 4607182418800017408) a1) (cz .f64 0)))))) rfl ?_
          refine so_nil ?_
          exact by_ret rfl ⟨_, h, rfl, rfl⟩
        · refine fi_false rfl c104 ?_
          refine fi_skip ?_
          refine fi_seq ?_
          refine fi_region ?_
          refine so_move (v := (.v (.flt .f64 a0))) rfl ?_
          refine so_move (v := (.v (.flt .f64 a1))) rfl ?_
          refine so_bin rfl rfl ab_feql ?_
          refine so_assign (v := (.v (.bool (fcmp .eql .f64 a0 a1)))) rfl ?_
          refine so_nil ?_
          exact by_ret rfl ⟨_, h, rfl, rfl⟩
      · refine so_gno rfl c103 ?_
        refine so_gno rfl c103 ?_
        refine so_pick_f (v := (.v (.bool false))) rfl c103 rfl ?_
        refine so_nil ?_
        refine fi_false rfl rfl ?_
        refine fi_skip ?_
        refine fi_seq ?_
        refine fi_region ?_
        refine so_move (v := (.v (.flt .f64 a0))) rfl ?_
        refine so_move (v := (.v (.flt .f64 a1))) rfl ?_
        refine so_bin rfl rfl ab_feql ?_
        refine so_assign (v := (.v (.bool (fcmp .eql .f64 a0 a1)))) rfl ?_
        refine so_nil ?_
        exact by_ret rfl ⟨_, h, rfl, rfl⟩
theorem F31.ag26 : tagg Try.prog 26 = some false := by kernel_rfl
theorem F31.fl33 : tflt Try.prog 33 = some .f64 := by kernel_rfl
theorem F31.in33 : tint Try.prog 33 = none := by kernel_rfl
theorem F31.ti24 : (telem Try.prog 24).isSome = true := by kernel_rfl
theorem F31.tl24 : (telem Try.prog 24).bind (tsz Try.prog) = some 1 := by kernel_rfl
theorem F31.us26 : (Try.prog.underlying 26).isSome = true := by kernel_rfl
theorem laws_eqFloat32S_ok {fr : List Pc} {H : Heap} (v0 : AV) (l0 : List (Nat)) (v1 : AV) (l1 : List (Nat)) (hs : Sep H (fr)) (g0 : ∀ H, Sep H fr → Shows H v0 1 (enc (eFlt .f32) l0)) (g1 : ∀ H, Sep H fr → Shows H v1 1 (enc (eFlt .f32) l1)) (K : Bool → Prop) (h : laws_eqFloat32S.wp l0 l1 K) : OkQ Try.prog 31 [(.v v0), (.v v1)] H (fun r H2 => ∃ (y0 : Bool), K y0 ∧ r = (.v (.bool y0)) ∧ H = H2) := by
  unfold laws_eqFloat32S.wp at h
  refine of_body Try.f31 F.hm Try.func31 rfl Try.call31 (by kernel_rfl) (by simp) ?_
  refine fi_seq ?_
  refine fi_region ?_
  refine so_assign (v := (.v (.bool false))) rfl ?_
  refine so_nil ?_
  refine fi_seq ?_
  refine fi_seq ?_
  refine fi_region ?_
  refine so_move (v := (.v v0)) rfl ?_
  refine sv_len (g0 _ hs) (fun _ => rfl) (by decide) rfl F31.ti24 ?_
  refine so_move (v := (.v v1)) rfl ?_
  refine sv_len (g1 _ hs) (fun _ => rfl) (by decide) rfl F31.ti24 ?_
  refine so_bin rfl rfl ab_neq ?_
  refine so_nil ?_
  replace h := ofP h; rcases h with ⟨c101, h⟩ | ⟨c101, h⟩
  · refine fi_false rfl (not_f (decide_eq_true c101)) ?_
    refine fi_skip ?_
    refine fi_seq ?_
    refine fi_seq ?_
    refine fi_region ?_
    refine so_assign (v := (.v (.int .i64 (0 : Int)))) rfl ?_
    refine so_nil ?_
    refine fi_block ?_
    refine fi_loop ?_
    refine fi_at [(0, (.v v0)), (1, (.v v1)), (5, (.v (.int .i64 (0 : Int))))] ⟨rfl, rfl, rfl, trivial⟩ ?_
    refine h (fun (i103 : Int) => ∀ (s : Nat → TV), Fin _ _ (updL s [(0, (.v v0)), (1, (.v v1)), (5, (.v (.int .i64 i103)))]) _ _) ?_ _
    intro i103 h s110
    refine fi_inLoop ?_
    refine fi_seq ?_
    refine fi_seq ?_
    refine fi_region ?_
    refine so_move (v := (.v (.int .i64 i103))) rfl ?_
    refine so_move (v := (.v v0)) rfl ?_
    refine sv_len (g0 _ hs) (fun _ => rfl) (by decide) rfl F31.ti24 ?_
    refine so_bin rfl rfl ab_lss ?_
    refine so_nil ?_
    replace h := ofP h; rcases h with ⟨c104, h⟩ | ⟨c104, h⟩
    · refine fi_true rfl (decide_eq_true c104) ?_
      refine fi_skip ?_
      refine fi_seq ?_
      refine fi_block ?_
      refine fi_seq ?_
      refine fi_region ?_
      refine so_move (v := (.v v0)) rfl ?_
      refine so_move (v := (.v (.int .i64 i103))) rfl ?_
      obtain ⟨c105, h⟩ := h
      refine sv_idx (g0 _ hs) c105 (fun _ => rfl) (by decide) rfl rfl F31.tl24 ?_
      refine sv_cell (g0 _ hs) c105 (0 : Nat) 0 (fun x => (AV.flt .f32 x)) (fun _ => rfl) (fun _ => rfl) rfl F31.ag26 ?_
      refine sv_ffw rfl F31.us26 F31.in33 F31.fl33 ?_
      refine so_move (v := (.v v1)) rfl ?_
      refine so_move (v := (.v (.int .i64 i103))) rfl ?_
      obtain ⟨c106, h⟩ := h
      refine sv_idx (g1 _ hs) c106 (fun _ => rfl) (by decide) rfl rfl F31.tl24 ?_
      refine sv_cell (g1 _ hs) c106 (0 : Nat) 0 (fun x => (AV.flt .f32 x)) (fun _ => rfl) (fun _ => rfl) rfl F31.ag26 ?_
      refine sv_ffw rfl F31.us26 F31.in33 F31.fl33 ?_
      refine sv_callS (laws_sameFloat_ok (widen (l0.getD (i103).toNat (0 : Nat))) (widen (l1.getD (i103).toNat (0 : Nat))) hs  _ h) (fun _ _ ⟨_, _, _, e⟩ => e) rfl rfl ?_
      clear h
      rintro _ _ ⟨y107, h, rfl, rfl⟩
      refine so_un rfl au_not ?_
      refine so_nil ?_
      replace h := ofT h; rcases h with ⟨c109, h⟩ | ⟨c109, h⟩
      · refine fi_false rfl (not_f c109) ?_
        refine fi_skip ?_
        refine fi_inBlock ?_
        refine fi_region ?_
        refine so_move (v := (.v (.int .i64 i103))) rfl ?_
        refine so_bin rfl rfl ab_add ?_
        refine so_assign (v := (.v (.int .i64 (IntKind.i64.wrap (i103 + (1 : Int)))))) rfl ?_
        refine so_nil ?_
        exact fi_at [(0, (.v v0)), (1, (.v v1)), (5, (.v (.int .i64 (IntKind.i64.wrap (i103 + (1 : Int))))))] ⟨rfl, rfl, rfl, trivial⟩ (h _)
      · refine fi_true rfl (not_t c109) ?_
        refine fi_seq ?_
        refine fi_region ?_
        refine so_assign (v := (.v (.bool false))) rfl ?_
        refine so_nil ?_
        exact by_ret rfl ⟨_, h, rfl, rfl⟩
    · refine fi_false rfl (decide_eq_false c104) ?_
      refine fi_exit rfl ?_
      refine fi_seq ?_
      refine fi_region ?_
      refine so_assign (v := (.v (.bool true))) rfl ?_
      refine so_nil ?_
      exact by_ret rfl ⟨_, h, rfl, rfl⟩
  · refine fi_true rfl (not_t (decide_eq_false c101)) ?_
    refine fi_seq ?_
    refine fi_region ?_
    refine so_assign (v := (.v (.bool false))) rfl ?_
    refine so_nil ?_
    exact by_ret rfl ⟨_, h, rfl, rfl⟩
theorem F32.ag24 : tagg Try.prog 24 = some false := by kernel_rfl
theorem F32.ag26 : tagg Try.prog 26 = some false := by kernel_rfl
theorem F32.fd38_0 : tfield Try.prog 38 0 = some (0, 1, false) := by kernel_rfl
theorem F32.fd38_1 : tfield Try.prog 38 1 = some (1, 1, false) := by kernel_rfl
theorem F32.fl33 : tflt Try.prog 33 = some .f64 := by kernel_rfl
theorem F32.in33 : tint Try.prog 33 = none := by kernel_rfl
theorem F32.inf38 : (Try.prog.info? 38).isSome = true := by kernel_rfl
theorem F32.us26 : (Try.prog.underlying 26).isSome = true := by kernel_rfl
theorem laws_eqScheme_ok {fr : List Pc} {H : Heap} (v0 : AV) (l0 : List (Nat)) (a1 : Nat) (v2 : AV) (l2 : List (Nat)) (a3 : Nat) (hs : Sep H (fr)) (g0 : ∀ H, Sep H fr → Shows H v0 1 (enc (eFlt .f32) l0)) (g2 : ∀ H, Sep H fr → Shows H v2 1 (enc (eFlt .f32) l2)) (K : Bool → Prop) (h : laws_eqScheme.wp l0 a1 l2 a3 K) : OkQ Try.prog 32 [(.g [v0, (.flt .f32 a1)]), (.g [v2, (.flt .f32 a3)])] H (fun r H2 => ∃ (y0 : Bool), K y0 ∧ r = (.v (.bool y0)) ∧ Sep H2 (fr)) := by
  unfold laws_eqScheme.wp at h
  refine of_body Try.f32 F.hm Try.func32 rfl Try.call32 (by kernel_rfl) (by simp) ?_
  refine fi_seq ?_
  refine fi_region ?_
  refine sv_box hs rfl (c := [v0, (.flt .f32 a1)]) rfl F32.inf38 (stc (g0 _ hs).stor (stc rfl stn)) nofun (fun id101 H102 hs => ?_)
  refine sv_box hs rfl (c := [v2, (.flt .f32 a3)]) rfl F32.inf38 (stc (g2 _ hs.tl).stor (stc rfl stn)) nofun (fun id104 H105 hs => ?_)
  refine so_assign (v := (.v (.bool false))) rfl ?_
  refine so_nil ?_
  refine fi_seq ?_
  refine fi_seq ?_
  refine fi_region ?_
  refine so_fieldAddr rfl F32.fd38_0 ?_
  refine sv_ld hs 1 rfl rfl rfl F32.ag24 ?_
  refine so_fieldAddr rfl F32.fd38_0 ?_
  refine sv_ld hs 0 rfl rfl rfl F32.ag24 ?_
  refine sv_callS (laws_eqFloat32S_ok v0 l0 v2 l2 hs (fun _ hs => (g0 _ hs.tl.tl)) (fun _ hs => (g2 _ hs.tl.tl)) _ h) (fun _ _ ⟨_, _, _, e⟩ => e) rfl rfl ?_
  clear h
  rintro _ _ ⟨y107, h, rfl, rfl⟩
  refine so_un rfl au_not ?_
  refine so_nil ?_
  replace h := ofT h; rcases h with ⟨c109, h⟩ | ⟨c109, h⟩
  · refine fi_false rfl (not_f c109) ?_
    refine fi_skip ?_
    refine fi_seq ?_
    refine fi_seq ?_
    refine fi_region ?_
    refine so_fieldAddr rfl F32.fd38_1 ?_
    refine sv_ld hs 1 rfl rfl rfl F32.ag26 ?_
    refine sv_ffw rfl F32.us26 F32.in33 F32.fl33 ?_
    refine so_fieldAddr rfl F32.fd38_1 ?_
    refine sv_ld hs 0 rfl rfl rfl F32.ag26 ?_
    refine sv_ffw rfl F32.us26 F32.in33 F32.fl33 ?_
    refine sv_callS (laws_sameFloat_ok (widen a1) (widen a3) hs  _ h) (fun _ _ ⟨_, _, _, e⟩ => e) rfl rfl ?_
    clear h
    rintro _ _ ⟨y110, h, rfl, rfl⟩
    refine so_un rfl au_not ?_
    refine so_nil ?_
    replace h := ofT h; rcases h with ⟨c112, h⟩ | ⟨c112, h⟩
    · refine fi_false rfl (not_f c112) ?_
      refine fi_skip ?_
      refine fi_seq ?_
      refine fi_region ?_
      refine so_assign (v := (.v (.bool true))) rfl ?_
      refine so_nil ?_
      exact by_ret rfl ⟨_, h, rfl, (Sep.del 0 (Sep.del 0 hs))⟩
    · refine fi_true rfl (not_t c112) ?_
      refine fi_seq ?_
      refine fi_region ?_
      refine so_assign (v := (.v (.bool false))) rfl ?_
      refine so_nil ?_
      exact by_ret rfl ⟨_, h, rfl, (Sep.del 0 (Sep.del 0 hs))⟩
  · refine fi_true rfl (not_t c109) ?_
    refine fi_seq ?_
    refine fi_region ?_
    refine so_assign (v := (.v (.bool false))) rfl ?_
    refine so_nil ?_
    exact by_ret rfl ⟨_, h, rfl, (Sep.del 0 (Sep.del 0 hs))⟩
theorem laws_eqScheme_okS {fr : List Pc} {H : Heap} (v0 : AV) (l0 : List (Nat)) (a1 : Nat) (v2 : AV) (l2 : List (Nat)) (a3 : Nat) (hs : Sep H fr) (g0 : ∀ H, Sep H fr → Shows H v0 1 (enc (eFlt .f32) l0)) (g2 : ∀ H, Sep H fr → Shows H v2 1 (enc (eFlt .f32) l2)) (K : Bool → Prop) (h : laws_eqScheme.wp l0 a1 l2 a3 K) : OkQ Try.prog 32 [(.g [v0, (.flt .f32 a1)]), (.g [v2, (.flt .f32 a3)])] H (fun r H2 => ∃ (y0 : Bool), K y0 ∧ r = (.v (.bool y0)) ∧ H = H2) := by
  obtain ⟨r, H2, h1, y0, hK, hr, hsep⟩ := laws_eqScheme_ok (fr := came H) (H := H) v0 l0 a1 v2 l2 a3 (came_sep H) (came_shows (g0 H hs)) (came_shows (g2 H hs)) K h
  have hk : H.n ≤ H2.n ∧ ∀ i, i < H.n → H2.f i = H.f i := hsep.1.2.1
  exact ⟨r, H, h1.forget hk.1 hk.2 (by subst hr; rfl), y0, hK, hr, rfl⟩
theorem F34.fl26 : tflt Try.prog 26 = some .f32 := by kernel_rfl
theorem F34.in26 : tint Try.prog 26 = none := by kernel_rfl
theorem F34.sz26 : tsz Try.prog 26 = some 1 := by kernel_rfl
theorem F34.ti24 : (telem Try.prog 24).isSome = true := by kernel_rfl
theorem F34.tl24 : (telem Try.prog 24).bind (tsz Try.prog) = some 1 := by kernel_rfl
theorem F34.us3 : (Try.prog.underlying 3).isSome = true := by kernel_rfl
theorem laws_markFloat32S_ok {fr : List Pc} {H : Heap} (v0 : AV) (l0 : List (Nat)) (a1 : Int) (hs : Sep H (Pc.osl v0 1 (enc (eFlt .f32) l0) :: fr))  (K : Int → (List (Nat)) → Prop) (h : laws_markFloat32S.wp l0 a1 K) : OkQ Try.prog 34 [(.v v0), (.v (.int .i64 a1))] H (fun r H2 => ∃ (y0 : Int) (y1 : List (Nat)), K y0 y1 ∧ r = (.v (.int .i64 y0)) ∧ Sep H2 (Pc.osl v0 1 (enc (eFlt .f32) y1) :: fr)) := by
  unfold laws_markFloat32S.wp at h
  refine of_body Try.f34 F.hm Try.func34 rfl Try.call34 (by kernel_rfl) (by simp) ?_
  refine fi_seq ?_
  refine fi_region ?_
  refine so_assign (v := (.v (.int .i64 (0 : Int)))) rfl ?_
  refine so_nil ?_
  refine fi_seq ?_
  refine fi_seq ?_
  refine fi_region ?_
  refine so_assign (v := (.v (.int .i64 (0 : Int)))) rfl ?_
  refine so_nil ?_
  refine fi_block ?_
  refine fi_loop ?_
  refine fi_at [(0, (.v v0)), (1, (.v (.int .i64 a1))), (5, (.v (.int .i64 (0 : Int))))] ⟨rfl, rfl, rfl, trivial⟩ ?_
  refine h (fun (a109 : List (Nat)) (k110 : Int) (i111 : Int) => ∀ (s : Nat → TV) (H : Heap), Sep H (Pc.osl v0 1 (enc (eFlt .f32) a109) :: fr) → Fin _ _ (updL s [(0, (.v v0)), (1, (.v (.int .i64 k110))), (5, (.v (.int .i64 i111)))]) H _) ?_ _ _ hs
  intro a109 k110 i111 h s115 H116 hs
  refine fi_inLoop ?_
  refine fi_seq ?_
  refine fi_seq ?_
  refine fi_region ?_
  refine so_move (v := (.v (.int .i64 i111))) rfl ?_
  refine so_move (v := (.v v0)) rfl ?_
  refine sv_len (hs.shows 0 rfl) (fun _ => rfl) (by decide) rfl F34.ti24 ?_
  refine so_bin rfl rfl ab_lss ?_
  refine so_nil ?_
  replace h := ofP h; rcases h with ⟨c112, h⟩ | ⟨c112, h⟩
  · refine fi_true rfl (decide_eq_true c112) ?_
    refine fi_skip ?_
    refine fi_seq ?_
    refine fi_block ?_
    refine fi_seq ?_
    refine fi_region ?_
    refine so_move (v := (.v v0)) rfl ?_
    refine so_move (v := (.v (.int .i64 i111))) rfl ?_
    refine so_move (v := (.v (.int .i64 k110))) rfl ?_
    refine sv_if rfl F34.us3 F34.in26 F34.fl26 ?_
    obtain ⟨c113, h⟩ := h
    refine sv_idx (hs.shows 0 rfl) c113 (fun _ => rfl) (by decide) rfl rfl F34.tl24 ?_
    refine sv_set hs 0 rfl c113 (itof .f32 k110) (fun _ => rfl) (by decide) rfl rfl rfl rfl F34.sz26 nofun (fun H114 hs => ?_)
    refine so_nil ?_
    refine fi_region ?_
    refine so_move (v := (.v (.int .i64 k110))) rfl ?_
    refine so_bin rfl rfl ab_add ?_
    refine so_assign (v := (.v (.int .i64 (IntKind.i64.wrap (k110 + (1 : Int)))))) rfl ?_
    refine so_nil ?_
    refine fi_inBlock ?_
    refine fi_region ?_
    refine so_move (v := (.v (.int .i64 i111))) rfl ?_
    refine so_bin rfl rfl ab_add ?_
    refine so_assign (v := (.v (.int .i64 (IntKind.i64.wrap (i111 + (1 : Int)))))) rfl ?_
    refine so_nil ?_
    exact fi_at [(0, (.v v0)), (1, (.v (.int .i64 (IntKind.i64.wrap (k110 + (1 : Int)))))), (5, (.v (.int .i64 (IntKind.i64.wrap (i111 + (1 : Int))))))] ⟨rfl, rfl, rfl, trivial⟩ (h _ _  hs)
  · refine fi_false rfl (decide_eq_false c112) ?_
    refine fi_exit rfl ?_
    refine fi_seq ?_
    refine fi_region ?_
    refine so_move (v := (.v (.int .i64 k110))) rfl ?_
    refine so_assign (v := (.v (.int .i64 k110))) rfl ?_
    refine so_nil ?_
    exact by_ret rfl ⟨_, _, h, rfl, hs⟩
theorem F33.ag24 : tagg Try.prog 24 = some false := by kernel_rfl
theorem F33.fd38_0 : tfield Try.prog 38 0 = some (0, 1, false) := by kernel_rfl
theorem F33.inf38 : (Try.prog.info? 38).isSome = true := by kernel_rfl
theorem laws_markScheme_ok {fr : List Pc} {H : Heap} (v0 : AV) (l0 : List (Nat)) (a1 : Nat) (a2 : Int) (hs : Sep H (Pc.osl v0 1 (enc (eFlt .f32) l0) :: fr))  (K : Int → (List (Nat)) → Prop) (h : laws_markScheme.wp l0 a1 a2 K) : OkQ Try.prog 33 [(.g [v0, (.flt .f32 a1)]), (.v (.int .i64 a2))] H (fun r H2 => ∃ (y0 : Int) (y1 : List (Nat)), K y0 y1 ∧ r = (.v (.int .i64 y0)) ∧ Sep H2 (Pc.osl v0 1 (enc (eFlt .f32) y1) :: fr)) := by
  unfold laws_markScheme.wp at h
  refine of_body Try.f33 F.hm Try.func33 rfl Try.call33 (by kernel_rfl) (by simp) ?_
  refine fi_seq ?_
  refine fi_region ?_
  refine sv_box hs rfl (c := [v0, (.flt .f32 a1)]) rfl F33.inf38 (stc (hs.shows 0 rfl).stor (stc rfl stn)) nofun (fun id102 H103 hs => ?_)
  refine so_assign (v := (.v (.int .i64 (0 : Int)))) rfl ?_
  refine so_nil ?_
  refine fi_seq ?_
  refine fi_region ?_
  refine so_fieldAddr rfl F33.fd38_0 ?_
  refine sv_ld hs 0 rfl rfl rfl F33.ag24 ?_
  refine so_move (v := (.v (.int .i64 a2))) rfl ?_
  replace hs := (Sep.front 1 hs rfl)
  refine sv_call (laws_markFloat32S_ok v0 l0 a2 hs  _ h) rfl rfl nofun ?_
  clear h hs
  rintro _ H107 ⟨y105, y106, h, rfl, hs⟩
  refine so_assign (v := (.v (.int .i64 y105))) rfl ?_
  refine so_nil ?_
  refine fi_seq ?_
  refine fi_region ?_
  refine so_move (v := (.v (.int .i64 y105))) rfl ?_
  refine so_assign (v := (.v (.int .i64 y105))) rfl ?_
  refine so_nil ?_
  exact by_ret rfl ⟨_, _, h, rfl, (Sep.del 1 hs)⟩
theorem F35.sz2 : tsz Try.prog 2 = some 1 := by kernel_rfl
theorem F35.ti28 : (telem Try.prog 28).isSome = true := by kernel_rfl
theorem F35.tl28 : (telem Try.prog 28).bind (tsz Try.prog) = some 1 := by kernel_rfl
theorem laws_markInt64S_ok {fr : List Pc} {H : Heap} (v0 : AV) (l0 : List (Int)) (a1 : Int) (hs : Sep H (Pc.osl v0 1 (enc (eInt .i64) l0) :: fr))  (K : Int → (List (Int)) → Prop) (h : laws_markInt64S.wp l0 a1 K) : OkQ Try.prog 35 [(.v v0), (.v (.int .i64 a1))] H (fun r H2 => ∃ (y0 : Int) (y1 : List (Int)), K y0 y1 ∧ r = (.v (.int .i64 y0)) ∧ Sep H2 (Pc.osl v0 1 (enc (eInt .i64) y1) :: fr)) := by
  unfold laws_markInt64S.wp at h
  refine of_body Try.f35 F.hm Try.func35 rfl Try.call35 (by kernel_rfl) (by simp) ?_
  refine fi_seq ?_
  refine fi_region ?_
  refine so_assign (v := (.v (.int .i64 (0 : Int)))) rfl ?_
  refine so_nil ?_
  refine fi_seq ?_
  refine fi_seq ?_
  refine fi_region ?_
  refine so_assign (v := (.v (.int .i64 (0 : Int)))) rfl ?_
  refine so_nil ?_
  refine fi_block ?_
  refine fi_loop ?_
  refine fi_at [(0, (.v v0)), (1, (.v (.int .i64 a1))), (5, (.v (.int .i64 (0 : Int))))] ⟨rfl, rfl, rfl, trivial⟩ ?_
  refine h (fun (a109 : List (Int)) (k110 : Int) (i111 : Int) => ∀ (s : Nat → TV) (H : Heap), Sep H (Pc.osl v0 1 (enc (eInt .i64) a109) :: fr) → Fin _ _ (updL s [(0, (.v v0)), (1, (.v (.int .i64 k110))), (5, (.v (.int .i64 i111)))]) H _) ?_ _ _ hs
  intro a109 k110 i111 h s115 H116 hs
  refine fi_inLoop ?_
  refine fi_seq ?_
  refine fi_seq ?_
  refine fi_region ?_
  refine so_move (v := (.v (.int .i64 i111))) rfl ?_
  refine so_move (v := (.v v0)) rfl ?_
  refine sv_len (hs.shows 0 rfl) (fun _ => rfl) (by decide) rfl F35.ti28 ?_
  refine so_bin rfl rfl ab_lss ?_
  refine so_nil ?_
  replace h := ofP h; rcases h with ⟨c112, h⟩ | ⟨c112, h⟩
  · refine fi_true rfl (decide_eq_true c112) ?_
    refine fi_skip ?_
    refine fi_seq ?_
    refine fi_block ?_
    refine fi_seq ?_
    refine fi_region ?_
    refine so_move (v := (.v v0)) rfl ?_
    refine so_move (v := (.v (.int .i64 i111))) rfl ?_
    refine so_move (v := (.v (.int .i64 k110))) rfl ?_
    obtain ⟨c113, h⟩ := h
    refine sv_idx (hs.shows 0 rfl) c113 (fun _ => rfl) (by decide) rfl rfl F35.tl28 ?_
    refine sv_set hs 0 rfl c113 k110 (fun _ => rfl) (by decide) rfl rfl rfl rfl F35.sz2 nofun (fun H114 hs => ?_)
    refine so_nil ?_
    refine fi_region ?_
    refine so_move (v := (.v (.int .i64 k110))) rfl ?_
    refine so_bin rfl rfl ab_add ?_
    refine so_assign (v := (.v (.int .i64 (IntKind.i64.wrap (k110 + (1 : Int)))))) rfl ?_
    refine so_nil ?_
    refine fi_inBlock ?_
    refine fi_region ?_
    refine so_move (v := (.v (.int .i64 i111))) rfl ?_
    refine so_bin rfl rfl ab_add ?_
    refine so_assign (v := (.v (.int .i64 (IntKind.i64.wrap (i111 + (1 : Int)))))) rfl ?_
    refine so_nil ?_
    exact fi_at [(0, (.v v0)), (1, (.v (.int .i64 (IntKind.i64.wrap (k110 + (1 : Int)))))), (5, (.v (.int .i64 (IntKind.i64.wrap (i111 + (1 : Int))))))] ⟨rfl, rfl, rfl, trivial⟩ (h _ _  hs)
  · refine fi_false rfl (decide_eq_false c112) ?_
    refine fi_exit rfl ?_
    refine fi_seq ?_
    refine fi_region ?_
    refine so_move (v := (.v (.int .i64 k110))) rfl ?_
    refine so_assign (v := (.v (.int .i64 k110))) rfl ?_
    refine so_nil ?_
    exact by_ret rfl ⟨_, _, h, rfl, hs⟩
theorem F36.ag2 : tagg Try.prog 2 = some false := by kernel_rfl
theorem F36.ti28 : (telem Try.prog 28).isSome = true := by kernel_rfl
theorem F36.tl28 : (telem Try.prog 28).bind (tsz Try.prog) = some 1 := by kernel_rfl
theorem laws_heldInt64S_ok {fr : List Pc} {H : Heap} (v0 : AV) (l0 : List (Int)) (a1 : Int) (hs : Sep H (fr)) (g0 : ∀ H, Sep H fr → Shows H v0 1 (enc (eInt .i64) l0)) (K : Int → Prop) (h : laws_heldInt64S.wp l0 a1 K) : OkQ Try.prog 36 [(.v v0), (.v (.int .i64 a1))] H (fun r H2 => ∃ (y0 : Int), K y0 ∧ r = (.v (.int .i64 y0)) ∧ H = H2) := by
  unfold laws_heldInt64S.wp at h
  refine of_body Try.f36 F.hm Try.func36 rfl Try.call36 (by kernel_rfl) (by simp) ?_
  refine fi_seq ?_
  refine fi_region ?_
  refine so_assign (v := (.v (.int .i64 (0 : Int)))) rfl ?_
  refine so_nil ?_
  refine fi_seq ?_
  refine fi_seq ?_
  refine fi_region ?_
  refine so_assign (v := (.v (.int .i64 (0 : Int)))) rfl ?_
  refine so_nil ?_
  refine fi_block ?_
  refine fi_loop ?_
  refine fi_at [(0, (.v v0)), (1, (.v (.int .i64 a1))), (5, (.v (.int .i64 (0 : Int))))] ⟨rfl, rfl, rfl, trivial⟩ ?_
  refine h (fun (k102 : Int) (i103 : Int) => ∀ (s : Nat → TV), Fin _ _ (updL s [(0, (.v v0)), (1, (.v (.int .i64 k102))), (5, (.v (.int .i64 i103)))]) _ _) ?_ _
  intro k102 i103 h s107
  refine fi_inLoop ?_
  refine fi_seq ?_
  refine fi_seq ?_
  refine fi_region ?_
  refine so_move (v := (.v (.int .i64 i103))) rfl ?_
  refine so_move (v := (.v v0)) rfl ?_
  refine sv_len (g0 _ hs) (fun _ => rfl) (by decide) rfl F36.ti28 ?_
  refine so_bin rfl rfl ab_lss ?_
  refine so_nil ?_
  replace h := ofP h; rcases h with ⟨c104, h⟩ | ⟨c104, h⟩
  · refine fi_true rfl (decide_eq_true c104) ?_
    refine fi_skip ?_
    refine fi_seq ?_
    refine fi_block ?_
    refine fi_seq ?_
    refine fi_seq ?_
    refine fi_region ?_
    refine so_move (v := (.v v0)) rfl ?_
    refine so_move (v := (.v (.int .i64 i103))) rfl ?_
    obtain ⟨c105, h⟩ := h
    refine sv_idx (g0 _ hs) c105 (fun _ => rfl) (by decide) rfl rfl F36.tl28 ?_
    refine sv_cell (g0 _ hs) c105 (0 : Int) 0 (fun x => (AV.int .i64 x)) (fun _ => rfl) (fun _ => rfl) rfl F36.ag2 ?_
    refine so_move (v := (.v (.int .i64 k102))) rfl ?_
    refine so_bin rfl rfl ab_neq ?_
    refine so_nil ?_
    replace h := ofP h; rcases h with ⟨c106, h⟩ | ⟨c106, h⟩
    · refine fi_false rfl (not_f (decide_eq_true c106)) ?_
      refine fi_skip ?_
      refine fi_region ?_
      refine so_move (v := (.v (.int .i64 k102))) rfl ?_
      refine so_bin rfl rfl ab_add ?_
      refine so_assign (v := (.v (.int .i64 (IntKind.i64.wrap (k102 + (1 : Int)))))) rfl ?_
      refine so_nil ?_
      refine fi_inBlock ?_
      refine fi_region ?_
      refine so_move (v := (.v (.int .i64 i103))) rfl ?_
      refine so_bin rfl rfl ab_add ?_
      refine so_assign (v := (.v (.int .i64 (IntKind.i64.wrap (i103 + (1 : Int)))))) rfl ?_
      refine so_nil ?_
      exact fi_at [(0, (.v v0)), (1, (.v (.int .i64 (IntKind.i64.wrap (k102 + (1 : Int)))))), (5, (.v (.int .i64 (IntKind.i64.wrap (i103 + (1 : Int))))))] ⟨rfl, rfl, rfl, trivial⟩ (h _)
    · refine fi_true rfl (not_t (decide_eq_false c106)) ?_
      refine fi_seq ?_
      refine fi_region ?_
      refine so_assign (v := (.v (.int .i64 (-1 : Int)))) rfl ?_
      refine so_nil ?_
      exact by_ret rfl ⟨_, h, rfl, rfl⟩
  · refine fi_false rfl (decide_eq_false c104) ?_
    refine fi_exit rfl ?_
    refine fi_seq ?_
    refine fi_region ?_
    refine so_move (v := (.v (.int .i64 k102))) rfl ?_
    refine so_assign (v := (.v (.int .i64 k102))) rfl ?_
    refine so_nil ?_
    exact by_ret rfl ⟨_, h, rfl, rfl⟩
theorem F37.ag26 : tagg Try.prog 26 = some false := by kernel_rfl
theorem F37.fl26 : tflt Try.prog 26 = some .f32 := by kernel_rfl
theorem F37.in26 : tint Try.prog 26 = none := by kernel_rfl
theorem F37.ti24 : (telem Try.prog 24).isSome = true := by kernel_rfl
theorem F37.tl24 : (telem Try.prog 24).bind (tsz Try.prog) = some 1 := by kernel_rfl
theorem F37.us3 : (Try.prog.underlying 3).isSome = true := by kernel_rfl
theorem laws_heldFloat32S_ok {fr : List Pc} {H : Heap} (v0 : AV) (l0 : List (Nat)) (a1 : Int) (hs : Sep H (fr)) (g0 : ∀ H, Sep H fr → Shows H v0 1 (enc (eFlt .f32) l0)) (K : Int → Prop) (h : laws_heldFloat32S.wp l0 a1 K) : OkQ Try.prog 37 [(.v v0), (.v (.int .i64 a1))] H (fun r H2 => ∃ (y0 : Int), K y0 ∧ r = (.v (.int .i64 y0)) ∧ H = H2) := by
  unfold laws_heldFloat32S.wp at h
  refine of_body Try.f37 F.hm Try.func37 rfl Try.call37 (by kernel_rfl) (by simp) ?_
  refine fi_seq ?_
  refine fi_region ?_
  refine so_assign (v := (.v (.int .i64 (0 : Int)))) rfl ?_
  refine so_nil ?_
  refine fi_seq ?_
  refine fi_seq ?_
  refine fi_region ?_
  refine so_assign (v := (.v (.int .i64 (0 : Int)))) rfl ?_
  refine so_nil ?_
  refine fi_block ?_
  refine fi_loop ?_
  refine fi_at [(0, (.v v0)), (1, (.v (.int .i64 a1))), (5, (.v (.int .i64 (0 : Int))))] ⟨rfl, rfl, rfl, trivial⟩ ?_
  refine h (fun (k102 : Int) (i103 : Int) => ∀ (s : Nat → TV), Fin _ _ (updL s [(0, (.v v0)), (1, (.v (.int .i64 k102))), (5, (.v (.int .i64 i103)))]) _ _) ?_ _
  intro k102 i103 h s107
  refine fi_inLoop ?_
  refine fi_seq ?_
  refine fi_seq ?_
  refine fi_region ?_
  refine so_move (v := (.v (.int .i64 i103))) rfl ?_
  refine so_move (v := (.v v0)) rfl ?_
  refine sv_len (g0 _ hs) (fun _ => rfl) (by decide) rfl F37.ti24 ?_
  refine so_bin rfl rfl ab_lss ?_
  refine so_nil ?_
  replace h := ofP h; rcases h with ⟨c104, h⟩ | ⟨c104, h⟩
  · refine fi_true rfl (decide_eq_true c104) ?_
    refine fi_skip ?_
    refine fi_seq ?_
    refine fi_block ?_
    refine fi_seq ?_
    refine fi_seq ?_
    refine fi_region ?_
    refine so_move (v := (.v v0)) rfl ?_
    refine so_move (v := (.v (.int .i64 i103))) rfl ?_
    obtain ⟨c105, h⟩ := h
    refine sv_idx (g0 _ hs) c105 (fun _ => rfl) (by decide) rfl rfl F37.tl24 ?_
    refine sv_cell (g0 _ hs) c105 (0 : Nat) 0 (fun x => (AV.flt .f32 x)) (fun _ => rfl) (fun _ => rfl) rfl F37.ag26 ?_
    refine so_move (v := (.v (.int .i64 k102))) rfl ?_
    refine sv_if rfl F37.us3 F37.in26 F37.fl26 ?_
    refine so_bin rfl rfl ab_fneq ?_
    refine so_nil ?_
    replace h := ofT h; rcases h with ⟨c106, h⟩ | ⟨c106, h⟩
    · refine fi_true rfl c106 ?_
      refine fi_seq ?_
      refine fi_region ?_
      refine so_assign (v := (.v (.int .i64 (-1 : Int)))) rfl ?_
      refine so_nil ?_
      exact by_ret rfl ⟨_, h, rfl, rfl⟩
    · refine fi_false rfl c106 ?_
      refine fi_skip ?_
      refine fi_region ?_
      refine so_move (v := (.v (.int .i64 k102))) rfl ?_
      refine so_bin rfl rfl ab_add ?_
      refine so_assign (v := (.v (.int .i64 (IntKind.i64.wrap (k102 + (1 : Int)))))) rfl ?_
      refine so_nil ?_
      refine fi_inBlock ?_
      refine fi_region ?_
      refine so_move (v := (.v (.int .i64 i103))) rfl ?_
      refine so_bin rfl rfl ab_add ?_
      refine so_assign (v := (.v (.int .i64 (IntKind.i64.wrap (i103 + (1 : Int)))))) rfl ?_
      refine so_nil ?_
      exact fi_at [(0, (.v v0)), (1, (.v (.int .i64 (IntKind.i64.wrap (k102 + (1 : Int)))))), (5, (.v (.int .i64 (IntKind.i64.wrap (i103 + (1 : Int))))))] ⟨rfl, rfl, rfl, trivial⟩ (h _)
  · refine fi_false rfl (decide_eq_false c104) ?_
    refine fi_exit rfl ?_
    refine fi_seq ?_
    refine fi_region ?_
    refine so_move (v := (.v (.int .i64 k102))) rfl ?_
    refine so_assign (v := (.v (.int .i64 k102))) rfl ?_
    refine so_nil ?_
    exact by_ret rfl ⟨_, h, rfl, rfl⟩
theorem F5.ag38 : tagg Try.prog 38 = some true := by kernel_rfl
theorem F5.ag54 : tagg Try.prog 54 = some true := by kernel_rfl
theorem F5.inf54 : (Try.prog.info? 54).isSome = true := by kernel_rfl
theorem F5.sz38 : tsz Try.prog 38 = some 2 := by kernel_rfl
theorem F5.sz54 : tsz Try.prog 54 = some 2 := by kernel_rfl
theorem F5.tb4 : tbool Try.prog 4 = true := by kernel_rfl
theorem F5.ti24 : (telem Try.prog 24).isSome = true := by kernel_rfl
theorem F5.ze38 : tzero Try.prog 38 = some [.nilsl, (.flt .f32 (0 : Nat))] := by kernel_rfl
theorem laws_FnExactRateTable_ok {fr : List Pc} {H : Heap} (v0 : AV) (l0 : List (Nat)) (a1 : Nat) (v2 : AV) (l2 : List (Nat)) (a3 : Int) (a4 : Nat) (hs : Sep H (fr)) (g0 : ∀ H, Sep H fr → Shows H v0 1 (enc (eFlt .f32) l0)) (g2 : ∀ H, Sep H fr → Shows H v2 1 (enc (eFlt .f32) l2)) (K : Bool → Prop) (h : laws_FnExactRateTable.wp l0 a1 l2 a3 a4 K) : OkQ Try.prog 5 [(.g [v0, (.flt .f32 a1)]), (.v v2), (.v (.int .i64 a3)), (.v (.flt .f32 a4))] H (fun r H2 => ∃ (y0 : Bool), K y0 ∧ r = (.v (.bool y0)) ∧ Sep H2 (fr)) := by
  unfold laws_FnExactRateTable.wp at h
  refine of_body Try.f5 F.hm Try.func5 rfl Try.call5 (by kernel_rfl) (by simp) ?_
  refine fi_seq ?_
  refine fi_region ?_
  refine sv_box hs rfl (c := [v0, (.flt .f32 a1)]) rfl F5.inf54 (stc (g0 _ hs).stor (stc rfl stn)) nofun (fun id101 H102 hs => ?_)
  refine so_assign (v := (.v (.bool false))) rfl ?_
  refine so_nil ?_
  refine fi_seq ?_
  refine fi_seq ?_
  refine fi_region ?_
  refine so_move (v := (.v v2)) rfl ?_
  refine sv_len (g2 _ hs.tl) (fun _ => rfl) (by decide) rfl F5.ti24 ?_
  refine so_bin rfl rfl ab_gtr ?_
  refine so_nil ?_
  replace h := ofP h; rcases h with ⟨c104, h⟩ | ⟨c104, h⟩
  · refine fi_true rfl (decide_eq_true c104) ?_
    refine fi_seq ?_
    refine fi_region ?_
    refine so_assign (v := (.v (.bool true))) rfl ?_
    refine so_nil ?_
    exact by_ret rfl ⟨_, h, rfl, (Sep.del 0 hs)⟩
  · refine fi_false rfl (decide_eq_false c104) ?_
    refine fi_skip ?_
    refine fi_seq ?_
    refine fi_region ?_
    refine so_assign (v := (.v (.int .i64 (1048576 : Int)))) rfl ?_
    refine so_nil ?_
    refine fi_seq ?_
    refine fi_region ?_
    refine sv_lds hs 0 rfl rfl (leb rfl) rfl F5.ag54 F5.sz54 ?_
    refine so_move (v := (.v (.int .i64 (1048576 : Int)))) rfl ?_
    refine sv_callS (laws_szScheme_okS v0 l0 a1 (1048576 : Int) hs (fun _ hs => (g0 _ hs.tl)) _ h) (fun _ _ ⟨_, _, _, e⟩ => e) rfl rfl ?_
    clear h
    rintro _ _ ⟨y105, h, rfl, rfl⟩
    refine so_assign (v := (.v (.int .i64 y105))) rfl ?_
    refine so_nil ?_
    refine fi_seq ?_
    refine fi_seq ?_
    refine fi_region ?_
    refine so_move (v := (.v (.int .i64 y105))) rfl ?_
    refine so_bin rfl rfl ab_lss ?_
    refine so_nil ?_
    replace h := ofP h; rcases h with ⟨c107, h⟩ | ⟨c107, h⟩
    · refine fi_true rfl (decide_eq_true c107) ?_
      refine fi_seq ?_
      refine fi_region ?_
      refine so_assign (v := (.v (.bool true))) rfl ?_
      refine so_nil ?_
      exact by_ret rfl ⟨_, h, rfl, (Sep.del 0 hs)⟩
    · refine fi_false rfl (decide_eq_false c107) ?_
      refine fi_skip ?_
      refine fi_seq ?_
      refine fi_region ?_
      refine sv_lds hs 0 rfl rfl (leb rfl) rfl F5.ag54 F5.sz54 ?_
      refine sv_call (laws_toScheme_ok v0 l0 a1 hs (fun _ hs => (g0 _ hs.tl)) _ h) rfl rfl nofun ?_
      clear h hs
      rintro _ H112 ⟨y108, y111, h, v109, rfl, hs⟩
      refine so_move (v := (.v v2)) rfl ?_
      refine sv_call (laws_toFloat32S_ok v2 l2 hs (fun _ hs => (g2 _ hs.tl.tl)) _ h) rfl rfl nofun ?_
      clear h hs
      rintro _ H116 ⟨y113, h, v114, rfl, hs⟩
      refine so_move (v := (.v (.int .i64 a3))) rfl ?_
      refine so_move (v := (.v (.flt .f32 a4))) rfl ?_
      refine sv_call (spec_RateTable_ok v109 y108 y111 v114 y113 a3 a4 hs (fun _ hs => (hs.shows 1 rfl)) (fun _ hs => (hs.shows 0 rfl)) _ h) rfl rfl nofun ?_
      clear h hs
      rintro _ H124 ⟨y117, y120, y123, h, v118, v121, rfl, hs⟩
      refine so_move (v := (.t [(.v v118), (.v v121), (.v (.bool y123))])) rfl ?_
      refine so_extract rfl rfl rfl ?_
      refine so_extract rfl rfl rfl ?_
      refine so_extract rfl rfl rfl ?_
      refine so_assign (v := (.v v118)) rfl ?_
      refine so_assign (v := (.v v121)) rfl ?_
      refine so_assign (v := (.v (.bool y123))) rfl ?_
      refine so_nil ?_
      refine fi_seq ?_
      refine fi_region ?_
      refine sv_lds hs 4 rfl rfl (leb rfl) rfl F5.ag54 F5.sz54 ?_
      refine sv_call (laws_toScheme_ok v0 l0 a1 hs (fun _ hs => (g0 _ hs.tl.tl.tl.tl.tl)) _ h) rfl rfl nofun ?_
      clear h hs
      rintro _ H129 ⟨y125, y128, h, v126, rfl, hs⟩
      refine sv_alloc hs F5.ze38 rfl nofun (fun id130 H131 hs => ?_)
      refine sv_st hs 0 rfl rfl rfl (c := [v126, (.flt .f32 y128)]) rfl F5.sz38 rfl (stc (hs.shows 1 rfl).stor (stc rfl stn)) (leb rfl) (cs' := [v126, (.flt .f32 y128)]) rfl nofun (fun H133 hs => ?_)
      refine so_nil ?_
      refine fi_seq ?_
      refine fi_region ?_
      refine so_move (v := (.v v2)) rfl ?_
      refine sv_call (laws_toFloat32S_ok v2 l2 hs (fun _ hs => (g2 _ hs.tl.tl.tl.tl.tl.tl.tl)) _ h) rfl rfl nofun ?_
      clear h hs
      rintro _ H137 ⟨y134, h, v135, rfl, hs⟩
      refine so_assign (v := (.v v135)) rfl ?_
      refine so_nil ?_
      refine fi_seq ?_
      refine fi_region ?_
      refine sv_lds hs 1 rfl rfl (leb rfl) rfl F5.ag38 F5.sz38 ?_
      refine so_move (v := (.v v135)) rfl ?_
      refine so_move (v := (.v (.int .i64 a3))) rfl ?_
      refine so_move (v := (.v (.flt .f32 a4))) rfl ?_
      refine sv_call (impl_RateTable_ok v126 y125 y128 v135 y134 a3 a4 hs (fun _ hs => (hs.shows 2 rfl)) (fun _ hs => (hs.shows 0 rfl)) _ h) rfl rfl nofun ?_
      clear h hs
      rintro _ H145 ⟨y138, y141, y144, h, v139, v142, rfl, hs⟩
      refine so_move (v := (.t [(.v v139), (.v v142), (.v (.bool y144))])) rfl ?_
      refine so_extract rfl rfl rfl ?_
      refine so_extract rfl rfl rfl ?_
      refine so_extract rfl rfl rfl ?_
      refine so_assign (v := (.v v139)) rfl ?_
      refine so_assign (v := (.v v142)) rfl ?_
      refine so_assign (v := (.v (.bool y144))) rfl ?_
      refine so_nil ?_
      refine fi_seq ?_
      refine fi_seq ?_
      refine fi_region ?_
      refine so_move (v := (.v v139)) rfl ?_
      refine so_move (v := (.v v118)) rfl ?_
      refine sv_callS (laws_eqInt64S_ok v139 y138 v118 y117 hs (fun _ hs => (hs.shows 0 rfl)) (fun _ hs => (hs.shows 5 rfl)) _ h) (fun _ _ ⟨_, _, _, e⟩ => e) rfl rfl ?_
      clear h
      rintro _ _ ⟨y146, h, rfl, rfl⟩
      refine so_un rfl au_not ?_
      refine so_move (v := (.v (.bool (!y146)))) rfl ?_
      replace h := ofT h; rcases h with ⟨c148, h⟩ | ⟨c148, h⟩
      · refine so_gyes rfl (not_f c148) ?_
        refine so_move (v := (.v v142)) rfl ?_
        refine so_gyes rfl (not_f c148) ?_
        refine so_move (v := (.v v121)) rfl ?_
        refine so_gyes rfl (not_f c148) ?_
        refine sv_callS (laws_eqFloat32S_ok v142 y141 v121 y120 hs (fun _ hs => (hs.shows 1 rfl)) (fun _ hs => (hs.shows 6 rfl)) _ h) (fun _ _ ⟨_, _, _, e⟩ => e) rfl rfl ?_
        clear h
        rintro _ _ ⟨y149, h, rfl, rfl⟩
        refine so_gyes rfl (not_f c148) ?_
        refine so_un rfl au_not ?_
        refine so_pick_f (v := (.v (.bool (!y149)))) rfl (not_f c148) rfl ?_
        refine so_move (v := (.v (.bool (!y149)))) rfl ?_
        replace h := ofT h; rcases h with ⟨c151, h⟩ | ⟨c151, h⟩
        · refine so_gyes rfl (not_f c151) ?_
          refine so_move (v := (.v (.bool y144))) rfl ?_
          refine so_gyes rfl (not_f c151) ?_
          refine so_move (v := (.v (.bool y123))) rfl ?_
          refine so_gyes rfl (not_f c151) ?_
          refine so_bin rfl rfl (ab_bneq F5.tb4) ?_
          refine so_pick_f (v := (.v (.bool (!(y144 == y123))))) rfl (not_f c151) rfl ?_
          refine so_nil ?_
          replace h := ofT h; rcases h with ⟨c152, h⟩ | ⟨c152, h⟩
          · refine fi_false rfl (not_f c152) ?_
            refine fi_skip ?_
            refine fi_seq ?_
            refine fi_seq ?_
            refine fi_free [0] ?_
            refine wf_free (.g [v126, (.flt .f32 y128)]) rfl (by kernel_rfl) (stepr (i := 0) rfl (by refine sv_lds hs 3 rfl rfl (leb rfl) rfl F5.ag38 F5.sz38 ?_; exact so_end ⟨rfl, rfl⟩)) fan ?_
            refine wf_same (by decide +kernel) (by kernel_rfl) ?_
            refine sv_lds hs 9 rfl rfl (leb rfl) rfl F5.ag54 F5.sz54 ?_
            refine so_end ⟨rfl, ?_⟩
            have hs0_ := hs
            refine wf_chg (by kernel_rfl) ?_
            refine sv_call (laws_toScheme_ok v0 l0 a1 hs (fun _ hs => (g0 _ hs.tl.tl.tl.tl.tl.tl.tl.tl.tl.tl)) _ h) rfl rfl nofun ?_
            clear h
            rintro _ H157 ⟨y153, y156, h, v154, rfl, hs⟩
            refine so_end ⟨(fac (.inr (stepr (i := 0) rfl (by refine sv_lds hs 4 rfl rfl (leb rfl) rfl F5.ag38 F5.sz38 ?_; exact so_end ⟨rfl, rfl⟩))) fan), ?_⟩
            obtain ⟨y158, hw159, h⟩ := h
            have hs1_ := hs
            refine wf_chg (by kernel_rfl) ?_
            refine sv_callS (laws_eqScheme_okS v126 y125 y128 v154 y153 y156 hs (fun _ hs => (hs.shows 5 rfl)) (fun _ hs => (hs.shows 0 rfl)) (fun zy158 => y158 = zy158) hw159) (fun _ _ ⟨_, _, _, e⟩ => e) rfl rfl ?_
            rintro _ _ ⟨_, rfl, rfl, rfl⟩
            refine so_end ⟨(fac (.inl ⟨3, by kernel_rfl⟩) fan), ?_⟩
            refine wf_pure rfl (by kernel_rfl) ?_
            refine so_un rfl au_not ?_
            refine so_end ?_
            refine wf_nil ?_
            replace h := ofT h; rcases h with ⟨c160, h⟩ | ⟨c160, h⟩
            · refine fi_false rfl (not_f c160) ?_
              refine fi_skip ?_
              refine fi_seq ?_
              refine fi_seq ?_
              refine fi_region ?_
              refine so_move (v := (.v v135)) rfl ?_
              refine so_move (v := (.v v2)) rfl ?_
              refine sv_call (laws_toFloat32S_ok v2 l2 hs (fun _ hs => (g2 _ hs.tl.tl.tl.tl.tl.tl.tl.tl.tl.tl.tl)) _ h) rfl rfl nofun ?_
              clear h hs
              rintro _ H164 ⟨y161, h, v162, rfl, hs⟩
              refine sv_callS (laws_eqFloat32S_ok v135 y134 v162 y161 hs (fun _ hs => (hs.shows 4 rfl)) (fun _ hs => (hs.shows 0 rfl)) _ h) (fun _ _ ⟨_, _, _, e⟩ => e) rfl rfl ?_
              clear h
              rintro _ _ ⟨y165, h, rfl, rfl⟩
              refine so_un rfl au_not ?_
              refine so_nil ?_
              replace h := ofT h; rcases h with ⟨c167, h⟩ | ⟨c167, h⟩
              · refine fi_false rfl (not_f c167) ?_
                refine fi_skip ?_
                refine fi_seq ?_
                refine fi_region ?_
                refine so_assign (v := (.v (.int .i64 (1 : Int)))) rfl ?_
                refine so_nil ?_
                refine fi_seq ?_
                refine fi_region ?_
                refine sv_lds hs 5 rfl rfl (leb rfl) rfl F5.ag38 F5.sz38 ?_
                refine so_move (v := (.v (.int .i64 (1 : Int)))) rfl ?_
                replace hs := (Sep.front 6 hs rfl)
                refine sv_call (laws_markScheme_ok v126 y125 y128 (1 : Int) hs  _ h) rfl rfl nofun ?_
                clear h hs
                rintro _ H170 ⟨y168, y169, h, rfl, hs⟩
                refine so_assign (v := (.v (.int .i64 y168))) rfl ?_
                refine so_nil ?_
                refine fi_seq ?_
                refine fi_region ?_
                refine so_move (v := (.v v135)) rfl ?_
                refine so_move (v := (.v (.int .i64 y168))) rfl ?_
                replace hs := (Sep.front 5 hs rfl)
                refine sv_call (laws_markFloat32S_ok v135 y134 y168 hs  _ h) rfl rfl nofun ?_
                clear h hs
                rintro _ H173 ⟨y171, y172, h, rfl, hs⟩
                refine so_assign (v := (.v (.int .i64 y171))) rfl ?_
                refine so_nil ?_
                refine fi_seq ?_
                refine fi_seq ?_
                refine fi_region ?_
                refine so_move (v := (.v (.int .i64 y171))) rfl ?_
                refine so_bin rfl rfl ab_lss ?_
                refine so_move (v := (.v (.bool (decide (y171 < (0 : Int)))))) rfl ?_
                replace h := ofP h; rcases h with ⟨c174, h⟩ | ⟨c174, h⟩
                · refine so_gno rfl (decide_eq_true c174) ?_
                  refine so_gno rfl (decide_eq_true c174) ?_
                  refine so_gno rfl (decide_eq_true c174) ?_
                  refine so_gno rfl (decide_eq_true c174) ?_
                  refine so_pick_t (v := (.v (.bool true))) rfl (decide_eq_true c174) rfl ?_
                  refine so_move (v := (.v (.bool true))) rfl ?_
                  refine so_gno rfl rfl ?_
                  refine so_gno rfl rfl ?_
                  refine so_gno rfl rfl ?_
                  refine so_gno rfl rfl ?_
                  refine so_pick_t (v := (.v (.bool true))) rfl rfl rfl ?_
                  refine so_move (v := (.v (.bool true))) rfl ?_
                  refine so_gno rfl rfl ?_
                  refine so_gno rfl rfl ?_
                  refine so_gno rfl rfl ?_
                  refine so_pick_t (v := (.v (.bool true))) rfl rfl rfl ?_
                  refine so_nil ?_
                  refine fi_true rfl rfl ?_
                  refine fi_seq ?_
                  refine fi_region ?_
                  refine so_assign (v := (.v (.bool false))) rfl ?_
                  refine so_nil ?_
                  exact by_ret rfl ⟨_, h, rfl, (Sep.dropn 12 hs)⟩
                · refine so_gyes rfl (decide_eq_false c174) ?_
                  refine so_move (v := (.v v139)) rfl ?_
                  refine so_gyes rfl (decide_eq_false c174) ?_
                  refine so_move (v := (.v v118)) rfl ?_
                  refine so_gyes rfl (decide_eq_false c174) ?_
                  refine sv_callS (laws_eqInt64S_ok v139 y138 v118 y117 hs (fun _ hs => (hs.shows 4 rfl)) (fun _ hs => (hs.shows 7 rfl)) _ h) (fun _ _ ⟨_, _, _, e⟩ => e) rfl rfl ?_
                  clear h
                  rintro _ _ ⟨y175, h, rfl, rfl⟩
                  refine so_gyes rfl (decide_eq_false c174) ?_
                  refine so_un rfl au_not ?_
                  refine so_pick_f (v := (.v (.bool (!y175)))) rfl (decide_eq_false c174) rfl ?_
                  refine so_move (v := (.v (.bool (!y175)))) rfl ?_
                  replace h := ofT h; rcases h with ⟨c177, h⟩ | ⟨c177, h⟩
                  · refine so_gyes rfl (not_f c177) ?_
                    refine so_move (v := (.v v142)) rfl ?_
                    refine so_gyes rfl (not_f c177) ?_
                    refine so_move (v := (.v v121)) rfl ?_
                    refine so_gyes rfl (not_f c177) ?_
                    refine sv_callS (laws_eqFloat32S_ok v142 y141 v121 y120 hs (fun _ hs => (hs.shows 5 rfl)) (fun _ hs => (hs.shows 8 rfl)) _ h) (fun _ _ ⟨_, _, _, e⟩ => e) rfl rfl ?_
                    clear h
                    rintro _ _ ⟨y178, h, rfl, rfl⟩
                    refine so_gyes rfl (not_f c177) ?_
                    refine so_un rfl au_not ?_
                    refine so_pick_f (v := (.v (.bool (!y178)))) rfl (not_f c177) rfl ?_
                    refine so_move (v := (.v (.bool (!y178)))) rfl ?_
                    replace h := ofT h; rcases h with ⟨c180, h⟩ | ⟨c180, h⟩
                    · refine so_gyes rfl (not_f c180) ?_
                      refine so_move (v := (.v (.bool y144))) rfl ?_
                      refine so_gyes rfl (not_f c180) ?_
                      refine so_move (v := (.v (.bool y123))) rfl ?_
                      refine so_gyes rfl (not_f c180) ?_
                      refine so_bin rfl rfl (ab_bneq F5.tb4) ?_
                      refine so_pick_f (v := (.v (.bool (!(y144 == y123))))) rfl (not_f c180) rfl ?_
                      refine so_nil ?_
                      refine fi_false rfl (not_f c152) ?_
                      refine fi_skip ?_
                      refine fi_seq ?_
                      refine fi_region ?_
                      refine so_assign (v := (.v (.int .i64 (1 : Int)))) rfl ?_
                      refine so_nil ?_
                      refine fi_seq ?_
                      refine fi_region ?_
                      refine so_move (v := (.v v139)) rfl ?_
                      refine so_move (v := (.v (.int .i64 (1 : Int)))) rfl ?_
                      replace hs := (Sep.front 4 hs rfl)
                      refine sv_call (laws_markInt64S_ok v139 y138 (1 : Int) hs  _ h) rfl rfl nofun ?_
                      clear h hs
                      rintro _ H183 ⟨y181, y182, h, rfl, hs⟩
                      refine so_assign (v := (.v (.int .i64 y181))) rfl ?_
                      refine so_nil ?_
                      refine fi_seq ?_
                      refine fi_region ?_
                      refine so_move (v := (.v v142)) rfl ?_
                      refine so_move (v := (.v (.int .i64 y181))) rfl ?_
                      replace hs := (Sep.front 5 hs rfl)
                      refine sv_call (laws_markFloat32S_ok v142 y141 y181 hs  _ h) rfl rfl nofun ?_
                      clear h hs
                      rintro _ H186 ⟨y184, y185, h, rfl, hs⟩
                      refine so_assign (v := (.v (.int .i64 y184))) rfl ?_
                      refine so_nil ?_
                      refine fi_seq ?_
                      refine fi_region ?_
                      refine so_assign (v := (.v (.int .i64 (1 : Int)))) rfl ?_
                      refine so_nil ?_
                      refine fi_seq ?_
                      refine fi_region ?_
                      refine so_move (v := (.v v139)) rfl ?_
                      refine so_move (v := (.v (.int .i64 (1 : Int)))) rfl ?_
                      refine sv_callS (laws_heldInt64S_ok v139 y182 (1 : Int) hs (fun _ hs => (hs.shows 1 rfl)) _ h) (fun _ _ ⟨_, _, _, e⟩ => e) rfl rfl ?_
                      clear h
                      rintro _ _ ⟨y187, h, rfl, rfl⟩
                      refine so_assign (v := (.v (.int .i64 y187))) rfl ?_
                      refine so_nil ?_
                      refine fi_seq ?_
                      refine fi_seq ?_
                      refine fi_region ?_
                      refine so_move (v := (.v (.int .i64 y187))) rfl ?_
                      refine so_bin rfl rfl ab_lss ?_
                      refine so_nil ?_
                      replace h := ofP h; rcases h with ⟨c189, h⟩ | ⟨c189, h⟩
                      · refine fi_true rfl (decide_eq_true c189) ?_
                        refine fi_seq ?_
                        refine fi_region ?_
                        refine so_assign (v := (.v (.bool false))) rfl ?_
                        refine so_nil ?_
                        exact by_ret rfl ⟨_, h, rfl, (Sep.dropn 12 hs)⟩
                      · refine fi_false rfl (decide_eq_false c189) ?_
                        refine fi_skip ?_
                        refine fi_seq ?_
                        refine fi_region ?_
                        refine so_move (v := (.v v142)) rfl ?_
                        refine so_move (v := (.v (.int .i64 y187))) rfl ?_
                        refine sv_callS (laws_heldFloat32S_ok v142 y185 y187 hs (fun _ hs => (hs.shows 0 rfl)) _ h) (fun _ _ ⟨_, _, _, e⟩ => e) rfl rfl ?_
                        clear h
                        rintro _ _ ⟨y190, h, rfl, rfl⟩
                        refine so_assign (v := (.v (.int .i64 y190))) rfl ?_
                        refine so_nil ?_
                        refine fi_seq ?_
                        refine fi_seq ?_
                        refine fi_region ?_
                        refine so_move (v := (.v (.int .i64 y190))) rfl ?_
                        refine so_bin rfl rfl ab_lss ?_
                        refine so_nil ?_
                        replace h := ofP h; rcases h with ⟨c192, h⟩ | ⟨c192, h⟩
                        · refine fi_true rfl (decide_eq_true c192) ?_
                          refine fi_seq ?_
                          refine fi_region ?_
                          refine so_assign (v := (.v (.bool false))) rfl ?_
                          refine so_nil ?_
                          exact by_ret rfl ⟨_, h, rfl, (Sep.dropn 12 hs)⟩
                        · refine fi_false rfl (decide_eq_false c192) ?_
                          refine fi_skip ?_
                          refine fi_seq ?_
                          refine fi_seq ?_
                          refine fi_region ?_
                          refine so_move (v := (.v (.int .i64 y190))) rfl ?_
                          refine so_move (v := (.v (.int .i64 y184))) rfl ?_
                          refine so_bin rfl rfl ab_neq ?_
                          refine so_nil ?_
                          replace h := ofP h; rcases h with ⟨c193, h⟩ | ⟨c193, h⟩
                          · refine fi_false rfl (not_f (decide_eq_true c193)) ?_
                            refine fi_skip ?_
                            refine fi_seq ?_
                            refine fi_region ?_
                            refine sv_lds hs 11 rfl rfl (leb rfl) rfl F5.ag54 F5.sz54 ?_
                            refine sv_call (laws_toScheme_ok v0 l0 a1 hs (fun _ hs => (g0 _ hs.tl.tl.tl.tl.tl.tl.tl.tl.tl.tl.tl.tl)) _ h) rfl rfl nofun ?_
                            clear h hs
                            rintro _ H198 ⟨y194, y197, h, v195, rfl, hs⟩
                            refine so_move (v := (.v v2)) rfl ?_
                            refine sv_call (laws_toFloat32S_ok v2 l2 hs (fun _ hs => (g2 _ hs.tl.tl.tl.tl.tl.tl.tl.tl.tl.tl.tl.tl.tl)) _ h) rfl rfl nofun ?_
                            clear h hs
                            rintro _ H202 ⟨y199, h, v200, rfl, hs⟩
                            refine so_move (v := (.v (.int .i64 a3))) rfl ?_
                            refine so_move (v := (.v (.flt .f32 a4))) rfl ?_
                            refine sv_call (impl_RateTable_ok v195 y194 y197 v200 y199 a3 a4 hs (fun _ hs => (hs.shows 1 rfl)) (fun _ hs => (hs.shows 0 rfl)) _ h) rfl rfl nofun ?_
                            clear h hs
                            rintro _ H210 ⟨y203, y206, y209, h, v204, v207, rfl, hs⟩
                            refine so_move (v := (.t [(.v v204), (.v v207), (.v (.bool y209))])) rfl ?_
                            refine so_extract rfl rfl rfl ?_
                            refine so_extract rfl rfl rfl ?_
                            refine so_extract rfl rfl rfl ?_
                            refine so_assign (v := (.v v204)) rfl ?_
                            refine so_assign (v := (.v v207)) rfl ?_
                            refine so_assign (v := (.v (.bool y209))) rfl ?_
                            refine so_nil ?_
                            refine fi_seq ?_
                            refine fi_seq ?_
                            refine fi_region ?_
                            refine so_move (v := (.v v204)) rfl ?_
                            refine so_move (v := (.v v118)) rfl ?_
                            refine sv_callS (laws_eqInt64S_ok v204 y203 v118 y117 hs (fun _ hs => (hs.shows 0 rfl)) (fun _ hs => (hs.shows 11 rfl)) _ h) (fun _ _ ⟨_, _, _, e⟩ => e) rfl rfl ?_
                            clear h
                            rintro _ _ ⟨y211, h, rfl, rfl⟩
                            refine so_un rfl au_not ?_
                            refine so_move (v := (.v (.bool (!y211)))) rfl ?_
                            replace h := ofT h; rcases h with ⟨c213, h⟩ | ⟨c213, h⟩
                            · refine so_gyes rfl (not_f c213) ?_
                              refine so_move (v := (.v v207)) rfl ?_
                              refine so_gyes rfl (not_f c213) ?_
                              refine so_move (v := (.v v121)) rfl ?_
                              refine so_gyes rfl (not_f c213) ?_
                              refine sv_callS (laws_eqFloat32S_ok v207 y206 v121 y120 hs (fun _ hs => (hs.shows 1 rfl)) (fun _ hs => (hs.shows 12 rfl)) _ h) (fun _ _ ⟨_, _, _, e⟩ => e) rfl rfl ?_
                              clear h
                              rintro _ _ ⟨y214, h, rfl, rfl⟩
                              refine so_gyes rfl (not_f c213) ?_
                              refine so_un rfl au_not ?_
                              refine so_pick_f (v := (.v (.bool (!y214)))) rfl (not_f c213) rfl ?_
                              refine so_move (v := (.v (.bool (!y214)))) rfl ?_
                              replace h := ofT h; rcases h with ⟨c216, h⟩ | ⟨c216, h⟩
                              · refine so_gyes rfl (not_f c216) ?_
                                refine so_move (v := (.v (.bool y209))) rfl ?_
                                refine so_gyes rfl (not_f c216) ?_
                                refine so_move (v := (.v (.bool y123))) rfl ?_
                                refine so_gyes rfl (not_f c216) ?_
                                refine so_bin rfl rfl (ab_bneq F5.tb4) ?_
                                refine so_pick_f (v := (.v (.bool (!(y209 == y123))))) rfl (not_f c216) rfl ?_
                                refine so_nil ?_
                                replace h := ofT h; rcases h with ⟨c217, h⟩ | ⟨c217, h⟩
                                · refine fi_false rfl (not_f c217) ?_
                                  refine fi_skip ?_
                                  refine fi_seq ?_
                                  refine fi_region ?_
                                  refine so_assign (v := (.v (.int .i64 (1 : Int)))) rfl ?_
                                  refine so_nil ?_
                                  refine fi_seq ?_
                                  refine fi_region ?_
                                  refine so_move (v := (.v v139)) rfl ?_
                                  refine so_move (v := (.v (.int .i64 (1 : Int)))) rfl ?_
                                  refine sv_callS (laws_heldInt64S_ok v139 y182 (1 : Int) hs (fun _ hs => (hs.shows 5 rfl)) _ h) (fun _ _ ⟨_, _, _, e⟩ => e) rfl rfl ?_
                                  clear h
                                  rintro _ _ ⟨y218, h, rfl, rfl⟩
                                  refine so_assign (v := (.v (.int .i64 y218))) rfl ?_
                                  refine so_nil ?_
                                  refine fi_seq ?_
                                  refine fi_seq ?_
                                  refine fi_region ?_
                                  refine so_move (v := (.v (.int .i64 y218))) rfl ?_
                                  refine so_bin rfl rfl ab_lss ?_
                                  refine so_nil ?_
                                  replace h := ofP h; rcases h with ⟨c220, h⟩ | ⟨c220, h⟩
                                  · refine fi_true rfl (decide_eq_true c220) ?_
                                    refine fi_seq ?_
                                    refine fi_region ?_
                                    refine so_assign (v := (.v (.bool false))) rfl ?_
                                    refine so_nil ?_
                                    exact by_ret rfl ⟨_, h, rfl, (Sep.dropn 16 hs)⟩
                                  · refine fi_false rfl (decide_eq_false c220) ?_
                                    refine fi_skip ?_
                                    refine fi_seq ?_
                                    refine fi_region ?_
                                    refine so_move (v := (.v v142)) rfl ?_
                                    refine so_move (v := (.v (.int .i64 y218))) rfl ?_
                                    refine sv_callS (laws_heldFloat32S_ok v142 y185 y218 hs (fun _ hs => (hs.shows 4 rfl)) _ h) (fun _ _ ⟨_, _, _, e⟩ => e) rfl rfl ?_
                                    clear h
                                    rintro _ _ ⟨y221, h, rfl, rfl⟩
                                    refine so_assign (v := (.v (.int .i64 y221))) rfl ?_
                                    refine so_nil ?_
                                    refine fi_seq ?_
                                    refine fi_seq ?_
                                    refine fi_region ?_
                                    refine so_move (v := (.v (.int .i64 y221))) rfl ?_
                                    refine so_bin rfl rfl ab_lss ?_
                                    refine so_nil ?_
                                    replace h := ofP h; rcases h with ⟨c223, h⟩ | ⟨c223, h⟩
                                    · refine fi_true rfl (decide_eq_true c223) ?_
                                      refine fi_seq ?_
                                      refine fi_region ?_
                                      refine so_assign (v := (.v (.bool false))) rfl ?_
                                      refine so_nil ?_
                                      exact by_ret rfl ⟨_, h, rfl, (Sep.dropn 16 hs)⟩
                                    · refine fi_false rfl (decide_eq_false c223) ?_
                                      refine fi_skip ?_
                                      refine fi_seq ?_
                                      refine fi_seq ?_
                                      refine fi_region ?_
                                      refine so_move (v := (.v (.int .i64 y221))) rfl ?_
                                      refine so_move (v := (.v (.int .i64 y184))) rfl ?_
                                      refine so_bin rfl rfl ab_neq ?_
                                      refine so_nil ?_
                                      replace h := ofP h; rcases h with ⟨c224, h⟩ | ⟨c224, h⟩
                                      · refine fi_false rfl (not_f (decide_eq_true c224)) ?_
                                        refine fi_skip ?_
                                        refine fi_seq ?_
                                        refine fi_region ?_
                                        refine so_assign (v := (.v (.bool true))) rfl ?_
                                        refine so_nil ?_
                                        exact by_ret rfl ⟨_, h, rfl, (Sep.dropn 16 hs)⟩
                                      · refine fi_true rfl (not_t (decide_eq_false c224)) ?_
                                        refine fi_seq ?_
                                        refine fi_region ?_
                                        refine so_assign (v := (.v (.bool false))) rfl ?_
                                        refine so_nil ?_
                                        exact by_ret rfl ⟨_, h, rfl, (Sep.dropn 16 hs)⟩
                                · refine fi_true rfl (not_t c217) ?_
                                  refine fi_seq ?_
                                  refine fi_region ?_
                                  refine so_assign (v := (.v (.bool false))) rfl ?_
                                  refine so_nil ?_
                                  exact by_ret rfl ⟨_, h, rfl, (Sep.dropn 16 hs)⟩
                              · refine so_gno rfl (not_t c216) ?_
                                refine so_gno rfl (not_t c216) ?_
                                refine so_gno rfl (not_t c216) ?_
                                refine so_pick_t (v := (.v (.bool true))) rfl (not_t c216) rfl ?_
                                refine so_nil ?_
                                refine fi_true rfl rfl ?_
                                refine fi_seq ?_
                                refine fi_region ?_
                                refine so_assign (v := (.v (.bool false))) rfl ?_
                                refine so_nil ?_
                                exact by_ret rfl ⟨_, h, rfl, (Sep.dropn 16 hs)⟩
                            · refine so_gno rfl (not_t c213) ?_
                              refine so_gno rfl (not_t c213) ?_
                              refine so_gno rfl (not_t c213) ?_
                              refine so_gno rfl (not_t c213) ?_
                              refine so_pick_t (v := (.v (.bool true))) rfl (not_t c213) rfl ?_
                              refine so_move (v := (.v (.bool true))) rfl ?_
                              refine so_gno rfl rfl ?_
                              refine so_gno rfl rfl ?_
                              refine so_gno rfl rfl ?_
                              refine so_pick_t (v := (.v (.bool true))) rfl rfl rfl ?_
                              refine so_nil ?_
                              refine fi_true rfl rfl ?_
                              refine fi_seq ?_
                              refine fi_region ?_
                              refine so_assign (v := (.v (.bool false))) rfl ?_
                              refine so_nil ?_
                              exact by_ret rfl ⟨_, h, rfl, (Sep.dropn 16 hs)⟩
                          · refine fi_true rfl (not_t (decide_eq_false c193)) ?_
                            refine fi_seq ?_
                            refine fi_region ?_
                            refine so_assign (v := (.v (.bool false))) rfl ?_
                            refine so_nil ?_
                            exact by_ret rfl ⟨_, h, rfl, (Sep.dropn 12 hs)⟩
                    · refine so_gno rfl (not_t c180) ?_
                      refine so_gno rfl (not_t c180) ?_
                      refine so_gno rfl (not_t c180) ?_
                      refine so_pick_t (v := (.v (.bool true))) rfl (not_t c180) rfl ?_
                      refine so_nil ?_
                      refine fi_true rfl rfl ?_
                      refine fi_seq ?_
                      refine fi_region ?_
                      refine so_assign (v := (.v (.bool false))) rfl ?_
                      refine so_nil ?_
                      exact by_ret rfl ⟨_, h, rfl, (Sep.dropn 12 hs)⟩
                  · refine so_gno rfl (not_t c177) ?_
                    refine so_gno rfl (not_t c177) ?_
                    refine so_gno rfl (not_t c177) ?_
                    refine so_gno rfl (not_t c177) ?_
                    refine so_pick_t (v := (.v (.bool true))) rfl (not_t c177) rfl ?_
                    refine so_move (v := (.v (.bool true))) rfl ?_
                    refine so_gno rfl rfl ?_
                    refine so_gno rfl rfl ?_
                    refine so_gno rfl rfl ?_
                    refine so_pick_t (v := (.v (.bool true))) rfl rfl rfl ?_
                    refine so_nil ?_
                    refine fi_true rfl rfl ?_
                    refine fi_seq ?_
                    refine fi_region ?_
                    refine so_assign (v := (.v (.bool false))) rfl ?_
                    refine so_nil ?_
                    exact by_ret rfl ⟨_, h, rfl, (Sep.dropn 12 hs)⟩
              · refine fi_true rfl (not_t c167) ?_
                refine fi_seq ?_
                refine fi_region ?_
                refine so_assign (v := (.v (.bool false))) rfl ?_
                refine so_nil ?_
                exact by_ret rfl ⟨_, h, rfl, (Sep.dropn 12 hs)⟩
            · refine fi_true rfl (not_t c160) ?_
              refine fi_seq ?_
              refine fi_region ?_
              refine so_assign (v := (.v (.bool false))) rfl ?_
              refine so_nil ?_
              exact by_ret rfl ⟨_, h, rfl, (Sep.dropn 11 hs)⟩
          · refine fi_true rfl (not_t c152) ?_
            refine fi_seq ?_
            refine fi_region ?_
            refine so_assign (v := (.v (.bool false))) rfl ?_
            refine so_nil ?_
            exact by_ret rfl ⟨_, h, rfl, (Sep.dropn 10 hs)⟩
        · refine so_gno rfl (not_t c151) ?_
          refine so_gno rfl (not_t c151) ?_
          refine so_gno rfl (not_t c151) ?_
          refine so_pick_t (v := (.v (.bool true))) rfl (not_t c151) rfl ?_
          refine so_nil ?_
          refine fi_true rfl rfl ?_
          refine fi_seq ?_
          refine fi_region ?_
          refine so_assign (v := (.v (.bool false))) rfl ?_
          refine so_nil ?_
          exact by_ret rfl ⟨_, h, rfl, (Sep.dropn 10 hs)⟩
      · refine so_gno rfl (not_t c148) ?_
        refine so_gno rfl (not_t c148) ?_
        refine so_gno rfl (not_t c148) ?_
        refine so_gno rfl (not_t c148) ?_
        refine so_pick_t (v := (.v (.bool true))) rfl (not_t c148) rfl ?_
        refine so_move (v := (.v (.bool true))) rfl ?_
        refine so_gno rfl rfl ?_
        refine so_gno rfl rfl ?_
        refine so_gno rfl rfl ?_
        refine so_pick_t (v := (.v (.bool true))) rfl rfl rfl ?_
        refine so_nil ?_
        refine fi_true rfl rfl ?_
        refine fi_seq ?_
        refine fi_region ?_
        refine so_assign (v := (.v (.bool false))) rfl ?_
        refine so_nil ?_
        exact by_ret rfl ⟨_, h, rfl, (Sep.dropn 10 hs)⟩
end Go.Proofs.Ytfhlhgnipmgfdaa.G
