/-
  The model ends so. Printed by a program of the session; nothing here is trusted.
-/
import Derived.Test.YtecdkjnomkdbkaaDoorProg
import Derived.KernelRfl
import Derived.Test.YtecdkjnomkdbkaaDoorMStreamsWa
import Derived.Test.YtecdkjnomkdbkaaDoorShelf
import Derived.Test.YtecdkjnomkdbkaaDoorMStreamsKa
namespace Go.Proofs.YtecdkjnomkdbkaaDoor.G
open Go Go.Ab Go.Proofs Go.Proofs.YtecdkjnomkdbkaaDoor
set_option maxRecDepth 100000
set_option linter.unusedVariables false
set_option linter.unusedSimpArgs false
set_option maxHeartbeats 1000000
attribute [local irreducible] wops wopf Go.Ab.Fin
theorem F4.ag2 : tagg Tryd.prog 2 = some false := by kernel_rfl
theorem F4.ag33 : tagg Tryd.prog 33 = some false := by kernel_rfl
theorem F4.ag35 : tagg Tryd.prog 35 = some true := by kernel_rfl
theorem F4.ag4 : tagg Tryd.prog 4 = some false := by kernel_rfl
theorem F4.fd35_0 : tfield Tryd.prog 35 0 = some (0, 1, false) := by kernel_rfl
theorem F4.fd35_1 : tfield Tryd.prog 35 1 = some (1, 1, false) := by kernel_rfl
theorem F4.fd35_2 : tfield Tryd.prog 35 2 = some (2, 1, false) := by kernel_rfl
theorem F4.fl58 : tflt Tryd.prog 58 = some .f64 := by kernel_rfl
theorem F4.in58 : tint Tryd.prog 58 = none := by kernel_rfl
theorem F4.it47 : tint Tryd.prog 47 = some .u64 := by kernel_rfl
theorem F4.sz35 : tsz Tryd.prog 35 = some 3 := by kernel_rfl
theorem F4.tb4 : tbool Tryd.prog 4 = true := by kernel_rfl
theorem F4.ti31 : (telem Tryd.prog 31).isSome = true := by kernel_rfl
theorem F4.ti33 : (telem Tryd.prog 33).isSome = true := by kernel_rfl
theorem F4.tl31 : (telem Tryd.prog 31).bind (tsz Tryd.prog) = some 1 := by kernel_rfl
theorem F4.tl33 : (telem Tryd.prog 33).bind (tsz Tryd.prog) = some 1 := by kernel_rfl
theorem F4.us2 : (Tryd.prog.underlying 2).isSome = true := by kernel_rfl
theorem F4.us55 : (Tryd.prog.underlying 55).isSome = true := by kernel_rfl
theorem F4.ze35 : tzero Tryd.prog 35 = some [(.int .i64 (0 : Int)), (.int .i64 (0 : Int)), .nilsl] := by kernel_rfl
theorem laws_FnStreams_ok {fr : List Pc} {H : Heap} (v0 : AV) (l0 : List (Int)) (v1 : AV) (l1 : List (Int)) (hs : Sep H (fr)) (g0 : ∀ H, Sep H fr → Shows H v0 1 (enc (eInt .u8) l0)) (g1 : ∀ H, Sep H fr → Shows H v1 1 (enc (eInt .u8) l1)) (K : Bool → Prop) (h : laws_FnStreams.wp l0 l1 K) : OkQ Tryd.prog 4 [(.v v0), (.v v1)] H (fun r H2 => ∃ (y0 : Bool), K y0 ∧ r = (.v (.bool y0)) ∧ Sep H2 (fr)) := by
  unfold laws_FnStreams.wp at h
  refine of_body Tryd.f4 F.hm Tryd.func4 rfl Tryd.call4 (by kernel_rfl) (by simp) ?_
  refine fi_seq ?_
  refine fi_region ?_
  refine so_assign (v := (.v (.bool false))) rfl ?_
  refine so_nil ?_
  refine fi_seq ?_
  refine fi_seq ?_
  refine fi_region ?_
  refine so_move (v := (.v v0)) rfl ?_
  refine so_move (v := (.v v1)) rfl ?_
  refine sv_callS (laws_r8Long_ok v0 l0 v1 l1 hs (fun _ hs => (g0 _ hs)) (fun _ hs => (g1 _ hs)) _ h) (fun _ _ ⟨_, _, _, e⟩ => e) rfl rfl ?_
  clear h
  rintro _ _ ⟨y101, h, rfl, rfl⟩
  refine so_nil ?_
  replace h := ofT h; rcases h with ⟨c103, h⟩ | ⟨c103, h⟩
  · refine fi_true rfl c103 ?_
    refine fi_seq ?_
    refine fi_region ?_
    refine so_assign (v := (.v (.bool true))) rfl ?_
    refine so_nil ?_
    exact by_ret rfl ⟨_, h, rfl, hs⟩
  · refine fi_false rfl c103 ?_
    refine fi_skip ?_
    refine fi_seq ?_
    refine fi_region ?_
    refine so_move (v := (.v v0)) rfl ?_
    refine sv_call (spec_R8Integers_ok v0 l0 hs (fun _ hs => (g0 _ hs)) _ h) rfl rfl nofun ?_
    clear h hs
    rintro _ H107 ⟨y104, h, v105, rfl, hs⟩
    refine so_assign (v := (.v v105)) rfl ?_
    refine so_nil ?_
    refine fi_seq ?_
    refine fi_region ?_
    refine so_move (v := (.v v105)) rfl ?_
    refine sv_len (hs.shows 0 rfl) (fun _ => rfl) (by decide) rfl F4.ti31 ?_
    refine so_assign (v := (.v (.int .i64 (y104.length : Int)))) rfl ?_
    refine so_nil ?_
    refine fi_seq ?_
    refine fi_region ?_
    refine so_move (v := (.v v105)) rfl ?_
    refine sv_call (impl_CodeList_ok v105 y104 hs (fun _ hs => (hs.shows 0 rfl)) _ h) rfl rfl nofun ?_
    clear h hs
    rintro _ H114 ⟨y108, y109, y110, y113, h, v111, rfl, hs⟩
    refine so_move (v := (.t [(.g [(.int .i64 y108), (.int .i64 y109), v111]), (.v (.bool y113))])) rfl ?_
    refine so_extract rfl rfl rfl ?_
    refine so_extract rfl rfl rfl ?_
    refine sv_alloc hs F4.ze35 rfl nofun (fun id115 H116 hs => ?_)
    refine sv_st hs 0 rfl rfl rfl (c := [(.int .i64 y108), (.int .i64 y109), v111]) rfl F4.sz35 rfl (stc rfl (stc rfl (stc (hs.shows 1 rfl).stor stn))) (leb rfl) (cs' := [(.int .i64 y108), (.int .i64 y109), v111]) rfl nofun (fun H118 hs => ?_)
    refine so_assign (v := (.v (.bool y113))) rfl ?_
    refine so_nil ?_
    refine fi_seq ?_
    refine fi_region ?_
    refine sv_lds hs 0 rfl rfl (leb rfl) rfl F4.ag35 F4.sz35 ?_
    refine sv_call (impl_ListFrom_ok y108 y109 v111 y110 hs (fun _ hs => (hs.shows 1 rfl)) _ h) rfl rfl nofun ?_
    clear h hs
    rintro _ H123 ⟨y119, y122, h, v120, rfl, hs⟩
    refine so_move (v := (.t [(.v v120), (.v (.bool y122))])) rfl ?_
    refine so_extract rfl rfl rfl ?_
    refine so_extract rfl rfl rfl ?_
    refine so_assign (v := (.v v120)) rfl ?_
    refine so_assign (v := (.v (.bool y122))) rfl ?_
    refine so_nil ?_
    refine fi_seq ?_
    refine fi_region ?_
    refine so_move (v := (.v v105)) rfl ?_
    refine sv_callS (impl_PlanesFor_ok v105 y104 hs (fun _ hs => (hs.shows 3 rfl)) _ h) (fun _ _ ⟨_, _, _, _, e⟩ => e) rfl rfl ?_
    clear h
    rintro _ _ ⟨y124, y125, h, rfl, rfl⟩
    refine so_move (v := (.t [(.v (.int .i64 y124)), (.v (.bool y125))])) rfl ?_
    refine so_extract rfl rfl rfl ?_
    refine so_extract rfl rfl rfl ?_
    refine so_assign (v := (.v (.int .i64 y124))) rfl ?_
    refine so_assign (v := (.v (.bool y125))) rfl ?_
    refine so_nil ?_
    refine fi_seq ?_
    refine fi_seq ?_
    refine fi_region ?_
    refine so_move (v := (.v (.bool y113))) rfl ?_
    refine so_un rfl au_not ?_
    refine so_move (v := (.v (.bool (!y113)))) rfl ?_
    replace h := ofT h; rcases h with ⟨c127, h⟩ | ⟨c127, h⟩
    · refine so_gyes rfl (not_f c127) ?_
      refine so_move (v := (.v (.bool y122))) rfl ?_
      refine so_gyes rfl (not_f c127) ?_
      refine so_un rfl au_not ?_
      refine so_pick_f (v := (.v (.bool (!y122)))) rfl (not_f c127) rfl ?_
      refine so_move (v := (.v (.bool (!y122)))) rfl ?_
      replace h := ofT h; rcases h with ⟨c128, h⟩ | ⟨c128, h⟩
      · refine so_gyes rfl (not_f c128) ?_
        refine so_move (v := (.v (.bool y125))) rfl ?_
        refine so_gyes rfl (not_f c128) ?_
        refine so_un rfl au_not ?_
        refine so_pick_f (v := (.v (.bool (!y125)))) rfl (not_f c128) rfl ?_
        refine so_move (v := (.v (.bool (!y125)))) rfl ?_
        replace h := ofT h; rcases h with ⟨c129, h⟩ | ⟨c129, h⟩
        · refine so_gyes rfl (not_f c129) ?_
          refine so_move (v := (.v v120)) rfl ?_
          refine so_gyes rfl (not_f c129) ?_
          refine sv_len (hs.shows 0 rfl) (fun _ => rfl) (by decide) rfl F4.ti31 ?_
          refine so_gyes rfl (not_f c129) ?_
          refine so_move (v := (.v (.int .i64 (y104.length : Int)))) rfl ?_
          refine so_gyes rfl (not_f c129) ?_
          refine so_bin rfl rfl ab_neq ?_
          refine so_pick_f (v := (.v (.bool (!(decide ((y119.length : Int) = (y104.length : Int))))))) rfl (not_f c129) rfl ?_
          refine so_move (v := (.v (.bool (!(decide ((y119.length : Int) = (y104.length : Int))))))) rfl ?_
          replace h := ofP h; rcases h with ⟨c130, h⟩ | ⟨c130, h⟩
          · refine so_gyes rfl (not_f (decide_eq_true c130)) ?_
            refine so_fieldAddr rfl F4.fd35_1 ?_
            refine so_gyes rfl (not_f (decide_eq_true c130)) ?_
            refine sv_ld hs 1 rfl rfl rfl F4.ag2 ?_
            refine so_gyes rfl (not_f (decide_eq_true c130)) ?_
            refine so_move (v := (.v (.int .i64 y124))) rfl ?_
            refine so_gyes rfl (not_f (decide_eq_true c130)) ?_
            refine so_bin rfl rfl ab_neq ?_
            refine so_pick_f (v := (.v (.bool (!(decide (y109 = y124)))))) rfl (not_f (decide_eq_true c130)) rfl ?_
            refine so_move (v := (.v (.bool (!(decide (y109 = y124)))))) rfl ?_
            replace h := ofP h; rcases h with ⟨c131, h⟩ | ⟨c131, h⟩
            · refine so_gyes rfl (not_f (decide_eq_true c131)) ?_
              refine so_fieldAddr rfl F4.fd35_0 ?_
              refine so_gyes rfl (not_f (decide_eq_true c131)) ?_
              refine sv_ld hs 1 rfl rfl rfl F4.ag2 ?_
              refine so_gyes rfl (not_f (decide_eq_true c131)) ?_
              refine so_move (v := (.v (.int .i64 (y104.length : Int)))) rfl ?_
              refine so_gyes rfl (not_f (decide_eq_true c131)) ?_
              refine so_bin rfl rfl ab_neq ?_
              refine so_pick_f (v := (.v (.bool (!(decide (y108 = (y104.length : Int))))))) rfl (not_f (decide_eq_true c131)) rfl ?_
              refine so_nil ?_
              replace h := ofP h; rcases h with ⟨c132, h⟩ | ⟨c132, h⟩
              · refine fi_false rfl (not_f (decide_eq_true c132)) ?_
                refine fi_skip ?_
                refine fi_seq ?_
                refine fi_seq ?_
                refine fi_region ?_
                refine so_assign (v := (.v (.int .i64 (0 : Int)))) rfl ?_
                refine so_nil ?_
                refine fi_block ?_
                refine fi_loop ?_
                refine fi_at [(1, (.v v1)), (5, (.v v105)), (6, (.v (.int .i64 (y104.length : Int)))), (7, (.v (.ptr id115 0))), (9, (.v v120)), (11, (.v (.int .i64 y124))), (13, (.v (.int .i64 (0 : Int))))] ⟨rfl, rfl, rfl, rfl, rfl, rfl, rfl, trivial⟩ ?_
                refine h (fun (i134 : Int) => ∀ (s : Nat → TV) (H : Heap), Sep H (Pc.osl v120 1 (enc (eInt .i64) y119) :: Pc.box id115 [(.int .i64 y108), (.int .i64 y109), v111] :: Pc.osl v111 1 (enc eBool y110) :: Pc.osl v105 1 (enc (eInt .i64) y104) :: fr) → Fin _ _ (updL s [(1, (.v v1)), (5, (.v v105)), (6, (.v (.int .i64 (y104.length : Int)))), (7, (.v (.ptr id115 0))), (9, (.v v120)), (11, (.v (.int .i64 y124))), (13, (.v (.int .i64 i134)))]) H _) ?_ _ _ hs
                intro i134 h s293 H294 hs
                refine fi_inLoop ?_
                refine fi_seq ?_
                refine fi_seq ?_
                refine fi_region ?_
                refine so_move (v := (.v (.int .i64 i134))) rfl ?_
                refine so_move (v := (.v (.int .i64 (y104.length : Int)))) rfl ?_
                refine so_bin rfl rfl ab_lss ?_
                refine so_nil ?_
                replace h := ofP h; rcases h with ⟨c135, h⟩ | ⟨c135, h⟩
                · refine fi_true rfl (decide_eq_true c135) ?_
                  refine fi_skip ?_
                  refine fi_seq ?_
                  refine fi_block ?_
                  refine fi_seq ?_
                  refine fi_region ?_
                  refine so_move (v := (.v v105)) rfl ?_
                  refine so_move (v := (.v (.int .i64 i134))) rfl ?_
                  obtain ⟨c136, h⟩ := h
                  refine sv_idx (hs.shows 3 rfl) c136 (fun _ => rfl) (by decide) rfl rfl F4.tl31 ?_
                  refine sv_cell (hs.shows 3 rfl) c136 (0 : Int) 0 (fun x => (AV.int .i64 x)) (fun _ => rfl) (fun _ => rfl) rfl F4.ag2 ?_
                  refine sv_callS (impl_ZigZag_ok (y104.getD (i134).toNat (0 : Int)) hs  _ h) (fun _ _ ⟨_, _, _, _, e⟩ => e) rfl rfl ?_
                  clear h
                  rintro _ _ ⟨y137, y138, h, rfl, rfl⟩
                  refine so_move (v := (.t [(.v (.int .i64 y137)), (.v (.bool y138))])) rfl ?_
                  refine so_extract rfl rfl rfl ?_
                  refine so_extract rfl rfl rfl ?_
                  refine so_assign (v := (.v (.int .i64 y137))) rfl ?_
                  refine so_assign (v := (.v (.bool y138))) rfl ?_
                  refine so_nil ?_
                  refine fi_seq ?_
                  refine fi_region ?_
                  refine so_move (v := (.v (.int .i64 y137))) rfl ?_
                  refine sv_callS (impl_FromZigZag_ok y137 hs  _ h) (fun _ _ ⟨_, _, _, _, e⟩ => e) rfl rfl ?_
                  clear h
                  rintro _ _ ⟨y140, y141, h, rfl, rfl⟩
                  refine so_move (v := (.t [(.v (.int .i64 y140)), (.v (.bool y141))])) rfl ?_
                  refine so_extract rfl rfl rfl ?_
                  refine so_extract rfl rfl rfl ?_
                  refine so_assign (v := (.v (.int .i64 y140))) rfl ?_
                  refine so_assign (v := (.v (.bool y141))) rfl ?_
                  refine so_nil ?_
                  refine fi_seq ?_
                  refine fi_region ?_
                  refine so_move (v := (.v v120)) rfl ?_
                  refine so_move (v := (.v (.int .i64 i134))) rfl ?_
                  obtain ⟨c143, h⟩ := h
                  refine sv_idx (hs.shows 0 rfl) c143 (fun _ => rfl) (by decide) rfl rfl F4.tl31 ?_
                  refine sv_cell (hs.shows 0 rfl) c143 (0 : Int) 0 (fun x => (AV.int .i64 x)) (fun _ => rfl) (fun _ => rfl) rfl F4.ag2 ?_
                  refine so_move (v := (.v v105)) rfl ?_
                  refine so_move (v := (.v (.int .i64 i134))) rfl ?_
                  refine sv_idx (hs.shows 3 rfl) c136 (fun _ => rfl) (by decide) rfl rfl F4.tl31 ?_
                  refine sv_cell (hs.shows 3 rfl) c136 (0 : Int) 0 (fun x => (AV.int .i64 x)) (fun _ => rfl) (fun _ => rfl) rfl F4.ag2 ?_
                  refine so_bin rfl rfl ab_neq ?_
                  refine so_move (v := (.v (.bool (!(decide ((y119.getD (i134).toNat (0 : Int)) = (y104.getD (i134).toNat (0 : Int)))))))) rfl ?_
                  replace h := ofP h; rcases h with ⟨c144, h⟩ | ⟨c144, h⟩
                  · refine so_gyes rfl (not_f (decide_eq_true c144)) ?_
                    refine so_move (v := (.v (.bool y138))) rfl ?_
                    refine so_gyes rfl (not_f (decide_eq_true c144)) ?_
                    refine so_un rfl au_not ?_
                    refine so_pick_f (v := (.v (.bool (!y138)))) rfl (not_f (decide_eq_true c144)) rfl ?_
                    refine so_move (v := (.v (.bool (!y138)))) rfl ?_
                    replace h := ofT h; rcases h with ⟨c145, h⟩ | ⟨c145, h⟩
                    · refine so_gyes rfl (not_f c145) ?_
                      refine so_move (v := (.v (.bool y141))) rfl ?_
                      refine so_gyes rfl (not_f c145) ?_
                      refine so_un rfl au_not ?_
                      refine so_pick_f (v := (.v (.bool (!y141)))) rfl (not_f c145) rfl ?_
                      refine so_move (v := (.v (.bool (!y141)))) rfl ?_
                      replace h := ofT h; rcases h with ⟨c146, h⟩ | ⟨c146, h⟩
                      · refine so_gyes rfl (not_f c146) ?_
                        refine so_move (v := (.v (.int .i64 y140))) rfl ?_
                        refine so_gyes rfl (not_f c146) ?_
                        refine so_move (v := (.v v105)) rfl ?_
                        refine so_gyes rfl (not_f c146) ?_
                        refine so_move (v := (.v (.int .i64 i134))) rfl ?_
                        refine so_gyes rfl (not_f c146) ?_
                        refine sv_idx (hs.shows 3 rfl) c136 (fun _ => rfl) (by decide) rfl rfl F4.tl31 ?_
                        refine so_gyes rfl (not_f c146) ?_
                        refine sv_cell (hs.shows 3 rfl) c136 (0 : Int) 0 (fun x => (AV.int .i64 x)) (fun _ => rfl) (fun _ => rfl) rfl F4.ag2 ?_
                        refine so_gyes rfl (not_f c146) ?_
                        refine so_bin rfl rfl ab_neq ?_
                        refine so_pick_f (v := (.v (.bool (!(decide (y140 = (y104.getD (i134).toNat (0 : Int)))))))) rfl (not_f c146) rfl ?_
                        refine so_move (v := (.v (.bool (!(decide (y140 = (y104.getD (i134).toNat (0 : Int)))))))) rfl ?_
                        replace h := ofP h; rcases h with ⟨c147, h⟩ | ⟨c147, h⟩
                        · refine so_gyes rfl (not_f (decide_eq_true c147)) ?_
                          refine so_move (v := (.v (.int .i64 y137))) rfl ?_
                          refine so_gyes rfl (not_f (decide_eq_true c147)) ?_
                          refine so_bin rfl rfl ab_lss ?_
                          refine so_pick_f (v := (.v (.bool (decide (y137 < (0 : Int)))))) rfl (not_f (decide_eq_true c147)) rfl ?_
                          refine so_nil ?_
                          replace h := ofP h; rcases h with ⟨c148, h⟩ | ⟨c148, h⟩
                          · refine fi_true rfl (decide_eq_true c148) ?_
                            refine fi_seq ?_
                            refine fi_region ?_
                            refine so_assign (v := (.v (.bool false))) rfl ?_
                            refine so_nil ?_
                            exact by_ret rfl ⟨_, h, rfl, (Sep.dropn 4 hs)⟩
                          · refine fi_false rfl (decide_eq_false c148) ?_
                            refine fi_skip ?_
                            refine fi_inBlock ?_
                            refine fi_region ?_
                            refine so_move (v := (.v (.int .i64 i134))) rfl ?_
                            refine so_bin rfl rfl ab_add ?_
                            refine so_assign (v := (.v (.int .i64 (IntKind.i64.wrap (i134 + (1 : Int)))))) rfl ?_
                            refine so_nil ?_
                            exact fi_at [(1, (.v v1)), (5, (.v v105)), (6, (.v (.int .i64 (y104.length : Int)))), (7, (.v (.ptr id115 0))), (9, (.v v120)), (11, (.v (.int .i64 y124))), (13, (.v (.int .i64 (IntKind.i64.wrap (i134 + (1 : Int))))))] ⟨rfl, rfl, rfl, rfl, rfl, rfl, rfl, trivial⟩ (h _ _  hs)
                        · refine so_gno rfl (not_t (decide_eq_false c147)) ?_
                          refine so_gno rfl (not_t (decide_eq_false c147)) ?_
                          refine so_pick_t (v := (.v (.bool true))) rfl (not_t (decide_eq_false c147)) rfl ?_
                          refine so_nil ?_
                          refine fi_true rfl rfl ?_
                          refine fi_seq ?_
                          refine fi_region ?_
                          refine so_assign (v := (.v (.bool false))) rfl ?_
                          refine so_nil ?_
                          exact by_ret rfl ⟨_, h, rfl, (Sep.dropn 4 hs)⟩
                      · refine so_gno rfl (not_t c146) ?_
                        refine so_gno rfl (not_t c146) ?_
                        refine so_gno rfl (not_t c146) ?_
                        refine so_gno rfl (not_t c146) ?_
                        refine so_gno rfl (not_t c146) ?_
                        refine so_gno rfl (not_t c146) ?_
                        refine so_pick_t (v := (.v (.bool true))) rfl (not_t c146) rfl ?_
                        refine so_move (v := (.v (.bool true))) rfl ?_
                        refine so_gno rfl rfl ?_
                        refine so_gno rfl rfl ?_
                        refine so_pick_t (v := (.v (.bool true))) rfl rfl rfl ?_
                        refine so_nil ?_
                        refine fi_true rfl rfl ?_
                        refine fi_seq ?_
                        refine fi_region ?_
                        refine so_assign (v := (.v (.bool false))) rfl ?_
                        refine so_nil ?_
                        exact by_ret rfl ⟨_, h, rfl, (Sep.dropn 4 hs)⟩
                    · refine so_gno rfl (not_t c145) ?_
                      refine so_gno rfl (not_t c145) ?_
                      refine so_pick_t (v := (.v (.bool true))) rfl (not_t c145) rfl ?_
                      refine so_move (v := (.v (.bool true))) rfl ?_
                      refine so_gno rfl rfl ?_
                      refine so_gno rfl rfl ?_
                      refine so_gno rfl rfl ?_
                      refine so_gno rfl rfl ?_
                      refine so_gno rfl rfl ?_
                      refine so_gno rfl rfl ?_
                      refine so_pick_t (v := (.v (.bool true))) rfl rfl rfl ?_
                      refine so_move (v := (.v (.bool true))) rfl ?_
                      refine so_gno rfl rfl ?_
                      refine so_gno rfl rfl ?_
                      refine so_pick_t (v := (.v (.bool true))) rfl rfl rfl ?_
                      refine so_nil ?_
                      refine fi_true rfl rfl ?_
                      refine fi_seq ?_
                      refine fi_region ?_
                      refine so_assign (v := (.v (.bool false))) rfl ?_
                      refine so_nil ?_
                      exact by_ret rfl ⟨_, h, rfl, (Sep.dropn 4 hs)⟩
                  · refine so_gno rfl (not_t (decide_eq_false c144)) ?_
                    refine so_gno rfl (not_t (decide_eq_false c144)) ?_
                    refine so_pick_t (v := (.v (.bool true))) rfl (not_t (decide_eq_false c144)) rfl ?_
                    refine so_move (v := (.v (.bool true))) rfl ?_
                    refine so_gno rfl rfl ?_
                    refine so_gno rfl rfl ?_
                    refine so_pick_t (v := (.v (.bool true))) rfl rfl rfl ?_
                    refine so_move (v := (.v (.bool true))) rfl ?_
                    refine so_gno rfl rfl ?_
                    refine so_gno rfl rfl ?_
                    refine so_gno rfl rfl ?_
                    refine so_gno rfl rfl ?_
                    refine so_gno rfl rfl ?_
                    refine so_gno rfl rfl ?_
                    refine so_pick_t (v := (.v (.bool true))) rfl rfl rfl ?_
                    refine so_move (v := (.v (.bool true))) rfl ?_
                    refine so_gno rfl rfl ?_
                    refine so_gno rfl rfl ?_
                    refine so_pick_t (v := (.v (.bool true))) rfl rfl rfl ?_
                    refine so_nil ?_
                    refine fi_true rfl rfl ?_
                    refine fi_seq ?_
                    refine fi_region ?_
                    refine so_assign (v := (.v (.bool false))) rfl ?_
                    refine so_nil ?_
                    exact by_ret rfl ⟨_, h, rfl, (Sep.dropn 4 hs)⟩
                · refine fi_false rfl (decide_eq_false c135) ?_
                  refine fi_exit rfl ?_
                  refine fi_seq ?_
                  refine fi_region ?_
                  refine so_move (v := (.v v1)) rfl ?_
                  refine so_fieldAddr rfl F4.fd35_2 ?_
                  refine sv_ld hs 1 rfl rfl rfl F4.ag33 ?_
                  refine sv_len (hs.shows 2 rfl) (fun _ => rfl) (by decide) rfl F4.ti33 ?_
                  refine so_bin rfl rfl ab_add ?_
                  refine sv_callS (laws_r8At_ok v1 l1 (0 : Int) (IntKind.i64.wrap ((y110.length : Int) + (1 : Int))) hs (fun _ hs => (g1 _ hs.tl.tl.tl.tl)) _ h) (fun _ _ ⟨_, _, _, e⟩ => e) rfl rfl ?_
                  clear h
                  rintro _ _ ⟨y149, h, rfl, rfl⟩
                  refine so_assign (v := (.v (.int .i64 y149))) rfl ?_
                  refine so_nil ?_
                  refine fi_seq ?_
                  refine fi_region ?_
                  refine sv_lds hs 1 rfl rfl (leb rfl) rfl F4.ag35 F4.sz35 ?_
                  refine so_move (v := (.v (.int .i64 y149))) rfl ?_
                  refine sv_call (impl_CutCoded_ok y108 y109 v111 y110 y149 hs (fun _ hs => (hs.shows 2 rfl)) _ h) rfl rfl nofun ?_
                  clear h hs
                  rintro _ H157 ⟨y151, y152, y153, y156, h, v154, rfl, hs⟩
                  refine so_move (v := (.t [(.g [(.int .i64 y151), (.int .i64 y152), v154]), (.v (.bool y156))])) rfl ?_
                  refine so_extract rfl rfl rfl ?_
                  refine so_extract rfl rfl rfl ?_
                  refine sv_alloc hs F4.ze35 rfl nofun (fun id158 H159 hs => ?_)
                  refine sv_st hs 0 rfl rfl rfl (c := [(.int .i64 y151), (.int .i64 y152), v154]) rfl F4.sz35 rfl (stc rfl (stc rfl (stc (hs.shows 1 rfl).stor stn))) (leb rfl) (cs' := [(.int .i64 y151), (.int .i64 y152), v154]) rfl nofun (fun H161 hs => ?_)
                  refine so_assign (v := (.v (.bool y156))) rfl ?_
                  refine so_nil ?_
                  refine fi_seq ?_
                  refine fi_region ?_
                  refine sv_lds hs 0 rfl rfl (leb rfl) rfl F4.ag35 F4.sz35 ?_
                  refine sv_call (impl_ListFrom_ok y151 y152 v154 y153 hs (fun _ hs => (hs.shows 1 rfl)) _ h) rfl rfl nofun ?_
                  clear h hs
                  rintro _ H166 ⟨y162, y165, h, v163, rfl, hs⟩
                  refine so_move (v := (.t [(.v v163), (.v (.bool y165))])) rfl ?_
                  refine so_extract rfl rfl rfl ?_
                  refine so_extract rfl rfl rfl ?_
                  refine so_assign (v := (.v v163)) rfl ?_
                  refine so_assign (v := (.v (.bool y165))) rfl ?_
                  refine so_nil ?_
                  refine fi_seq ?_
                  refine fi_seq ?_
                  refine fi_region ?_
                  refine so_move (v := (.v (.bool y156))) rfl ?_
                  refine so_un rfl au_not ?_
                  refine so_move (v := (.v (.bool (!y156)))) rfl ?_
                  replace h := ofT h; rcases h with ⟨c167, h⟩ | ⟨c167, h⟩
                  · refine so_gyes rfl (not_f c167) ?_
                    refine so_move (v := (.v (.bool y165))) rfl ?_
                    refine so_gyes rfl (not_f c167) ?_
                    refine so_un rfl au_not ?_
                    refine so_pick_f (v := (.v (.bool (!y165)))) rfl (not_f c167) rfl ?_
                    refine so_move (v := (.v (.bool (!y165)))) rfl ?_
                    replace h := ofT h; rcases h with ⟨c168, h⟩ | ⟨c168, h⟩
                    · refine so_gyes rfl (not_f c168) ?_
                      refine so_move (v := (.v v163)) rfl ?_
                      refine so_gyes rfl (not_f c168) ?_
                      refine sv_len (hs.shows 0 rfl) (fun _ => rfl) (by decide) rfl F4.ti31 ?_
                      refine so_gyes rfl (not_f c168) ?_
                      refine so_move (v := (.v (.int .i64 (y104.length : Int)))) rfl ?_
                      refine so_gyes rfl (not_f c168) ?_
                      refine so_bin rfl rfl ab_neq ?_
                      refine so_pick_f (v := (.v (.bool (!(decide ((y162.length : Int) = (y104.length : Int))))))) rfl (not_f c168) rfl ?_
                      refine so_move (v := (.v (.bool (!(decide ((y162.length : Int) = (y104.length : Int))))))) rfl ?_
                      replace h := ofP h; rcases h with ⟨c169, h⟩ | ⟨c169, h⟩
                      · refine so_gyes rfl (not_f (decide_eq_true c169)) ?_
                        refine so_fieldAddr rfl F4.fd35_2 ?_
                        refine so_gyes rfl (not_f (decide_eq_true c169)) ?_
                        refine sv_ld hs 1 rfl rfl rfl F4.ag33 ?_
                        refine so_gyes rfl (not_f (decide_eq_true c169)) ?_
                        refine sv_len (hs.shows 2 rfl) (fun _ => rfl) (by decide) rfl F4.ti33 ?_
                        refine so_gyes rfl (not_f (decide_eq_true c169)) ?_
                        refine so_move (v := (.v (.int .i64 y149))) rfl ?_
                        refine so_gyes rfl (not_f (decide_eq_true c169)) ?_
                        refine so_bin rfl rfl ab_neq ?_
                        refine so_pick_f (v := (.v (.bool (!(decide ((y153.length : Int) = y149)))))) rfl (not_f (decide_eq_true c169)) rfl ?_
                        refine so_nil ?_
                        replace h := ofP h; rcases h with ⟨c170, h⟩ | ⟨c170, h⟩
                        · refine fi_false rfl (not_f (decide_eq_true c170)) ?_
                          refine fi_skip ?_
                          refine fi_seq ?_
                          refine fi_seq ?_
                          refine fi_region ?_
                          refine so_assign (v := (.v (.int .i64 (0 : Int)))) rfl ?_
                          refine so_nil ?_
                          refine fi_block ?_
                          refine fi_loop ?_
                          replace hs := hs.del 1
                          replace hs := hs.del 1
                          replace hs := hs.del 1
                          refine fi_at [(1, (.v v1)), (5, (.v v105)), (6, (.v (.int .i64 (y104.length : Int)))), (7, (.v (.ptr id115 0))), (11, (.v (.int .i64 y124))), (21, (.v v163)), (23, (.v (.int .i64 (0 : Int))))] ⟨rfl, rfl, rfl, rfl, rfl, rfl, rfl, trivial⟩ ?_
                          refine h (fun (i172 : Int) => ∀ (s : Nat → TV) (H : Heap), Sep H (Pc.osl v163 1 (enc (eInt .i64) y162) :: Pc.box id115 [(.int .i64 y108), (.int .i64 y109), v111] :: Pc.osl v111 1 (enc eBool y110) :: Pc.osl v105 1 (enc (eInt .i64) y104) :: fr) → Fin _ _ (updL s [(1, (.v v1)), (5, (.v v105)), (6, (.v (.int .i64 (y104.length : Int)))), (7, (.v (.ptr id115 0))), (11, (.v (.int .i64 y124))), (21, (.v v163)), (23, (.v (.int .i64 i172)))]) H _) ?_ _ _ hs
                          intro i172 h s291 H292 hs
                          refine fi_inLoop ?_
                          refine fi_seq ?_
                          refine fi_seq ?_
                          refine fi_region ?_
                          refine so_move (v := (.v (.int .i64 i172))) rfl ?_
                          refine so_move (v := (.v (.int .i64 (y104.length : Int)))) rfl ?_
                          refine so_bin rfl rfl ab_lss ?_
                          refine so_nil ?_
                          replace h := ofP h; rcases h with ⟨c173, h⟩ | ⟨c173, h⟩
                          · refine fi_true rfl (decide_eq_true c173) ?_
                            refine fi_skip ?_
                            refine fi_seq ?_
                            refine fi_block ?_
                            refine fi_seq ?_
                            refine fi_region ?_
                            refine so_move (v := (.v v163)) rfl ?_
                            refine so_move (v := (.v (.int .i64 i172))) rfl ?_
                            obtain ⟨c174, h⟩ := h
                            refine sv_idx (hs.shows 0 rfl) c174 (fun _ => rfl) (by decide) rfl rfl F4.tl31 ?_
                            refine sv_cell (hs.shows 0 rfl) c174 (0 : Int) 0 (fun x => (AV.int .i64 x)) (fun _ => rfl) (fun _ => rfl) rfl F4.ag2 ?_
                            refine so_bin rfl rfl ab_neq ?_
                            refine so_move (v := (.v (.bool (!(decide ((y162.getD (i172).toNat (0 : Int)) = (0 : Int))))))) rfl ?_
                            replace h := ofP h; rcases h with ⟨c175, h⟩ | ⟨c175, h⟩
                            · refine so_gno rfl (not_f (decide_eq_true c175)) ?_
                              refine so_gno rfl (not_f (decide_eq_true c175)) ?_
                              refine so_gno rfl (not_f (decide_eq_true c175)) ?_
                              refine so_gno rfl (not_f (decide_eq_true c175)) ?_
                              refine so_gno rfl (not_f (decide_eq_true c175)) ?_
                              refine so_gno rfl (not_f (decide_eq_true c175)) ?_
                              refine so_gno rfl (not_f (decide_eq_true c175)) ?_
                              refine so_gno rfl (not_f (decide_eq_true c175)) ?_
                              refine so_gno rfl (not_f (decide_eq_true c175)) ?_
                              refine so_gno rfl (not_f (decide_eq_true c175)) ?_
                              refine so_gno rfl (not_f (decide_eq_true c175)) ?_
                              refine so_pick_f (v := (.v (.bool false))) rfl (not_f (decide_eq_true c175)) rfl ?_
                              refine so_move (v := (.v (.bool false))) rfl ?_
                              refine so_gyes rfl rfl ?_
                              refine so_move (v := (.v v163)) rfl ?_
                              refine so_gyes rfl rfl ?_
                              refine so_move (v := (.v (.int .i64 i172))) rfl ?_
                              refine so_gyes rfl rfl ?_
                              refine sv_idx (hs.shows 0 rfl) c174 (fun _ => rfl) (by decide) rfl rfl F4.tl31 ?_
                              refine so_gyes rfl rfl ?_
                              refine sv_cell (hs.shows 0 rfl) c174 (0 : Int) 0 (fun x => (AV.int .i64 x)) (fun _ => rfl) (fun _ => rfl) rfl F4.ag2 ?_
                              refine so_gyes rfl rfl ?_
                              refine sv_callS (laws_r8Abs_ok (y162.getD (i172).toNat (0 : Int)) hs  _ h) (fun _ _ ⟨_, _, _, e⟩ => e) rfl rfl ?_
                              clear h
                              rintro _ _ ⟨y176, h, rfl, rfl⟩
                              refine so_gyes rfl rfl ?_
                              refine so_move (v := (.v v105)) rfl ?_
                              refine so_gyes rfl rfl ?_
                              refine so_move (v := (.v (.int .i64 i172))) rfl ?_
                              refine so_gyes rfl rfl ?_
                              obtain ⟨c178, h⟩ := h
                              refine sv_idx (hs.shows 3 rfl) c178 (fun _ => rfl) (by decide) rfl rfl F4.tl31 ?_
                              refine so_gyes rfl rfl ?_
                              refine sv_cell (hs.shows 3 rfl) c178 (0 : Int) 0 (fun x => (AV.int .i64 x)) (fun _ => rfl) (fun _ => rfl) rfl F4.ag2 ?_
                              refine so_gyes rfl rfl ?_
                              refine sv_callS (laws_r8Abs_ok (y104.getD (i172).toNat (0 : Int)) hs  _ h) (fun _ _ ⟨_, _, _, e⟩ => e) rfl rfl ?_
                              clear h
                              rintro _ _ ⟨y179, h, rfl, rfl⟩
                              refine so_gyes rfl rfl ?_
                              refine so_bin rfl rfl ab_gtr ?_
                              refine so_pick_f (v := (.v (.bool (decide (y179 < y176))))) rfl rfl rfl ?_
                              refine so_nil ?_
                              replace h := ofP h; rcases h with ⟨c181, h⟩ | ⟨c181, h⟩
                              · refine fi_true rfl (decide_eq_true c181) ?_
                                refine fi_seq ?_
                                refine fi_region ?_
                                refine so_assign (v := (.v (.bool false))) rfl ?_
                                refine so_nil ?_
                                exact by_ret rfl ⟨_, h, rfl, (Sep.dropn 4 hs)⟩
                              · refine fi_false rfl (decide_eq_false c181) ?_
                                refine fi_skip ?_
                                refine fi_inBlock ?_
                                refine fi_region ?_
                                refine so_move (v := (.v (.int .i64 i172))) rfl ?_
                                refine so_bin rfl rfl ab_add ?_
                                refine so_assign (v := (.v (.int .i64 (IntKind.i64.wrap (i172 + (1 : Int)))))) rfl ?_
                                refine so_nil ?_
                                exact fi_at [(1, (.v v1)), (5, (.v v105)), (6, (.v (.int .i64 (y104.length : Int)))), (7, (.v (.ptr id115 0))), (11, (.v (.int .i64 y124))), (21, (.v v163)), (23, (.v (.int .i64 (IntKind.i64.wrap (i172 + (1 : Int))))))] ⟨rfl, rfl, rfl, rfl, rfl, rfl, rfl, trivial⟩ (h _ _  hs)
                            · refine so_gyes rfl (not_t (decide_eq_false c175)) ?_
                              refine so_move (v := (.v v163)) rfl ?_
                              refine so_gyes rfl (not_t (decide_eq_false c175)) ?_
                              refine so_move (v := (.v (.int .i64 i172))) rfl ?_
                              refine so_gyes rfl (not_t (decide_eq_false c175)) ?_
                              refine sv_idx (hs.shows 0 rfl) c174 (fun _ => rfl) (by decide) rfl rfl F4.tl31 ?_
                              refine so_gyes rfl (not_t (decide_eq_false c175)) ?_
                              refine sv_cell (hs.shows 0 rfl) c174 (0 : Int) 0 (fun x => (AV.int .i64 x)) (fun _ => rfl) (fun _ => rfl) rfl F4.ag2 ?_
                              refine so_gyes rfl (not_t (decide_eq_false c175)) ?_
                              refine so_bin rfl rfl ab_lss ?_
                              refine so_gyes rfl (not_t (decide_eq_false c175)) ?_
                              refine so_move (v := (.v v105)) rfl ?_
                              refine so_gyes rfl (not_t (decide_eq_false c175)) ?_
                              refine so_move (v := (.v (.int .i64 i172))) rfl ?_
                              refine so_gyes rfl (not_t (decide_eq_false c175)) ?_
                              obtain ⟨c182, h⟩ := h
                              refine sv_idx (hs.shows 3 rfl) c182 (fun _ => rfl) (by decide) rfl rfl F4.tl31 ?_
                              refine so_gyes rfl (not_t (decide_eq_false c175)) ?_
                              refine sv_cell (hs.shows 3 rfl) c182 (0 : Int) 0 (fun x => (AV.int .i64 x)) (fun _ => rfl) (fun _ => rfl) rfl F4.ag2 ?_
                              refine so_gyes rfl (not_t (decide_eq_false c175)) ?_
                              refine so_bin rfl rfl ab_lss ?_
                              refine so_gyes rfl (not_t (decide_eq_false c175)) ?_
                              refine so_bin rfl rfl (ab_bneq F4.tb4) ?_
                              refine so_pick_t (v := (.v (.bool (!((decide ((y162.getD (i172).toNat (0 : Int)) < (0 : Int))) == (decide ((y104.getD (i172).toNat (0 : Int)) < (0 : Int)))))))) rfl (not_t (decide_eq_false c175)) rfl ?_
                              refine so_move (v := (.v (.bool (!((decide ((y162.getD (i172).toNat (0 : Int)) < (0 : Int))) == (decide ((y104.getD (i172).toNat (0 : Int)) < (0 : Int)))))))) rfl ?_
                              replace h := ofT h; rcases h with ⟨c183, h⟩ | ⟨c183, h⟩
                              · refine so_gyes rfl (not_f c183) ?_
                                refine so_move (v := (.v v163)) rfl ?_
                                refine so_gyes rfl (not_f c183) ?_
                                refine so_move (v := (.v (.int .i64 i172))) rfl ?_
                                refine so_gyes rfl (not_f c183) ?_
                                refine sv_idx (hs.shows 0 rfl) c174 (fun _ => rfl) (by decide) rfl rfl F4.tl31 ?_
                                refine so_gyes rfl (not_f c183) ?_
                                refine sv_cell (hs.shows 0 rfl) c174 (0 : Int) 0 (fun x => (AV.int .i64 x)) (fun _ => rfl) (fun _ => rfl) rfl F4.ag2 ?_
                                refine so_gyes rfl (not_f c183) ?_
                                refine sv_callS (laws_r8Abs_ok (y162.getD (i172).toNat (0 : Int)) hs  _ h) (fun _ _ ⟨_, _, _, e⟩ => e) rfl rfl ?_
                                clear h
                                rintro _ _ ⟨y184, h, rfl, rfl⟩
                                refine so_gyes rfl (not_f c183) ?_
                                refine so_move (v := (.v v105)) rfl ?_
                                refine so_gyes rfl (not_f c183) ?_
                                refine so_move (v := (.v (.int .i64 i172))) rfl ?_
                                refine so_gyes rfl (not_f c183) ?_
                                refine sv_idx (hs.shows 3 rfl) c182 (fun _ => rfl) (by decide) rfl rfl F4.tl31 ?_
                                refine so_gyes rfl (not_f c183) ?_
                                refine sv_cell (hs.shows 3 rfl) c182 (0 : Int) 0 (fun x => (AV.int .i64 x)) (fun _ => rfl) (fun _ => rfl) rfl F4.ag2 ?_
                                refine so_gyes rfl (not_f c183) ?_
                                refine sv_callS (laws_r8Abs_ok (y104.getD (i172).toNat (0 : Int)) hs  _ h) (fun _ _ ⟨_, _, _, e⟩ => e) rfl rfl ?_
                                clear h
                                rintro _ _ ⟨y186, h, rfl, rfl⟩
                                refine so_gyes rfl (not_f c183) ?_
                                refine so_bin rfl rfl ab_gtr ?_
                                refine so_pick_f (v := (.v (.bool (decide (y186 < y184))))) rfl (not_f c183) rfl ?_
                                refine so_nil ?_
                                replace h := ofP h; rcases h with ⟨c188, h⟩ | ⟨c188, h⟩
                                · refine fi_true rfl (decide_eq_true c188) ?_
                                  refine fi_seq ?_
                                  refine fi_region ?_
                                  refine so_assign (v := (.v (.bool false))) rfl ?_
                                  refine so_nil ?_
                                  exact by_ret rfl ⟨_, h, rfl, (Sep.dropn 4 hs)⟩
                                · refine fi_false rfl (decide_eq_false c188) ?_
                                  refine fi_skip ?_
                                  refine fi_inBlock ?_
                                  refine fi_region ?_
                                  refine so_move (v := (.v (.int .i64 i172))) rfl ?_
                                  refine so_bin rfl rfl ab_add ?_
                                  refine so_assign (v := (.v (.int .i64 (IntKind.i64.wrap (i172 + (1 : Int)))))) rfl ?_
                                  refine so_nil ?_
                                  exact fi_at [(1, (.v v1)), (5, (.v v105)), (6, (.v (.int .i64 (y104.length : Int)))), (7, (.v (.ptr id115 0))), (11, (.v (.int .i64 y124))), (21, (.v v163)), (23, (.v (.int .i64 (IntKind.i64.wrap (i172 + (1 : Int))))))] ⟨rfl, rfl, rfl, rfl, rfl, rfl, rfl, trivial⟩ (h _ _  hs)
                              · refine so_gno rfl (not_t c183) ?_
                                refine so_gno rfl (not_t c183) ?_
                                refine so_gno rfl (not_t c183) ?_
                                refine so_gno rfl (not_t c183) ?_
                                refine so_gno rfl (not_t c183) ?_
                                refine so_gno rfl (not_t c183) ?_
                                refine so_gno rfl (not_t c183) ?_
                                refine so_gno rfl (not_t c183) ?_
                                refine so_gno rfl (not_t c183) ?_
                                refine so_gno rfl (not_t c183) ?_
                                refine so_gno rfl (not_t c183) ?_
                                refine so_pick_t (v := (.v (.bool true))) rfl (not_t c183) rfl ?_
                                refine so_nil ?_
                                refine fi_true rfl rfl ?_
                                refine fi_seq ?_
                                refine fi_region ?_
                                refine so_assign (v := (.v (.bool false))) rfl ?_
                                refine so_nil ?_
                                exact by_ret rfl ⟨_, h, rfl, (Sep.dropn 4 hs)⟩
                          · refine fi_false rfl (decide_eq_false c173) ?_
                            refine fi_exit rfl ?_
                            refine fi_seq ?_
                            refine fi_region ?_
                            refine so_move (v := (.v v1)) rfl ?_
                            refine so_move (v := (.v (.int .i64 y124))) rfl ?_
                            refine so_bin rfl rfl ab_add ?_
                            refine sv_callS (laws_r8At_ok v1 l1 (1 : Int) (IntKind.i64.wrap (y124 + (1 : Int))) hs (fun _ hs => (g1 _ hs.tl.tl.tl.tl)) _ h) (fun _ _ ⟨_, _, _, e⟩ => e) rfl rfl ?_
                            clear h
                            rintro _ _ ⟨y189, h, rfl, rfl⟩
                            refine so_assign (v := (.v (.int .i64 y189))) rfl ?_
                            refine so_nil ?_
                            refine fi_seq ?_
                            refine fi_region ?_
                            refine so_move (v := (.v v105)) rfl ?_
                            refine so_move (v := (.v (.int .i64 y189))) rfl ?_
                            refine sv_callS (impl_BitsUntil_okS v105 y104 y189 hs (fun _ hs => (hs.shows 3 rfl)) _ h) (fun _ _ ⟨_, _, _, _, e⟩ => e) rfl rfl ?_
                            clear h
                            rintro _ _ ⟨y191, y192, h, rfl, rfl⟩
                            refine so_move (v := (.t [(.v (.int .i64 y191)), (.v (.bool y192))])) rfl ?_
                            refine so_extract rfl rfl rfl ?_
                            refine so_extract rfl rfl rfl ?_
                            refine so_assign (v := (.v (.int .i64 y191))) rfl ?_
                            refine so_assign (v := (.v (.bool y192))) rfl ?_
                            refine so_nil ?_
                            refine fi_seq ?_
                            refine fi_region ?_
                            refine sv_lds hs 1 rfl rfl (leb rfl) rfl F4.ag35 F4.sz35 ?_
                            refine so_move (v := (.v (.int .i64 y191))) rfl ?_
                            refine sv_call (impl_CutCoded_ok y108 y109 v111 y110 y191 hs (fun _ hs => (hs.shows 2 rfl)) _ h) rfl rfl nofun ?_
                            clear h hs
                            rintro _ H200 ⟨y194, y195, y196, y199, h, v197, rfl, hs⟩
                            refine so_move (v := (.t [(.g [(.int .i64 y194), (.int .i64 y195), v197]), (.v (.bool y199))])) rfl ?_
                            refine so_extract rfl rfl rfl ?_
                            refine so_extract rfl rfl rfl ?_
                            refine sv_alloc hs F4.ze35 rfl nofun (fun id201 H202 hs => ?_)
                            refine sv_st hs 0 rfl rfl rfl (c := [(.int .i64 y194), (.int .i64 y195), v197]) rfl F4.sz35 rfl (stc rfl (stc rfl (stc (hs.shows 1 rfl).stor stn))) (leb rfl) (cs' := [(.int .i64 y194), (.int .i64 y195), v197]) rfl nofun (fun H204 hs => ?_)
                            refine so_assign (v := (.v (.bool y199))) rfl ?_
                            refine so_nil ?_
                            refine fi_seq ?_
                            refine fi_region ?_
                            refine sv_lds hs 0 rfl rfl (leb rfl) rfl F4.ag35 F4.sz35 ?_
                            refine sv_call (impl_ListFrom_ok y194 y195 v197 y196 hs (fun _ hs => (hs.shows 1 rfl)) _ h) rfl rfl nofun ?_
                            clear h hs
                            rintro _ H209 ⟨y205, y208, h, v206, rfl, hs⟩
                            refine so_move (v := (.t [(.v v206), (.v (.bool y208))])) rfl ?_
                            refine so_extract rfl rfl rfl ?_
                            refine so_extract rfl rfl rfl ?_
                            refine so_assign (v := (.v v206)) rfl ?_
                            refine so_assign (v := (.v (.bool y208))) rfl ?_
                            refine so_nil ?_
                            refine fi_seq ?_
                            refine fi_seq ?_
                            refine fi_region ?_
                            refine so_move (v := (.v (.bool y192))) rfl ?_
                            refine so_un rfl au_not ?_
                            refine so_move (v := (.v (.bool (!y192)))) rfl ?_
                            replace h := ofT h; rcases h with ⟨c210, h⟩ | ⟨c210, h⟩
                            · refine so_gyes rfl (not_f c210) ?_
                              refine so_move (v := (.v (.bool y199))) rfl ?_
                              refine so_gyes rfl (not_f c210) ?_
                              refine so_un rfl au_not ?_
                              refine so_pick_f (v := (.v (.bool (!y199)))) rfl (not_f c210) rfl ?_
                              refine so_move (v := (.v (.bool (!y199)))) rfl ?_
                              replace h := ofT h; rcases h with ⟨c211, h⟩ | ⟨c211, h⟩
                              · refine so_gyes rfl (not_f c211) ?_
                                refine so_move (v := (.v (.bool y208))) rfl ?_
                                refine so_gyes rfl (not_f c211) ?_
                                refine so_un rfl au_not ?_
                                refine so_pick_f (v := (.v (.bool (!y208)))) rfl (not_f c211) rfl ?_
                                refine so_move (v := (.v (.bool (!y208)))) rfl ?_
                                replace h := ofT h; rcases h with ⟨c212, h⟩ | ⟨c212, h⟩
                                · refine so_gyes rfl (not_f c212) ?_
                                  refine so_move (v := (.v v206)) rfl ?_
                                  refine so_gyes rfl (not_f c212) ?_
                                  refine sv_len (hs.shows 0 rfl) (fun _ => rfl) (by decide) rfl F4.ti31 ?_
                                  refine so_gyes rfl (not_f c212) ?_
                                  refine so_move (v := (.v (.int .i64 (y104.length : Int)))) rfl ?_
                                  refine so_gyes rfl (not_f c212) ?_
                                  refine so_bin rfl rfl ab_neq ?_
                                  refine so_pick_f (v := (.v (.bool (!(decide ((y205.length : Int) = (y104.length : Int))))))) rfl (not_f c212) rfl ?_
                                  refine so_nil ?_
                                  replace h := ofP h; rcases h with ⟨c213, h⟩ | ⟨c213, h⟩
                                  · refine fi_false rfl (not_f (decide_eq_true c213)) ?_
                                    refine fi_skip ?_
                                    refine fi_seq ?_
                                    refine fi_seq ?_
                                    refine fi_region ?_
                                    refine so_assign (v := (.v (.int .i64 (0 : Int)))) rfl ?_
                                    refine so_nil ?_
                                    refine fi_block ?_
                                    refine fi_loop ?_
                                    replace hs := hs.del 1
                                    replace hs := hs.del 1
                                    replace hs := hs.del 1
                                    replace hs := hs.del 1
                                    replace hs := hs.del 1
                                    refine fi_at [(1, (.v v1)), (5, (.v v105)), (6, (.v (.int .i64 (y104.length : Int)))), (24, (.v (.int .i64 y189))), (29, (.v v206)), (31, (.v (.int .i64 (0 : Int))))] ⟨rfl, rfl, rfl, rfl, rfl, rfl, trivial⟩ ?_
                                    refine h (fun (i215 : Int) => ∀ (s : Nat → TV) (H : Heap), Sep H (Pc.osl v206 1 (enc (eInt .i64) y205) :: Pc.osl v105 1 (enc (eInt .i64) y104) :: fr) → Fin _ _ (updL s [(1, (.v v1)), (5, (.v v105)), (6, (.v (.int .i64 (y104.length : Int)))), (24, (.v (.int .i64 y189))), (29, (.v v206)), (31, (.v (.int .i64 i215)))]) H _) ?_ _ _ hs
                                    intro i215 h s289 H290 hs
                                    refine fi_inLoop ?_
                                    refine fi_seq ?_
                                    refine fi_seq ?_
                                    refine fi_region ?_
                                    refine so_move (v := (.v (.int .i64 i215))) rfl ?_
                                    refine so_move (v := (.v (.int .i64 (y104.length : Int)))) rfl ?_
                                    refine so_bin rfl rfl ab_lss ?_
                                    refine so_nil ?_
                                    replace h := ofP h; rcases h with ⟨c216, h⟩ | ⟨c216, h⟩
                                    · refine fi_true rfl (decide_eq_true c216) ?_
                                      refine fi_skip ?_
                                      refine fi_seq ?_
                                      refine fi_block ?_
                                      refine fi_seq ?_
                                      refine fi_region ?_
                                      refine so_move (v := (.v v206)) rfl ?_
                                      refine so_move (v := (.v (.int .i64 i215))) rfl ?_
                                      obtain ⟨c217, h⟩ := h
                                      refine sv_idx (hs.shows 0 rfl) c217 (fun _ => rfl) (by decide) rfl rfl F4.tl31 ?_
                                      refine sv_cell (hs.shows 0 rfl) c217 (0 : Int) 0 (fun x => (AV.int .i64 x)) (fun _ => rfl) (fun _ => rfl) rfl F4.ag2 ?_
                                      refine sv_callS (laws_r8Abs_ok (y205.getD (i215).toNat (0 : Int)) hs  _ h) (fun _ _ ⟨_, _, _, e⟩ => e) rfl rfl ?_
                                      clear h
                                      rintro _ _ ⟨y218, h, rfl, rfl⟩
                                      refine so_move (v := (.v v105)) rfl ?_
                                      refine so_move (v := (.v (.int .i64 i215))) rfl ?_
                                      obtain ⟨c220, h⟩ := h
                                      refine sv_idx (hs.shows 1 rfl) c220 (fun _ => rfl) (by decide) rfl rfl F4.tl31 ?_
                                      refine sv_cell (hs.shows 1 rfl) c220 (0 : Int) 0 (fun x => (AV.int .i64 x)) (fun _ => rfl) (fun _ => rfl) rfl F4.ag2 ?_
                                      refine sv_callS (laws_r8Abs_ok (y104.getD (i215).toNat (0 : Int)) hs  _ h) (fun _ _ ⟨_, _, _, e⟩ => e) rfl rfl ?_
                                      clear h
                                      rintro _ _ ⟨y221, h, rfl, rfl⟩
                                      refine so_move (v := (.v (.int .i64 y189))) rfl ?_
                                      refine sv_ii rfl F4.us2 F4.it47 ?_
                                      obtain ⟨c223, h⟩ := h
                                      refine so_bin rfl rfl (ab_shr c223) ?_
                                      refine so_move (v := (.v (.int .i64 y189))) rfl ?_
                                      refine sv_ii rfl F4.us2 F4.it47 ?_
                                      refine so_bin rfl rfl (ab_shl c223) ?_
                                      refine so_bin rfl rfl ab_neq ?_
                                      refine so_nil ?_
                                      replace h := ofP h; rcases h with ⟨c224, h⟩ | ⟨c224, h⟩
                                      · refine fi_false rfl (not_f (decide_eq_true c224)) ?_
                                        refine fi_skip ?_
                                        refine fi_inBlock ?_
                                        refine fi_region ?_
                                        refine so_move (v := (.v (.int .i64 i215))) rfl ?_
                                        refine so_bin rfl rfl ab_add ?_
                                        refine so_assign (v := (.v (.int .i64 (IntKind.i64.wrap (i215 + (1 : Int)))))) rfl ?_
                                        refine so_nil ?_
                                        exact fi_at [(1, (.v v1)), (5, (.v v105)), (6, (.v (.int .i64 (y104.length : Int)))), (24, (.v (.int .i64 y189))), (29, (.v v206)), (31, (.v (.int .i64 (IntKind.i64.wrap (i215 + (1 : Int))))))] ⟨rfl, rfl, rfl, rfl, rfl, rfl, trivial⟩ (h _ _  hs)
                                      · refine fi_true rfl (not_t (decide_eq_false c224)) ?_
                                        refine fi_seq ?_
                                        refine fi_region ?_
                                        refine so_assign (v := (.v (.bool false))) rfl ?_
                                        refine so_nil ?_
                                        exact by_ret rfl ⟨_, h, rfl, (Sep.del 0 (Sep.del 0 hs))⟩
                                    · refine fi_false rfl (decide_eq_false c216) ?_
                                      refine fi_exit rfl ?_
                                      refine fi_seq ?_
                                      refine fi_region ?_
                                      refine so_move (v := (.v v1)) rfl ?_
                                      refine sv_callS (laws_r8At_ok v1 l1 (2 : Int) (8 : Int) hs (fun _ hs => (g1 _ hs.tl.tl)) _ h) (fun _ _ ⟨_, _, _, e⟩ => e) rfl rfl ?_
                                      clear h
                                      rintro _ _ ⟨y225, h, rfl, rfl⟩
                                      refine so_assign (v := (.v (.int .i64 y225))) rfl ?_
                                      refine so_nil ?_
                                      refine fi_seq ?_
                                      refine fi_region ?_
                                      refine so_move (v := (.v v105)) rfl ?_
                                      refine so_move (v := (.v (.int .i64 y225))) rfl ?_
                                      refine sv_callS (impl_RiceLong_ok v105 y104 y225 hs (fun _ hs => (hs.shows 1 rfl)) _ h) (fun _ _ ⟨_, _, _, _, e⟩ => e) rfl rfl ?_
                                      clear h
                                      rintro _ _ ⟨y227, y228, h, rfl, rfl⟩
                                      refine so_move (v := (.t [(.v (.int .i64 y227)), (.v (.bool y228))])) rfl ?_
                                      refine so_extract rfl rfl rfl ?_
                                      refine so_extract rfl rfl rfl ?_
                                      refine so_assign (v := (.v (.int .i64 y227))) rfl ?_
                                      refine so_assign (v := (.v (.bool y228))) rfl ?_
                                      refine so_nil ?_
                                      refine fi_seq ?_
                                      refine fi_region ?_
                                      refine so_move (v := (.v v105)) rfl ?_
                                      refine so_move (v := (.v (.int .i64 y225))) rfl ?_
                                      refine sv_call (impl_RiceCode_ok v105 y104 y225 hs (fun _ hs => (hs.shows 1 rfl)) _ h) rfl rfl nofun ?_
                                      clear h hs
                                      rintro _ H234 ⟨y230, y233, h, v231, rfl, hs⟩
                                      refine so_move (v := (.t [(.v v231), (.v (.bool y233))])) rfl ?_
                                      refine so_extract rfl rfl rfl ?_
                                      refine so_extract rfl rfl rfl ?_
                                      refine so_assign (v := (.v v231)) rfl ?_
                                      refine so_assign (v := (.v (.bool y233))) rfl ?_
                                      refine so_nil ?_
                                      refine fi_seq ?_
                                      refine fi_region ?_
                                      refine so_move (v := (.v v231)) rfl ?_
                                      refine so_move (v := (.v (.int .i64 (y104.length : Int)))) rfl ?_
                                      refine so_move (v := (.v (.int .i64 y225))) rfl ?_
                                      refine sv_call (impl_FromRice_ok v231 y230 (y104.length : Int) y225 hs (fun _ hs => (hs.shows 0 rfl)) _ h) rfl rfl nofun ?_
                                      clear h hs
                                      rintro _ H239 ⟨y235, y238, h, v236, rfl, hs⟩
                                      refine so_move (v := (.t [(.v v236), (.v (.bool y238))])) rfl ?_
                                      refine so_extract rfl rfl rfl ?_
                                      refine so_extract rfl rfl rfl ?_
                                      refine so_assign (v := (.v v236)) rfl ?_
                                      refine so_assign (v := (.v (.bool y238))) rfl ?_
                                      refine so_nil ?_
                                      refine fi_seq ?_
                                      refine fi_region ?_
                                      refine so_move (v := (.v v105)) rfl ?_
                                      refine sv_callS (impl_BestRice_ok v105 y104 hs (fun _ hs => (hs.shows 3 rfl)) _ h) (fun _ _ ⟨_, _, _, _, _, e⟩ => e) rfl rfl ?_
                                      clear h
                                      rintro _ _ ⟨y240, y241, y242, h, rfl, rfl⟩
                                      refine so_move (v := (.t [(.v (.int .i64 y240)), (.v (.int .i64 y241)), (.v (.bool y242))])) rfl ?_
                                      refine so_extract rfl rfl rfl ?_
                                      refine so_extract rfl rfl rfl ?_
                                      refine so_extract rfl rfl rfl ?_
                                      refine so_assign (v := (.v (.int .i64 y240))) rfl ?_
                                      refine so_assign (v := (.v (.int .i64 y241))) rfl ?_
                                      refine so_assign (v := (.v (.bool y242))) rfl ?_
                                      refine so_nil ?_
                                      refine fi_seq ?_
                                      refine fi_region ?_
                                      refine so_move (v := (.v v105)) rfl ?_
                                      refine so_move (v := (.v (.int .i64 y240))) rfl ?_
                                      refine sv_callS (impl_RiceLong_ok v105 y104 y240 hs (fun _ hs => (hs.shows 3 rfl)) _ h) (fun _ _ ⟨_, _, _, _, e⟩ => e) rfl rfl ?_
                                      clear h
                                      rintro _ _ ⟨y244, y245, h, rfl, rfl⟩
                                      refine so_move (v := (.t [(.v (.int .i64 y244)), (.v (.bool y245))])) rfl ?_
                                      refine so_extract rfl rfl rfl ?_
                                      refine so_extract rfl rfl rfl ?_
                                      refine so_assign (v := (.v (.int .i64 y244))) rfl ?_
                                      refine so_assign (v := (.v (.bool y245))) rfl ?_
                                      refine so_nil ?_
                                      refine fi_seq ?_
                                      refine fi_seq ?_
                                      refine fi_region ?_
                                      refine so_move (v := (.v (.bool y228))) rfl ?_
                                      refine so_un rfl au_not ?_
                                      refine so_move (v := (.v (.bool (!y228)))) rfl ?_
                                      replace h := ofT h; rcases h with ⟨c247, h⟩ | ⟨c247, h⟩
                                      · refine so_gyes rfl (not_f c247) ?_
                                        refine so_move (v := (.v (.bool y233))) rfl ?_
                                        refine so_gyes rfl (not_f c247) ?_
                                        refine so_un rfl au_not ?_
                                        refine so_pick_f (v := (.v (.bool (!y233)))) rfl (not_f c247) rfl ?_
                                        refine so_move (v := (.v (.bool (!y233)))) rfl ?_
                                        replace h := ofT h; rcases h with ⟨c248, h⟩ | ⟨c248, h⟩
                                        · refine so_gyes rfl (not_f c248) ?_
                                          refine so_move (v := (.v (.bool y238))) rfl ?_
                                          refine so_gyes rfl (not_f c248) ?_
                                          refine so_un rfl au_not ?_
                                          refine so_pick_f (v := (.v (.bool (!y238)))) rfl (not_f c248) rfl ?_
                                          refine so_move (v := (.v (.bool (!y238)))) rfl ?_
                                          replace h := ofT h; rcases h with ⟨c249, h⟩ | ⟨c249, h⟩
                                          · refine so_gyes rfl (not_f c249) ?_
                                            refine so_move (v := (.v (.bool y242))) rfl ?_
                                            refine so_gyes rfl (not_f c249) ?_
                                            refine so_un rfl au_not ?_
                                            refine so_pick_f (v := (.v (.bool (!y242)))) rfl (not_f c249) rfl ?_
                                            refine so_move (v := (.v (.bool (!y242)))) rfl ?_
                                            replace h := ofT h; rcases h with ⟨c250, h⟩ | ⟨c250, h⟩
                                            · refine so_gyes rfl (not_f c250) ?_
                                              refine so_move (v := (.v (.bool y245))) rfl ?_
                                              refine so_gyes rfl (not_f c250) ?_
                                              refine so_un rfl au_not ?_
                                              refine so_pick_f (v := (.v (.bool (!y245)))) rfl (not_f c250) rfl ?_
                                              refine so_move (v := (.v (.bool (!y245)))) rfl ?_
                                              replace h := ofT h; rcases h with ⟨c251, h⟩ | ⟨c251, h⟩
                                              · refine so_gyes rfl (not_f c251) ?_
                                                refine so_move (v := (.v v231)) rfl ?_
                                                refine so_gyes rfl (not_f c251) ?_
                                                refine sv_len (hs.shows 1 rfl) (fun _ => rfl) (by decide) rfl F4.ti33 ?_
                                                refine so_gyes rfl (not_f c251) ?_
                                                refine so_move (v := (.v (.int .i64 y227))) rfl ?_
                                                refine so_gyes rfl (not_f c251) ?_
                                                refine so_bin rfl rfl ab_neq ?_
                                                refine so_pick_f (v := (.v (.bool (!(decide ((y230.length : Int) = y227)))))) rfl (not_f c251) rfl ?_
                                                refine so_move (v := (.v (.bool (!(decide ((y230.length : Int) = y227)))))) rfl ?_
                                                replace h := ofP h; rcases h with ⟨c252, h⟩ | ⟨c252, h⟩
                                                · refine so_gyes rfl (not_f (decide_eq_true c252)) ?_
                                                  refine so_move (v := (.v v236)) rfl ?_
                                                  refine so_gyes rfl (not_f (decide_eq_true c252)) ?_
                                                  refine sv_len (hs.shows 0 rfl) (fun _ => rfl) (by decide) rfl F4.ti31 ?_
                                                  refine so_gyes rfl (not_f (decide_eq_true c252)) ?_
                                                  refine so_move (v := (.v (.int .i64 (y104.length : Int)))) rfl ?_
                                                  refine so_gyes rfl (not_f (decide_eq_true c252)) ?_
                                                  refine so_bin rfl rfl ab_neq ?_
                                                  refine so_pick_f (v := (.v (.bool (!(decide ((y235.length : Int) = (y104.length : Int))))))) rfl (not_f (decide_eq_true c252)) rfl ?_
                                                  refine so_move (v := (.v (.bool (!(decide ((y235.length : Int) = (y104.length : Int))))))) rfl ?_
                                                  replace h := ofP h; rcases h with ⟨c253, h⟩ | ⟨c253, h⟩
                                                  · refine so_gyes rfl (not_f (decide_eq_true c253)) ?_
                                                    refine so_move (v := (.v (.int .i64 y241))) rfl ?_
                                                    refine so_gyes rfl (not_f (decide_eq_true c253)) ?_
                                                    refine so_move (v := (.v (.int .i64 y244))) rfl ?_
                                                    refine so_gyes rfl (not_f (decide_eq_true c253)) ?_
                                                    refine so_bin rfl rfl ab_neq ?_
                                                    refine so_pick_f (v := (.v (.bool (!(decide (y241 = y244)))))) rfl (not_f (decide_eq_true c253)) rfl ?_
                                                    refine so_move (v := (.v (.bool (!(decide (y241 = y244)))))) rfl ?_
                                                    replace h := ofP h; rcases h with ⟨c254, h⟩ | ⟨c254, h⟩
                                                    · refine so_gyes rfl (not_f (decide_eq_true c254)) ?_
                                                      refine so_move (v := (.v (.int .i64 y241))) rfl ?_
                                                      refine so_gyes rfl (not_f (decide_eq_true c254)) ?_
                                                      refine so_move (v := (.v (.int .i64 y227))) rfl ?_
                                                      refine so_gyes rfl (not_f (decide_eq_true c254)) ?_
                                                      refine so_bin rfl rfl ab_gtr ?_
                                                      refine so_pick_f (v := (.v (.bool (decide (y227 < y241))))) rfl (not_f (decide_eq_true c254)) rfl ?_
                                                      refine so_nil ?_
                                                      replace h := ofP h; rcases h with ⟨c255, h⟩ | ⟨c255, h⟩
                                                      · refine fi_true rfl (decide_eq_true c255) ?_
                                                        refine fi_seq ?_
                                                        refine fi_region ?_
                                                        refine so_assign (v := (.v (.bool false))) rfl ?_
                                                        refine so_nil ?_
                                                        exact by_ret rfl ⟨_, h, rfl, (Sep.dropn 4 hs)⟩
                                                      · refine fi_false rfl (decide_eq_false c255) ?_
                                                        refine fi_skip ?_
                                                        refine fi_seq ?_
                                                        refine fi_seq ?_
                                                        refine fi_region ?_
                                                        refine so_assign (v := (.v (.int .i64 (0 : Int)))) rfl ?_
                                                        refine so_nil ?_
                                                        refine fi_block ?_
                                                        refine fi_loop ?_
                                                        replace hs := hs.del 2
                                                        refine fi_at [(5, (.v v105)), (6, (.v (.int .i64 (y104.length : Int)))), (35, (.v v231)), (37, (.v v236)), (44, (.v (.int .i64 (0 : Int))))] ⟨rfl, rfl, rfl, rfl, rfl, trivial⟩ ?_
                                                        refine h (fun (i257 : Int) => ∀ (s : Nat → TV) (H : Heap), Sep H (Pc.osl v236 1 (enc (eInt .i64) y235) :: Pc.osl v231 1 (enc eBool y230) :: Pc.osl v105 1 (enc (eInt .i64) y104) :: fr) → Fin _ _ (updL s [(5, (.v v105)), (6, (.v (.int .i64 (y104.length : Int)))), (35, (.v v231)), (37, (.v v236)), (44, (.v (.int .i64 i257)))]) H _) ?_ _ _ hs
                                                        intro i257 h s287 H288 hs
                                                        refine fi_inLoop ?_
                                                        refine fi_seq ?_
                                                        refine fi_seq ?_
                                                        refine fi_region ?_
                                                        refine so_move (v := (.v (.int .i64 i257))) rfl ?_
                                                        refine so_move (v := (.v (.int .i64 (y104.length : Int)))) rfl ?_
                                                        refine so_bin rfl rfl ab_lss ?_
                                                        refine so_nil ?_
                                                        replace h := ofP h; rcases h with ⟨c258, h⟩ | ⟨c258, h⟩
                                                        · refine fi_true rfl (decide_eq_true c258) ?_
                                                          refine fi_skip ?_
                                                          refine fi_seq ?_
                                                          refine fi_block ?_
                                                          refine fi_seq ?_
                                                          refine fi_region ?_
                                                          refine so_move (v := (.v v236)) rfl ?_
                                                          refine so_move (v := (.v (.int .i64 i257))) rfl ?_
                                                          obtain ⟨c259, h⟩ := h
                                                          refine sv_idx (hs.shows 0 rfl) c259 (fun _ => rfl) (by decide) rfl rfl F4.tl31 ?_
                                                          refine sv_cell (hs.shows 0 rfl) c259 (0 : Int) 0 (fun x => (AV.int .i64 x)) (fun _ => rfl) (fun _ => rfl) rfl F4.ag2 ?_
                                                          refine so_move (v := (.v v105)) rfl ?_
                                                          refine so_move (v := (.v (.int .i64 i257))) rfl ?_
                                                          obtain ⟨c260, h⟩ := h
                                                          refine sv_idx (hs.shows 2 rfl) c260 (fun _ => rfl) (by decide) rfl rfl F4.tl31 ?_
                                                          refine sv_cell (hs.shows 2 rfl) c260 (0 : Int) 0 (fun x => (AV.int .i64 x)) (fun _ => rfl) (fun _ => rfl) rfl F4.ag2 ?_
                                                          refine so_bin rfl rfl ab_neq ?_
                                                          refine so_nil ?_
                                                          replace h := ofP h; rcases h with ⟨c261, h⟩ | ⟨c261, h⟩
                                                          · refine fi_false rfl (not_f (decide_eq_true c261)) ?_
                                                            refine fi_skip ?_
                                                            refine fi_inBlock ?_
                                                            refine fi_region ?_
                                                            refine so_move (v := (.v (.int .i64 i257))) rfl ?_
                                                            refine so_bin rfl rfl ab_add ?_
                                                            refine so_assign (v := (.v (.int .i64 (IntKind.i64.wrap (i257 + (1 : Int)))))) rfl ?_
                                                            refine so_nil ?_
                                                            exact fi_at [(5, (.v v105)), (6, (.v (.int .i64 (y104.length : Int)))), (35, (.v v231)), (37, (.v v236)), (44, (.v (.int .i64 (IntKind.i64.wrap (i257 + (1 : Int))))))] ⟨rfl, rfl, rfl, rfl, rfl, trivial⟩ (h _ _  hs)
                                                          · refine fi_true rfl (not_t (decide_eq_false c261)) ?_
                                                            refine fi_seq ?_
                                                            refine fi_region ?_
                                                            refine so_assign (v := (.v (.bool false))) rfl ?_
                                                            refine so_nil ?_
                                                            exact by_ret rfl ⟨_, h, rfl, (Sep.del 0 (Sep.del 0 (Sep.del 0 hs)))⟩
                                                        · refine fi_false rfl (decide_eq_false c258) ?_
                                                          refine fi_exit rfl ?_
                                                          refine fi_seq ?_
                                                          refine fi_region ?_
                                                          refine so_move (v := (.v v231)) rfl ?_
                                                          refine sv_callS (impl_BitText_okS v231 y230 hs (fun _ hs => (hs.shows 1 rfl)) _ h) (fun _ _ ⟨_, _, _, _, e⟩ => e) rfl rfl ?_
                                                          clear h
                                                          rintro _ _ ⟨y262, y263, h, rfl, rfl⟩
                                                          refine so_move (v := (.t [(.v (.str (pk y262))), (.v (.bool y263))])) rfl ?_
                                                          refine so_extract rfl rfl rfl ?_
                                                          refine so_extract rfl rfl rfl ?_
                                                          refine so_assign (v := (.v (.str (pk y262)))) rfl ?_
                                                          refine so_assign (v := (.v (.bool y263))) rfl ?_
                                                          refine so_nil ?_
                                                          refine fi_seq ?_
                                                          refine fi_region ?_
                                                          refine so_move (v := (.v (.str (pk y262)))) rfl ?_
                                                          refine sv_call (impl_ReadBits_ok y262 hs  _ h) rfl rfl nofun ?_
                                                          clear h hs
                                                          rintro _ H269 ⟨y265, y268, h, v266, rfl, hs⟩
                                                          refine so_move (v := (.t [(.v v266), (.v (.bool y268))])) rfl ?_
                                                          refine so_extract rfl rfl rfl ?_
                                                          refine so_extract rfl rfl rfl ?_
                                                          refine so_assign (v := (.v v266)) rfl ?_
                                                          refine so_assign (v := (.v (.bool y268))) rfl ?_
                                                          refine so_nil ?_
                                                          refine fi_seq ?_
                                                          refine fi_region ?_
                                                          refine so_move (v := (.v v105)) rfl ?_
                                                          refine sv_callS (impl_EntropyOf_okS v105 y104 hs (fun _ hs => (hs.shows 3 rfl)) _ h) (fun _ _ ⟨_, _, _, _, e⟩ => e) rfl rfl ?_
                                                          clear h
                                                          rintro _ _ ⟨y270, y271, h, rfl, rfl⟩
                                                          refine so_move (v := (.t [(.v (.flt .f32 y270)), (.v (.bool y271))])) rfl ?_
                                                          refine so_extract rfl rfl rfl ?_
                                                          refine so_extract rfl rfl rfl ?_
                                                          refine so_assign (v := (.v (.flt .f32 y270))) rfl ?_
                                                          refine so_assign (v := (.v (.bool y271))) rfl ?_
                                                          refine so_nil ?_
                                                          refine fi_seq ?_
                                                          refine fi_seq ?_
                                                          refine fi_region ?_
                                                          refine so_move (v := (.v (.bool y263))) rfl ?_
                                                          refine so_un rfl au_not ?_
                                                          refine so_move (v := (.v (.bool (!y263)))) rfl ?_
                                                          replace h := ofT h; rcases h with ⟨c273, h⟩ | ⟨c273, h⟩
                                                          · refine so_gyes rfl (not_f c273) ?_
                                                            refine so_move (v := (.v (.bool y268))) rfl ?_
                                                            refine so_gyes rfl (not_f c273) ?_
                                                            refine so_un rfl au_not ?_
                                                            refine so_pick_f (v := (.v (.bool (!y268)))) rfl (not_f c273) rfl ?_
                                                            refine so_move (v := (.v (.bool (!y268)))) rfl ?_
                                                            replace h := ofT h; rcases h with ⟨c274, h⟩ | ⟨c274, h⟩
                                                            · refine so_gyes rfl (not_f c274) ?_
                                                              refine so_move (v := (.v (.bool y271))) rfl ?_
                                                              refine so_gyes rfl (not_f c274) ?_
                                                              refine so_un rfl au_not ?_
                                                              refine so_pick_f (v := (.v (.bool (!y271)))) rfl (not_f c274) rfl ?_
                                                              refine so_move (v := (.v (.bool (!y271)))) rfl ?_
                                                              replace h := ofT h; rcases h with ⟨c275, h⟩ | ⟨c275, h⟩
                                                              · refine so_gyes rfl (not_f c275) ?_
                                                                refine so_move (v := (.v v266)) rfl ?_
                                                                refine so_gyes rfl (not_f c275) ?_
                                                                refine sv_len (hs.shows 0 rfl) (fun _ => rfl) (by decide) rfl F4.ti33 ?_
                                                                refine so_gyes rfl (not_f c275) ?_
                                                                refine so_move (v := (.v v231)) rfl ?_
                                                                refine so_gyes rfl (not_f c275) ?_
                                                                refine sv_len (hs.shows 2 rfl) (fun _ => rfl) (by decide) rfl F4.ti33 ?_
                                                                refine so_gyes rfl (not_f c275) ?_
                                                                refine so_bin rfl rfl ab_neq ?_
                                                                refine so_pick_f (v := (.v (.bool (!(decide ((y265.length : Int) = (y230.length : Int))))))) rfl (not_f c275) rfl ?_
                                                                refine so_move (v := (.v (.bool (!(decide ((y265.length : Int) = (y230.length : Int))))))) rfl ?_
                                                                replace h := ofP h; rcases h with ⟨c276, h⟩ | ⟨c276, h⟩
                                                                · refine so_gyes rfl (not_f (decide_eq_true c276)) ?_
                                                                  refine so_move (v := (.v (.flt .f32 y270))) rfl ?_
                                                                  refine so_gyes rfl (not_f (decide_eq_true c276)) ?_
                                                                  refine sv_ffw rfl F4.us55 F4.in58 F4.fl58 ?_
                                                                  refine so_gyes rfl (not_f (decide_eq_true c276)) ?_
                                                                  refine so_bin rfl rfl ab_flss ?_
                                                                  refine so_pick_f (v := (.v (.bool (fcmp .lss .f64 (widen y270) (cz .f64 13785626545772145148))))) rfl (not_f (decide_eq_true c276)) rfl ?_
                                                                  refine so_move (v := (.v (.bool (fcmp .lss .f64 (widen y270) (cz .f64 13785626545772145148))))) rfl ?_
                                                                  replace h := ofT h; rcases h with ⟨c277, h⟩ | ⟨c277, h⟩
                                                                  · refine so_gno rfl c277 ?_
                                                                    refine so_gno rfl c277 ?_
                                                                    refine so_gno rfl c277 ?_
                                                                    refine so_pick_t (v := (.v (.bool true))) rfl c277 rfl ?_
                                                                    refine so_nil ?_
                                                                    refine fi_true rfl rfl ?_
                                                                    refine fi_seq ?_
                                                                    refine fi_region ?_
                                                                    refine so_assign (v := (.v (.bool false))) rfl ?_
                                                                    refine so_nil ?_
                                                                    exact by_ret rfl ⟨_, h, rfl, (Sep.dropn 4 hs)⟩
                                                                  · refine so_gyes rfl c277 ?_
                                                                    refine so_move (v := (.v (.flt .f32 y270))) rfl ?_
                                                                    refine so_gyes rfl c277 ?_
                                                                    refine sv_ffw rfl F4.us55 F4.in58 F4.fl58 ?_
                                                                    refine so_gyes rfl c277 ?_
                                                                    refine so_bin rfl rfl ab_fgtr ?_
                                                                    refine so_pick_f (v := (.v (.bool (fcmp .gtr .f64 (widen y270) (cz .f64 4616414798036126925))))) rfl c277 rfl ?_
                                                                    refine so_nil ?_
                                                                    replace h := ofT h; rcases h with ⟨c278, h⟩ | ⟨c278, h⟩
                                                                    · refine fi_true rfl c278 ?_
                                                                      refine fi_seq ?_
                                                                      refine fi_region ?_
                                                                      refine so_assign (v := (.v (.bool false))) rfl ?_
                                                                      refine so_nil ?_
                                                                      exact by_ret rfl ⟨_, h, rfl, (Sep.dropn 4 hs)⟩
                                                                    · refine fi_false rfl c278 ?_
                                                                      refine fi_skip ?_
                                                                      refine fi_seq ?_
                                                                      refine fi_seq ?_
                                                                      refine fi_region ?_
                                                                      refine so_assign (v := (.v (.int .i64 (0 : Int)))) rfl ?_
                                                                      refine so_nil ?_
                                                                      refine fi_block ?_
                                                                      refine fi_loop ?_
                                                                      replace hs := hs.del 1
                                                                      replace hs := hs.del 2
                                                                      refine fi_at [(35, (.v v231)), (47, (.v v266)), (51, (.v (.int .i64 (0 : Int))))] ⟨rfl, rfl, rfl, trivial⟩ ?_
                                                                      refine h (fun (i280 : Int) => ∀ (s : Nat → TV) (H : Heap), Sep H (Pc.osl v266 1 (enc eBool y265) :: Pc.osl v231 1 (enc eBool y230) :: fr) → Fin _ _ (updL s [(35, (.v v231)), (47, (.v v266)), (51, (.v (.int .i64 i280)))]) H _) ?_ _ _ hs
                                                                      intro i280 h s285 H286 hs
                                                                      refine fi_inLoop ?_
                                                                      refine fi_seq ?_
                                                                      refine fi_seq ?_
                                                                      refine fi_region ?_
                                                                      refine so_move (v := (.v (.int .i64 i280))) rfl ?_
                                                                      refine so_move (v := (.v v231)) rfl ?_
                                                                      refine sv_len (hs.shows 1 rfl) (fun _ => rfl) (by decide) rfl F4.ti33 ?_
                                                                      refine so_bin rfl rfl ab_lss ?_
                                                                      refine so_nil ?_
                                                                      replace h := ofP h; rcases h with ⟨c281, h⟩ | ⟨c281, h⟩
                                                                      · refine fi_true rfl (decide_eq_true c281) ?_
                                                                        refine fi_skip ?_
                                                                        refine fi_seq ?_
                                                                        refine fi_block ?_
                                                                        refine fi_seq ?_
                                                                        refine fi_region ?_
                                                                        refine so_move (v := (.v v266)) rfl ?_
                                                                        refine so_move (v := (.v (.int .i64 i280))) rfl ?_
                                                                        obtain ⟨c282, h⟩ := h
                                                                        refine sv_idx (hs.shows 0 rfl) c282 (fun _ => rfl) (by decide) rfl rfl F4.tl33 ?_
                                                                        refine sv_cell (hs.shows 0 rfl) c282 false 0 (fun x => (AV.bool x)) (fun _ => rfl) (fun _ => rfl) rfl F4.ag4 ?_
                                                                        refine so_move (v := (.v v231)) rfl ?_
                                                                        refine so_move (v := (.v (.int .i64 i280))) rfl ?_
                                                                        obtain ⟨c283, h⟩ := h
                                                                        refine sv_idx (hs.shows 1 rfl) c283 (fun _ => rfl) (by decide) rfl rfl F4.tl33 ?_
                                                                        refine sv_cell (hs.shows 1 rfl) c283 false 0 (fun x => (AV.bool x)) (fun _ => rfl) (fun _ => rfl) rfl F4.ag4 ?_
                                                                        refine so_bin rfl rfl (ab_bneq F4.tb4) ?_
                                                                        refine so_nil ?_
                                                                        replace h := ofT h; rcases h with ⟨c284, h⟩ | ⟨c284, h⟩
                                                                        · refine fi_false rfl (not_f c284) ?_
                                                                          refine fi_skip ?_
                                                                          refine fi_inBlock ?_
                                                                          refine fi_region ?_
                                                                          refine so_move (v := (.v (.int .i64 i280))) rfl ?_
                                                                          refine so_bin rfl rfl ab_add ?_
                                                                          refine so_assign (v := (.v (.int .i64 (IntKind.i64.wrap (i280 + (1 : Int)))))) rfl ?_
                                                                          refine so_nil ?_
                                                                          exact fi_at [(35, (.v v231)), (47, (.v v266)), (51, (.v (.int .i64 (IntKind.i64.wrap (i280 + (1 : Int))))))] ⟨rfl, rfl, rfl, trivial⟩ (h _ _  hs)
                                                                        · refine fi_true rfl (not_t c284) ?_
                                                                          refine fi_seq ?_
                                                                          refine fi_region ?_
                                                                          refine so_assign (v := (.v (.bool false))) rfl ?_
                                                                          refine so_nil ?_
                                                                          exact by_ret rfl ⟨_, h, rfl, (Sep.del 0 (Sep.del 0 hs))⟩
                                                                      · refine fi_false rfl (decide_eq_false c281) ?_
                                                                        refine fi_exit rfl ?_
                                                                        refine fi_seq ?_
                                                                        refine fi_region ?_
                                                                        refine so_assign (v := (.v (.bool true))) rfl ?_
                                                                        refine so_nil ?_
                                                                        exact by_ret rfl ⟨_, h, rfl, (Sep.del 0 (Sep.del 0 hs))⟩
                                                                · refine so_gno rfl (not_t (decide_eq_false c276)) ?_
                                                                  refine so_gno rfl (not_t (decide_eq_false c276)) ?_
                                                                  refine so_gno rfl (not_t (decide_eq_false c276)) ?_
                                                                  refine so_pick_t (v := (.v (.bool true))) rfl (not_t (decide_eq_false c276)) rfl ?_
                                                                  refine so_move (v := (.v (.bool true))) rfl ?_
                                                                  refine so_gno rfl rfl ?_
                                                                  refine so_gno rfl rfl ?_
                                                                  refine so_gno rfl rfl ?_
                                                                  refine so_pick_t (v := (.v (.bool true))) rfl rfl rfl ?_
                                                                  refine so_nil ?_
                                                                  refine fi_true rfl rfl ?_
                                                                  refine fi_seq ?_
                                                                  refine fi_region ?_
                                                                  refine so_assign (v := (.v (.bool false))) rfl ?_
                                                                  refine so_nil ?_
                                                                  exact by_ret rfl ⟨_, h, rfl, (Sep.dropn 4 hs)⟩
                                                              · refine so_gno rfl (not_t c275) ?_
                                                                refine so_gno rfl (not_t c275) ?_
                                                                refine so_gno rfl (not_t c275) ?_
                                                                refine so_gno rfl (not_t c275) ?_
                                                                refine so_gno rfl (not_t c275) ?_
                                                                refine so_pick_t (v := (.v (.bool true))) rfl (not_t c275) rfl ?_
                                                                refine so_move (v := (.v (.bool true))) rfl ?_
                                                                refine so_gno rfl rfl ?_
                                                                refine so_gno rfl rfl ?_
                                                                refine so_gno rfl rfl ?_
                                                                refine so_pick_t (v := (.v (.bool true))) rfl rfl rfl ?_
                                                                refine so_move (v := (.v (.bool true))) rfl ?_
                                                                refine so_gno rfl rfl ?_
                                                                refine so_gno rfl rfl ?_
                                                                refine so_gno rfl rfl ?_
                                                                refine so_pick_t (v := (.v (.bool true))) rfl rfl rfl ?_
                                                                refine so_nil ?_
                                                                refine fi_true rfl rfl ?_
                                                                refine fi_seq ?_
                                                                refine fi_region ?_
                                                                refine so_assign (v := (.v (.bool false))) rfl ?_
                                                                refine so_nil ?_
                                                                exact by_ret rfl ⟨_, h, rfl, (Sep.dropn 4 hs)⟩
                                                            · refine so_gno rfl (not_t c274) ?_
                                                              refine so_gno rfl (not_t c274) ?_
                                                              refine so_pick_t (v := (.v (.bool true))) rfl (not_t c274) rfl ?_
                                                              refine so_move (v := (.v (.bool true))) rfl ?_
                                                              refine so_gno rfl rfl ?_
                                                              refine so_gno rfl rfl ?_
                                                              refine so_gno rfl rfl ?_
                                                              refine so_gno rfl rfl ?_
                                                              refine so_gno rfl rfl ?_
                                                              refine so_pick_t (v := (.v (.bool true))) rfl rfl rfl ?_
                                                              refine so_move (v := (.v (.bool true))) rfl ?_
                                                              refine so_gno rfl rfl ?_
                                                              refine so_gno rfl rfl ?_
                                                              refine so_gno rfl rfl ?_
                                                              refine so_pick_t (v := (.v (.bool true))) rfl rfl rfl ?_
                                                              refine so_move (v := (.v (.bool true))) rfl ?_
                                                              refine so_gno rfl rfl ?_
                                                              refine so_gno rfl rfl ?_
                                                              refine so_gno rfl rfl ?_
                                                              refine so_pick_t (v := (.v (.bool true))) rfl rfl rfl ?_
                                                              refine so_nil ?_
                                                              refine fi_true rfl rfl ?_
                                                              refine fi_seq ?_
                                                              refine fi_region ?_
                                                              refine so_assign (v := (.v (.bool false))) rfl ?_
                                                              refine so_nil ?_
                                                              exact by_ret rfl ⟨_, h, rfl, (Sep.dropn 4 hs)⟩
                                                          · refine so_gno rfl (not_t c273) ?_
                                                            refine so_gno rfl (not_t c273) ?_
                                                            refine so_pick_t (v := (.v (.bool true))) rfl (not_t c273) rfl ?_
                                                            refine so_move (v := (.v (.bool true))) rfl ?_
                                                            refine so_gno rfl rfl ?_
                                                            refine so_gno rfl rfl ?_
                                                            refine so_pick_t (v := (.v (.bool true))) rfl rfl rfl ?_
                                                            refine so_move (v := (.v (.bool true))) rfl ?_
                                                            refine so_gno rfl rfl ?_
                                                            refine so_gno rfl rfl ?_
                                                            refine so_gno rfl rfl ?_
                                                            refine so_gno rfl rfl ?_
                                                            refine so_gno rfl rfl ?_
                                                            refine so_pick_t (v := (.v (.bool true))) rfl rfl rfl ?_
                                                            refine so_move (v := (.v (.bool true))) rfl ?_
                                                            refine so_gno rfl rfl ?_
                                                            refine so_gno rfl rfl ?_
                                                            refine so_gno rfl rfl ?_
                                                            refine so_pick_t (v := (.v (.bool true))) rfl rfl rfl ?_
                                                            refine so_move (v := (.v (.bool true))) rfl ?_
                                                            refine so_gno rfl rfl ?_
                                                            refine so_gno rfl rfl ?_
                                                            refine so_gno rfl rfl ?_
                                                            refine so_pick_t (v := (.v (.bool true))) rfl rfl rfl ?_
                                                            refine so_nil ?_
                                                            refine fi_true rfl rfl ?_
                                                            refine fi_seq ?_
                                                            refine fi_region ?_
                                                            refine so_assign (v := (.v (.bool false))) rfl ?_
                                                            refine so_nil ?_
                                                            exact by_ret rfl ⟨_, h, rfl, (Sep.dropn 4 hs)⟩
                                                    · refine so_gno rfl (not_t (decide_eq_false c254)) ?_
                                                      refine so_gno rfl (not_t (decide_eq_false c254)) ?_
                                                      refine so_gno rfl (not_t (decide_eq_false c254)) ?_
                                                      refine so_pick_t (v := (.v (.bool true))) rfl (not_t (decide_eq_false c254)) rfl ?_
                                                      refine so_nil ?_
                                                      refine fi_true rfl rfl ?_
                                                      refine fi_seq ?_
                                                      refine fi_region ?_
                                                      refine so_assign (v := (.v (.bool false))) rfl ?_
                                                      refine so_nil ?_
                                                      exact by_ret rfl ⟨_, h, rfl, (Sep.dropn 4 hs)⟩
                                                  · refine so_gno rfl (not_t (decide_eq_false c253)) ?_
                                                    refine so_gno rfl (not_t (decide_eq_false c253)) ?_
                                                    refine so_gno rfl (not_t (decide_eq_false c253)) ?_
                                                    refine so_pick_t (v := (.v (.bool true))) rfl (not_t (decide_eq_false c253)) rfl ?_
                                                    refine so_move (v := (.v (.bool true))) rfl ?_
                                                    refine so_gno rfl rfl ?_
                                                    refine so_gno rfl rfl ?_
                                                    refine so_gno rfl rfl ?_
                                                    refine so_pick_t (v := (.v (.bool true))) rfl rfl rfl ?_
                                                    refine so_nil ?_
                                                    refine fi_true rfl rfl ?_
                                                    refine fi_seq ?_
                                                    refine fi_region ?_
                                                    refine so_assign (v := (.v (.bool false))) rfl ?_
                                                    refine so_nil ?_
                                                    exact by_ret rfl ⟨_, h, rfl, (Sep.dropn 4 hs)⟩
                                                · refine so_gno rfl (not_t (decide_eq_false c252)) ?_
                                                  refine so_gno rfl (not_t (decide_eq_false c252)) ?_
                                                  refine so_gno rfl (not_t (decide_eq_false c252)) ?_
                                                  refine so_gno rfl (not_t (decide_eq_false c252)) ?_
                                                  refine so_pick_t (v := (.v (.bool true))) rfl (not_t (decide_eq_false c252)) rfl ?_
                                                  refine so_move (v := (.v (.bool true))) rfl ?_
                                                  refine so_gno rfl rfl ?_
                                                  refine so_gno rfl rfl ?_
                                                  refine so_gno rfl rfl ?_
                                                  refine so_pick_t (v := (.v (.bool true))) rfl rfl rfl ?_
                                                  refine so_move (v := (.v (.bool true))) rfl ?_
                                                  refine so_gno rfl rfl ?_
                                                  refine so_gno rfl rfl ?_
                                                  refine so_gno rfl rfl ?_
                                                  refine so_pick_t (v := (.v (.bool true))) rfl rfl rfl ?_
                                                  refine so_nil ?_
                                                  refine fi_true rfl rfl ?_
                                                  refine fi_seq ?_
                                                  refine fi_region ?_
                                                  refine so_assign (v := (.v (.bool false))) rfl ?_
                                                  refine so_nil ?_
                                                  exact by_ret rfl ⟨_, h, rfl, (Sep.dropn 4 hs)⟩
                                              · refine so_gno rfl (not_t c251) ?_
                                                refine so_gno rfl (not_t c251) ?_
                                                refine so_gno rfl (not_t c251) ?_
                                                refine so_gno rfl (not_t c251) ?_
                                                refine so_pick_t (v := (.v (.bool true))) rfl (not_t c251) rfl ?_
                                                refine so_move (v := (.v (.bool true))) rfl ?_
                                                refine so_gno rfl rfl ?_
                                                refine so_gno rfl rfl ?_
                                                refine so_gno rfl rfl ?_
                                                refine so_gno rfl rfl ?_
                                                refine so_pick_t (v := (.v (.bool true))) rfl rfl rfl ?_
                                                refine so_move (v := (.v (.bool true))) rfl ?_
                                                refine so_gno rfl rfl ?_
                                                refine so_gno rfl rfl ?_
                                                refine so_gno rfl rfl ?_
                                                refine so_pick_t (v := (.v (.bool true))) rfl rfl rfl ?_
                                                refine so_move (v := (.v (.bool true))) rfl ?_
                                                refine so_gno rfl rfl ?_
                                                refine so_gno rfl rfl ?_
                                                refine so_gno rfl rfl ?_
                                                refine so_pick_t (v := (.v (.bool true))) rfl rfl rfl ?_
                                                refine so_nil ?_
                                                refine fi_true rfl rfl ?_
                                                refine fi_seq ?_
                                                refine fi_region ?_
                                                refine so_assign (v := (.v (.bool false))) rfl ?_
                                                refine so_nil ?_
                                                exact by_ret rfl ⟨_, h, rfl, (Sep.dropn 4 hs)⟩
                                            · refine so_gno rfl (not_t c250) ?_
                                              refine so_gno rfl (not_t c250) ?_
                                              refine so_pick_t (v := (.v (.bool true))) rfl (not_t c250) rfl ?_
                                              refine so_move (v := (.v (.bool true))) rfl ?_
                                              refine so_gno rfl rfl ?_
                                              refine so_gno rfl rfl ?_
                                              refine so_gno rfl rfl ?_
                                              refine so_gno rfl rfl ?_
                                              refine so_pick_t (v := (.v (.bool true))) rfl rfl rfl ?_
                                              refine so_move (v := (.v (.bool true))) rfl ?_
                                              refine so_gno rfl rfl ?_
                                              refine so_gno rfl rfl ?_
                                              refine so_gno rfl rfl ?_
                                              refine so_gno rfl rfl ?_
                                              refine so_pick_t (v := (.v (.bool true))) rfl rfl rfl ?_
                                              refine so_move (v := (.v (.bool true))) rfl ?_
                                              refine so_gno rfl rfl ?_
                                              refine so_gno rfl rfl ?_
                                              refine so_gno rfl rfl ?_
                                              refine so_pick_t (v := (.v (.bool true))) rfl rfl rfl ?_
                                              refine so_move (v := (.v (.bool true))) rfl ?_
                                              refine so_gno rfl rfl ?_
                                              refine so_gno rfl rfl ?_
                                              refine so_gno rfl rfl ?_
                                              refine so_pick_t (v := (.v (.bool true))) rfl rfl rfl ?_
                                              refine so_nil ?_
                                              refine fi_true rfl rfl ?_
                                              refine fi_seq ?_
                                              refine fi_region ?_
                                              refine so_assign (v := (.v (.bool false))) rfl ?_
                                              refine so_nil ?_
                                              exact by_ret rfl ⟨_, h, rfl, (Sep.dropn 4 hs)⟩
                                          · refine so_gno rfl (not_t c249) ?_
                                            refine so_gno rfl (not_t c249) ?_
                                            refine so_pick_t (v := (.v (.bool true))) rfl (not_t c249) rfl ?_
                                            refine so_move (v := (.v (.bool true))) rfl ?_
                                            refine so_gno rfl rfl ?_
                                            refine so_gno rfl rfl ?_
                                            refine so_pick_t (v := (.v (.bool true))) rfl rfl rfl ?_
                                            refine so_move (v := (.v (.bool true))) rfl ?_
                                            refine so_gno rfl rfl ?_
                                            refine so_gno rfl rfl ?_
                                            refine so_gno rfl rfl ?_
                                            refine so_gno rfl rfl ?_
                                            refine so_pick_t (v := (.v (.bool true))) rfl rfl rfl ?_
                                            refine so_move (v := (.v (.bool true))) rfl ?_
                                            refine so_gno rfl rfl ?_
                                            refine so_gno rfl rfl ?_
                                            refine so_gno rfl rfl ?_
                                            refine so_gno rfl rfl ?_
                                            refine so_pick_t (v := (.v (.bool true))) rfl rfl rfl ?_
                                            refine so_move (v := (.v (.bool true))) rfl ?_
                                            refine so_gno rfl rfl ?_
                                            refine so_gno rfl rfl ?_
                                            refine so_gno rfl rfl ?_
                                            refine so_pick_t (v := (.v (.bool true))) rfl rfl rfl ?_
                                            refine so_move (v := (.v (.bool true))) rfl ?_
                                            refine so_gno rfl rfl ?_
                                            refine so_gno rfl rfl ?_
                                            refine so_gno rfl rfl ?_
                                            refine so_pick_t (v := (.v (.bool true))) rfl rfl rfl ?_
                                            refine so_nil ?_
                                            refine fi_true rfl rfl ?_
                                            refine fi_seq ?_
                                            refine fi_region ?_
                                            refine so_assign (v := (.v (.bool false))) rfl ?_
                                            refine so_nil ?_
                                            exact by_ret rfl ⟨_, h, rfl, (Sep.dropn 4 hs)⟩
                                        · refine so_gno rfl (not_t c248) ?_
                                          refine so_gno rfl (not_t c248) ?_
                                          refine so_pick_t (v := (.v (.bool true))) rfl (not_t c248) rfl ?_
                                          refine so_move (v := (.v (.bool true))) rfl ?_
                                          refine so_gno rfl rfl ?_
                                          refine so_gno rfl rfl ?_
                                          refine so_pick_t (v := (.v (.bool true))) rfl rfl rfl ?_
                                          refine so_move (v := (.v (.bool true))) rfl ?_
                                          refine so_gno rfl rfl ?_
                                          refine so_gno rfl rfl ?_
                                          refine so_pick_t (v := (.v (.bool true))) rfl rfl rfl ?_
                                          refine so_move (v := (.v (.bool true))) rfl ?_
                                          refine so_gno rfl rfl ?_
                                          refine so_gno rfl rfl ?_
                                          refine so_gno rfl rfl ?_
                                          refine so_gno rfl rfl ?_
                                          refine so_pick_t (v := (.v (.bool true))) rfl rfl rfl ?_
                                          refine so_move (v := (.v (.bool true))) rfl ?_
                                          refine so_gno rfl rfl ?_
                                          refine so_gno rfl rfl ?_
                                          refine so_gno rfl rfl ?_
                                          refine so_gno rfl rfl ?_
                                          refine so_pick_t (v := (.v (.bool true))) rfl rfl rfl ?_
                                          refine so_move (v := (.v (.bool true))) rfl ?_
                                          refine so_gno rfl rfl ?_
                                          refine so_gno rfl rfl ?_
                                          refine so_gno rfl rfl ?_
                                          refine so_pick_t (v := (.v (.bool true))) rfl rfl rfl ?_
                                          refine so_move (v := (.v (.bool true))) rfl ?_
                                          refine so_gno rfl rfl ?_
                                          refine so_gno rfl rfl ?_
                                          refine so_gno rfl rfl ?_
                                          refine so_pick_t (v := (.v (.bool true))) rfl rfl rfl ?_
                                          refine so_nil ?_
                                          refine fi_true rfl rfl ?_
                                          refine fi_seq ?_
                                          refine fi_region ?_
                                          refine so_assign (v := (.v (.bool false))) rfl ?_
                                          refine so_nil ?_
                                          exact by_ret rfl ⟨_, h, rfl, (Sep.dropn 4 hs)⟩
                                      · refine so_gno rfl (not_t c247) ?_
                                        refine so_gno rfl (not_t c247) ?_
                                        refine so_pick_t (v := (.v (.bool true))) rfl (not_t c247) rfl ?_
                                        refine so_move (v := (.v (.bool true))) rfl ?_
                                        refine so_gno rfl rfl ?_
                                        refine so_gno rfl rfl ?_
                                        refine so_pick_t (v := (.v (.bool true))) rfl rfl rfl ?_
                                        refine so_move (v := (.v (.bool true))) rfl ?_
                                        refine so_gno rfl rfl ?_
                                        refine so_gno rfl rfl ?_
                                        refine so_pick_t (v := (.v (.bool true))) rfl rfl rfl ?_
                                        refine so_move (v := (.v (.bool true))) rfl ?_
                                        refine so_gno rfl rfl ?_
                                        refine so_gno rfl rfl ?_
                                        refine so_pick_t (v := (.v (.bool true))) rfl rfl rfl ?_
                                        refine so_move (v := (.v (.bool true))) rfl ?_
                                        refine so_gno rfl rfl ?_
                                        refine so_gno rfl rfl ?_
                                        refine so_gno rfl rfl ?_
                                        refine so_gno rfl rfl ?_
                                        refine so_pick_t (v := (.v (.bool true))) rfl rfl rfl ?_
                                        refine so_move (v := (.v (.bool true))) rfl ?_
                                        refine so_gno rfl rfl ?_
                                        refine so_gno rfl rfl ?_
                                        refine so_gno rfl rfl ?_
                                        refine so_gno rfl rfl ?_
                                        refine so_pick_t (v := (.v (.bool true))) rfl rfl rfl ?_
                                        refine so_move (v := (.v (.bool true))) rfl ?_
                                        refine so_gno rfl rfl ?_
                                        refine so_gno rfl rfl ?_
                                        refine so_gno rfl rfl ?_
                                        refine so_pick_t (v := (.v (.bool true))) rfl rfl rfl ?_
                                        refine so_move (v := (.v (.bool true))) rfl ?_
                                        refine so_gno rfl rfl ?_
                                        refine so_gno rfl rfl ?_
                                        refine so_gno rfl rfl ?_
                                        refine so_pick_t (v := (.v (.bool true))) rfl rfl rfl ?_
                                        refine so_nil ?_
                                        refine fi_true rfl rfl ?_
                                        refine fi_seq ?_
                                        refine fi_region ?_
                                        refine so_assign (v := (.v (.bool false))) rfl ?_
                                        refine so_nil ?_
                                        exact by_ret rfl ⟨_, h, rfl, (Sep.dropn 4 hs)⟩
                                  · refine fi_true rfl (not_t (decide_eq_false c213)) ?_
                                    refine fi_seq ?_
                                    refine fi_region ?_
                                    refine so_assign (v := (.v (.bool false))) rfl ?_
                                    refine so_nil ?_
                                    exact by_ret rfl ⟨_, h, rfl, (Sep.dropn 7 hs)⟩
                                · refine so_gno rfl (not_t c212) ?_
                                  refine so_gno rfl (not_t c212) ?_
                                  refine so_gno rfl (not_t c212) ?_
                                  refine so_gno rfl (not_t c212) ?_
                                  refine so_pick_t (v := (.v (.bool true))) rfl (not_t c212) rfl ?_
                                  refine so_nil ?_
                                  refine fi_true rfl rfl ?_
                                  refine fi_seq ?_
                                  refine fi_region ?_
                                  refine so_assign (v := (.v (.bool false))) rfl ?_
                                  refine so_nil ?_
                                  exact by_ret rfl ⟨_, h, rfl, (Sep.dropn 7 hs)⟩
                              · refine so_gno rfl (not_t c211) ?_
                                refine so_gno rfl (not_t c211) ?_
                                refine so_pick_t (v := (.v (.bool true))) rfl (not_t c211) rfl ?_
                                refine so_move (v := (.v (.bool true))) rfl ?_
                                refine so_gno rfl rfl ?_
                                refine so_gno rfl rfl ?_
                                refine so_gno rfl rfl ?_
                                refine so_gno rfl rfl ?_
                                refine so_pick_t (v := (.v (.bool true))) rfl rfl rfl ?_
                                refine so_nil ?_
                                refine fi_true rfl rfl ?_
                                refine fi_seq ?_
                                refine fi_region ?_
                                refine so_assign (v := (.v (.bool false))) rfl ?_
                                refine so_nil ?_
                                exact by_ret rfl ⟨_, h, rfl, (Sep.dropn 7 hs)⟩
                            · refine so_gno rfl (not_t c210) ?_
                              refine so_gno rfl (not_t c210) ?_
                              refine so_pick_t (v := (.v (.bool true))) rfl (not_t c210) rfl ?_
                              refine so_move (v := (.v (.bool true))) rfl ?_
                              refine so_gno rfl rfl ?_
                              refine so_gno rfl rfl ?_
                              refine so_pick_t (v := (.v (.bool true))) rfl rfl rfl ?_
                              refine so_move (v := (.v (.bool true))) rfl ?_
                              refine so_gno rfl rfl ?_
                              refine so_gno rfl rfl ?_
                              refine so_gno rfl rfl ?_
                              refine so_gno rfl rfl ?_
                              refine so_pick_t (v := (.v (.bool true))) rfl rfl rfl ?_
                              refine so_nil ?_
                              refine fi_true rfl rfl ?_
                              refine fi_seq ?_
                              refine fi_region ?_
                              refine so_assign (v := (.v (.bool false))) rfl ?_
                              refine so_nil ?_
                              exact by_ret rfl ⟨_, h, rfl, (Sep.dropn 7 hs)⟩
                        · refine fi_true rfl (not_t (decide_eq_false c170)) ?_
                          refine fi_seq ?_
                          refine fi_region ?_
                          refine so_assign (v := (.v (.bool false))) rfl ?_
                          refine so_nil ?_
                          exact by_ret rfl ⟨_, h, rfl, (Sep.dropn 7 hs)⟩
                      · refine so_gno rfl (not_t (decide_eq_false c169)) ?_
                        refine so_gno rfl (not_t (decide_eq_false c169)) ?_
                        refine so_gno rfl (not_t (decide_eq_false c169)) ?_
                        refine so_gno rfl (not_t (decide_eq_false c169)) ?_
                        refine so_gno rfl (not_t (decide_eq_false c169)) ?_
                        refine so_pick_t (v := (.v (.bool true))) rfl (not_t (decide_eq_false c169)) rfl ?_
                        refine so_nil ?_
                        refine fi_true rfl rfl ?_
                        refine fi_seq ?_
                        refine fi_region ?_
                        refine so_assign (v := (.v (.bool false))) rfl ?_
                        refine so_nil ?_
                        exact by_ret rfl ⟨_, h, rfl, (Sep.dropn 7 hs)⟩
                    · refine so_gno rfl (not_t c168) ?_
                      refine so_gno rfl (not_t c168) ?_
                      refine so_gno rfl (not_t c168) ?_
                      refine so_gno rfl (not_t c168) ?_
                      refine so_pick_t (v := (.v (.bool true))) rfl (not_t c168) rfl ?_
                      refine so_move (v := (.v (.bool true))) rfl ?_
                      refine so_gno rfl rfl ?_
                      refine so_gno rfl rfl ?_
                      refine so_gno rfl rfl ?_
                      refine so_gno rfl rfl ?_
                      refine so_gno rfl rfl ?_
                      refine so_pick_t (v := (.v (.bool true))) rfl rfl rfl ?_
                      refine so_nil ?_
                      refine fi_true rfl rfl ?_
                      refine fi_seq ?_
                      refine fi_region ?_
                      refine so_assign (v := (.v (.bool false))) rfl ?_
                      refine so_nil ?_
                      exact by_ret rfl ⟨_, h, rfl, (Sep.dropn 7 hs)⟩
                  · refine so_gno rfl (not_t c167) ?_
                    refine so_gno rfl (not_t c167) ?_
                    refine so_pick_t (v := (.v (.bool true))) rfl (not_t c167) rfl ?_
                    refine so_move (v := (.v (.bool true))) rfl ?_
                    refine so_gno rfl rfl ?_
                    refine so_gno rfl rfl ?_
                    refine so_gno rfl rfl ?_
                    refine so_gno rfl rfl ?_
                    refine so_pick_t (v := (.v (.bool true))) rfl rfl rfl ?_
                    refine so_move (v := (.v (.bool true))) rfl ?_
                    refine so_gno rfl rfl ?_
                    refine so_gno rfl rfl ?_
                    refine so_gno rfl rfl ?_
                    refine so_gno rfl rfl ?_
                    refine so_gno rfl rfl ?_
                    refine so_pick_t (v := (.v (.bool true))) rfl rfl rfl ?_
                    refine so_nil ?_
                    refine fi_true rfl rfl ?_
                    refine fi_seq ?_
                    refine fi_region ?_
                    refine so_assign (v := (.v (.bool false))) rfl ?_
                    refine so_nil ?_
                    exact by_ret rfl ⟨_, h, rfl, (Sep.dropn 7 hs)⟩
              · refine fi_true rfl (not_t (decide_eq_false c132)) ?_
                refine fi_seq ?_
                refine fi_region ?_
                refine so_assign (v := (.v (.bool false))) rfl ?_
                refine so_nil ?_
                exact by_ret rfl ⟨_, h, rfl, (Sep.dropn 4 hs)⟩
            · refine so_gno rfl (not_t (decide_eq_false c131)) ?_
              refine so_gno rfl (not_t (decide_eq_false c131)) ?_
              refine so_gno rfl (not_t (decide_eq_false c131)) ?_
              refine so_gno rfl (not_t (decide_eq_false c131)) ?_
              refine so_pick_t (v := (.v (.bool true))) rfl (not_t (decide_eq_false c131)) rfl ?_
              refine so_nil ?_
              refine fi_true rfl rfl ?_
              refine fi_seq ?_
              refine fi_region ?_
              refine so_assign (v := (.v (.bool false))) rfl ?_
              refine so_nil ?_
              exact by_ret rfl ⟨_, h, rfl, (Sep.dropn 4 hs)⟩
          · refine so_gno rfl (not_t (decide_eq_false c130)) ?_
            refine so_gno rfl (not_t (decide_eq_false c130)) ?_
            refine so_gno rfl (not_t (decide_eq_false c130)) ?_
            refine so_gno rfl (not_t (decide_eq_false c130)) ?_
            refine so_pick_t (v := (.v (.bool true))) rfl (not_t (decide_eq_false c130)) rfl ?_
            refine so_move (v := (.v (.bool true))) rfl ?_
            refine so_gno rfl rfl ?_
            refine so_gno rfl rfl ?_
            refine so_gno rfl rfl ?_
            refine so_gno rfl rfl ?_
            refine so_pick_t (v := (.v (.bool true))) rfl rfl rfl ?_
            refine so_nil ?_
            refine fi_true rfl rfl ?_
            refine fi_seq ?_
            refine fi_region ?_
            refine so_assign (v := (.v (.bool false))) rfl ?_
            refine so_nil ?_
            exact by_ret rfl ⟨_, h, rfl, (Sep.dropn 4 hs)⟩
        · refine so_gno rfl (not_t c129) ?_
          refine so_gno rfl (not_t c129) ?_
          refine so_gno rfl (not_t c129) ?_
          refine so_gno rfl (not_t c129) ?_
          refine so_pick_t (v := (.v (.bool true))) rfl (not_t c129) rfl ?_
          refine so_move (v := (.v (.bool true))) rfl ?_
          refine so_gno rfl rfl ?_
          refine so_gno rfl rfl ?_
          refine so_gno rfl rfl ?_
          refine so_gno rfl rfl ?_
          refine so_pick_t (v := (.v (.bool true))) rfl rfl rfl ?_
          refine so_move (v := (.v (.bool true))) rfl ?_
          refine so_gno rfl rfl ?_
          refine so_gno rfl rfl ?_
          refine so_gno rfl rfl ?_
          refine so_gno rfl rfl ?_
          refine so_pick_t (v := (.v (.bool true))) rfl rfl rfl ?_
          refine so_nil ?_
          refine fi_true rfl rfl ?_
          refine fi_seq ?_
          refine fi_region ?_
          refine so_assign (v := (.v (.bool false))) rfl ?_
          refine so_nil ?_
          exact by_ret rfl ⟨_, h, rfl, (Sep.dropn 4 hs)⟩
      · refine so_gno rfl (not_t c128) ?_
        refine so_gno rfl (not_t c128) ?_
        refine so_pick_t (v := (.v (.bool true))) rfl (not_t c128) rfl ?_
        refine so_move (v := (.v (.bool true))) rfl ?_
        refine so_gno rfl rfl ?_
        refine so_gno rfl rfl ?_
        refine so_gno rfl rfl ?_
        refine so_gno rfl rfl ?_
        refine so_pick_t (v := (.v (.bool true))) rfl rfl rfl ?_
        refine so_move (v := (.v (.bool true))) rfl ?_
        refine so_gno rfl rfl ?_
        refine so_gno rfl rfl ?_
        refine so_gno rfl rfl ?_
        refine so_gno rfl rfl ?_
        refine so_pick_t (v := (.v (.bool true))) rfl rfl rfl ?_
        refine so_move (v := (.v (.bool true))) rfl ?_
        refine so_gno rfl rfl ?_
        refine so_gno rfl rfl ?_
        refine so_gno rfl rfl ?_
        refine so_gno rfl rfl ?_
        refine so_pick_t (v := (.v (.bool true))) rfl rfl rfl ?_
        refine so_nil ?_
        refine fi_true rfl rfl ?_
        refine fi_seq ?_
        refine fi_region ?_
        refine so_assign (v := (.v (.bool false))) rfl ?_
        refine so_nil ?_
        exact by_ret rfl ⟨_, h, rfl, (Sep.dropn 4 hs)⟩
    · refine so_gno rfl (not_t c127) ?_
      refine so_gno rfl (not_t c127) ?_
      refine so_pick_t (v := (.v (.bool true))) rfl (not_t c127) rfl ?_
      refine so_move (v := (.v (.bool true))) rfl ?_
      refine so_gno rfl rfl ?_
      refine so_gno rfl rfl ?_
      refine so_pick_t (v := (.v (.bool true))) rfl rfl rfl ?_
      refine so_move (v := (.v (.bool true))) rfl ?_
      refine so_gno rfl rfl ?_
      refine so_gno rfl rfl ?_
      refine so_gno rfl rfl ?_
      refine so_gno rfl rfl ?_
      refine so_pick_t (v := (.v (.bool true))) rfl rfl rfl ?_
      refine so_move (v := (.v (.bool true))) rfl ?_
      refine so_gno rfl rfl ?_
      refine so_gno rfl rfl ?_
      refine so_gno rfl rfl ?_
      refine so_gno rfl rfl ?_
      refine so_pick_t (v := (.v (.bool true))) rfl rfl rfl ?_
      refine so_move (v := (.v (.bool true))) rfl ?_
      refine so_gno rfl rfl ?_
      refine so_gno rfl rfl ?_
      refine so_gno rfl rfl ?_
      refine so_gno rfl rfl ?_
      refine so_pick_t (v := (.v (.bool true))) rfl rfl rfl ?_
      refine so_nil ?_
      refine fi_true rfl rfl ?_
      refine fi_seq ?_
      refine fi_region ?_
      refine so_assign (v := (.v (.bool false))) rfl ?_
      refine so_nil ?_
      exact by_ret rfl ⟨_, h, rfl, (Sep.dropn 4 hs)⟩

end Go.Proofs.YtecdkjnomkdbkaaDoor.G

