/-
  The model ends so. Printed by a program of the session; nothing here is trusted.
-/
import Derived.Test.YtkaidcgelbhofaaProg
import Derived.KernelRfl
import Derived.Test.YtkaidcgelbhofaaMExactRecoverTakesWa
import Derived.Test.YtkaidcgelbhofaaMExactRecoverTakesKa
namespace Go.Proofs.Ytkaidcgelbhofaa.G
open Go Go.Ab Go.Proofs Go.Proofs.Ytkaidcgelbhofaa
set_option maxRecDepth 100000
set_option linter.unusedVariables false
set_option linter.unusedSimpArgs false
set_option maxHeartbeats 1000000
attribute [local irreducible] wops wopf Go.Ab.Fin
theorem F7.sr9 : tstr Try.prog 9 = true := by kernel_rfl
theorem F7.tb4 : tbool Try.prog 4 = true := by kernel_rfl
theorem laws_FnExactRecoverTakes_ok {fr : List Pc} {H : Heap} (a0 : List UInt8) (hs : Sep H (fr))  (K : Bool → Prop) (h : laws_FnExactRecoverTakes.wp a0 K) : OkQ Try.prog 7 [(.v (.str (pk a0)))] H (fun r H2 => ∃ (y0 : Bool), K y0 ∧ r = (.v (.bool y0)) ∧ Sep H2 (fr)) := by
  unfold laws_FnExactRecoverTakes.wp at h
  refine of_body Try.f7 F.hm Try.func7 rfl Try.call7 (by kernel_rfl) (by simp) ?_
  refine fi_seq ?_
  refine fi_region ?_
  refine so_assign (v := (.v (.bool false))) rfl ?_
  refine so_nil ?_
  refine fi_seq ?_
  refine fi_seq ?_
  refine fi_region ?_
  refine so_move (v := (.v (.str (pk a0)))) rfl ?_
  refine so_slen rfl F7.sr9 ?_
  refine so_bin rfl rfl ab_gtr ?_
  refine so_nil ?_
  replace h := ofP h; rcases h with ⟨c101, h⟩ | ⟨c101, h⟩
  · refine fi_true rfl (decide_eq_true c101) ?_
    refine fi_seq ?_
    refine fi_region ?_
    refine so_assign (v := (.v (.bool true))) rfl ?_
    refine so_nil ?_
    exact by_ret rfl ⟨_, h, rfl, hs⟩
  · refine fi_false rfl (decide_eq_false c101) ?_
    refine fi_skip ?_
    refine fi_seq ?_
    refine fi_region ?_
    refine so_move (v := (.v (.str (pk a0)))) rfl ?_
    refine sv_call (spec_RecoverTakes_ok a0 hs  _ h) rfl rfl nofun ?_
    clear h hs
    rintro _ H109 ⟨y102, y107, y108, h, v103, ws105, S106, rfl, hs⟩
    refine so_move (v := (.t [(.v v103), (.v (.int .i64 y107)), (.v (.bool y108))])) rfl ?_
    refine so_extract rfl rfl rfl ?_
    refine so_extract rfl rfl rfl ?_
    refine so_extract rfl rfl rfl ?_
    refine so_assign (v := (.v v103)) rfl ?_
    refine so_assign (v := (.v (.int .i64 y107))) rfl ?_
    refine so_assign (v := (.v (.bool y108))) rfl ?_
    refine so_nil ?_
    refine fi_seq ?_
    refine fi_region ?_
    refine so_move (v := (.v (.str (pk a0)))) rfl ?_
    refine sv_call (impl_RecoverTakes_ok a0 hs  _ h) rfl rfl nofun ?_
    clear h hs
    rintro _ H117 ⟨y110, y115, y116, h, v111, ws113, S114, rfl, hs⟩
    refine so_move (v := (.t [(.v v111), (.v (.int .i64 y115)), (.v (.bool y116))])) rfl ?_
    refine so_extract rfl rfl rfl ?_
    refine so_extract rfl rfl rfl ?_
    refine so_extract rfl rfl rfl ?_
    refine so_assign (v := (.v v111)) rfl ?_
    refine so_assign (v := (.v (.int .i64 y115))) rfl ?_
    refine so_assign (v := (.v (.bool y116))) rfl ?_
    refine so_nil ?_
    refine fi_seq ?_
    refine fi_seq ?_
    refine fi_region ?_
    refine so_move (v := (.v v111)) rfl ?_
    refine so_move (v := (.v v103)) rfl ?_
    refine sv_callS (laws_eqTakeS_ok v111 ws113 y110 v103 ws105 y102 hs (fun _ hs => (hs.dshows 0 rfl)) (fun _ hs => (hs.dshows 1 rfl)) _ h) (fun _ _ ⟨_, _, _, e⟩ => e) rfl rfl ?_
    clear h
    rintro _ _ ⟨y118, h, rfl, rfl⟩
    refine so_un rfl au_not ?_
    refine so_move (v := (.v (.bool (!y118)))) rfl ?_
    replace h := ofT h; rcases h with ⟨c120, h⟩ | ⟨c120, h⟩
    · refine so_gyes rfl (not_f c120) ?_
      refine so_move (v := (.v (.int .i64 y115))) rfl ?_
      refine so_gyes rfl (not_f c120) ?_
      refine so_move (v := (.v (.int .i64 y107))) rfl ?_
      refine so_gyes rfl (not_f c120) ?_
      refine so_bin rfl rfl ab_neq ?_
      refine so_pick_f (v := (.v (.bool (!(decide (y115 = y107)))))) rfl (not_f c120) rfl ?_
      refine so_move (v := (.v (.bool (!(decide (y115 = y107)))))) rfl ?_
      replace h := ofP h; rcases h with ⟨c121, h⟩ | ⟨c121, h⟩
      · refine so_gyes rfl (not_f (decide_eq_true c121)) ?_
        refine so_move (v := (.v (.bool y116))) rfl ?_
        refine so_gyes rfl (not_f (decide_eq_true c121)) ?_
        refine so_move (v := (.v (.bool y108))) rfl ?_
        refine so_gyes rfl (not_f (decide_eq_true c121)) ?_
        refine so_bin rfl rfl (ab_bneq F7.tb4) ?_
        refine so_pick_f (v := (.v (.bool (!(y116 == y108))))) rfl (not_f (decide_eq_true c121)) rfl ?_
        refine so_nil ?_
        replace h := ofT h; rcases h with ⟨c122, h⟩ | ⟨c122, h⟩
        · refine fi_false rfl (not_f c122) ?_
          refine fi_skip ?_
          refine fi_seq ?_
          refine fi_region ?_
          refine so_assign (v := (.v (.int .i64 (1 : Int)))) rfl ?_
          refine so_nil ?_
          refine fi_seq ?_
          refine fi_region ?_
          refine so_move (v := (.v v111)) rfl ?_
          refine so_move (v := (.v (.int .i64 (1 : Int)))) rfl ?_
          refine sv_call (laws_markTakeS_ok v111 ws113 S114 y110 (1 : Int) hs  _ h) rfl rfl nofun ?_
          clear h hs
          rintro _ H127 ⟨y123, y124, h, ws125, S126, rfl, hs⟩
          refine so_assign (v := (.v (.int .i64 y123))) rfl ?_
          refine so_nil ?_
          refine fi_seq ?_
          refine fi_region ?_
          refine so_assign (v := (.v (.int .i64 (1 : Int)))) rfl ?_
          refine so_nil ?_
          refine fi_seq ?_
          refine fi_region ?_
          refine so_move (v := (.v v111)) rfl ?_
          refine so_move (v := (.v (.int .i64 (1 : Int)))) rfl ?_
          refine sv_callS (laws_heldTakeS_ok v111 ws125 y124 (1 : Int) hs (fun _ hs => (hs.dshows 0 rfl)) _ h) (fun _ _ ⟨_, _, _, e⟩ => e) rfl rfl ?_
          clear h
          rintro _ _ ⟨y128, h, rfl, rfl⟩
          refine so_assign (v := (.v (.int .i64 y128))) rfl ?_
          refine so_nil ?_
          refine fi_seq ?_
          refine fi_seq ?_
          refine fi_region ?_
          refine so_move (v := (.v (.int .i64 y128))) rfl ?_
          refine so_bin rfl rfl ab_lss ?_
          refine so_nil ?_
          replace h := ofP h; rcases h with ⟨c130, h⟩ | ⟨c130, h⟩
          · refine fi_true rfl (decide_eq_true c130) ?_
            refine fi_seq ?_
            refine fi_region ?_
            refine so_assign (v := (.v (.bool false))) rfl ?_
            refine so_nil ?_
            exact by_ret rfl ⟨_, h, rfl, (Sep.del 0 (Sep.del 0 hs))⟩
          · refine fi_false rfl (decide_eq_false c130) ?_
            refine fi_skip ?_
            refine fi_seq ?_
            refine fi_seq ?_
            refine fi_region ?_
            refine so_move (v := (.v (.int .i64 y128))) rfl ?_
            refine so_move (v := (.v (.int .i64 y123))) rfl ?_
            refine so_bin rfl rfl ab_neq ?_
            refine so_nil ?_
            replace h := ofP h; rcases h with ⟨c131, h⟩ | ⟨c131, h⟩
            · refine fi_false rfl (not_f (decide_eq_true c131)) ?_
              refine fi_skip ?_
              refine fi_seq ?_
              refine fi_region ?_
              refine so_move (v := (.v (.str (pk a0)))) rfl ?_
              refine sv_call (impl_RecoverTakes_ok a0 hs  _ h) rfl rfl nofun ?_
              clear h hs
              rintro _ H139 ⟨y132, y137, y138, h, v133, ws135, S136, rfl, hs⟩
              refine so_move (v := (.t [(.v v133), (.v (.int .i64 y137)), (.v (.bool y138))])) rfl ?_
              refine so_extract rfl rfl rfl ?_
              refine so_extract rfl rfl rfl ?_
              refine so_extract rfl rfl rfl ?_
              refine so_assign (v := (.v v133)) rfl ?_
              refine so_assign (v := (.v (.int .i64 y137))) rfl ?_
              refine so_assign (v := (.v (.bool y138))) rfl ?_
              refine so_nil ?_
              refine fi_seq ?_
              refine fi_seq ?_
              refine fi_region ?_
              refine so_move (v := (.v v133)) rfl ?_
              refine so_move (v := (.v v103)) rfl ?_
              refine sv_callS (laws_eqTakeS_ok v133 ws135 y132 v103 ws105 y102 hs (fun _ hs => (hs.dshows 0 rfl)) (fun _ hs => (hs.dshows 2 rfl)) _ h) (fun _ _ ⟨_, _, _, e⟩ => e) rfl rfl ?_
              clear h
              rintro _ _ ⟨y140, h, rfl, rfl⟩
              refine so_un rfl au_not ?_
              refine so_move (v := (.v (.bool (!y140)))) rfl ?_
              replace h := ofT h; rcases h with ⟨c142, h⟩ | ⟨c142, h⟩
              · refine so_gyes rfl (not_f c142) ?_
                refine so_move (v := (.v (.int .i64 y137))) rfl ?_
                refine so_gyes rfl (not_f c142) ?_
                refine so_move (v := (.v (.int .i64 y107))) rfl ?_
                refine so_gyes rfl (not_f c142) ?_
                refine so_bin rfl rfl ab_neq ?_
                refine so_pick_f (v := (.v (.bool (!(decide (y137 = y107)))))) rfl (not_f c142) rfl ?_
                refine so_move (v := (.v (.bool (!(decide (y137 = y107)))))) rfl ?_
                replace h := ofP h; rcases h with ⟨c143, h⟩ | ⟨c143, h⟩
                · refine so_gyes rfl (not_f (decide_eq_true c143)) ?_
                  refine so_move (v := (.v (.bool y138))) rfl ?_
                  refine so_gyes rfl (not_f (decide_eq_true c143)) ?_
                  refine so_move (v := (.v (.bool y108))) rfl ?_
                  refine so_gyes rfl (not_f (decide_eq_true c143)) ?_
                  refine so_bin rfl rfl (ab_bneq F7.tb4) ?_
                  refine so_pick_f (v := (.v (.bool (!(y138 == y108))))) rfl (not_f (decide_eq_true c143)) rfl ?_
                  refine so_nil ?_
                  replace h := ofT h; rcases h with ⟨c144, h⟩ | ⟨c144, h⟩
                  · refine fi_false rfl (not_f c144) ?_
                    refine fi_skip ?_
                    refine fi_seq ?_
                    refine fi_region ?_
                    refine so_assign (v := (.v (.int .i64 (1 : Int)))) rfl ?_
                    refine so_nil ?_
                    refine fi_seq ?_
                    refine fi_region ?_
                    refine so_move (v := (.v v111)) rfl ?_
                    refine so_move (v := (.v (.int .i64 (1 : Int)))) rfl ?_
                    refine sv_callS (laws_heldTakeS_ok v111 ws125 y124 (1 : Int) hs (fun _ hs => (hs.dshows 1 rfl)) _ h) (fun _ _ ⟨_, _, _, e⟩ => e) rfl rfl ?_
                    clear h
                    rintro _ _ ⟨y145, h, rfl, rfl⟩
                    refine so_assign (v := (.v (.int .i64 y145))) rfl ?_
                    refine so_nil ?_
                    refine fi_seq ?_
                    refine fi_seq ?_
                    refine fi_region ?_
                    refine so_move (v := (.v (.int .i64 y145))) rfl ?_
                    refine so_bin rfl rfl ab_lss ?_
                    refine so_nil ?_
                    replace h := ofP h; rcases h with ⟨c147, h⟩ | ⟨c147, h⟩
                    · refine fi_true rfl (decide_eq_true c147) ?_
                      refine fi_seq ?_
                      refine fi_region ?_
                      refine so_assign (v := (.v (.bool false))) rfl ?_
                      refine so_nil ?_
                      exact by_ret rfl ⟨_, h, rfl, (Sep.del 0 (Sep.del 0 (Sep.del 0 hs)))⟩
                    · refine fi_false rfl (decide_eq_false c147) ?_
                      refine fi_skip ?_
                      refine fi_seq ?_
                      refine fi_seq ?_
                      refine fi_region ?_
                      refine so_move (v := (.v (.int .i64 y145))) rfl ?_
                      refine so_move (v := (.v (.int .i64 y123))) rfl ?_
                      refine so_bin rfl rfl ab_neq ?_
                      refine so_nil ?_
                      replace h := ofP h; rcases h with ⟨c148, h⟩ | ⟨c148, h⟩
                      · refine fi_false rfl (not_f (decide_eq_true c148)) ?_
                        refine fi_skip ?_
                        refine fi_seq ?_
                        refine fi_region ?_
                        refine so_assign (v := (.v (.bool true))) rfl ?_
                        refine so_nil ?_
                        exact by_ret rfl ⟨_, h, rfl, (Sep.del 0 (Sep.del 0 (Sep.del 0 hs)))⟩
                      · refine fi_true rfl (not_t (decide_eq_false c148)) ?_
                        refine fi_seq ?_
                        refine fi_region ?_
                        refine so_assign (v := (.v (.bool false))) rfl ?_
                        refine so_nil ?_
                        exact by_ret rfl ⟨_, h, rfl, (Sep.del 0 (Sep.del 0 (Sep.del 0 hs)))⟩
                  · refine fi_true rfl (not_t c144) ?_
                    refine fi_seq ?_
                    refine fi_region ?_
                    refine so_assign (v := (.v (.bool false))) rfl ?_
                    refine so_nil ?_
                    exact by_ret rfl ⟨_, h, rfl, (Sep.del 0 (Sep.del 0 (Sep.del 0 hs)))⟩
                · refine so_gno rfl (not_t (decide_eq_false c143)) ?_
                  refine so_gno rfl (not_t (decide_eq_false c143)) ?_
                  refine so_gno rfl (not_t (decide_eq_false c143)) ?_
                  refine so_pick_t (v := (.v (.bool true))) rfl (not_t (decide_eq_false c143)) rfl ?_
                  refine so_nil ?_
                  refine fi_true rfl rfl ?_
                  refine fi_seq ?_
                  refine fi_region ?_
                  refine so_assign (v := (.v (.bool false))) rfl ?_
                  refine so_nil ?_
                  exact by_ret rfl ⟨_, h, rfl, (Sep.del 0 (Sep.del 0 (Sep.del 0 hs)))⟩
              · refine so_gno rfl (not_t c142) ?_
                refine so_gno rfl (not_t c142) ?_
                refine so_gno rfl (not_t c142) ?_
                refine so_pick_t (v := (.v (.bool true))) rfl (not_t c142) rfl ?_
                refine so_move (v := (.v (.bool true))) rfl ?_
                refine so_gno rfl rfl ?_
                refine so_gno rfl rfl ?_
                refine so_gno rfl rfl ?_
                refine so_pick_t (v := (.v (.bool true))) rfl rfl rfl ?_
                refine so_nil ?_
                refine fi_true rfl rfl ?_
                refine fi_seq ?_
                refine fi_region ?_
                refine so_assign (v := (.v (.bool false))) rfl ?_
                refine so_nil ?_
                exact by_ret rfl ⟨_, h, rfl, (Sep.del 0 (Sep.del 0 (Sep.del 0 hs)))⟩
            · refine fi_true rfl (not_t (decide_eq_false c131)) ?_
              refine fi_seq ?_
              refine fi_region ?_
              refine so_assign (v := (.v (.bool false))) rfl ?_
              refine so_nil ?_
              exact by_ret rfl ⟨_, h, rfl, (Sep.del 0 (Sep.del 0 hs))⟩
        · refine fi_true rfl (not_t c122) ?_
          refine fi_seq ?_
          refine fi_region ?_
          refine so_assign (v := (.v (.bool false))) rfl ?_
          refine so_nil ?_
          exact by_ret rfl ⟨_, h, rfl, (Sep.del 0 (Sep.del 0 hs))⟩
      · refine so_gno rfl (not_t (decide_eq_false c121)) ?_
        refine so_gno rfl (not_t (decide_eq_false c121)) ?_
        refine so_gno rfl (not_t (decide_eq_false c121)) ?_
        refine so_pick_t (v := (.v (.bool true))) rfl (not_t (decide_eq_false c121)) rfl ?_
        refine so_nil ?_
        refine fi_true rfl rfl ?_
        refine fi_seq ?_
        refine fi_region ?_
        refine so_assign (v := (.v (.bool false))) rfl ?_
        refine so_nil ?_
        exact by_ret rfl ⟨_, h, rfl, (Sep.del 0 (Sep.del 0 hs))⟩
    · refine so_gno rfl (not_t c120) ?_
      refine so_gno rfl (not_t c120) ?_
      refine so_gno rfl (not_t c120) ?_
      refine so_pick_t (v := (.v (.bool true))) rfl (not_t c120) rfl ?_
      refine so_move (v := (.v (.bool true))) rfl ?_
      refine so_gno rfl rfl ?_
      refine so_gno rfl rfl ?_
      refine so_gno rfl rfl ?_
      refine so_pick_t (v := (.v (.bool true))) rfl rfl rfl ?_
      refine so_nil ?_
      refine fi_true rfl rfl ?_
      refine fi_seq ?_
      refine fi_region ?_
      refine so_assign (v := (.v (.bool false))) rfl ?_
      refine so_nil ?_
      exact by_ret rfl ⟨_, h, rfl, (Sep.del 0 (Sep.del 0 hs))⟩

end Go.Proofs.Ytkaidcgelbhofaa.G

