/-
  The model ends so, for the functions that call one that starts workers. Printed by a program of the session; nothing here is trusted.
-/
import Derived.Test.YtochgocgmeeppaaMExactLinesSharedX
namespace Go.Proofs.Ytochgocgmeeppaa.G
open Go Go.Ab Go.Proofs Go.Proofs.Ytochgocgmeeppaa
set_option maxRecDepth 100000
set_option linter.unusedVariables false
set_option linter.unusedSimpArgs false
set_option maxHeartbeats 1000000
attribute [local irreducible] wops wopf Go.Ab.Fin
theorem F4.tb4 : tbool Try.prog 4 = true := by kernel_rfl
variable [Go.Proofs.Ytochgocgmeeppaa.Co.RR]
theorem laws_FnExactLinesShared_ok {fr : List Pc} {H : Heap} (v0 : AV) (w0 : List (List AV)) (l0 : List (List (Nat))) (a1 : Nat) (a2 : Int) (hs : Sep H (fr)) (g0 : ∀ H, Sep H fr → DSh H v0 1 R_LeFlt_f32_o l0 w0) (K : Bool → Prop) (h : laws_FnExactLinesShared.wp l0 a1 a2 K) : TopQ Try.prog 4 [(.v v0), (.v (.flt .f32 a1)), (.v (.int .i64 a2))] H (fun r H2 => ∃ (y0 : Bool), K y0 ∧ r = (.v (.bool y0)) ∧ Sep H2 (fr)) := by
  unfold laws_FnExactLinesShared.wp at h
  refine top_body Try.f4 F.hm Try.func4 rfl Try.call4 (by kernel_rfl) (by simp) ?_
  refine fi_seq ?_
  refine fi_region ?_
  refine so_assign (v := (.v (.bool false))) rfl ?_
  refine so_nil ?_
  refine fi_seq ?_
  refine fi_region ?_
  refine so_assign (v := (.v (.int .i64 (1048576 : Int)))) rfl ?_
  refine so_nil ?_
  refine fi_seq ?_
  refine fi_region ?_
  refine so_move (v := (.v v0)) rfl ?_
  refine so_move (v := (.v (.int .i64 (1048576 : Int)))) rfl ?_
  refine sv_callS (laws_szFloat32SS_ok v0 w0 l0 (1048576 : Int) hs (fun _ hs => (g0 _ hs)) _ h) (fun _ _ ⟨_, _, _, e⟩ => e) rfl rfl ?_
  clear h
  rintro _ _ ⟨y101, h, rfl, rfl⟩
  refine so_assign (v := (.v (.int .i64 y101))) rfl ?_
  refine so_nil ?_
  refine fi_seq ?_
  refine fi_seq ?_
  refine fi_region ?_
  refine so_move (v := (.v (.int .i64 y101))) rfl ?_
  refine so_bin rfl rfl ab_lss ?_
  refine so_nil ?_
  replace h := ofP h; rcases h with ⟨c103, h⟩ | ⟨c103, h⟩
  · refine fi_true rfl (decide_eq_true c103) ?_
    refine fi_seq ?_
    refine fi_region ?_
    refine so_assign (v := (.v (.bool true))) rfl ?_
    refine so_nil ?_
    exact by_ret rfl ⟨_, h, rfl, hs⟩
  · refine fi_false rfl (decide_eq_false c103) ?_
    refine fi_skip ?_
    refine fi_seq ?_
    refine fi_region ?_
    refine so_move (v := (.v v0)) rfl ?_
    refine sv_call (laws_toFloat32SS_ok v0 w0 l0 hs (fun _ hs => (g0 _ hs)) _ h) rfl rfl nofun ?_
    clear h hs
    rintro _ H109 ⟨y104, h, v105, ws107, S108, rfl, hs⟩
    refine so_move (v := (.v (.flt .f32 a1))) rfl ?_
    refine so_move (v := (.v (.int .i64 a2))) rfl ?_
    refine sv_call (spec_LinesShared_ok v105 ws107 y104 a1 a2 hs (fun _ hs => (hs.dshows 0 rfl)) _ h) rfl rfl nofun ?_
    clear h hs
    rintro _ H116 ⟨y110, y115, h, v111, ws113, S114, rfl, hs⟩
    refine so_move (v := (.t [(.v v111), (.v (.bool y115))])) rfl ?_
    refine so_extract rfl rfl rfl ?_
    refine so_extract rfl rfl rfl ?_
    refine so_assign (v := (.v v111)) rfl ?_
    refine so_assign (v := (.v (.bool y115))) rfl ?_
    refine so_nil ?_
    refine fi_seq ?_
    refine fi_region ?_
    refine so_move (v := (.v v0)) rfl ?_
    refine sv_call (laws_toFloat32SS_ok v0 w0 l0 hs (fun _ hs => (g0 _ hs.tl.tl)) _ h) rfl rfl nofun ?_
    clear h hs
    rintro _ H122 ⟨y117, h, v118, ws120, S121, rfl, hs⟩
    refine so_assign (v := (.v v118)) rfl ?_
    refine so_nil ?_
    refine fi_seq ?_
    refine fi_region ?_
    refine so_move (v := (.v v118)) rfl ?_
    refine so_move (v := (.v (.flt .f32 a1))) rfl ?_
    refine so_move (v := (.v (.int .i64 a2))) rfl ?_
    refine sv_call (impl_LinesShared_ok v118 ws120 y117 a1 a2 hs (fun _ hs => (hs.dshows 0 rfl)) _ h) rfl rfl nofun ?_
    clear h hs
    rintro _ H129 ⟨y123, y128, h, v124, ws126, S127, rfl, hs⟩
    refine so_move (v := (.t [(.v v124), (.v (.bool y128))])) rfl ?_
    refine so_extract rfl rfl rfl ?_
    refine so_extract rfl rfl rfl ?_
    refine so_assign (v := (.v v124)) rfl ?_
    refine so_assign (v := (.v (.bool y128))) rfl ?_
    refine so_nil ?_
    refine fi_seq ?_
    refine fi_seq ?_
    refine fi_region ?_
    refine so_move (v := (.v v124)) rfl ?_
    refine so_move (v := (.v v111)) rfl ?_
    refine sv_callS (laws_eqFloat32SS_ok v124 ws126 y123 v111 ws113 y110 hs (fun _ hs => (hs.dshows 0 rfl)) (fun _ hs => (hs.dshows 2 rfl)) _ h) (fun _ _ ⟨_, _, _, e⟩ => e) rfl rfl ?_
    clear h
    rintro _ _ ⟨y130, h, rfl, rfl⟩
    refine so_un rfl au_not ?_
    refine so_move (v := (.v (.bool (!y130)))) rfl ?_
    replace h := ofT h; rcases h with ⟨c132, h⟩ | ⟨c132, h⟩
    · refine so_gyes rfl (not_f c132) ?_
      refine so_move (v := (.v (.bool y128))) rfl ?_
      refine so_gyes rfl (not_f c132) ?_
      refine so_move (v := (.v (.bool y115))) rfl ?_
      refine so_gyes rfl (not_f c132) ?_
      refine so_bin rfl rfl (ab_bneq F4.tb4) ?_
      refine so_pick_f (v := (.v (.bool (!(y128 == y115))))) rfl (not_f c132) rfl ?_
      refine so_nil ?_
      replace h := ofT h; rcases h with ⟨c133, h⟩ | ⟨c133, h⟩
      · refine fi_false rfl (not_f c133) ?_
        refine fi_skip ?_
        refine fi_seq ?_
        refine fi_seq ?_
        refine fi_region ?_
        refine so_move (v := (.v v118)) rfl ?_
        refine so_move (v := (.v v0)) rfl ?_
        refine sv_call (laws_toFloat32SS_ok v0 w0 l0 hs (fun _ hs => (g0 _ hs.tl.tl.tl.tl)) _ h) rfl rfl nofun ?_
        clear h hs
        rintro _ H139 ⟨y134, h, v135, ws137, S138, rfl, hs⟩
        refine sv_callS (laws_eqFloat32SS_ok v118 ws120 y117 v135 ws137 y134 hs (fun _ hs => (hs.dshows 2 rfl)) (fun _ hs => (hs.dshows 0 rfl)) _ h) (fun _ _ ⟨_, _, _, e⟩ => e) rfl rfl ?_
        clear h
        rintro _ _ ⟨y140, h, rfl, rfl⟩
        refine so_un rfl au_not ?_
        refine so_nil ?_
        replace h := ofT h; rcases h with ⟨c142, h⟩ | ⟨c142, h⟩
        · refine fi_false rfl (not_f c142) ?_
          refine fi_skip ?_
          refine fi_seq ?_
          refine fi_region ?_
          refine so_assign (v := (.v (.int .i64 (1 : Int)))) rfl ?_
          refine so_nil ?_
          refine fi_seq ?_
          refine fi_region ?_
          refine so_move (v := (.v v118)) rfl ?_
          refine so_move (v := (.v (.int .i64 (1 : Int)))) rfl ?_
          replace hs := (Sep.front 2 hs rfl)
          refine sv_call (laws_markFloat32SS_ok v118 ws120 S121 y117 (1 : Int) hs  _ h) rfl rfl nofun ?_
          clear h hs
          rintro _ H147 ⟨y143, y144, h, ws145, S146, rfl, hs⟩
          refine so_assign (v := (.v (.int .i64 y143))) rfl ?_
          refine so_nil ?_
          refine fi_seq ?_
          refine fi_seq ?_
          refine fi_region ?_
          refine so_move (v := (.v (.int .i64 y143))) rfl ?_
          refine so_bin rfl rfl ab_lss ?_
          refine so_move (v := (.v (.bool (decide (y143 < (0 : Int)))))) rfl ?_
          replace h := ofP h; rcases h with ⟨c148, h⟩ | ⟨c148, h⟩
          · refine so_gno rfl (decide_eq_true c148) ?_
            refine so_gno rfl (decide_eq_true c148) ?_
            refine so_gno rfl (decide_eq_true c148) ?_
            refine so_gno rfl (decide_eq_true c148) ?_
            refine so_pick_t (v := (.v (.bool true))) rfl (decide_eq_true c148) rfl ?_
            refine so_move (v := (.v (.bool true))) rfl ?_
            refine so_gno rfl rfl ?_
            refine so_gno rfl rfl ?_
            refine so_gno rfl rfl ?_
            refine so_pick_t (v := (.v (.bool true))) rfl rfl rfl ?_
            refine so_nil ?_
            refine fi_true rfl rfl ?_
            refine fi_seq ?_
            refine fi_region ?_
            refine so_assign (v := (.v (.bool false))) rfl ?_
            refine so_nil ?_
            exact by_ret rfl ⟨_, h, rfl, (Sep.dropn 5 hs)⟩
          · refine so_gyes rfl (decide_eq_false c148) ?_
            refine so_move (v := (.v v124)) rfl ?_
            refine so_gyes rfl (decide_eq_false c148) ?_
            refine so_move (v := (.v v111)) rfl ?_
            refine so_gyes rfl (decide_eq_false c148) ?_
            refine sv_callS (laws_eqFloat32SS_ok v124 ws126 y123 v111 ws113 y110 hs (fun _ hs => (hs.dshows 2 rfl)) (fun _ hs => (hs.dshows 3 rfl)) _ h) (fun _ _ ⟨_, _, _, e⟩ => e) rfl rfl ?_
            clear h
            rintro _ _ ⟨y149, h, rfl, rfl⟩
            refine so_gyes rfl (decide_eq_false c148) ?_
            refine so_un rfl au_not ?_
            refine so_pick_f (v := (.v (.bool (!y149)))) rfl (decide_eq_false c148) rfl ?_
            refine so_move (v := (.v (.bool (!y149)))) rfl ?_
            replace h := ofT h; rcases h with ⟨c151, h⟩ | ⟨c151, h⟩
            · refine so_gyes rfl (not_f c151) ?_
              refine so_move (v := (.v (.bool y128))) rfl ?_
              refine so_gyes rfl (not_f c151) ?_
              refine so_move (v := (.v (.bool y115))) rfl ?_
              refine so_gyes rfl (not_f c151) ?_
              refine so_bin rfl rfl (ab_bneq F4.tb4) ?_
              refine so_pick_f (v := (.v (.bool (!(y128 == y115))))) rfl (not_f c151) rfl ?_
              refine so_nil ?_
              refine fi_false rfl (not_f c133) ?_
              refine fi_skip ?_
              refine fi_seq ?_
              refine fi_region ?_
              refine so_assign (v := (.v (.int .i64 (1 : Int)))) rfl ?_
              refine so_nil ?_
              refine fi_seq ?_
              refine fi_region ?_
              refine so_move (v := (.v v124)) rfl ?_
              refine so_move (v := (.v (.int .i64 (1 : Int)))) rfl ?_
              replace hs := (Sep.front 2 hs rfl)
              refine sv_call (laws_markFloat32SS_ok v124 ws126 S127 y123 (1 : Int) hs  _ h) rfl rfl nofun ?_
              clear h hs
              rintro _ H156 ⟨y152, y153, h, ws154, S155, rfl, hs⟩
              refine so_assign (v := (.v (.int .i64 y152))) rfl ?_
              refine so_nil ?_
              refine fi_seq ?_
              refine fi_region ?_
              refine so_assign (v := (.v (.int .i64 (1 : Int)))) rfl ?_
              refine so_nil ?_
              refine fi_seq ?_
              refine fi_region ?_
              refine so_move (v := (.v v124)) rfl ?_
              refine so_move (v := (.v (.int .i64 (1 : Int)))) rfl ?_
              refine sv_callS (laws_heldFloat32SS_ok v124 ws154 y153 (1 : Int) hs (fun _ hs => (hs.dshows 0 rfl)) _ h) (fun _ _ ⟨_, _, _, e⟩ => e) rfl rfl ?_
              clear h
              rintro _ _ ⟨y157, h, rfl, rfl⟩
              refine so_assign (v := (.v (.int .i64 y157))) rfl ?_
              refine so_nil ?_
              refine fi_seq ?_
              refine fi_seq ?_
              refine fi_region ?_
              refine so_move (v := (.v (.int .i64 y157))) rfl ?_
              refine so_bin rfl rfl ab_lss ?_
              refine so_nil ?_
              replace h := ofP h; rcases h with ⟨c159, h⟩ | ⟨c159, h⟩
              · refine fi_true rfl (decide_eq_true c159) ?_
                refine fi_seq ?_
                refine fi_region ?_
                refine so_assign (v := (.v (.bool false))) rfl ?_
                refine so_nil ?_
                exact by_ret rfl ⟨_, h, rfl, (Sep.dropn 5 hs)⟩
              · refine fi_false rfl (decide_eq_false c159) ?_
                refine fi_skip ?_
                refine fi_seq ?_
                refine fi_seq ?_
                refine fi_region ?_
                refine so_move (v := (.v (.int .i64 y157))) rfl ?_
                refine so_move (v := (.v (.int .i64 y152))) rfl ?_
                refine so_bin rfl rfl ab_neq ?_
                refine so_nil ?_
                replace h := ofP h; rcases h with ⟨c160, h⟩ | ⟨c160, h⟩
                · refine fi_false rfl (not_f (decide_eq_true c160)) ?_
                  refine fi_skip ?_
                  refine fi_seq ?_
                  refine fi_region ?_
                  refine so_move (v := (.v v0)) rfl ?_
                  refine sv_call (laws_toFloat32SS_ok v0 w0 l0 hs (fun _ hs => (g0 _ hs.tl.tl.tl.tl.tl)) _ h) rfl rfl nofun ?_
                  clear h hs
                  rintro _ H166 ⟨y161, h, v162, ws164, S165, rfl, hs⟩
                  refine so_move (v := (.v (.flt .f32 a1))) rfl ?_
                  refine so_move (v := (.v (.int .i64 a2))) rfl ?_
                  refine sv_call (impl_LinesShared_ok v162 ws164 y161 a1 a2 hs (fun _ hs => (hs.dshows 0 rfl)) _ h) rfl rfl nofun ?_
                  clear h hs
                  rintro _ H173 ⟨y167, y172, h, v168, ws170, S171, rfl, hs⟩
                  refine so_move (v := (.t [(.v v168), (.v (.bool y172))])) rfl ?_
                  refine so_extract rfl rfl rfl ?_
                  refine so_extract rfl rfl rfl ?_
                  refine so_assign (v := (.v v168)) rfl ?_
                  refine so_assign (v := (.v (.bool y172))) rfl ?_
                  refine so_nil ?_
                  refine fi_seq ?_
                  refine fi_seq ?_
                  refine fi_region ?_
                  refine so_move (v := (.v v168)) rfl ?_
                  refine so_move (v := (.v v111)) rfl ?_
                  refine sv_callS (laws_eqFloat32SS_ok v168 ws170 y167 v111 ws113 y110 hs (fun _ hs => (hs.dshows 0 rfl)) (fun _ hs => (hs.dshows 5 rfl)) _ h) (fun _ _ ⟨_, _, _, e⟩ => e) rfl rfl ?_
                  clear h
                  rintro _ _ ⟨y174, h, rfl, rfl⟩
                  refine so_un rfl au_not ?_
                  refine so_move (v := (.v (.bool (!y174)))) rfl ?_
                  replace h := ofT h; rcases h with ⟨c176, h⟩ | ⟨c176, h⟩
                  · refine so_gyes rfl (not_f c176) ?_
                    refine so_move (v := (.v (.bool y172))) rfl ?_
                    refine so_gyes rfl (not_f c176) ?_
                    refine so_move (v := (.v (.bool y115))) rfl ?_
                    refine so_gyes rfl (not_f c176) ?_
                    refine so_bin rfl rfl (ab_bneq F4.tb4) ?_
                    refine so_pick_f (v := (.v (.bool (!(y172 == y115))))) rfl (not_f c176) rfl ?_
                    refine so_nil ?_
                    replace h := ofT h; rcases h with ⟨c177, h⟩ | ⟨c177, h⟩
                    · refine fi_false rfl (not_f c177) ?_
                      refine fi_skip ?_
                      refine fi_seq ?_
                      refine fi_region ?_
                      refine so_assign (v := (.v (.int .i64 (1 : Int)))) rfl ?_
                      refine so_nil ?_
                      refine fi_seq ?_
                      refine fi_region ?_
                      refine so_move (v := (.v v124)) rfl ?_
                      refine so_move (v := (.v (.int .i64 (1 : Int)))) rfl ?_
                      refine sv_callS (laws_heldFloat32SS_ok v124 ws154 y153 (1 : Int) hs (fun _ hs => (hs.dshows 2 rfl)) _ h) (fun _ _ ⟨_, _, _, e⟩ => e) rfl rfl ?_
                      clear h
                      rintro _ _ ⟨y178, h, rfl, rfl⟩
                      refine so_assign (v := (.v (.int .i64 y178))) rfl ?_
                      refine so_nil ?_
                      refine fi_seq ?_
                      refine fi_seq ?_
                      refine fi_region ?_
                      refine so_move (v := (.v (.int .i64 y178))) rfl ?_
                      refine so_bin rfl rfl ab_lss ?_
                      refine so_nil ?_
                      replace h := ofP h; rcases h with ⟨c180, h⟩ | ⟨c180, h⟩
                      · refine fi_true rfl (decide_eq_true c180) ?_
                        refine fi_seq ?_
                        refine fi_region ?_
                        refine so_assign (v := (.v (.bool false))) rfl ?_
                        refine so_nil ?_
                        exact by_ret rfl ⟨_, h, rfl, (Sep.dropn 7 hs)⟩
                      · refine fi_false rfl (decide_eq_false c180) ?_
                        refine fi_skip ?_
                        refine fi_seq ?_
                        refine fi_seq ?_
                        refine fi_region ?_
                        refine so_move (v := (.v (.int .i64 y178))) rfl ?_
                        refine so_move (v := (.v (.int .i64 y152))) rfl ?_
                        refine so_bin rfl rfl ab_neq ?_
                        refine so_nil ?_
                        replace h := ofP h; rcases h with ⟨c181, h⟩ | ⟨c181, h⟩
                        · refine fi_false rfl (not_f (decide_eq_true c181)) ?_
                          refine fi_skip ?_
                          refine fi_seq ?_
                          refine fi_region ?_
                          refine so_assign (v := (.v (.bool true))) rfl ?_
                          refine so_nil ?_
                          exact by_ret rfl ⟨_, h, rfl, (Sep.dropn 7 hs)⟩
                        · refine fi_true rfl (not_t (decide_eq_false c181)) ?_
                          refine fi_seq ?_
                          refine fi_region ?_
                          refine so_assign (v := (.v (.bool false))) rfl ?_
                          refine so_nil ?_
                          exact by_ret rfl ⟨_, h, rfl, (Sep.dropn 7 hs)⟩
                    · refine fi_true rfl (not_t c177) ?_
                      refine fi_seq ?_
                      refine fi_region ?_
                      refine so_assign (v := (.v (.bool false))) rfl ?_
                      refine so_nil ?_
                      exact by_ret rfl ⟨_, h, rfl, (Sep.dropn 7 hs)⟩
                  · refine so_gno rfl (not_t c176) ?_
                    refine so_gno rfl (not_t c176) ?_
                    refine so_gno rfl (not_t c176) ?_
                    refine so_pick_t (v := (.v (.bool true))) rfl (not_t c176) rfl ?_
                    refine so_nil ?_
                    refine fi_true rfl rfl ?_
                    refine fi_seq ?_
                    refine fi_region ?_
                    refine so_assign (v := (.v (.bool false))) rfl ?_
                    refine so_nil ?_
                    exact by_ret rfl ⟨_, h, rfl, (Sep.dropn 7 hs)⟩
                · refine fi_true rfl (not_t (decide_eq_false c160)) ?_
                  refine fi_seq ?_
                  refine fi_region ?_
                  refine so_assign (v := (.v (.bool false))) rfl ?_
                  refine so_nil ?_
                  exact by_ret rfl ⟨_, h, rfl, (Sep.dropn 5 hs)⟩
            · refine so_gno rfl (not_t c151) ?_
              refine so_gno rfl (not_t c151) ?_
              refine so_gno rfl (not_t c151) ?_
              refine so_pick_t (v := (.v (.bool true))) rfl (not_t c151) rfl ?_
              refine so_nil ?_
              refine fi_true rfl rfl ?_
              refine fi_seq ?_
              refine fi_region ?_
              refine so_assign (v := (.v (.bool false))) rfl ?_
              refine so_nil ?_
              exact by_ret rfl ⟨_, h, rfl, (Sep.dropn 5 hs)⟩
        · refine fi_true rfl (not_t c142) ?_
          refine fi_seq ?_
          refine fi_region ?_
          refine so_assign (v := (.v (.bool false))) rfl ?_
          refine so_nil ?_
          exact by_ret rfl ⟨_, h, rfl, (Sep.dropn 5 hs)⟩
      · refine fi_true rfl (not_t c133) ?_
        refine fi_seq ?_
        refine fi_region ?_
        refine so_assign (v := (.v (.bool false))) rfl ?_
        refine so_nil ?_
        exact by_ret rfl ⟨_, h, rfl, (Sep.dropn 4 hs)⟩
    · refine so_gno rfl (not_t c132) ?_
      refine so_gno rfl (not_t c132) ?_
      refine so_gno rfl (not_t c132) ?_
      refine so_pick_t (v := (.v (.bool true))) rfl (not_t c132) rfl ?_
      refine so_nil ?_
      refine fi_true rfl rfl ?_
      refine fi_seq ?_
      refine fi_region ?_
      refine so_assign (v := (.v (.bool false))) rfl ?_
      refine so_nil ?_
      exact by_ret rfl ⟨_, h, rfl, (Sep.dropn 4 hs)⟩

end Go.Proofs.Ytochgocgmeeppaa.G

