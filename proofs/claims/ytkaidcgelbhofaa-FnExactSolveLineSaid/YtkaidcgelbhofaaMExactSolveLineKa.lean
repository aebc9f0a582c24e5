/-
  The model ends so. Printed by a program of the session; nothing here is trusted.
-/
import Derived.Test.YtkaidcgelbhofaaProg
import Derived.KernelRfl
import Derived.Test.YtkaidcgelbhofaaMExactSolveLineWa
namespace Go.Proofs.Ytkaidcgelbhofaa.F
open Go Go.Ab Go.Proofs
set_option maxRecDepth 100000
set_option linter.unusedVariables false
set_option linter.unusedSimpArgs false
set_option maxHeartbeats 1000000
theorem hm : Try.prog.follows .mixedOrders = true := by kernel_rfl
end Go.Proofs.Ytkaidcgelbhofaa.F

namespace Go.Proofs.Ytkaidcgelbhofaa.G
open Go Go.Ab Go.Proofs Go.Proofs.Ytkaidcgelbhofaa
set_option maxRecDepth 100000
set_option linter.unusedVariables false
set_option linter.unusedSimpArgs false
set_option maxHeartbeats 1000000
attribute [local irreducible] wops wopf Go.Ab.Fin
theorem spec_l01Finite_ok {fr : List Pc} {H : Heap} (a0 : Nat) (hs : Sep H (fr))  (K : Bool → Prop) (h : spec_l01Finite.wp a0 K) : OkQ Try.prog 103 [(.v (.flt .f32 a0))] H (fun r H2 => ∃ (y0 : Bool), K y0 ∧ r = (.v (.bool y0)) ∧ H = H2) := by
  unfold spec_l01Finite.wp at h
  refine of_body Try.f103 F.hm Try.func103 rfl Try.call103 (by kernel_rfl) (by simp) ?_
  refine fi_seq ?_
  refine fi_region ?_
  refine so_assign (v := (.v (.bool false))) rfl ?_
  refine so_nil ?_
  refine fi_seq ?_
  refine fi_region ?_
  refine so_move (v := (.v (.flt .f32 a0))) rfl ?_
  refine so_move (v := (.v (.flt .f32 a0))) rfl ?_
  refine so_bin rfl rfl ab_fsub ?_
  refine so_bin rfl rfl ab_feql ?_
  refine so_assign (v := (.v (.bool (fcmp .eql .f32 (fop .sub .f32 a0 a0) (cz .f32 0))))) rfl ?_
  refine so_nil ?_
  exact by_ret rfl ⟨_, h, rfl, rfl⟩

end Go.Proofs.Ytkaidcgelbhofaa.G

namespace Go.Proofs.Ytkaidcgelbhofaa.G
open Go Go.Ab Go.Proofs Go.Proofs.Ytkaidcgelbhofaa
set_option maxRecDepth 100000
set_option linter.unusedVariables false
set_option linter.unusedSimpArgs false
set_option maxHeartbeats 1000000
attribute [local irreducible] wops wopf Go.Ab.Fin
theorem F92.ag37 : tagg Try.prog 37 = some false := by kernel_rfl
theorem F92.ti36 : (telem Try.prog 36).isSome = true := by kernel_rfl
theorem F92.tl36 : (telem Try.prog 36).bind (tsz Try.prog) = some 1 := by kernel_rfl
theorem spec_l02Finite_ok {fr : List Pc} {H : Heap} (v0 : AV) (l0 : List (Nat)) (hs : Sep H (fr)) (g0 : ∀ H, Sep H fr → Shows H v0 1 (enc (eFlt .f32) l0)) (K : Bool → Prop) (h : spec_l02Finite.wp l0 K) : OkQ Try.prog 92 [(.v v0)] H (fun r H2 => ∃ (y0 : Bool), K y0 ∧ r = (.v (.bool y0)) ∧ H = H2) := by
  unfold spec_l02Finite.wp at h
  refine of_body Try.f92 F.hm Try.func92 rfl Try.call92 (by kernel_rfl) (by simp) ?_
  refine fi_seq ?_
  refine fi_region ?_
  refine so_assign (v := (.v (.bool false))) rfl ?_
  refine so_nil ?_
  refine fi_seq ?_
  refine fi_seq ?_
  refine fi_region ?_
  refine so_assign (v := (.v (.int .i64 (0 : Int)))) rfl ?_
  refine so_nil ?_
  refine fi_block ?_
  refine fi_loop ?_
  refine fi_at [(0, (.v v0)), (3, (.v (.int .i64 (0 : Int))))] ⟨rfl, rfl, trivial⟩ ?_
  refine h (fun (i102 : Int) => ∀ (s : Nat → TV), Fin _ _ (updL s [(0, (.v v0)), (3, (.v (.int .i64 i102)))]) _ _) ?_ _
  intro i102 h s108
  refine fi_inLoop ?_
  refine fi_seq ?_
  refine fi_seq ?_
  refine fi_region ?_
  refine so_move (v := (.v (.int .i64 i102))) rfl ?_
  refine so_move (v := (.v v0)) rfl ?_
  refine sv_len (g0 _ hs) (fun _ => rfl) (by decide) rfl F92.ti36 ?_
  refine so_bin rfl rfl ab_lss ?_
  refine so_nil ?_
  replace h := ofP h; rcases h with ⟨c103, h⟩ | ⟨c103, h⟩
  · refine fi_true rfl (decide_eq_true c103) ?_
    refine fi_skip ?_
    refine fi_seq ?_
    refine fi_block ?_
    refine fi_seq ?_
    refine fi_region ?_
    refine so_move (v := (.v v0)) rfl ?_
    refine so_move (v := (.v (.int .i64 i102))) rfl ?_
    obtain ⟨c104, h⟩ := h
    refine sv_idx (g0 _ hs) c104 (fun _ => rfl) (by decide) rfl rfl F92.tl36 ?_
    refine sv_cell (g0 _ hs) c104 (0 : Nat) 0 (fun x => (AV.flt .f32 x)) (fun _ => rfl) (fun _ => rfl) rfl F92.ag37 ?_
    refine sv_callS (spec_l01Finite_ok (l0.getD (i102).toNat (0 : Nat)) hs  _ h) (fun _ _ ⟨_, _, _, e⟩ => e) rfl rfl ?_
    clear h
    rintro _ _ ⟨y105, h, rfl, rfl⟩
    refine so_un rfl au_not ?_
    refine so_nil ?_
    replace h := ofT h; rcases h with ⟨c107, h⟩ | ⟨c107, h⟩
    · refine fi_false rfl (not_f c107) ?_
      refine fi_skip ?_
      refine fi_inBlock ?_
      refine fi_region ?_
      refine so_move (v := (.v (.int .i64 i102))) rfl ?_
      refine so_bin rfl rfl ab_add ?_
      refine so_assign (v := (.v (.int .i64 (IntKind.i64.wrap (i102 + (1 : Int)))))) rfl ?_
      refine so_nil ?_
      exact fi_at [(0, (.v v0)), (3, (.v (.int .i64 (IntKind.i64.wrap (i102 + (1 : Int))))))] ⟨rfl, rfl, trivial⟩ (h _)
    · refine fi_true rfl (not_t c107) ?_
      refine fi_seq ?_
      refine fi_region ?_
      refine so_assign (v := (.v (.bool false))) rfl ?_
      refine so_nil ?_
      exact by_ret rfl ⟨_, h, rfl, rfl⟩
  · refine fi_false rfl (decide_eq_false c103) ?_
    refine fi_exit rfl ?_
    refine fi_seq ?_
    refine fi_region ?_
    refine so_assign (v := (.v (.bool true))) rfl ?_
    refine so_nil ?_
    exact by_ret rfl ⟨_, h, rfl, rfl⟩

end Go.Proofs.Ytkaidcgelbhofaa.G

namespace Go.Proofs.Ytkaidcgelbhofaa.G
open Go Go.Ab Go.Proofs Go.Proofs.Ytkaidcgelbhofaa
set_option maxRecDepth 100000
set_option linter.unusedVariables false
set_option linter.unusedSimpArgs false
set_option maxHeartbeats 1000000
attribute [local irreducible] wops wopf Go.Ab.Fin
theorem F89.ti36 : (telem Try.prog 36).isSome = true := by kernel_rfl
theorem spec_l07Line_ok {fr : List Pc} {H : Heap} (v0 : AV) (l0 : List (Nat)) (hs : Sep H (fr)) (g0 : ∀ H, Sep H fr → Shows H v0 1 (enc (eFlt .f32) l0)) (K : Bool → Prop) (h : spec_l07Line.wp l0 K) : OkQ Try.prog 89 [(.v v0)] H (fun r H2 => ∃ (y0 : Bool), K y0 ∧ r = (.v (.bool y0)) ∧ H = H2) := by
  unfold spec_l07Line.wp at h
  refine of_body Try.f89 F.hm Try.func89 rfl Try.call89 (by kernel_rfl) (by simp) ?_
  refine fi_seq ?_
  refine fi_region ?_
  refine so_assign (v := (.v (.bool false))) rfl ?_
  refine so_nil ?_
  refine fi_seq ?_
  refine fi_region ?_
  refine so_move (v := (.v v0)) rfl ?_
  refine sv_len (g0 _ hs) (fun _ => rfl) (by decide) rfl F89.ti36 ?_
  refine so_assign (v := (.v (.int .i64 (l0.length : Int)))) rfl ?_
  refine so_nil ?_
  refine fi_seq ?_
  refine fi_region ?_
  refine so_move (v := (.v (.int .i64 (l0.length : Int)))) rfl ?_
  refine so_bin rfl rfl ab_eql ?_
  refine so_move (v := (.v (.bool (decide ((l0.length : Int) = (1 : Int)))))) rfl ?_
  replace h := ofP h; rcases h with ⟨c101, h⟩ | ⟨c101, h⟩
  · refine so_gno rfl (decide_eq_true c101) ?_
    refine so_gno rfl (decide_eq_true c101) ?_
    refine so_pick_t (v := (.v (.bool true))) rfl (decide_eq_true c101) rfl ?_
    refine so_move (v := (.v (.bool true))) rfl ?_
    refine so_gno rfl rfl ?_
    refine so_gno rfl rfl ?_
    refine so_pick_t (v := (.v (.bool true))) rfl rfl rfl ?_
    refine so_move (v := (.v (.bool true))) rfl ?_
    refine so_gno rfl rfl ?_
    refine so_gno rfl rfl ?_
    refine so_pick_t (v := (.v (.bool true))) rfl rfl rfl ?_
    refine so_move (v := (.v (.bool true))) rfl ?_
    refine so_gno rfl rfl ?_
    refine so_gno rfl rfl ?_
    refine so_pick_t (v := (.v (.bool true))) rfl rfl rfl ?_
    refine so_move (v := (.v (.bool true))) rfl ?_
    refine so_gno rfl rfl ?_
    refine so_gno rfl rfl ?_
    refine so_pick_t (v := (.v (.bool true))) rfl rfl rfl ?_
    refine so_move (v := (.v (.bool true))) rfl ?_
    refine so_gyes rfl rfl ?_
    refine so_move (v := (.v v0)) rfl ?_
    refine so_gyes rfl rfl ?_
    refine sv_callS (spec_l02Finite_ok v0 l0 hs (fun _ hs => (g0 _ hs)) _ h) (fun _ _ ⟨_, _, _, e⟩ => e) rfl rfl ?_
    clear h
    rintro _ _ ⟨y102, h, rfl, rfl⟩
    refine so_pick_t (v := (.v (.bool y102))) rfl rfl rfl ?_
    refine so_assign (v := (.v (.bool y102))) rfl ?_
    refine so_nil ?_
    exact by_ret rfl ⟨_, h, rfl, rfl⟩
  · refine so_gyes rfl (decide_eq_false c101) ?_
    refine so_move (v := (.v (.int .i64 (l0.length : Int)))) rfl ?_
    refine so_gyes rfl (decide_eq_false c101) ?_
    refine so_bin rfl rfl ab_eql ?_
    refine so_pick_f (v := (.v (.bool (decide ((l0.length : Int) = (3 : Int)))))) rfl (decide_eq_false c101) rfl ?_
    refine so_move (v := (.v (.bool (decide ((l0.length : Int) = (3 : Int)))))) rfl ?_
    replace h := ofP h; rcases h with ⟨c104, h⟩ | ⟨c104, h⟩
    · refine so_gno rfl (decide_eq_true c104) ?_
      refine so_gno rfl (decide_eq_true c104) ?_
      refine so_pick_t (v := (.v (.bool true))) rfl (decide_eq_true c104) rfl ?_
      refine so_move (v := (.v (.bool true))) rfl ?_
      refine so_gno rfl rfl ?_
      refine so_gno rfl rfl ?_
      refine so_pick_t (v := (.v (.bool true))) rfl rfl rfl ?_
      refine so_move (v := (.v (.bool true))) rfl ?_
      refine so_gno rfl rfl ?_
      refine so_gno rfl rfl ?_
      refine so_pick_t (v := (.v (.bool true))) rfl rfl rfl ?_
      refine so_move (v := (.v (.bool true))) rfl ?_
      refine so_gno rfl rfl ?_
      refine so_gno rfl rfl ?_
      refine so_pick_t (v := (.v (.bool true))) rfl rfl rfl ?_
      refine so_move (v := (.v (.bool true))) rfl ?_
      refine so_gyes rfl rfl ?_
      refine so_move (v := (.v v0)) rfl ?_
      refine so_gyes rfl rfl ?_
      refine sv_callS (spec_l02Finite_ok v0 l0 hs (fun _ hs => (g0 _ hs)) _ h) (fun _ _ ⟨_, _, _, e⟩ => e) rfl rfl ?_
      clear h
      rintro _ _ ⟨y105, h, rfl, rfl⟩
      refine so_pick_t (v := (.v (.bool y105))) rfl rfl rfl ?_
      refine so_assign (v := (.v (.bool y105))) rfl ?_
      refine so_nil ?_
      exact by_ret rfl ⟨_, h, rfl, rfl⟩
    · refine so_gyes rfl (decide_eq_false c104) ?_
      refine so_move (v := (.v (.int .i64 (l0.length : Int)))) rfl ?_
      refine so_gyes rfl (decide_eq_false c104) ?_
      refine so_bin rfl rfl ab_eql ?_
      refine so_pick_f (v := (.v (.bool (decide ((l0.length : Int) = (7 : Int)))))) rfl (decide_eq_false c104) rfl ?_
      refine so_move (v := (.v (.bool (decide ((l0.length : Int) = (7 : Int)))))) rfl ?_
      replace h := ofP h; rcases h with ⟨c107, h⟩ | ⟨c107, h⟩
      · refine so_gno rfl (decide_eq_true c107) ?_
        refine so_gno rfl (decide_eq_true c107) ?_
        refine so_pick_t (v := (.v (.bool true))) rfl (decide_eq_true c107) rfl ?_
        refine so_move (v := (.v (.bool true))) rfl ?_
        refine so_gno rfl rfl ?_
        refine so_gno rfl rfl ?_
        refine so_pick_t (v := (.v (.bool true))) rfl rfl rfl ?_
        refine so_move (v := (.v (.bool true))) rfl ?_
        refine so_gno rfl rfl ?_
        refine so_gno rfl rfl ?_
        refine so_pick_t (v := (.v (.bool true))) rfl rfl rfl ?_
        refine so_move (v := (.v (.bool true))) rfl ?_
        refine so_gyes rfl rfl ?_
        refine so_move (v := (.v v0)) rfl ?_
        refine so_gyes rfl rfl ?_
        refine sv_callS (spec_l02Finite_ok v0 l0 hs (fun _ hs => (g0 _ hs)) _ h) (fun _ _ ⟨_, _, _, e⟩ => e) rfl rfl ?_
        clear h
        rintro _ _ ⟨y108, h, rfl, rfl⟩
        refine so_pick_t (v := (.v (.bool y108))) rfl rfl rfl ?_
        refine so_assign (v := (.v (.bool y108))) rfl ?_
        refine so_nil ?_
        exact by_ret rfl ⟨_, h, rfl, rfl⟩
      · refine so_gyes rfl (decide_eq_false c107) ?_
        refine so_move (v := (.v (.int .i64 (l0.length : Int)))) rfl ?_
        refine so_gyes rfl (decide_eq_false c107) ?_
        refine so_bin rfl rfl ab_eql ?_
        refine so_pick_f (v := (.v (.bool (decide ((l0.length : Int) = (15 : Int)))))) rfl (decide_eq_false c107) rfl ?_
        refine so_move (v := (.v (.bool (decide ((l0.length : Int) = (15 : Int)))))) rfl ?_
        replace h := ofP h; rcases h with ⟨c110, h⟩ | ⟨c110, h⟩
        · refine so_gno rfl (decide_eq_true c110) ?_
          refine so_gno rfl (decide_eq_true c110) ?_
          refine so_pick_t (v := (.v (.bool true))) rfl (decide_eq_true c110) rfl ?_
          refine so_move (v := (.v (.bool true))) rfl ?_
          refine so_gno rfl rfl ?_
          refine so_gno rfl rfl ?_
          refine so_pick_t (v := (.v (.bool true))) rfl rfl rfl ?_
          refine so_move (v := (.v (.bool true))) rfl ?_
          refine so_gyes rfl rfl ?_
          refine so_move (v := (.v v0)) rfl ?_
          refine so_gyes rfl rfl ?_
          refine sv_callS (spec_l02Finite_ok v0 l0 hs (fun _ hs => (g0 _ hs)) _ h) (fun _ _ ⟨_, _, _, e⟩ => e) rfl rfl ?_
          clear h
          rintro _ _ ⟨y111, h, rfl, rfl⟩
          refine so_pick_t (v := (.v (.bool y111))) rfl rfl rfl ?_
          refine so_assign (v := (.v (.bool y111))) rfl ?_
          refine so_nil ?_
          exact by_ret rfl ⟨_, h, rfl, rfl⟩
        · refine so_gyes rfl (decide_eq_false c110) ?_
          refine so_move (v := (.v (.int .i64 (l0.length : Int)))) rfl ?_
          refine so_gyes rfl (decide_eq_false c110) ?_
          refine so_bin rfl rfl ab_eql ?_
          refine so_pick_f (v := (.v (.bool (decide ((l0.length : Int) = (31 : Int)))))) rfl (decide_eq_false c110) rfl ?_
          refine so_move (v := (.v (.bool (decide ((l0.length : Int) = (31 : Int)))))) rfl ?_
          replace h := ofP h; rcases h with ⟨c113, h⟩ | ⟨c113, h⟩
          · refine so_gno rfl (decide_eq_true c113) ?_
            refine so_gno rfl (decide_eq_true c113) ?_
            refine so_pick_t (v := (.v (.bool true))) rfl (decide_eq_true c113) rfl ?_
            refine so_move (v := (.v (.bool true))) rfl ?_
            refine so_gyes rfl rfl ?_
            refine so_move (v := (.v v0)) rfl ?_
            refine so_gyes rfl rfl ?_
            refine sv_callS (spec_l02Finite_ok v0 l0 hs (fun _ hs => (g0 _ hs)) _ h) (fun _ _ ⟨_, _, _, e⟩ => e) rfl rfl ?_
            clear h
            rintro _ _ ⟨y114, h, rfl, rfl⟩
            refine so_pick_t (v := (.v (.bool y114))) rfl rfl rfl ?_
            refine so_assign (v := (.v (.bool y114))) rfl ?_
            refine so_nil ?_
            exact by_ret rfl ⟨_, h, rfl, rfl⟩
          · refine so_gyes rfl (decide_eq_false c113) ?_
            refine so_move (v := (.v (.int .i64 (l0.length : Int)))) rfl ?_
            refine so_gyes rfl (decide_eq_false c113) ?_
            refine so_bin rfl rfl ab_eql ?_
            refine so_pick_f (v := (.v (.bool (decide ((l0.length : Int) = (63 : Int)))))) rfl (decide_eq_false c113) rfl ?_
            refine so_move (v := (.v (.bool (decide ((l0.length : Int) = (63 : Int)))))) rfl ?_
            replace h := ofP h; rcases h with ⟨c116, h⟩ | ⟨c116, h⟩
            · refine so_gyes rfl (decide_eq_true c116) ?_
              refine so_move (v := (.v v0)) rfl ?_
              refine so_gyes rfl (decide_eq_true c116) ?_
              refine sv_callS (spec_l02Finite_ok v0 l0 hs (fun _ hs => (g0 _ hs)) _ h) (fun _ _ ⟨_, _, _, e⟩ => e) rfl rfl ?_
              clear h
              rintro _ _ ⟨y117, h, rfl, rfl⟩
              refine so_pick_t (v := (.v (.bool y117))) rfl (decide_eq_true c116) rfl ?_
              refine so_assign (v := (.v (.bool y117))) rfl ?_
              refine so_nil ?_
              exact by_ret rfl ⟨_, h, rfl, rfl⟩
            · refine so_gno rfl (decide_eq_false c116) ?_
              refine so_gno rfl (decide_eq_false c116) ?_
              refine so_pick_f (v := (.v (.bool false))) rfl (decide_eq_false c116) rfl ?_
              refine so_assign (v := (.v (.bool false))) rfl ?_
              refine so_nil ?_
              exact by_ret rfl ⟨_, h, rfl, rfl⟩

end Go.Proofs.Ytkaidcgelbhofaa.G

namespace Go.Proofs.Ytkaidcgelbhofaa.G
open Go Go.Ab Go.Proofs Go.Proofs.Ytkaidcgelbhofaa
set_option maxRecDepth 100000
set_option linter.unusedVariables false
set_option linter.unusedSimpArgs false
set_option maxHeartbeats 1000000
attribute [local irreducible] wops wopf Go.Ab.Fin
theorem spec_l02Above_ok {fr : List Pc} {H : Heap} (a0 : Nat) (hs : Sep H (fr))  (K : Bool → Prop) (h : spec_l02Above.wp a0 K) : OkQ Try.prog 90 [(.v (.flt .f32 a0))] H (fun r H2 => ∃ (y0 : Bool), K y0 ∧ r = (.v (.bool y0)) ∧ H = H2) := by
  unfold spec_l02Above.wp at h
  refine of_body Try.f90 F.hm Try.func90 rfl Try.call90 (by kernel_rfl) (by simp) ?_
  refine fi_seq ?_
  refine fi_region ?_
  refine so_assign (v := (.v (.bool false))) rfl ?_
  refine so_nil ?_
  refine fi_seq ?_
  refine fi_region ?_
  refine so_move (v := (.v (.flt .f32 a0))) rfl ?_
  refine sv_callS (spec_l01Finite_ok a0 hs  _ h) (fun _ _ ⟨_, _, _, e⟩ => e) rfl rfl ?_
  clear h
  rintro _ _ ⟨y101, h, rfl, rfl⟩
  refine so_move (v := (.v (.bool y101))) rfl ?_
  replace h := ofT h; rcases h with ⟨c103, h⟩ | ⟨c103, h⟩
  · refine so_gyes rfl c103 ?_
    refine so_move (v := (.v (.flt .f32 a0))) rfl ?_
    refine so_gyes rfl c103 ?_
    refine so_bin rfl rfl ab_fgtr ?_
    refine so_pick_t (v := (.v (.bool (fcmp .gtr .f32 a0 (cz .f32 0))))) rfl c103 rfl ?_
    refine so_assign (v := (.v (.bool (fcmp .gtr .f32 a0 (cz .f32 0))))) rfl ?_
    refine so_nil ?_
    exact by_ret rfl ⟨_, h, rfl, rfl⟩
  · refine so_gno rfl c103 ?_
    refine so_gno rfl c103 ?_
    refine so_pick_f (v := (.v (.bool false))) rfl c103 rfl ?_
    refine so_assign (v := (.v (.bool false))) rfl ?_
    refine so_nil ?_
    exact by_ret rfl ⟨_, h, rfl, rfl⟩

end Go.Proofs.Ytkaidcgelbhofaa.G

namespace Go.Proofs.Ytkaidcgelbhofaa.G
open Go Go.Ab Go.Proofs Go.Proofs.Ytkaidcgelbhofaa
set_option maxRecDepth 100000
set_option linter.unusedVariables false
set_option linter.unusedSimpArgs false
set_option maxHeartbeats 1000000
attribute [local irreducible] wops wopf Go.Ab.Fin
theorem F91.ag37 : tagg Try.prog 37 = some false := by kernel_rfl
theorem F91.by37 : tbytes Try.prog 37 = some 4 := by kernel_rfl
theorem F91.sz37 : tsz Try.prog 37 = some 1 := by kernel_rfl
theorem F91.ta36_36 : tapp Try.prog 36 36 = some (1, 4) := by kernel_rfl
theorem F91.te36 : telem Try.prog 36 = some 37 := by kernel_rfl
theorem F91.ti36 : (telem Try.prog 36).isSome = true := by kernel_rfl
theorem F91.tl36 : (telem Try.prog 36).bind (tsz Try.prog) = some 1 := by kernel_rfl
theorem F91.ze37 : tzero Try.prog 37 = some [(.flt .f32 (0 : Nat))] := by kernel_rfl
theorem spec_l07Solve_ok {fr : List Pc} {H : Heap} (v0 : AV) (l0 : List (Nat)) (a1 : Nat) (hs : Sep H (fr)) (g0 : ∀ H, Sep H fr → Shows H v0 1 (enc (eFlt .f32) l0)) (K : (List (Nat)) → Prop) (h : spec_l07Solve.wp l0 a1 K) : OkQ Try.prog 91 [(.v v0), (.v (.flt .f32 a1))] H (fun r H2 => ∃ (y0 : List (Nat)), K y0 ∧ ∃ (w0_ : AV), r = (.v w0_) ∧ Sep H2 (Pc.osl w0_ 1 (enc (eFlt .f32) y0) :: fr)) := by
  unfold spec_l07Solve.wp at h
  refine of_body Try.f91 F.hm Try.func91 rfl Try.call91 (by kernel_rfl) (by simp) ?_
  refine fi_seq ?_
  refine fi_region ?_
  refine so_assign (v := (.v .nilsl)) rfl ?_
  refine so_nil ?_
  refine fi_seq ?_
  refine fi_region ?_
  refine so_move (v := (.v v0)) rfl ?_
  refine sv_len (g0 _ hs) (fun _ => rfl) (by decide) rfl F91.ti36 ?_
  refine so_assign (v := (.v (.int .i64 (l0.length : Int)))) rfl ?_
  refine so_nil ?_
  refine fi_seq ?_
  refine fi_region ?_
  refine sv_bslice hs (eFlt .f32) ([(cz .f32 1073741824)] : List (Nat)) [[(.flt .f32 (cz .f32 1073741824))]] F91.te36 F91.sz37 F91.ze37 rfl rfl rfl rfl (fun _ => rfl) rfl (by decide) nofun (fun v101 H102 nv101 hs => ?_)
  refine so_assign (v := (.v v101)) rfl ?_
  refine so_nil ?_
  refine fi_seq ?_
  refine fi_region ?_
  refine so_move (v := (.v (.flt .f32 a1))) rfl ?_
  refine so_move (v := (.v (.flt .f32 a1))) rfl ?_
  refine so_bin rfl rfl ab_fmul ?_
  refine so_move (v := (.v v0)) rfl ?_
  obtain ⟨c104, h⟩ := h
  refine sv_idx (g0 _ hs.tl) c104 (fun _ => rfl) (by decide) rfl rfl F91.tl36 ?_
  refine sv_cell (g0 _ hs.tl) c104 (0 : Nat) 0 (fun x => (AV.flt .f32 x)) (fun _ => rfl) (fun _ => rfl) rfl F91.ag37 ?_
  refine so_bin rfl rfl ab_fmul ?_
  refine sv_bslice hs (eFlt .f32) ([(fop .mul .f32 (fop .mul .f32 a1 a1) (l0.getD ((0 : Int)).toNat (0 : Nat)))] : List (Nat)) [[(.flt .f32 (fop .mul .f32 (fop .mul .f32 a1 a1) (l0.getD ((0 : Int)).toNat (0 : Nat))))]] F91.te36 F91.sz37 F91.ze37 rfl rfl rfl rfl (fun _ => rfl) rfl (by decide) nofun (fun v105 H106 nv105 hs => ?_)
  refine so_assign (v := (.v v105)) rfl ?_
  refine so_nil ?_
  refine fi_seq ?_
  refine fi_seq ?_
  refine fi_region ?_
  refine so_assign (v := (.v (.int .i64 (1 : Int)))) rfl ?_
  refine so_nil ?_
  refine fi_block ?_
  refine fi_loop ?_
  refine fi_at [(0, (.v v0)), (1, (.v (.flt .f32 a1))), (5, (.v (.int .i64 (l0.length : Int)))), (6, (.v v101)), (7, (.v v105)), (8, (.v (.int .i64 (1 : Int))))] ⟨rfl, rfl, rfl, rfl, rfl, rfl, trivial⟩ ?_
  refine h (fun (g162 : List (Nat)) (d164 : List (Nat)) (i166 : Int) => ∀ (s : Nat → TV) (H : Heap) (v163 : AV) (nv163 : v163 ≠ .nilsl) (v165 : AV) (nv165 : v165 ≠ .nilsl), Sep H (Pc.osl v163 1 (enc (eFlt .f32) g162) :: Pc.osl v165 1 (enc (eFlt .f32) d164) :: fr) → Fin _ _ (updL s [(0, (.v v0)), (1, (.v (.flt .f32 a1))), (5, (.v (.int .i64 (l0.length : Int)))), (6, (.v v165)), (7, (.v v163)), (8, (.v (.int .i64 i166)))]) H _) ?_ _ _ _ nv105 _ nv101 hs
  intro g162 d164 i166 h s214 H215 v163 nv163 v165 nv165 hs
  refine fi_inLoop ?_
  refine fi_seq ?_
  refine fi_seq ?_
  refine fi_region ?_
  refine so_move (v := (.v (.int .i64 i166))) rfl ?_
  refine so_move (v := (.v (.int .i64 (l0.length : Int)))) rfl ?_
  refine so_bin rfl rfl ab_lss ?_
  refine so_nil ?_
  replace h := ofP h; rcases h with ⟨c167, h⟩ | ⟨c167, h⟩
  · refine fi_true rfl (decide_eq_true c167) ?_
    refine fi_skip ?_
    refine fi_seq ?_
    refine fi_block ?_
    refine fi_seq ?_
    refine fi_region ?_
    refine so_move (v := (.v v165)) rfl ?_
    refine so_move (v := (.v (.int .i64 i166))) rfl ?_
    refine so_bin rfl rfl ab_sub ?_
    obtain ⟨c168, h⟩ := h
    refine sv_idx (hs.shows 1 rfl) c168 (fun _ => rfl) (by decide) rfl rfl F91.tl36 ?_
    refine sv_cell (hs.shows 1 rfl) c168 (0 : Nat) 0 (fun x => (AV.flt .f32 x)) (fun _ => rfl) (fun _ => rfl) rfl F91.ag37 ?_
    refine so_bin rfl rfl ab_fquo ?_
    refine so_assign (v := (.v (.flt .f32 (fop .quo .f32 (cz .f32 3212836864) (d164.getD ((IntKind.i64.wrap (i166 - (1 : Int)))).toNat (0 : Nat)))))) rfl ?_
    refine so_nil ?_
    refine fi_seq ?_
    refine fi_region ?_
    refine so_move (v := (.v v165)) rfl ?_
    refine so_move (v := (.v (.flt .f32 (fop .quo .f32 (cz .f32 3212836864) (d164.getD ((IntKind.i64.wrap (i166 - (1 : Int)))).toNat (0 : Nat)))))) rfl ?_
    refine so_bin rfl rfl ab_fadd ?_
    refine sv_bslice hs (eFlt .f32) ([(fop .add .f32 (cz .f32 1073741824) (fop .quo .f32 (cz .f32 3212836864) (d164.getD ((IntKind.i64.wrap (i166 - (1 : Int)))).toNat (0 : Nat))))] : List (Nat)) [[(.flt .f32 (fop .add .f32 (cz .f32 1073741824) (fop .quo .f32 (cz .f32 3212836864) (d164.getD ((IntKind.i64.wrap (i166 - (1 : Int)))).toNat (0 : Nat)))))]] F91.te36 F91.sz37 F91.ze37 rfl rfl rfl rfl (fun _ => rfl) rfl (by decide) nofun (fun v169 H170 nv169 hs => ?_)
    obtain ⟨c174, h⟩ := h
    refine sv_app hs 2 rfl (hs.shows 0 rfl) (fun _ => rfl) (by decide) F91.ta36_36 (by decide) c174 rfl rfl nofun (fun v172 H173 kv172 hs => ?_)
    replace hs := hs.del 0
    have nv172 := kv172 nv165
    refine so_assign (v := (.v v172)) rfl ?_
    refine so_nil ?_
    refine fi_region ?_
    refine so_move (v := (.v v163)) rfl ?_
    refine so_move (v := (.v (.flt .f32 a1))) rfl ?_
    refine so_move (v := (.v (.flt .f32 a1))) rfl ?_
    refine so_bin rfl rfl ab_fmul ?_
    refine so_move (v := (.v v0)) rfl ?_
    refine so_move (v := (.v (.int .i64 i166))) rfl ?_
    obtain ⟨c175, h⟩ := h
    refine sv_idx (g0 _ hs.tl.tl) c175 (fun _ => rfl) (by decide) rfl rfl F91.tl36 ?_
    refine sv_cell (g0 _ hs.tl.tl) c175 (0 : Nat) 0 (fun x => (AV.flt .f32 x)) (fun _ => rfl) (fun _ => rfl) rfl F91.ag37 ?_
    refine so_bin rfl rfl ab_fmul ?_
    refine so_move (v := (.v (.flt .f32 (fop .quo .f32 (cz .f32 3212836864) (d164.getD ((IntKind.i64.wrap (i166 - (1 : Int)))).toNat (0 : Nat)))))) rfl ?_
    refine so_move (v := (.v v163)) rfl ?_
    refine so_move (v := (.v (.int .i64 i166))) rfl ?_
    refine so_bin rfl rfl ab_sub ?_
    obtain ⟨c176, h⟩ := h
    refine sv_idx (hs.shows 0 rfl) c176 (fun _ => rfl) (by decide) rfl rfl F91.tl36 ?_
    refine sv_cell (hs.shows 0 rfl) c176 (0 : Nat) 0 (fun x => (AV.flt .f32 x)) (fun _ => rfl) (fun _ => rfl) rfl F91.ag37 ?_
    refine so_bin rfl rfl ab_fmul ?_
    refine so_bin rfl rfl ab_fsub ?_
    refine sv_bslice hs (eFlt .f32) ([(fop .sub .f32 (fop .mul .f32 (fop .mul .f32 a1 a1) (l0.getD (i166).toNat (0 : Nat))) (fop .mul .f32 (fop .quo .f32 (cz .f32 3212836864) (d164.getD ((IntKind.i64.wrap (i166 - (1 : Int)))).toNat (0 : Nat))) (g162.getD ((IntKind.i64.wrap (i166 - (1 : Int)))).toNat (0 : Nat))))] : List (Nat)) [[(.flt .f32 (fop .sub .f32 (fop .mul .f32 (fop .mul .f32 a1 a1) (l0.getD (i166).toNat (0 : Nat))) (fop .mul .f32 (fop .quo .f32 (cz .f32 3212836864) (d164.getD ((IntKind.i64.wrap (i166 - (1 : Int)))).toNat (0 : Nat))) (g162.getD ((IntKind.i64.wrap (i166 - (1 : Int)))).toNat (0 : Nat)))))]] F91.te36 F91.sz37 F91.ze37 rfl rfl rfl rfl (fun _ => rfl) rfl (by decide) (fun _ => by kernel_rfl) (fun v177 H178 nv177 hs => ?_)
    obtain ⟨c182, h⟩ := h
    refine sv_app hs 1 rfl (hs.shows 0 rfl) (fun _ => rfl) (by decide) F91.ta36_36 (by decide) c182 rfl rfl (fun _ => by kernel_rfl) (fun v180 H181 kv180 hs => ?_)
    replace hs := hs.del 0
    have nv180 := kv180 nv163
    refine so_assign (v := (.v v180)) rfl ?_
    refine so_nil ?_
    refine fi_inBlock ?_
    refine fi_region ?_
    refine so_move (v := (.v (.int .i64 i166))) rfl ?_
    refine so_bin rfl rfl ab_add ?_
    refine so_assign (v := (.v (.int .i64 (IntKind.i64.wrap (i166 + (1 : Int)))))) rfl ?_
    refine so_nil ?_
    exact fi_at [(0, (.v v0)), (1, (.v (.flt .f32 a1))), (5, (.v (.int .i64 (l0.length : Int)))), (6, (.v v172)), (7, (.v v180)), (8, (.v (.int .i64 (IntKind.i64.wrap (i166 + (1 : Int))))))] ⟨rfl, rfl, rfl, rfl, rfl, rfl, trivial⟩ (h _ _ _ nv180 _ nv172 hs)
  · refine fi_false rfl (decide_eq_false c167) ?_
    refine fi_exit rfl ?_
    refine fi_seq ?_
    refine fi_region ?_
    refine so_move (v := (.v (.int .i64 (l0.length : Int)))) rfl ?_
    obtain ⟨c183, h⟩ := h
    refine sv_make hs (eFlt .f32) (0 : Nat) c183 (fun _ => rfl) rfl rfl F91.te36 F91.sz37 F91.by37 F91.ze37 rfl rfl nofun (fun v184 H185 nv184 hs => ?_)
    refine so_assign (v := (.v v184)) rfl ?_
    refine so_nil ?_
    refine fi_seq ?_
    refine fi_seq ?_
    refine fi_region ?_
    refine so_move (v := (.v (.int .i64 (l0.length : Int)))) rfl ?_
    refine so_bin rfl rfl ab_sub ?_
    refine so_assign (v := (.v (.int .i64 (IntKind.i64.wrap ((l0.length : Int) - (1 : Int)))))) rfl ?_
    refine so_nil ?_
    refine fi_block ?_
    refine fi_loop ?_
    refine fi_at [(5, (.v (.int .i64 (l0.length : Int)))), (6, (.v v165)), (7, (.v v163)), (10, (.v v184)), (11, (.v (.int .i64 (IntKind.i64.wrap ((l0.length : Int) - (1 : Int))))))] ⟨rfl, rfl, rfl, rfl, rfl, trivial⟩ ?_
    refine h (fun (u200 : List (Nat)) (i201 : Int) => ∀ (s : Nat → TV) (H : Heap), Sep H (Pc.osl v184 1 (enc (eFlt .f32) u200) :: Pc.osl v163 1 (enc (eFlt .f32) g162) :: Pc.osl v165 1 (enc (eFlt .f32) d164) :: fr) → Fin _ _ (updL s [(5, (.v (.int .i64 (l0.length : Int)))), (6, (.v v165)), (7, (.v v163)), (10, (.v v184)), (11, (.v (.int .i64 i201)))]) H _) ?_ _ _ hs
    intro u200 i201 h s212 H213 hs
    refine fi_inLoop ?_
    refine fi_seq ?_
    refine fi_seq ?_
    refine fi_region ?_
    refine so_move (v := (.v (.int .i64 i201))) rfl ?_
    refine so_bin rfl rfl ab_geq ?_
    refine so_nil ?_
    replace h := ofP h; rcases h with ⟨c202, h⟩ | ⟨c202, h⟩
    · refine fi_true rfl (decide_eq_true c202) ?_
      refine fi_skip ?_
      refine fi_seq ?_
      refine fi_block ?_
      refine fi_seq ?_
      refine fi_region ?_
      refine so_move (v := (.v v163)) rfl ?_
      refine so_move (v := (.v (.int .i64 i201))) rfl ?_
      obtain ⟨c203, h⟩ := h
      refine sv_idx (hs.shows 1 rfl) c203 (fun _ => rfl) (by decide) rfl rfl F91.tl36 ?_
      refine sv_cell (hs.shows 1 rfl) c203 (0 : Nat) 0 (fun x => (AV.flt .f32 x)) (fun _ => rfl) (fun _ => rfl) rfl F91.ag37 ?_
      refine so_assign (v := (.v (.flt .f32 (g162.getD (i201).toNat (0 : Nat))))) rfl ?_
      refine so_nil ?_
      refine fi_seq ?_
      refine fi_seq ?_
      refine fi_region ?_
      refine so_move (v := (.v (.int .i64 i201))) rfl ?_
      refine so_bin rfl rfl ab_add ?_
      refine so_move (v := (.v (.int .i64 (l0.length : Int)))) rfl ?_
      refine so_bin rfl rfl ab_lss ?_
      refine so_nil ?_
      replace h := ofP h; rcases h with ⟨c204, h⟩ | ⟨c204, h⟩
      · refine fi_true rfl (decide_eq_true c204) ?_
        refine fi_region ?_
        refine so_move (v := (.v (.flt .f32 (g162.getD (i201).toNat (0 : Nat))))) rfl ?_
        refine so_move (v := (.v v184)) rfl ?_
        refine so_move (v := (.v (.int .i64 i201))) rfl ?_
        refine so_bin rfl rfl ab_add ?_
        obtain ⟨c205, h⟩ := h
        refine sv_idx (hs.shows 0 rfl) c205 (fun _ => rfl) (by decide) rfl rfl F91.tl36 ?_
        refine sv_cell (hs.shows 0 rfl) c205 (0 : Nat) 0 (fun x => (AV.flt .f32 x)) (fun _ => rfl) (fun _ => rfl) rfl F91.ag37 ?_
        refine so_bin rfl rfl ab_fadd ?_
        refine so_assign (v := (.v (.flt .f32 (fop .add .f32 (g162.getD (i201).toNat (0 : Nat)) (u200.getD ((IntKind.i64.wrap (i201 + (1 : Int)))).toNat (0 : Nat)))))) rfl ?_
        refine so_nil ?_
        refine fi_region ?_
        refine so_move (v := (.v v184)) rfl ?_
        refine so_move (v := (.v (.int .i64 i201))) rfl ?_
        refine so_move (v := (.v (.flt .f32 (fop .add .f32 (g162.getD (i201).toNat (0 : Nat)) (u200.getD ((IntKind.i64.wrap (i201 + (1 : Int)))).toNat (0 : Nat)))))) rfl ?_
        refine so_move (v := (.v v165)) rfl ?_
        refine so_move (v := (.v (.int .i64 i201))) rfl ?_
        obtain ⟨c206, h⟩ := h
        refine sv_idx (hs.shows 2 rfl) c206 (fun _ => rfl) (by decide) rfl rfl F91.tl36 ?_
        refine sv_cell (hs.shows 2 rfl) c206 (0 : Nat) 0 (fun x => (AV.flt .f32 x)) (fun _ => rfl) (fun _ => rfl) rfl F91.ag37 ?_
        refine so_bin rfl rfl ab_fquo ?_
        obtain ⟨c207, h⟩ := h
        refine sv_idx (hs.shows 0 rfl) c207 (fun _ => rfl) (by decide) rfl rfl F91.tl36 ?_
        refine sv_set hs 0 rfl c207 (fop .quo .f32 (fop .add .f32 (g162.getD (i201).toNat (0 : Nat)) (u200.getD ((IntKind.i64.wrap (i201 + (1 : Int)))).toNat (0 : Nat))) (d164.getD (i201).toNat (0 : Nat))) (fun _ => rfl) (by decide) rfl rfl rfl rfl F91.sz37 nofun (fun H208 hs => ?_)
        refine so_nil ?_
        refine fi_inBlock ?_
        refine fi_region ?_
        refine so_move (v := (.v (.int .i64 i201))) rfl ?_
        refine so_bin rfl rfl ab_sub ?_
        refine so_assign (v := (.v (.int .i64 (IntKind.i64.wrap (i201 - (1 : Int)))))) rfl ?_
        refine so_nil ?_
        exact fi_at [(5, (.v (.int .i64 (l0.length : Int)))), (6, (.v v165)), (7, (.v v163)), (10, (.v v184)), (11, (.v (.int .i64 (IntKind.i64.wrap (i201 - (1 : Int))))))] ⟨rfl, rfl, rfl, rfl, rfl, trivial⟩ (h _ _  hs)
      · refine fi_false rfl (decide_eq_false c204) ?_
        refine fi_skip ?_
        refine fi_region ?_
        refine so_move (v := (.v v184)) rfl ?_
        refine so_move (v := (.v (.int .i64 i201))) rfl ?_
        refine so_move (v := (.v (.flt .f32 (g162.getD (i201).toNat (0 : Nat))))) rfl ?_
        refine so_move (v := (.v v165)) rfl ?_
        refine so_move (v := (.v (.int .i64 i201))) rfl ?_
        obtain ⟨c209, h⟩ := h
        refine sv_idx (hs.shows 2 rfl) c209 (fun _ => rfl) (by decide) rfl rfl F91.tl36 ?_
        refine sv_cell (hs.shows 2 rfl) c209 (0 : Nat) 0 (fun x => (AV.flt .f32 x)) (fun _ => rfl) (fun _ => rfl) rfl F91.ag37 ?_
        refine so_bin rfl rfl ab_fquo ?_
        obtain ⟨c210, h⟩ := h
        refine sv_idx (hs.shows 0 rfl) c210 (fun _ => rfl) (by decide) rfl rfl F91.tl36 ?_
        refine sv_set hs 0 rfl c210 (fop .quo .f32 (g162.getD (i201).toNat (0 : Nat)) (d164.getD (i201).toNat (0 : Nat))) (fun _ => rfl) (by decide) rfl rfl rfl rfl F91.sz37 nofun (fun H211 hs => ?_)
        refine so_nil ?_
        refine fi_inBlock ?_
        refine fi_region ?_
        refine so_move (v := (.v (.int .i64 i201))) rfl ?_
        refine so_bin rfl rfl ab_sub ?_
        refine so_assign (v := (.v (.int .i64 (IntKind.i64.wrap (i201 - (1 : Int)))))) rfl ?_
        refine so_nil ?_
        exact fi_at [(5, (.v (.int .i64 (l0.length : Int)))), (6, (.v v165)), (7, (.v v163)), (10, (.v v184)), (11, (.v (.int .i64 (IntKind.i64.wrap (i201 - (1 : Int))))))] ⟨rfl, rfl, rfl, rfl, rfl, trivial⟩ (h _ _  hs)
    · refine fi_false rfl (decide_eq_false c202) ?_
      refine fi_exit rfl ?_
      refine fi_seq ?_
      refine fi_region ?_
      refine so_move (v := (.v v184)) rfl ?_
      refine so_assign (v := (.v v184)) rfl ?_
      refine so_nil ?_
      exact by_ret rfl ⟨_, h, _, rfl, (Sep.del 1 (Sep.del 1 hs))⟩

end Go.Proofs.Ytkaidcgelbhofaa.G

namespace Go.Proofs.Ytkaidcgelbhofaa.G
open Go Go.Ab Go.Proofs Go.Proofs.Ytkaidcgelbhofaa
set_option maxRecDepth 100000
set_option linter.unusedVariables false
set_option linter.unusedSimpArgs false
set_option maxHeartbeats 1000000
attribute [local irreducible] wops wopf Go.Ab.Fin
theorem spec_SolveLine_ok {fr : List Pc} {H : Heap} (v0 : AV) (l0 : List (Nat)) (a1 : Nat) (hs : Sep H (fr)) (g0 : ∀ H, Sep H fr → Shows H v0 1 (enc (eFlt .f32) l0)) (K : (List (Nat)) → Bool → Prop) (h : spec_SolveLine.wp l0 a1 K) : OkQ Try.prog 22 [(.v v0), (.v (.flt .f32 a1))] H (fun r H2 => ∃ (y0 : List (Nat)) (y1 : Bool), K y0 y1 ∧ ∃ (w0_ : AV), r = (.t [(.v w0_), (.v (.bool y1))]) ∧ Sep H2 (Pc.osl w0_ 1 (enc (eFlt .f32) y0) :: fr)) := by
  unfold spec_SolveLine.wp at h
  refine of_body Try.f22 F.hm Try.func22 rfl Try.call22 (by kernel_rfl) (by simp) ?_
  refine fi_seq ?_
  refine fi_region ?_
  refine so_assign (v := (.v .nilsl)) rfl ?_
  refine so_assign (v := (.v (.bool false))) rfl ?_
  refine so_nil ?_
  refine fi_seq ?_
  refine fi_seq ?_
  refine fi_region ?_
  refine so_move (v := (.v v0)) rfl ?_
  refine sv_callS (spec_l07Line_ok v0 l0 hs (fun _ hs => (g0 _ hs)) _ h) (fun _ _ ⟨_, _, _, e⟩ => e) rfl rfl ?_
  clear h
  rintro _ _ ⟨y101, h, rfl, rfl⟩
  refine so_un rfl au_not ?_
  refine so_move (v := (.v (.bool (!y101)))) rfl ?_
  replace h := ofT h; rcases h with ⟨c103, h⟩ | ⟨c103, h⟩
  · refine so_gyes rfl (not_f c103) ?_
    refine so_move (v := (.v (.flt .f32 a1))) rfl ?_
    refine so_gyes rfl (not_f c103) ?_
    refine sv_callS (spec_l02Above_ok a1 hs  _ h) (fun _ _ ⟨_, _, _, e⟩ => e) rfl rfl ?_
    clear h
    rintro _ _ ⟨y104, h, rfl, rfl⟩
    refine so_gyes rfl (not_f c103) ?_
    refine so_un rfl au_not ?_
    refine so_pick_f (v := (.v (.bool (!y104)))) rfl (not_f c103) rfl ?_
    refine so_nil ?_
    replace h := ofT h; rcases h with ⟨c106, h⟩ | ⟨c106, h⟩
    · refine fi_false rfl (not_f c106) ?_
      refine fi_skip ?_
      refine fi_seq ?_
      refine fi_region ?_
      refine so_move (v := (.v v0)) rfl ?_
      refine so_move (v := (.v (.flt .f32 a1))) rfl ?_
      refine sv_call (spec_l07Solve_ok v0 l0 a1 hs (fun _ hs => (g0 _ hs)) _ h) rfl rfl nofun ?_
      clear h hs
      rintro _ H110 ⟨y107, h, v108, rfl, hs⟩
      refine so_assign (v := (.v v108)) rfl ?_
      refine so_nil ?_
      refine fi_seq ?_
      refine fi_seq ?_
      refine fi_region ?_
      refine so_move (v := (.v v108)) rfl ?_
      refine sv_callS (spec_l02Finite_ok v108 y107 hs (fun _ hs => (hs.shows 0 rfl)) _ h) (fun _ _ ⟨_, _, _, e⟩ => e) rfl rfl ?_
      clear h
      rintro _ _ ⟨y111, h, rfl, rfl⟩
      refine so_un rfl au_not ?_
      refine so_nil ?_
      replace h := ofT h; rcases h with ⟨c113, h⟩ | ⟨c113, h⟩
      · refine fi_false rfl (not_f c113) ?_
        refine fi_skip ?_
        refine fi_seq ?_
        refine fi_region ?_
        refine so_move (v := (.v v108)) rfl ?_
        refine so_assign (v := (.v v108)) rfl ?_
        refine so_assign (v := (.v (.bool true))) rfl ?_
        refine so_nil ?_
        exact by_ret rfl ⟨_, _, h, _, rfl, hs⟩
      · refine fi_true rfl (not_t c113) ?_
        refine fi_seq ?_
        refine fi_region ?_
        refine so_assign (v := (.v .nilsl)) rfl ?_
        refine so_assign (v := (.v (.bool false))) rfl ?_
        refine so_nil ?_
        exact by_ret rfl ⟨_, _, h, _, rfl, (Sep.nil (Sep.del 0 hs) 1)⟩
    · refine fi_true rfl (not_t c106) ?_
      refine fi_seq ?_
      refine fi_region ?_
      refine so_assign (v := (.v .nilsl)) rfl ?_
      refine so_assign (v := (.v (.bool false))) rfl ?_
      refine so_nil ?_
      exact by_ret rfl ⟨_, _, h, _, rfl, (Sep.nil hs 1)⟩
  · refine so_gno rfl (not_t c103) ?_
    refine so_gno rfl (not_t c103) ?_
    refine so_gno rfl (not_t c103) ?_
    refine so_pick_t (v := (.v (.bool true))) rfl (not_t c103) rfl ?_
    refine so_nil ?_
    refine fi_true rfl rfl ?_
    refine fi_seq ?_
    refine fi_region ?_
    refine so_assign (v := (.v .nilsl)) rfl ?_
    refine so_assign (v := (.v (.bool false))) rfl ?_
    refine so_nil ?_
    exact by_ret rfl ⟨_, _, h, _, rfl, (Sep.nil hs 1)⟩

end Go.Proofs.Ytkaidcgelbhofaa.G

namespace Go.Proofs.Ytkaidcgelbhofaa.G
open Go Go.Ab Go.Proofs Go.Proofs.Ytkaidcgelbhofaa
set_option maxRecDepth 100000
set_option linter.unusedVariables false
set_option linter.unusedSimpArgs false
set_option maxHeartbeats 1000000
attribute [local irreducible] wops wopf Go.Ab.Fin
theorem F23.ag37 : tagg Try.prog 37 = some false := by kernel_rfl
theorem F23.by37 : tbytes Try.prog 37 = some 4 := by kernel_rfl
theorem F23.sz37 : tsz Try.prog 37 = some 1 := by kernel_rfl
theorem F23.te36 : telem Try.prog 36 = some 37 := by kernel_rfl
theorem F23.ti36 : (telem Try.prog 36).isSome = true := by kernel_rfl
theorem F23.tl36 : (telem Try.prog 36).bind (tsz Try.prog) = some 1 := by kernel_rfl
theorem F23.ze37 : tzero Try.prog 37 = some [(.flt .f32 (0 : Nat))] := by kernel_rfl
theorem laws_toFloat32S_ok {fr : List Pc} {H : Heap} (v0 : AV) (l0 : List (Nat)) (hs : Sep H (fr)) (g0 : ∀ H, Sep H fr → Shows H v0 1 (enc (eFlt .f32) l0)) (K : (List (Nat)) → Prop) (h : laws_toFloat32S.wp l0 K) : OkQ Try.prog 23 [(.v v0)] H (fun r H2 => ∃ (y0 : List (Nat)), K y0 ∧ ∃ (w0_ : AV), r = (.v w0_) ∧ Sep H2 (Pc.osl w0_ 1 (enc (eFlt .f32) y0) :: fr)) := by
  unfold laws_toFloat32S.wp at h
  refine of_body Try.f23 F.hm Try.func23 rfl Try.call23 (by kernel_rfl) (by simp) ?_
  refine fi_seq ?_
  refine fi_region ?_
  refine so_assign (v := (.v .nilsl)) rfl ?_
  refine so_nil ?_
  refine fi_seq ?_
  refine fi_region ?_
  refine so_move (v := (.v v0)) rfl ?_
  refine sv_len (g0 _ hs) (fun _ => rfl) (by decide) rfl F23.ti36 ?_
  obtain ⟨c101, h⟩ := h
  refine sv_make hs (eFlt .f32) (0 : Nat) c101 (fun _ => rfl) rfl rfl F23.te36 F23.sz37 F23.by37 F23.ze37 rfl rfl nofun (fun v102 H103 nv102 hs => ?_)
  refine so_assign (v := (.v v102)) rfl ?_
  refine so_nil ?_
  refine fi_seq ?_
  refine fi_seq ?_
  refine fi_region ?_
  refine so_assign (v := (.v (.int .i64 (0 : Int)))) rfl ?_
  refine so_nil ?_
  refine fi_block ?_
  refine fi_loop ?_
  refine fi_at [(0, (.v v0)), (3, (.v v102)), (4, (.v (.int .i64 (0 : Int))))] ⟨rfl, rfl, rfl, trivial⟩ ?_
  refine h (fun (out112 : List (Nat)) (i113 : Int) => ∀ (s : Nat → TV) (H : Heap), Sep H (Pc.osl v102 1 (enc (eFlt .f32) out112) :: fr) → Fin _ _ (updL s [(0, (.v v0)), (3, (.v v102)), (4, (.v (.int .i64 i113)))]) H _) ?_ _ _ hs
  intro out112 i113 h s118 H119 hs
  refine fi_inLoop ?_
  refine fi_seq ?_
  refine fi_seq ?_
  refine fi_region ?_
  refine so_move (v := (.v (.int .i64 i113))) rfl ?_
  refine so_move (v := (.v v0)) rfl ?_
  refine sv_len (g0 _ hs.tl) (fun _ => rfl) (by decide) rfl F23.ti36 ?_
  refine so_bin rfl rfl ab_lss ?_
  refine so_nil ?_
  replace h := ofP h; rcases h with ⟨c114, h⟩ | ⟨c114, h⟩
  · refine fi_true rfl (decide_eq_true c114) ?_
    refine fi_skip ?_
    refine fi_seq ?_
    refine fi_block ?_
    refine fi_region ?_
    refine so_move (v := (.v v102)) rfl ?_
    refine so_move (v := (.v (.int .i64 i113))) rfl ?_
    refine so_move (v := (.v v0)) rfl ?_
    refine so_move (v := (.v (.int .i64 i113))) rfl ?_
    obtain ⟨c115, h⟩ := h
    refine sv_idx (g0 _ hs.tl) c115 (fun _ => rfl) (by decide) rfl rfl F23.tl36 ?_
    refine sv_cell (g0 _ hs.tl) c115 (0 : Nat) 0 (fun x => (AV.flt .f32 x)) (fun _ => rfl) (fun _ => rfl) rfl F23.ag37 ?_
    obtain ⟨c116, h⟩ := h
    refine sv_idx (hs.shows 0 rfl) c116 (fun _ => rfl) (by decide) rfl rfl F23.tl36 ?_
    refine sv_set hs 0 rfl c116 (l0.getD (i113).toNat (0 : Nat)) (fun _ => rfl) (by decide) rfl rfl rfl rfl F23.sz37 nofun (fun H117 hs => ?_)
    refine so_nil ?_
    refine fi_inBlock ?_
    refine fi_region ?_
    refine so_move (v := (.v (.int .i64 i113))) rfl ?_
    refine so_bin rfl rfl ab_add ?_
    refine so_assign (v := (.v (.int .i64 (IntKind.i64.wrap (i113 + (1 : Int)))))) rfl ?_
    refine so_nil ?_
    exact fi_at [(0, (.v v0)), (3, (.v v102)), (4, (.v (.int .i64 (IntKind.i64.wrap (i113 + (1 : Int))))))] ⟨rfl, rfl, rfl, trivial⟩ (h _ _  hs)
  · refine fi_false rfl (decide_eq_false c114) ?_
    refine fi_exit rfl ?_
    refine fi_seq ?_
    refine fi_region ?_
    refine so_move (v := (.v v102)) rfl ?_
    refine so_assign (v := (.v v102)) rfl ?_
    refine so_nil ?_
    exact by_ret rfl ⟨_, h, _, rfl, hs⟩

end Go.Proofs.Ytkaidcgelbhofaa.G

namespace Go.Proofs.Ytkaidcgelbhofaa.G
open Go Go.Ab Go.Proofs Go.Proofs.Ytkaidcgelbhofaa
set_option maxRecDepth 100000
set_option linter.unusedVariables false
set_option linter.unusedSimpArgs false
set_option maxHeartbeats 1000000
attribute [local irreducible] wops wopf Go.Ab.Fin
theorem impl_IsFinite_ok {fr : List Pc} {H : Heap} (a0 : Nat) (hs : Sep H (fr))  (K : Bool → Prop) (h : impl_IsFinite.wp a0 K) : OkQ Try.prog 107 [(.v (.flt .f32 a0))] H (fun r H2 => ∃ (y0 : Bool), K y0 ∧ r = (.v (.bool y0)) ∧ H = H2) := by
  unfold impl_IsFinite.wp at h
  refine of_body Try.f107 F.hm Try.func107 rfl Try.call107 (by kernel_rfl) (by simp) ?_
  refine fi_seq ?_
  refine fi_region ?_
  refine so_assign (v := (.v (.bool false))) rfl ?_
  refine so_nil ?_
  refine fi_seq ?_
  refine fi_region ?_
  refine so_move (v := (.v (.flt .f32 a0))) rfl ?_
  refine so_move (v := (.v (.flt .f32 a0))) rfl ?_
  refine so_bin rfl rfl ab_fsub ?_
  refine so_bin rfl rfl ab_feql ?_
  refine so_assign (v := (.v (.bool (fcmp .eql .f32 (fop .sub .f32 a0 a0) (cz .f32 0))))) rfl ?_
  refine so_nil ?_
  exact by_ret rfl ⟨_, h, rfl, rfl⟩

end Go.Proofs.Ytkaidcgelbhofaa.G

namespace Go.Proofs.Ytkaidcgelbhofaa.G
open Go Go.Ab Go.Proofs Go.Proofs.Ytkaidcgelbhofaa
set_option maxRecDepth 100000
set_option linter.unusedVariables false
set_option linter.unusedSimpArgs false
set_option maxHeartbeats 1000000
attribute [local irreducible] wops wopf Go.Ab.Fin
theorem F161.ag36 : tagg Try.prog 36 = some false := by kernel_rfl
theorem F161.ag37 : tagg Try.prog 37 = some false := by kernel_rfl
theorem F161.ti36 : (telem Try.prog 36).isSome = true := by kernel_rfl
theorem F161.ti75 : (telem Try.prog 75).isSome = true := by kernel_rfl
theorem F161.tl36 : (telem Try.prog 36).bind (tsz Try.prog) = some 1 := by kernel_rfl
theorem F161.tl75 : (telem Try.prog 75).bind (tsz Try.prog) = some 1 := by kernel_rfl
theorem impl_areFinite_ok {fr : List Pc} {H : Heap} (v0 : AV) (w0 : List (List AV)) (l0 : List (List (Nat))) (hs : Sep H (fr)) (g0 : ∀ H, Sep H fr → DSh H v0 1 R_LeFlt_f32_o l0 w0) (K : Bool → Prop) (h : impl_areFinite.wp l0 K) : OkQ Try.prog 161 [(.v v0)] H (fun r H2 => ∃ (y0 : Bool), K y0 ∧ r = (.v (.bool y0)) ∧ H = H2) := by
  unfold impl_areFinite.wp at h
  refine of_body Try.f161 F.hm Try.func161 rfl Try.call161 (by kernel_rfl) (by simp) ?_
  refine fi_seq ?_
  refine fi_region ?_
  refine so_assign (v := (.v (.bool false))) rfl ?_
  refine so_nil ?_
  refine fi_seq ?_
  refine fi_seq ?_
  refine fi_region ?_
  refine so_move (v := (.v v0)) rfl ?_
  refine sd_len ((g0 _ hs) : DSh _ _ 1 R_LeFlt_f32_o l0 w0) (by decide) rfl F161.ti75 ?_
  refine so_move (v := (.v (.int .i64 (0 : Int)))) rfl ?_
  refine so_nil ?_
  refine fi_block ?_
  refine fi_loop ?_
  refine fi_at [(7, (.v v0)), (8, (.v (.int .i64 (l0.length : Int)))), (9, (.v (.int .i64 (0 : Int))))] ⟨rfl, rfl, rfl, trivial⟩ ?_
  refine h (fun (x102 : Int) => ∀ (s : Nat → TV), Fin _ _ (updL s [(7, (.v v0)), (8, (.v (.int .i64 (l0.length : Int)))), (9, (.v (.int .i64 x102)))]) _ _) ?_ _
  intro x102 h s114
  refine fi_inLoop ?_
  refine fi_seq ?_
  refine fi_region ?_
  refine so_bin rfl rfl ab_lss ?_
  refine so_nil ?_
  refine fi_seq ?_
  replace h := ofP h; rcases h with ⟨c103, h⟩ | ⟨c103, h⟩
  · refine fi_true rfl (decide_eq_true c103) ?_
    refine fi_skip ?_
    refine fi_seq ?_
    refine fi_block ?_
    refine fi_seq ?_
    refine fi_region ?_
    obtain ⟨c104, h⟩ := h
    refine sd_idx ((g0 _ hs) : DSh _ _ 1 R_LeFlt_f32_o l0 w0) c104 ([] : List (Nat)) (by decide) rfl rfl F161.tl75 ?_
    refine su_ld ((((g0 _ hs) : DSh _ _ 1 R_LeFlt_f32_o l0 w0)).at (by decide) c104 ([] : List (Nat))).2.2 0 (congrArg (fun c => c[0]?) ((((g0 _ hs) : DSh _ _ 1 R_LeFlt_f32_o l0 w0)).at (by decide) c104 ([] : List (Nat))).2.1.1) rfl F161.ag36 ?_
    refine so_assign (v := (.v ((w0.getD (x102).toNat []).getD 0 .und))) rfl ?_
    refine so_nil ?_
    refine fi_seq ?_
    refine fi_region ?_
    refine so_move (v := (.v ((w0.getD (x102).toNat []).getD 0 .und))) rfl ?_
    refine sv_len ((((g0 _ hs) : DSh _ _ 1 R_LeFlt_f32_o l0 w0)).at (by decide) c104 ([] : List (Nat))).2.1.2 (fun _ => rfl) (by decide) rfl F161.ti36 ?_
    refine so_move (v := (.v (.int .i64 (0 : Int)))) rfl ?_
    refine so_nil ?_
    refine fi_block ?_
    refine fi_loop ?_
    refine fi_at [(7, (.v v0)), (8, (.v (.int .i64 (l0.length : Int)))), (9, (.v (.int .i64 x102))), (13, (.v ((w0.getD (x102).toNat []).getD 0 .und))), (14, (.v (.int .i64 ((l0.getD (x102).toNat ([] : List (Nat))).length : Int)))), (15, (.v (.int .i64 (0 : Int))))] ⟨rfl, rfl, rfl, rfl, rfl, rfl, trivial⟩ ?_
    refine h (fun (x106 : Int) => ∀ (s : Nat → TV), Fin _ _ (updL s [(7, (.v v0)), (8, (.v (.int .i64 (l0.length : Int)))), (9, (.v (.int .i64 x102))), (13, (.v ((w0.getD (x102).toNat []).getD 0 .und))), (14, (.v (.int .i64 ((l0.getD (x102).toNat ([] : List (Nat))).length : Int)))), (15, (.v (.int .i64 x106)))]) _ _) ?_ _
    intro x106 h s112
    refine fi_inLoop ?_
    refine fi_seq ?_
    refine fi_region ?_
    refine so_bin rfl rfl ab_lss ?_
    refine so_nil ?_
    refine fi_seq ?_
    replace h := ofP h; rcases h with ⟨c107, h⟩ | ⟨c107, h⟩
    · refine fi_true rfl (decide_eq_true c107) ?_
      refine fi_skip ?_
      refine fi_seq ?_
      refine fi_block ?_
      refine fi_seq ?_
      refine fi_region ?_
      obtain ⟨c108, h⟩ := h
      refine sv_idx ((((g0 _ hs) : DSh _ _ 1 R_LeFlt_f32_o l0 w0)).at (by decide) c104 ([] : List (Nat))).2.1.2 c108 (fun _ => rfl) (by decide) rfl rfl F161.tl36 ?_
      refine sv_cell ((((g0 _ hs) : DSh _ _ 1 R_LeFlt_f32_o l0 w0)).at (by decide) c104 ([] : List (Nat))).2.1.2 c108 (0 : Nat) 0 (fun x => (AV.flt .f32 x)) (fun _ => rfl) (fun _ => rfl) rfl F161.ag37 ?_
      refine so_assign (v := (.v (.flt .f32 ((l0.getD (x102).toNat ([] : List (Nat))).getD (x106).toNat (0 : Nat))))) rfl ?_
      refine so_nil ?_
      refine fi_seq ?_
      refine fi_region ?_
      refine so_move (v := (.v (.flt .f32 ((l0.getD (x102).toNat ([] : List (Nat))).getD (x106).toNat (0 : Nat))))) rfl ?_
      refine sv_callS (impl_IsFinite_ok ((l0.getD (x102).toNat ([] : List (Nat))).getD (x106).toNat (0 : Nat)) hs  _ h) (fun _ _ ⟨_, _, _, e⟩ => e) rfl rfl ?_
      clear h
      rintro _ _ ⟨y109, h, rfl, rfl⟩
      refine so_un rfl au_not ?_
      refine so_nil ?_
      replace h := ofT h; rcases h with ⟨c111, h⟩ | ⟨c111, h⟩
      · refine fi_false rfl (not_f c111) ?_
        refine fi_skip ?_
        refine fi_inBlock ?_
        refine fi_region ?_
        refine so_bin rfl rfl ab_add ?_
        refine so_move (v := (.v (.int .i64 (IntKind.i64.wrap (x106 + (1 : Int)))))) rfl ?_
        refine so_nil ?_
        exact fi_at [(7, (.v v0)), (8, (.v (.int .i64 (l0.length : Int)))), (9, (.v (.int .i64 x102))), (13, (.v ((w0.getD (x102).toNat []).getD 0 .und))), (14, (.v (.int .i64 ((l0.getD (x102).toNat ([] : List (Nat))).length : Int)))), (15, (.v (.int .i64 (IntKind.i64.wrap (x106 + (1 : Int))))))] ⟨rfl, rfl, rfl, rfl, rfl, rfl, trivial⟩ (h _)
      · refine fi_true rfl (not_t c111) ?_
        refine fi_seq ?_
        refine fi_region ?_
        refine so_assign (v := (.v (.bool false))) rfl ?_
        refine so_nil ?_
        exact by_ret rfl ⟨_, h, rfl, rfl⟩
    · refine fi_false rfl (decide_eq_false c107) ?_
      refine fi_exit rfl ?_
      refine fi_inBlock ?_
      refine fi_region ?_
      refine so_bin rfl rfl ab_add ?_
      refine so_move (v := (.v (.int .i64 (IntKind.i64.wrap (x102 + (1 : Int)))))) rfl ?_
      refine so_nil ?_
      exact fi_at [(7, (.v v0)), (8, (.v (.int .i64 (l0.length : Int)))), (9, (.v (.int .i64 (IntKind.i64.wrap (x102 + (1 : Int))))))] ⟨rfl, rfl, rfl, trivial⟩ (h _)
  · refine fi_false rfl (decide_eq_false c103) ?_
    refine fi_exit rfl ?_
    refine fi_seq ?_
    refine fi_region ?_
    refine so_assign (v := (.v (.bool true))) rfl ?_
    refine so_nil ?_
    exact by_ret rfl ⟨_, h, rfl, rfl⟩

end Go.Proofs.Ytkaidcgelbhofaa.G

namespace Go.Proofs.Ytkaidcgelbhofaa.G
open Go Go.Ab Go.Proofs Go.Proofs.Ytkaidcgelbhofaa
set_option maxRecDepth 100000
set_option linter.unusedVariables false
set_option linter.unusedSimpArgs false
set_option maxHeartbeats 1000000
attribute [local irreducible] wops wopf Go.Ab.Fin
theorem F93.sz36 : tsz Try.prog 36 = some 1 := by kernel_rfl
theorem F93.te75 : telem Try.prog 75 = some 36 := by kernel_rfl
theorem F93.ti36 : (telem Try.prog 36).isSome = true := by kernel_rfl
theorem F93.ze36 : tzero Try.prog 36 = some [.nilsl] := by kernel_rfl
theorem impl_isLine_ok {fr : List Pc} {H : Heap} (v0 : AV) (l0 : List (Nat)) (hs : Sep H (fr)) (g0 : ∀ H, Sep H fr → Shows H v0 1 (enc (eFlt .f32) l0)) (K : Bool → Prop) (h : impl_isLine.wp l0 K) : OkQ Try.prog 93 [(.v v0)] H (fun r H2 => ∃ (y0 : Bool), K y0 ∧ r = (.v (.bool y0)) ∧ Sep H2 (fr)) := by
  unfold impl_isLine.wp at h
  refine of_body Try.f93 F.hm Try.func93 rfl Try.call93 (by kernel_rfl) (by simp) ?_
  refine fi_seq ?_
  refine fi_region ?_
  refine so_assign (v := (.v (.bool false))) rfl ?_
  refine so_nil ?_
  refine fi_seq ?_
  refine fi_region ?_
  refine so_move (v := (.v v0)) rfl ?_
  refine sv_len (g0 _ hs) (fun _ => rfl) (by decide) rfl F93.ti36 ?_
  refine so_bin rfl rfl ab_add ?_
  refine so_assign (v := (.v (.int .i64 (IntKind.i64.wrap ((l0.length : Int) + (1 : Int)))))) rfl ?_
  refine so_nil ?_
  refine fi_seq ?_
  refine fi_region ?_
  refine so_move (v := (.v (.int .i64 (IntKind.i64.wrap ((l0.length : Int) + (1 : Int)))))) rfl ?_
  refine so_bin rfl rfl ab_geq ?_
  refine so_move (v := (.v (.bool (decide ((2 : Int) ≤ (IntKind.i64.wrap ((l0.length : Int) + (1 : Int)))))))) rfl ?_
  replace h := ofP h; rcases h with ⟨c101, h⟩ | ⟨c101, h⟩
  · refine so_gyes rfl (decide_eq_true c101) ?_
    refine so_move (v := (.v (.int .i64 (IntKind.i64.wrap ((l0.length : Int) + (1 : Int)))))) rfl ?_
    refine so_gyes rfl (decide_eq_true c101) ?_
    refine so_bin rfl rfl ab_leq ?_
    refine so_pick_t (v := (.v (.bool (decide ((IntKind.i64.wrap ((l0.length : Int) + (1 : Int))) ≤ (64 : Int)))))) rfl (decide_eq_true c101) rfl ?_
    refine so_move (v := (.v (.bool (decide ((IntKind.i64.wrap ((l0.length : Int) + (1 : Int))) ≤ (64 : Int)))))) rfl ?_
    replace h := ofP h; rcases h with ⟨c102, h⟩ | ⟨c102, h⟩
    · refine so_gyes rfl (decide_eq_true c102) ?_
      refine so_move (v := (.v (.int .i64 (IntKind.i64.wrap ((l0.length : Int) + (1 : Int)))))) rfl ?_
      refine so_gyes rfl (decide_eq_true c102) ?_
      refine so_move (v := (.v (.int .i64 (IntKind.i64.wrap ((l0.length : Int) + (1 : Int)))))) rfl ?_
      refine so_gyes rfl (decide_eq_true c102) ?_
      refine so_bin rfl rfl ab_sub ?_
      refine so_gyes rfl (decide_eq_true c102) ?_
      refine so_bin rfl rfl ab_and ?_
      refine so_gyes rfl (decide_eq_true c102) ?_
      refine so_bin rfl rfl ab_eql ?_
      refine so_pick_t (v := (.v (.bool (decide ((ibits .and .i64 (IntKind.i64.wrap ((l0.length : Int) + (1 : Int))) (IntKind.i64.wrap ((IntKind.i64.wrap ((l0.length : Int) + (1 : Int))) - (1 : Int)))) = (0 : Int)))))) rfl (decide_eq_true c102) rfl ?_
      refine so_move (v := (.v (.bool (decide ((ibits .and .i64 (IntKind.i64.wrap ((l0.length : Int) + (1 : Int))) (IntKind.i64.wrap ((IntKind.i64.wrap ((l0.length : Int) + (1 : Int))) - (1 : Int)))) = (0 : Int)))))) rfl ?_
      replace h := ofP h; rcases h with ⟨c103, h⟩ | ⟨c103, h⟩
      · refine so_gyes rfl (decide_eq_true c103) ?_
        refine so_move (v := (.v v0)) rfl ?_
        refine so_gyes rfl (decide_eq_true c103) ?_
        refine sd_bslice hs [[v0]] F93.te75 F93.sz36 F93.ze36 rfl rfl rfl (by simp) (fac (stc (g0 _ hs).stor stn) fan) (by decide) rfl nofun (fun v104 H105 _ hs => ?_)
        refine so_gyes rfl (decide_eq_true c103) ?_
        refine sv_callS (impl_areFinite_ok v104 ([[v0]]) ([l0] : List (List (Nat))) hs (fun _ hs => ⟨hs.shows 0 rfl, by simp, ⟨⟨rfl, (g0 _ hs.tl)⟩, trivial⟩⟩) _ h) (fun _ _ ⟨_, _, _, e⟩ => e) rfl rfl ?_
        clear h
        rintro _ _ ⟨y107, h, rfl, rfl⟩
        refine so_pick_t (v := (.v (.bool y107))) rfl (decide_eq_true c103) rfl ?_
        refine so_assign (v := (.v (.bool y107))) rfl ?_
        refine so_nil ?_
        exact by_ret rfl ⟨_, h, rfl, (Sep.del 0 hs)⟩
      · refine so_gno rfl (decide_eq_false c103) ?_
        refine so_gno rfl (decide_eq_false c103) ?_
        refine so_gno rfl (decide_eq_false c103) ?_
        refine so_pick_f (v := (.v (.bool false))) rfl (decide_eq_false c103) rfl ?_
        refine so_assign (v := (.v (.bool false))) rfl ?_
        refine so_nil ?_
        exact by_ret rfl ⟨_, h, rfl, hs⟩
    · refine so_gno rfl (decide_eq_false c102) ?_
      refine so_gno rfl (decide_eq_false c102) ?_
      refine so_gno rfl (decide_eq_false c102) ?_
      refine so_gno rfl (decide_eq_false c102) ?_
      refine so_gno rfl (decide_eq_false c102) ?_
      refine so_pick_f (v := (.v (.bool false))) rfl (decide_eq_false c102) rfl ?_
      refine so_move (v := (.v (.bool false))) rfl ?_
      refine so_gno rfl rfl ?_
      refine so_gno rfl rfl ?_
      refine so_gno rfl rfl ?_
      refine so_pick_f (v := (.v (.bool false))) rfl rfl rfl ?_
      refine so_assign (v := (.v (.bool false))) rfl ?_
      refine so_nil ?_
      exact by_ret rfl ⟨_, h, rfl, hs⟩
  · refine so_gno rfl (decide_eq_false c101) ?_
    refine so_gno rfl (decide_eq_false c101) ?_
    refine so_pick_f (v := (.v (.bool false))) rfl (decide_eq_false c101) rfl ?_
    refine so_move (v := (.v (.bool false))) rfl ?_
    refine so_gno rfl rfl ?_
    refine so_gno rfl rfl ?_
    refine so_gno rfl rfl ?_
    refine so_gno rfl rfl ?_
    refine so_gno rfl rfl ?_
    refine so_pick_f (v := (.v (.bool false))) rfl rfl rfl ?_
    refine so_move (v := (.v (.bool false))) rfl ?_
    refine so_gno rfl rfl ?_
    refine so_gno rfl rfl ?_
    refine so_gno rfl rfl ?_
    refine so_pick_f (v := (.v (.bool false))) rfl rfl rfl ?_
    refine so_assign (v := (.v (.bool false))) rfl ?_
    refine so_nil ?_
    exact by_ret rfl ⟨_, h, rfl, hs⟩

end Go.Proofs.Ytkaidcgelbhofaa.G

namespace Go.Proofs.Ytkaidcgelbhofaa.G
open Go Go.Ab Go.Proofs Go.Proofs.Ytkaidcgelbhofaa
set_option maxRecDepth 100000
set_option linter.unusedVariables false
set_option linter.unusedSimpArgs false
set_option maxHeartbeats 1000000
attribute [local irreducible] wops wopf Go.Ab.Fin
theorem impl_isOver_ok {fr : List Pc} {H : Heap} (a0 : Nat) (hs : Sep H (fr))  (K : Bool → Prop) (h : impl_isOver.wp a0 K) : OkQ Try.prog 94 [(.v (.flt .f32 a0))] H (fun r H2 => ∃ (y0 : Bool), K y0 ∧ r = (.v (.bool y0)) ∧ H = H2) := by
  unfold impl_isOver.wp at h
  refine of_body Try.f94 F.hm Try.func94 rfl Try.call94 (by kernel_rfl) (by simp) ?_
  refine fi_seq ?_
  refine fi_region ?_
  refine so_assign (v := (.v (.bool false))) rfl ?_
  refine so_nil ?_
  refine fi_seq ?_
  refine fi_region ?_
  refine so_move (v := (.v (.flt .f32 a0))) rfl ?_
  refine sv_callS (impl_IsFinite_ok a0 hs  _ h) (fun _ _ ⟨_, _, _, e⟩ => e) rfl rfl ?_
  clear h
  rintro _ _ ⟨y101, h, rfl, rfl⟩
  refine so_move (v := (.v (.bool y101))) rfl ?_
  replace h := ofT h; rcases h with ⟨c103, h⟩ | ⟨c103, h⟩
  · refine so_gyes rfl c103 ?_
    refine so_move (v := (.v (.flt .f32 a0))) rfl ?_
    refine so_gyes rfl c103 ?_
    refine so_bin rfl rfl ab_fgtr ?_
    refine so_pick_t (v := (.v (.bool (fcmp .gtr .f32 a0 (cz .f32 0))))) rfl c103 rfl ?_
    refine so_assign (v := (.v (.bool (fcmp .gtr .f32 a0 (cz .f32 0))))) rfl ?_
    refine so_nil ?_
    exact by_ret rfl ⟨_, h, rfl, rfl⟩
  · refine so_gno rfl c103 ?_
    refine so_gno rfl c103 ?_
    refine so_pick_f (v := (.v (.bool false))) rfl c103 rfl ?_
    refine so_assign (v := (.v (.bool false))) rfl ?_
    refine so_nil ?_
    exact by_ret rfl ⟨_, h, rfl, rfl⟩

end Go.Proofs.Ytkaidcgelbhofaa.G

namespace Go.Proofs.Ytkaidcgelbhofaa.G
open Go Go.Ab Go.Proofs Go.Proofs.Ytkaidcgelbhofaa
set_option maxRecDepth 100000
set_option linter.unusedVariables false
set_option linter.unusedSimpArgs false
set_option maxHeartbeats 1000000
attribute [local irreducible] wops wopf Go.Ab.Fin
theorem F95.sz36 : tsz Try.prog 36 = some 1 := by kernel_rfl
theorem F95.te75 : telem Try.prog 75 = some 36 := by kernel_rfl
theorem F95.ze36 : tzero Try.prog 36 = some [.nilsl] := by kernel_rfl
theorem impl_finiteList_ok {fr : List Pc} {H : Heap} (v0 : AV) (l0 : List (Nat)) (hs : Sep H (fr)) (g0 : ∀ H, Sep H fr → Shows H v0 1 (enc (eFlt .f32) l0)) (K : Bool → Bool → Prop) (h : impl_finiteList.wp l0 K) : OkQ Try.prog 95 [(.v v0)] H (fun r H2 => ∃ (y0 : Bool) (y1 : Bool), K y0 y1 ∧ r = (.t [(.v (bif y0 then v0 else .nilsl)), (.v (.bool y1))]) ∧ Sep H2 (fr)) := by
  unfold impl_finiteList.wp at h
  refine of_body Try.f95 F.hm Try.func95 rfl Try.call95 (by kernel_rfl) (by simp) ?_
  refine fi_seq ?_
  refine fi_region ?_
  refine so_assign (v := (.v .nilsl)) rfl ?_
  refine so_assign (v := (.v (.bool false))) rfl ?_
  refine so_nil ?_
  refine fi_seq ?_
  refine fi_seq ?_
  refine fi_region ?_
  refine so_move (v := (.v v0)) rfl ?_
  refine sd_bslice hs [[v0]] F95.te75 F95.sz36 F95.ze36 rfl rfl rfl (by simp) (fac (stc (g0 _ hs).stor stn) fan) (by decide) rfl nofun (fun v101 H102 _ hs => ?_)
  refine sv_callS (impl_areFinite_ok v101 ([[v0]]) ([l0] : List (List (Nat))) hs (fun _ hs => ⟨hs.shows 0 rfl, by simp, ⟨⟨rfl, (g0 _ hs.tl)⟩, trivial⟩⟩) _ h) (fun _ _ ⟨_, _, _, e⟩ => e) rfl rfl ?_
  clear h
  rintro _ _ ⟨y104, h, rfl, rfl⟩
  refine so_un rfl au_not ?_
  refine so_nil ?_
  replace h := ofT h; rcases h with ⟨c106, h⟩ | ⟨c106, h⟩
  · refine fi_false rfl (not_f c106) ?_
    refine fi_skip ?_
    refine fi_seq ?_
    refine fi_region ?_
    refine so_move (v := (.v v0)) rfl ?_
    refine so_assign (v := (.v v0)) rfl ?_
    refine so_assign (v := (.v (.bool true))) rfl ?_
    refine so_nil ?_
    exact by_ret rfl ⟨_, _, h, rfl, (Sep.del 0 hs)⟩
  · refine fi_true rfl (not_t c106) ?_
    refine fi_seq ?_
    refine fi_region ?_
    refine so_assign (v := (.v .nilsl)) rfl ?_
    refine so_assign (v := (.v (.bool false))) rfl ?_
    refine so_nil ?_
    exact by_ret rfl ⟨_, _, h, rfl, (Sep.del 0 hs)⟩

end Go.Proofs.Ytkaidcgelbhofaa.G

namespace Go.Proofs.Ytkaidcgelbhofaa.G
open Go Go.Ab Go.Proofs Go.Proofs.Ytkaidcgelbhofaa
set_option maxRecDepth 100000
set_option linter.unusedVariables false
set_option linter.unusedSimpArgs false
set_option maxHeartbeats 1000000
attribute [local irreducible] wops wopf Go.Ab.Fin
theorem F24.ag37 : tagg Try.prog 37 = some false := by kernel_rfl
theorem F24.by37 : tbytes Try.prog 37 = some 4 := by kernel_rfl
theorem F24.sz37 : tsz Try.prog 37 = some 1 := by kernel_rfl
theorem F24.ta36_36 : tapp Try.prog 36 36 = some (1, 4) := by kernel_rfl
theorem F24.te36 : telem Try.prog 36 = some 37 := by kernel_rfl
theorem F24.ti36 : (telem Try.prog 36).isSome = true := by kernel_rfl
theorem F24.tl36 : (telem Try.prog 36).bind (tsz Try.prog) = some 1 := by kernel_rfl
theorem F24.ze37 : tzero Try.prog 37 = some [(.flt .f32 (0 : Nat))] := by kernel_rfl
theorem impl_SolveLine_ok {fr : List Pc} {H : Heap} (v0 : AV) (l0 : List (Nat)) (a1 : Nat) (hs : Sep H (fr)) (g0 : ∀ H, Sep H fr → Shows H v0 1 (enc (eFlt .f32) l0)) (K : (List (Nat)) → Bool → Prop) (h : impl_SolveLine.wp l0 a1 K) : OkQ Try.prog 24 [(.v v0), (.v (.flt .f32 a1))] H (fun r H2 => ∃ (y0 : List (Nat)) (y1 : Bool), K y0 y1 ∧ ∃ (w0_ : AV), r = (.t [(.v w0_), (.v (.bool y1))]) ∧ Sep H2 (Pc.osl w0_ 1 (enc (eFlt .f32) y0) :: fr)) := by
  unfold impl_SolveLine.wp at h
  refine of_body Try.f24 F.hm Try.func24 rfl Try.call24 (by kernel_rfl) (by simp) ?_
  refine fi_seq ?_
  refine fi_region ?_
  refine so_assign (v := (.v .nilsl)) rfl ?_
  refine so_assign (v := (.v (.bool false))) rfl ?_
  refine so_nil ?_
  refine fi_seq ?_
  refine fi_seq ?_
  refine fi_region ?_
  refine so_move (v := (.v v0)) rfl ?_
  refine sv_call (impl_isLine_ok v0 l0 hs (fun _ hs => (g0 _ hs)) _ h) rfl rfl nofun ?_
  clear h hs
  rintro _ H102 ⟨y101, h, rfl, hs⟩
  refine so_un rfl au_not ?_
  refine so_move (v := (.v (.bool (!y101)))) rfl ?_
  replace h := ofT h; rcases h with ⟨c103, h⟩ | ⟨c103, h⟩
  · refine so_gyes rfl (not_f c103) ?_
    refine so_move (v := (.v (.flt .f32 a1))) rfl ?_
    refine so_gyes rfl (not_f c103) ?_
    refine sv_callS (impl_isOver_ok a1 hs  _ h) (fun _ _ ⟨_, _, _, e⟩ => e) rfl rfl ?_
    clear h
    rintro _ _ ⟨y104, h, rfl, rfl⟩
    refine so_gyes rfl (not_f c103) ?_
    refine so_un rfl au_not ?_
    refine so_pick_f (v := (.v (.bool (!y104)))) rfl (not_f c103) rfl ?_
    refine so_nil ?_
    replace h := ofT h; rcases h with ⟨c106, h⟩ | ⟨c106, h⟩
    · refine fi_false rfl (not_f c106) ?_
      refine fi_skip ?_
      refine fi_seq ?_
      refine fi_region ?_
      refine sv_bslice hs (eFlt .f32) ([] : List (Nat)) [] F24.te36 F24.sz37 F24.ze37 rfl rfl rfl rfl (fun _ => rfl) rfl (by decide) nofun (fun v107 H108 nv107 hs => ?_)
      refine sv_bslice hs (eFlt .f32) ([] : List (Nat)) [] F24.te36 F24.sz37 F24.ze37 rfl rfl rfl rfl (fun _ => rfl) rfl (by decide) nofun (fun v110 H111 nv110 hs => ?_)
      refine so_assign (v := (.v v107)) rfl ?_
      refine so_assign (v := (.v v110)) rfl ?_
      refine so_nil ?_
      refine fi_seq ?_
      refine fi_seq ?_
      refine fi_region ?_
      refine so_move (v := (.v v0)) rfl ?_
      refine sv_len (g0 _ hs.tl.tl) (fun _ => rfl) (by decide) rfl F24.ti36 ?_
      refine so_move (v := (.v (.int .i64 (0 : Int)))) rfl ?_
      refine so_nil ?_
      refine fi_block ?_
      refine fi_loop ?_
      refine fi_at [(0, (.v v0)), (1, (.v (.flt .f32 a1))), (6, (.v v107)), (7, (.v v110)), (25, (.v v0)), (26, (.v (.int .i64 (l0.length : Int)))), (27, (.v (.int .i64 (0 : Int))))] ⟨rfl, rfl, rfl, rfl, rfl, rfl, rfl, trivial⟩ ?_
      refine h (fun (g224 : List (Nat)) (d226 : List (Nat)) (x228 : Int) => ∀ (s : Nat → TV) (H : Heap) (v225 : AV) (nv225 : v225 ≠ .nilsl) (v227 : AV) (nv227 : v227 ≠ .nilsl), Sep H (Pc.osl v225 1 (enc (eFlt .f32) g224) :: Pc.osl v227 1 (enc (eFlt .f32) d226) :: fr) → Fin _ _ (updL s [(0, (.v v0)), (1, (.v (.flt .f32 a1))), (6, (.v v227)), (7, (.v v225)), (25, (.v v0)), (26, (.v (.int .i64 (l0.length : Int)))), (27, (.v (.int .i64 x228)))]) H _) ?_ _ _ _ nv110 _ nv107 hs
      intro g224 d226 x228 h s333 H334 v225 nv225 v227 nv227 hs
      refine fi_inLoop ?_
      refine fi_seq ?_
      refine fi_region ?_
      refine so_bin rfl rfl ab_lss ?_
      refine so_nil ?_
      refine fi_seq ?_
      replace h := ofP h; rcases h with ⟨c229, h⟩ | ⟨c229, h⟩
      · refine fi_true rfl (decide_eq_true c229) ?_
        refine fi_skip ?_
        refine fi_seq ?_
        refine fi_block ?_
        refine fi_seq ?_
        refine fi_region ?_
        refine so_move (v := (.v (.int .i64 x228))) rfl ?_
        obtain ⟨c230, h⟩ := h
        refine sv_idx (g0 _ hs.tl.tl) c230 (fun _ => rfl) (by decide) rfl rfl F24.tl36 ?_
        refine sv_cell (g0 _ hs.tl.tl) c230 (0 : Nat) 0 (fun x => (AV.flt .f32 x)) (fun _ => rfl) (fun _ => rfl) rfl F24.ag37 ?_
        refine so_assign (v := (.v (.int .i64 x228))) rfl ?_
        refine so_assign (v := (.v (.flt .f32 (l0.getD (x228).toNat (0 : Nat))))) rfl ?_
        refine so_nil ?_
        refine fi_seq ?_
        refine fi_region ?_
        refine so_move (v := (.v (.flt .f32 a1))) rfl ?_
        refine so_move (v := (.v (.flt .f32 a1))) rfl ?_
        refine so_bin rfl rfl ab_fmul ?_
        refine so_move (v := (.v (.flt .f32 (l0.getD (x228).toNat (0 : Nat))))) rfl ?_
        refine so_bin rfl rfl ab_fmul ?_
        refine so_assign (v := (.v (.flt .f32 (fop .mul .f32 (fop .mul .f32 a1 a1) (l0.getD (x228).toNat (0 : Nat)))))) rfl ?_
        refine so_nil ?_
        refine fi_seq ?_
        refine fi_seq ?_
        refine fi_region ?_
        refine so_move (v := (.v (.int .i64 x228))) rfl ?_
        refine so_bin rfl rfl ab_eql ?_
        refine so_nil ?_
        replace h := ofP h; rcases h with ⟨c231, h⟩ | ⟨c231, h⟩
        · refine fi_true rfl (decide_eq_true c231) ?_
          refine fi_seq ?_
          refine fi_region ?_
          refine so_move (v := (.v v227)) rfl ?_
          refine sv_bslice hs (eFlt .f32) ([(cz .f32 1073741824)] : List (Nat)) [[(.flt .f32 (cz .f32 1073741824))]] F24.te36 F24.sz37 F24.ze37 rfl rfl rfl rfl (fun _ => rfl) rfl (by decide) nofun (fun v232 H233 nv232 hs => ?_)
          obtain ⟨c237, h⟩ := h
          refine sv_app hs 2 rfl (hs.shows 0 rfl) (fun _ => rfl) (by decide) F24.ta36_36 (by decide) c237 rfl rfl nofun (fun v235 H236 kv235 hs => ?_)
          replace hs := hs.del 0
          have nv235 := kv235 nv227
          refine so_move (v := (.v v225)) rfl ?_
          refine so_move (v := (.v (.flt .f32 (fop .mul .f32 (fop .mul .f32 a1 a1) (l0.getD (x228).toNat (0 : Nat)))))) rfl ?_
          refine sv_bslice hs (eFlt .f32) ([(fop .mul .f32 (fop .mul .f32 a1 a1) (l0.getD (x228).toNat (0 : Nat)))] : List (Nat)) [[(.flt .f32 (fop .mul .f32 (fop .mul .f32 a1 a1) (l0.getD (x228).toNat (0 : Nat))))]] F24.te36 F24.sz37 F24.ze37 rfl rfl rfl rfl (fun _ => rfl) rfl (by decide) nofun (fun v238 H239 nv238 hs => ?_)
          obtain ⟨c243, h⟩ := h
          refine sv_app hs 1 rfl (hs.shows 0 rfl) (fun _ => rfl) (by decide) F24.ta36_36 (by decide) c243 rfl rfl nofun (fun v241 H242 kv241 hs => ?_)
          replace hs := hs.del 0
          have nv241 := kv241 nv225
          refine so_assign (v := (.v v235)) rfl ?_
          refine so_assign (v := (.v v241)) rfl ?_
          refine so_nil ?_
          refine fi_exit rfl ?_
          refine fi_region ?_
          refine so_bin rfl rfl ab_add ?_
          refine so_move (v := (.v (.int .i64 (IntKind.i64.wrap (x228 + (1 : Int)))))) rfl ?_
          refine so_nil ?_
          exact fi_at [(0, (.v v0)), (1, (.v (.flt .f32 a1))), (6, (.v v235)), (7, (.v v241)), (25, (.v v0)), (26, (.v (.int .i64 (l0.length : Int)))), (27, (.v (.int .i64 (IntKind.i64.wrap (x228 + (1 : Int))))))] ⟨rfl, rfl, rfl, rfl, rfl, rfl, rfl, trivial⟩ (h _ _ _ nv241 _ nv235 hs)
        · refine fi_false rfl (decide_eq_false c231) ?_
          refine fi_skip ?_
          refine fi_seq ?_
          refine fi_region ?_
          refine so_move (v := (.v v227)) rfl ?_
          refine so_move (v := (.v (.int .i64 x228))) rfl ?_
          refine so_bin rfl rfl ab_sub ?_
          obtain ⟨c244, h⟩ := h
          refine sv_idx (hs.shows 1 rfl) c244 (fun _ => rfl) (by decide) rfl rfl F24.tl36 ?_
          refine sv_cell (hs.shows 1 rfl) c244 (0 : Nat) 0 (fun x => (AV.flt .f32 x)) (fun _ => rfl) (fun _ => rfl) rfl F24.ag37 ?_
          refine so_bin rfl rfl ab_fquo ?_
          refine so_assign (v := (.v (.flt .f32 (fop .quo .f32 (cz .f32 3212836864) (d226.getD ((IntKind.i64.wrap (x228 - (1 : Int)))).toNat (0 : Nat)))))) rfl ?_
          refine so_nil ?_
          obtain ⟨c256, h⟩ := h
          obtain ⟨c257, h⟩ := h
          obtain ⟨c261, h⟩ := h
          obtain ⟨G262, k245, eG262, ek245, hs263_⟩ := hs.newHole
          obtain ⟨G264, k246, eG264, ek246, hs265_⟩ := hs263_.newHole
          obtain ⟨G266, k247, eG266, ek247, hs267_⟩ := hs265_.newHole
          obtain ⟨G268, k248, eG268, ek248, hs269_⟩ := hs267_.newHole
          obtain ⟨v253, ev253⟩ : ∃ v : AV, v = .sl k245 0 1 1 := ⟨_, rfl⟩
          have nv253 := sl_nn ev253
          obtain ⟨v255, ev255⟩ : ∃ v : AV, v = .sl k246 0 (d226.length + ([(fop .add .f32 (cz .f32 1073741824) (fop .quo .f32 (cz .f32 3212836864) (d226.getD ((IntKind.i64.wrap (x228 - (1 : Int)))).toNat (0 : Nat))))] : List (Nat)).length) 1 := ⟨_, rfl⟩
          have nv255 := sl_nn ev255
          obtain ⟨v258, ev258⟩ : ∃ v : AV, v = .sl k247 0 1 1 := ⟨_, rfl⟩
          have nv258 := sl_nn ev258
          obtain ⟨v260, ev260⟩ : ∃ v : AV, v = .sl k248 0 (g224.length + ([(fop .sub .f32 (fop .mul .f32 (fop .mul .f32 a1 a1) (l0.getD (x228).toNat (0 : Nat))) (fop .mul .f32 (fop .quo .f32 (cz .f32 3212836864) (d226.getD ((IntKind.i64.wrap (x228 - (1 : Int)))).toNat (0 : Nat))) (g224.getD ((IntKind.i64.wrap (x228 - (1 : Int)))).toNat (0 : Nat))))] : List (Nat)).length) 1 := ⟨_, rfl⟩
          have nv260 := sl_nn ev260
          have := hs269_.neH 3 2 rfl rfl
          have := hs269_.neH 3 1 rfl rfl
          have := hs269_.neH 3 0 rfl rfl
          have ne270 := hs269_.neS 3 4 rfl rfl nv227
          have ne271 := hs269_.neS 3 3 rfl rfl nv225
          have := hs269_.neH 2 1 rfl rfl
          have := hs269_.neH 2 0 rfl rfl
          have ne272 := hs269_.neS 2 4 rfl rfl nv227
          have ne273 := hs269_.neS 2 3 rfl rfl nv225
          have := hs269_.neH 1 0 rfl rfl
          have ne274 := hs269_.neS 1 4 rfl rfl nv227
          have ne275 := hs269_.neS 1 3 rfl rfl nv225
          have ne276 := hs269_.neS 0 4 rfl rfl nv227
          have ne277 := hs269_.neS 0 3 rfl rfl nv225
          have := hs269_.neSS 5 4 rfl rfl nv227 nv225
          obtain ⟨G278, eG278, hs279_⟩ := hs269_.fill 3 rfl (enc (eFlt .f32) ([(fop .add .f32 (cz .f32 1073741824) (fop .quo .f32 (cz .f32 3212836864) (d226.getD ((IntKind.i64.wrap (x228 - (1 : Int)))).toNat (0 : Nat))))] : List (Nat))) (by rw [enc_length (e := (eFlt .f32)) (n := 1) (fun _ => rfl)]; first | rfl | simp | (rw [List.length_append])) ev253
          obtain ⟨G280, eG280, hs281_⟩ := hs269_.fill 1 rfl (enc (eFlt .f32) ([(fop .sub .f32 (fop .mul .f32 (fop .mul .f32 a1 a1) (l0.getD (x228).toNat (0 : Nat))) (fop .mul .f32 (fop .quo .f32 (cz .f32 3212836864) (d226.getD ((IntKind.i64.wrap (x228 - (1 : Int)))).toNat (0 : Nat))) (g224.getD ((IntKind.i64.wrap (x228 - (1 : Int)))).toNat (0 : Nat))))] : List (Nat))) (by rw [enc_length (e := (eFlt .f32)) (n := 1) (fun _ => rfl)]; first | rfl | simp | (rw [List.length_append])) ev258
          obtain ⟨G284, eG284, hs285_⟩ := hs279_.kill 5 rfl nv227
          obtain ⟨G282, eG282, hs283_⟩ := hs285_.fill 2 rfl (enc (eFlt .f32) (d226 ++ ([(fop .add .f32 (cz .f32 1073741824) (fop .quo .f32 (cz .f32 3212836864) (d226.getD ((IntKind.i64.wrap (x228 - (1 : Int)))).toNat (0 : Nat))))] : List (Nat)))) (by rw [enc_length (e := (eFlt .f32)) (n := 1) (fun _ => rfl)]; first | rfl | simp | (rw [List.length_append])) ev255
          obtain ⟨G286, eG286, hs287_⟩ := hs279_.fill 1 rfl (enc (eFlt .f32) ([(fop .sub .f32 (fop .mul .f32 (fop .mul .f32 a1 a1) (l0.getD (x228).toNat (0 : Nat))) (fop .mul .f32 (fop .quo .f32 (cz .f32 3212836864) (d226.getD ((IntKind.i64.wrap (x228 - (1 : Int)))).toNat (0 : Nat))) (g224.getD ((IntKind.i64.wrap (x228 - (1 : Int)))).toNat (0 : Nat))))] : List (Nat))) (by rw [enc_length (e := (eFlt .f32)) (n := 1) (fun _ => rfl)]; first | rfl | simp | (rw [List.length_append])) ev258
          obtain ⟨G288, eG288, hs289_⟩ := hs283_.fill 1 rfl (enc (eFlt .f32) ([(fop .sub .f32 (fop .mul .f32 (fop .mul .f32 a1 a1) (l0.getD (x228).toNat (0 : Nat))) (fop .mul .f32 (fop .quo .f32 (cz .f32 3212836864) (d226.getD ((IntKind.i64.wrap (x228 - (1 : Int)))).toNat (0 : Nat))) (g224.getD ((IntKind.i64.wrap (x228 - (1 : Int)))).toNat (0 : Nat))))] : List (Nat))) (by rw [enc_length (e := (eFlt .f32)) (n := 1) (fun _ => rfl)]; first | rfl | simp | (rw [List.length_append])) ev258
          obtain ⟨G292, eG292, hs293_⟩ := hs289_.kill 4 rfl nv225
          obtain ⟨G290, eG290, hs291_⟩ := hs293_.fill 0 rfl (enc (eFlt .f32) (g224 ++ ([(fop .sub .f32 (fop .mul .f32 (fop .mul .f32 a1 a1) (l0.getD (x228).toNat (0 : Nat))) (fop .mul .f32 (fop .quo .f32 (cz .f32 3212836864) (d226.getD ((IntKind.i64.wrap (x228 - (1 : Int)))).toNat (0 : Nat))) (g224.getD ((IntKind.i64.wrap (x228 - (1 : Int)))).toNat (0 : Nat))))] : List (Nat)))) (by rw [enc_length (e := (eFlt .f32)) (n := 1) (fun _ => rfl)]; first | rfl | simp | (rw [List.length_append])) ev260
          refine fi_many [3, 4, 15, 16] (tblH G268 [([false, false, false, false], G268), ([true, false, false, false], G278), ([false, false, true, false], G280), ([true, true, false, false], G282), ([true, false, true, false], G286), ([true, true, true, false], G288), ([true, true, true, true], G290)]) 4 (by decide +kernel) (Eq.trans (b := G268) rfl (by rw [eG268, eG266, eG264, eG262]; rfl)) ?_
          refine wm_pure (G := G268) rfl (by kernel_rfl) ?_
          refine so_move (v := (.v v227)) rfl ?_
          refine so_end ?_
          refine wm_pure (G := G268) rfl (by kernel_rfl) ?_
          refine so_move (v := (.v (.flt .f32 (fop .quo .f32 (cz .f32 3212836864) (d226.getD ((IntKind.i64.wrap (x228 - (1 : Int)))).toNat (0 : Nat)))))) rfl ?_
          refine so_end ?_
          refine wm_pure (G := G268) rfl (by kernel_rfl) ?_
          refine so_bin rfl rfl ab_fadd ?_
          refine so_end ?_
          refine wm_step (.v v253) rfl (ms := [[false, false, false, false], [false, false, true, false]]) (by kernel_rfl) (fac (sm_bslice (len := 1) hs269_ 3 rfl (eFlt .f32) ([(fop .add .f32 (cz .f32 1073741824) (fop .quo .f32 (cz .f32 3212836864) (d226.getD ((IntKind.i64.wrap (x228 - (1 : Int)))).toNat (0 : Nat))))] : List (Nat)) [[(.flt .f32 (fop .add .f32 (cz .f32 1073741824) (fop .quo .f32 (cz .f32 3212836864) (d226.getD ((IntKind.i64.wrap (x228 - (1 : Int)))).toNat (0 : Nat)))))]] F24.te36 F24.sz37 F24.ze37 rfl rfl rfl rfl (fun _ => rfl) rfl (by decide) (refs_flt .f32) ev253 eG278) (fac (sm_bslice (len := 1) hs281_ 3 rfl (eFlt .f32) ([(fop .add .f32 (cz .f32 1073741824) (fop .quo .f32 (cz .f32 3212836864) (d226.getD ((IntKind.i64.wrap (x228 - (1 : Int)))).toNat (0 : Nat))))] : List (Nat)) [[(.flt .f32 (fop .add .f32 (cz .f32 1073741824) (fop .quo .f32 (cz .f32 3212836864) (d226.getD ((IntKind.i64.wrap (x228 - (1 : Int)))).toNat (0 : Nat)))))]] F24.te36 F24.sz37 F24.ze37 rfl rfl rfl rfl (fun _ => rfl) rfl (by decide) (refs_flt .f32) ev253 (show G286 = (G280).put k245 (.own (enc (eFlt .f32) ([(fop .add .f32 (cz .f32 1073741824) (fop .quo .f32 (cz .f32 3212836864) (d226.getD ((IntKind.i64.wrap (x228 - (1 : Int)))).toNat (0 : Nat))))] : List (Nat)))) from heap_ext (by simp only [eG286, eG278, eG280]; rfl) (fun i => by simp only [eG286, eG278, eG280, put_f]; (repeat' split) <;> first | rfl | (exfalso; omega)))) fan)) ?_
          refine wm_step (.v v255) rfl (ms := [[true, false, false, false], [true, false, true, false]]) (by kernel_rfl) (fac (sm_app hs279_ 2 5 rfl rfl nv227 (hs279_.shows 3 rfl) (fun _ => rfl) (by decide) F24.ta36_36 (by decide) c256 rfl rfl (refs_flt .f32) ne272 ev255 (show G282 = ((G278).put v227.id0 .gone).put k246 (.own (enc (eFlt .f32) (d226 ++ ([(fop .add .f32 (cz .f32 1073741824) (fop .quo .f32 (cz .f32 3212836864) (d226.getD ((IntKind.i64.wrap (x228 - (1 : Int)))).toNat (0 : Nat))))] : List (Nat))))) from by rw [eG282, eG284])) (fac (sm_app hs287_ 2 5 rfl rfl nv227 (hs287_.shows 3 rfl) (fun _ => rfl) (by decide) F24.ta36_36 (by decide) c256 rfl rfl (refs_flt .f32) ne272 ev255 (show G288 = ((G286).put v227.id0 .gone).put k246 (.own (enc (eFlt .f32) (d226 ++ ([(fop .add .f32 (cz .f32 1073741824) (fop .quo .f32 (cz .f32 3212836864) (d226.getD ((IntKind.i64.wrap (x228 - (1 : Int)))).toNat (0 : Nat))))] : List (Nat))))) from heap_ext (by simp only [eG288, eG282, eG284, eG278, eG286]; rfl) (fun i => by simp only [eG288, eG282, eG284, eG278, eG286, put_f]; (repeat' split) <;> first | rfl | (exfalso; omega)))) fan)) ?_
          refine wm_pure (G := G282) rfl (by kernel_rfl) ?_
          refine so_move (v := (.v v225)) rfl ?_
          refine so_end ?_
          refine wm_pure (G := G282) rfl (by kernel_rfl) ?_
          refine so_move (v := (.v (.flt .f32 (fop .mul .f32 (fop .mul .f32 a1 a1) (l0.getD (x228).toNat (0 : Nat)))))) rfl ?_
          refine so_end ?_
          refine wm_pure (G := G282) rfl (by kernel_rfl) ?_
          refine so_move (v := (.v (.flt .f32 (fop .quo .f32 (cz .f32 3212836864) (d226.getD ((IntKind.i64.wrap (x228 - (1 : Int)))).toNat (0 : Nat)))))) rfl ?_
          refine so_end ?_
          refine wm_pure (G := G282) rfl (by kernel_rfl) ?_
          refine so_move (v := (.v v225)) rfl ?_
          refine so_end ?_
          refine wm_pure (G := G282) rfl (by kernel_rfl) ?_
          refine so_move (v := (.v (.int .i64 x228))) rfl ?_
          refine so_end ?_
          refine wm_pure (G := G282) rfl (by kernel_rfl) ?_
          refine so_bin rfl rfl ab_sub ?_
          refine so_end ?_
          refine wm_step (.v (.ptr v225.id0 (v225.of0 + ((IntKind.i64.wrap (x228 - (1 : Int)))).toNat * 1))) rfl (ms := [[false, false, false, false], [true, false, false, false], [true, true, false, false]]) (by kernel_rfl) (fac (stepr (i := 0) rfl (by refine sv_idx (hs269_.shows 4 rfl) c257 (fun _ => rfl) (by decide) rfl rfl F24.tl36 ?_; exact so_end ⟨rfl, rfl⟩)) (fac (stepr (i := 0) rfl (by refine sv_idx (hs279_.shows 4 rfl) c257 (fun _ => rfl) (by decide) rfl rfl F24.tl36 ?_; exact so_end ⟨rfl, rfl⟩)) (fac (stepr (i := 0) rfl (by refine sv_idx (hs283_.shows 4 rfl) c257 (fun _ => rfl) (by decide) rfl rfl F24.tl36 ?_; exact so_end ⟨rfl, rfl⟩)) fan))) ?_
          refine wm_step (.v (.flt .f32 (g224.getD ((IntKind.i64.wrap (x228 - (1 : Int)))).toNat (0 : Nat)))) rfl (ms := [[false, false, false, false], [true, false, false, false], [true, true, false, false]]) (by kernel_rfl) (fac (stepr (i := 0) rfl (by refine sv_cell (hs269_.shows 4 rfl) c257 (0 : Nat) 0 (fun x => (AV.flt .f32 x)) (fun _ => rfl) (fun _ => rfl) rfl F24.ag37 ?_; exact so_end ⟨rfl, rfl⟩)) (fac (stepr (i := 0) rfl (by refine sv_cell (hs279_.shows 4 rfl) c257 (0 : Nat) 0 (fun x => (AV.flt .f32 x)) (fun _ => rfl) (fun _ => rfl) rfl F24.ag37 ?_; exact so_end ⟨rfl, rfl⟩)) (fac (stepr (i := 0) rfl (by refine sv_cell (hs283_.shows 4 rfl) c257 (0 : Nat) 0 (fun x => (AV.flt .f32 x)) (fun _ => rfl) (fun _ => rfl) rfl F24.ag37 ?_; exact so_end ⟨rfl, rfl⟩)) fan))) ?_
          refine wm_pure (G := G282) rfl (by kernel_rfl) ?_
          refine so_bin rfl rfl ab_fmul ?_
          refine so_end ?_
          refine wm_pure (G := G282) rfl (by kernel_rfl) ?_
          refine so_bin rfl rfl ab_fsub ?_
          refine so_end ?_
          refine wm_step (.v v258) rfl (ms := [[false, false, false, false], [true, false, false, false], [true, true, false, false]]) (by kernel_rfl) (fac (sm_bslice (len := 1) hs269_ 1 rfl (eFlt .f32) ([(fop .sub .f32 (fop .mul .f32 (fop .mul .f32 a1 a1) (l0.getD (x228).toNat (0 : Nat))) (fop .mul .f32 (fop .quo .f32 (cz .f32 3212836864) (d226.getD ((IntKind.i64.wrap (x228 - (1 : Int)))).toNat (0 : Nat))) (g224.getD ((IntKind.i64.wrap (x228 - (1 : Int)))).toNat (0 : Nat))))] : List (Nat)) [[(.flt .f32 (fop .sub .f32 (fop .mul .f32 (fop .mul .f32 a1 a1) (l0.getD (x228).toNat (0 : Nat))) (fop .mul .f32 (fop .quo .f32 (cz .f32 3212836864) (d226.getD ((IntKind.i64.wrap (x228 - (1 : Int)))).toNat (0 : Nat))) (g224.getD ((IntKind.i64.wrap (x228 - (1 : Int)))).toNat (0 : Nat)))))]] F24.te36 F24.sz37 F24.ze37 rfl rfl rfl rfl (fun _ => rfl) rfl (by decide) (refs_flt .f32) ev258 eG280) (fac (sm_bslice (len := 1) hs279_ 1 rfl (eFlt .f32) ([(fop .sub .f32 (fop .mul .f32 (fop .mul .f32 a1 a1) (l0.getD (x228).toNat (0 : Nat))) (fop .mul .f32 (fop .quo .f32 (cz .f32 3212836864) (d226.getD ((IntKind.i64.wrap (x228 - (1 : Int)))).toNat (0 : Nat))) (g224.getD ((IntKind.i64.wrap (x228 - (1 : Int)))).toNat (0 : Nat))))] : List (Nat)) [[(.flt .f32 (fop .sub .f32 (fop .mul .f32 (fop .mul .f32 a1 a1) (l0.getD (x228).toNat (0 : Nat))) (fop .mul .f32 (fop .quo .f32 (cz .f32 3212836864) (d226.getD ((IntKind.i64.wrap (x228 - (1 : Int)))).toNat (0 : Nat))) (g224.getD ((IntKind.i64.wrap (x228 - (1 : Int)))).toNat (0 : Nat)))))]] F24.te36 F24.sz37 F24.ze37 rfl rfl rfl rfl (fun _ => rfl) rfl (by decide) (refs_flt .f32) ev258 eG286) (fac (sm_bslice (len := 1) hs283_ 1 rfl (eFlt .f32) ([(fop .sub .f32 (fop .mul .f32 (fop .mul .f32 a1 a1) (l0.getD (x228).toNat (0 : Nat))) (fop .mul .f32 (fop .quo .f32 (cz .f32 3212836864) (d226.getD ((IntKind.i64.wrap (x228 - (1 : Int)))).toNat (0 : Nat))) (g224.getD ((IntKind.i64.wrap (x228 - (1 : Int)))).toNat (0 : Nat))))] : List (Nat)) [[(.flt .f32 (fop .sub .f32 (fop .mul .f32 (fop .mul .f32 a1 a1) (l0.getD (x228).toNat (0 : Nat))) (fop .mul .f32 (fop .quo .f32 (cz .f32 3212836864) (d226.getD ((IntKind.i64.wrap (x228 - (1 : Int)))).toNat (0 : Nat))) (g224.getD ((IntKind.i64.wrap (x228 - (1 : Int)))).toNat (0 : Nat)))))]] F24.te36 F24.sz37 F24.ze37 rfl rfl rfl rfl (fun _ => rfl) rfl (by decide) (refs_flt .f32) ev258 eG288) fan))) ?_
          refine wm_step (.v v260) rfl (ms := [[true, true, true, false]]) (by kernel_rfl) (fac (sm_app hs289_ 0 4 rfl rfl nv225 (hs289_.shows 1 rfl) (fun _ => rfl) (by decide) F24.ta36_36 (by decide) c261 rfl rfl (refs_flt .f32) ne277 ev260 (show G290 = ((G288).put v225.id0 .gone).put k248 (.own (enc (eFlt .f32) (g224 ++ ([(fop .sub .f32 (fop .mul .f32 (fop .mul .f32 a1 a1) (l0.getD (x228).toNat (0 : Nat))) (fop .mul .f32 (fop .quo .f32 (cz .f32 3212836864) (d226.getD ((IntKind.i64.wrap (x228 - (1 : Int)))).toNat (0 : Nat))) (g224.getD ((IntKind.i64.wrap (x228 - (1 : Int)))).toNat (0 : Nat))))] : List (Nat))))) from by rw [eG290, eG292])) fan) ?_
          refine wm_pure (G := G290) rfl (by kernel_rfl) ?_
          refine so_assign (v := (.v v255)) rfl ?_
          refine so_end ?_
          refine wm_pure (G := G290) rfl (by kernel_rfl) ?_
          refine so_assign (v := (.v v260)) rfl ?_
          refine so_end ?_
          replace hs := hs291_
          refine wm_nil (G := G290) rfl ?_
          refine fi_inBlock ?_
          refine fi_region ?_
          refine so_bin rfl rfl ab_add ?_
          refine so_move (v := (.v (.int .i64 (IntKind.i64.wrap (x228 + (1 : Int)))))) rfl ?_
          refine so_nil ?_
          exact fi_at [(0, (.v v0)), (1, (.v (.flt .f32 a1))), (6, (.v v255)), (7, (.v v260)), (25, (.v v0)), (26, (.v (.int .i64 (l0.length : Int)))), (27, (.v (.int .i64 (IntKind.i64.wrap (x228 + (1 : Int))))))] ⟨rfl, rfl, rfl, rfl, rfl, rfl, rfl, trivial⟩ (h _ _ _ nv260 _ nv255 (Sep.del 2 (Sep.del 1 hs)))
      · refine fi_false rfl (decide_eq_false c229) ?_
        refine fi_exit rfl ?_
        refine fi_seq ?_
        refine fi_region ?_
        refine so_move (v := (.v v0)) rfl ?_
        refine sv_len (g0 _ hs.tl.tl) (fun _ => rfl) (by decide) rfl F24.ti36 ?_
        obtain ⟨c294, h⟩ := h
        refine sv_make hs (eFlt .f32) (0 : Nat) c294 (fun _ => rfl) rfl rfl F24.te36 F24.sz37 F24.by37 F24.ze37 rfl rfl nofun (fun v295 H296 nv295 hs => ?_)
        refine so_assign (v := (.v v295)) rfl ?_
        refine so_nil ?_
        refine fi_seq ?_
        refine fi_seq ?_
        refine fi_region ?_
        refine so_move (v := (.v v0)) rfl ?_
        refine sv_len (g0 _ hs.tl.tl.tl) (fun _ => rfl) (by decide) rfl F24.ti36 ?_
        refine so_bin rfl rfl ab_sub ?_
        refine so_assign (v := (.v (.int .i64 (IntKind.i64.wrap ((l0.length : Int) - (1 : Int)))))) rfl ?_
        refine so_nil ?_
        refine fi_block ?_
        refine fi_loop ?_
        refine fi_at [(0, (.v v0)), (6, (.v v227)), (7, (.v v225)), (12, (.v v295)), (13, (.v (.int .i64 (IntKind.i64.wrap ((l0.length : Int) - (1 : Int))))))] ⟨rfl, rfl, rfl, rfl, rfl, trivial⟩ ?_
        refine h (fun (u315 : List (Nat)) (i316 : Int) => ∀ (s : Nat → TV) (H : Heap), Sep H (Pc.osl v295 1 (enc (eFlt .f32) u315) :: Pc.osl v225 1 (enc (eFlt .f32) g224) :: Pc.osl v227 1 (enc (eFlt .f32) d226) :: fr) → Fin _ _ (updL s [(0, (.v v0)), (6, (.v v227)), (7, (.v v225)), (12, (.v v295)), (13, (.v (.int .i64 i316)))]) H _) ?_ _ _ hs
        intro u315 i316 h s331 H332 hs
        refine fi_inLoop ?_
        refine fi_seq ?_
        refine fi_seq ?_
        refine fi_region ?_
        refine so_move (v := (.v (.int .i64 i316))) rfl ?_
        refine so_bin rfl rfl ab_geq ?_
        refine so_nil ?_
        replace h := ofP h; rcases h with ⟨c317, h⟩ | ⟨c317, h⟩
        · refine fi_true rfl (decide_eq_true c317) ?_
          refine fi_skip ?_
          refine fi_seq ?_
          refine fi_block ?_
          refine fi_seq ?_
          refine fi_region ?_
          refine so_move (v := (.v v225)) rfl ?_
          refine so_move (v := (.v (.int .i64 i316))) rfl ?_
          obtain ⟨c318, h⟩ := h
          refine sv_idx (hs.shows 1 rfl) c318 (fun _ => rfl) (by decide) rfl rfl F24.tl36 ?_
          refine sv_cell (hs.shows 1 rfl) c318 (0 : Nat) 0 (fun x => (AV.flt .f32 x)) (fun _ => rfl) (fun _ => rfl) rfl F24.ag37 ?_
          refine so_assign (v := (.v (.flt .f32 (g224.getD (i316).toNat (0 : Nat))))) rfl ?_
          refine so_nil ?_
          refine fi_seq ?_
          refine fi_seq ?_
          refine fi_region ?_
          refine so_move (v := (.v (.int .i64 i316))) rfl ?_
          refine so_bin rfl rfl ab_add ?_
          refine so_move (v := (.v v0)) rfl ?_
          refine sv_len (g0 _ hs.tl.tl.tl) (fun _ => rfl) (by decide) rfl F24.ti36 ?_
          refine so_bin rfl rfl ab_lss ?_
          refine so_nil ?_
          replace h := ofP h; rcases h with ⟨c319, h⟩ | ⟨c319, h⟩
          · refine fi_true rfl (decide_eq_true c319) ?_
            refine fi_region ?_
            refine so_move (v := (.v (.flt .f32 (g224.getD (i316).toNat (0 : Nat))))) rfl ?_
            refine so_move (v := (.v v295)) rfl ?_
            refine so_move (v := (.v (.int .i64 i316))) rfl ?_
            refine so_bin rfl rfl ab_add ?_
            obtain ⟨c320, h⟩ := h
            refine sv_idx (hs.shows 0 rfl) c320 (fun _ => rfl) (by decide) rfl rfl F24.tl36 ?_
            refine sv_cell (hs.shows 0 rfl) c320 (0 : Nat) 0 (fun x => (AV.flt .f32 x)) (fun _ => rfl) (fun _ => rfl) rfl F24.ag37 ?_
            refine so_bin rfl rfl ab_fadd ?_
            refine so_assign (v := (.v (.flt .f32 (fop .add .f32 (g224.getD (i316).toNat (0 : Nat)) (u315.getD ((IntKind.i64.wrap (i316 + (1 : Int)))).toNat (0 : Nat)))))) rfl ?_
            refine so_nil ?_
            refine fi_region ?_
            refine so_move (v := (.v v295)) rfl ?_
            refine so_move (v := (.v (.int .i64 i316))) rfl ?_
            refine so_move (v := (.v (.flt .f32 (fop .add .f32 (g224.getD (i316).toNat (0 : Nat)) (u315.getD ((IntKind.i64.wrap (i316 + (1 : Int)))).toNat (0 : Nat)))))) rfl ?_
            refine so_move (v := (.v v227)) rfl ?_
            refine so_move (v := (.v (.int .i64 i316))) rfl ?_
            obtain ⟨c321, h⟩ := h
            refine sv_idx (hs.shows 2 rfl) c321 (fun _ => rfl) (by decide) rfl rfl F24.tl36 ?_
            refine sv_cell (hs.shows 2 rfl) c321 (0 : Nat) 0 (fun x => (AV.flt .f32 x)) (fun _ => rfl) (fun _ => rfl) rfl F24.ag37 ?_
            refine so_bin rfl rfl ab_fquo ?_
            obtain ⟨c322, h⟩ := h
            refine sv_idx (hs.shows 0 rfl) c322 (fun _ => rfl) (by decide) rfl rfl F24.tl36 ?_
            refine sv_set hs 0 rfl c322 (fop .quo .f32 (fop .add .f32 (g224.getD (i316).toNat (0 : Nat)) (u315.getD ((IntKind.i64.wrap (i316 + (1 : Int)))).toNat (0 : Nat))) (d226.getD (i316).toNat (0 : Nat))) (fun _ => rfl) (by decide) rfl rfl rfl rfl F24.sz37 nofun (fun H323 hs => ?_)
            refine so_nil ?_
            refine fi_inBlock ?_
            refine fi_region ?_
            refine so_move (v := (.v (.int .i64 i316))) rfl ?_
            refine so_bin rfl rfl ab_sub ?_
            refine so_assign (v := (.v (.int .i64 (IntKind.i64.wrap (i316 - (1 : Int)))))) rfl ?_
            refine so_nil ?_
            exact fi_at [(0, (.v v0)), (6, (.v v227)), (7, (.v v225)), (12, (.v v295)), (13, (.v (.int .i64 (IntKind.i64.wrap (i316 - (1 : Int))))))] ⟨rfl, rfl, rfl, rfl, rfl, trivial⟩ (h _ _  hs)
          · refine fi_false rfl (decide_eq_false c319) ?_
            refine fi_skip ?_
            refine fi_region ?_
            refine so_move (v := (.v v295)) rfl ?_
            refine so_move (v := (.v (.int .i64 i316))) rfl ?_
            refine so_move (v := (.v (.flt .f32 (g224.getD (i316).toNat (0 : Nat))))) rfl ?_
            refine so_move (v := (.v v227)) rfl ?_
            refine so_move (v := (.v (.int .i64 i316))) rfl ?_
            obtain ⟨c324, h⟩ := h
            refine sv_idx (hs.shows 2 rfl) c324 (fun _ => rfl) (by decide) rfl rfl F24.tl36 ?_
            refine sv_cell (hs.shows 2 rfl) c324 (0 : Nat) 0 (fun x => (AV.flt .f32 x)) (fun _ => rfl) (fun _ => rfl) rfl F24.ag37 ?_
            refine so_bin rfl rfl ab_fquo ?_
            obtain ⟨c325, h⟩ := h
            refine sv_idx (hs.shows 0 rfl) c325 (fun _ => rfl) (by decide) rfl rfl F24.tl36 ?_
            refine sv_set hs 0 rfl c325 (fop .quo .f32 (g224.getD (i316).toNat (0 : Nat)) (d226.getD (i316).toNat (0 : Nat))) (fun _ => rfl) (by decide) rfl rfl rfl rfl F24.sz37 nofun (fun H326 hs => ?_)
            refine so_nil ?_
            refine fi_inBlock ?_
            refine fi_region ?_
            refine so_move (v := (.v (.int .i64 i316))) rfl ?_
            refine so_bin rfl rfl ab_sub ?_
            refine so_assign (v := (.v (.int .i64 (IntKind.i64.wrap (i316 - (1 : Int)))))) rfl ?_
            refine so_nil ?_
            exact fi_at [(0, (.v v0)), (6, (.v v227)), (7, (.v v225)), (12, (.v v295)), (13, (.v (.int .i64 (IntKind.i64.wrap (i316 - (1 : Int))))))] ⟨rfl, rfl, rfl, rfl, rfl, trivial⟩ (h _ _  hs)
        · refine fi_false rfl (decide_eq_false c317) ?_
          refine fi_exit rfl ?_
          refine fi_seq ?_
          refine fi_region ?_
          refine so_move (v := (.v v295)) rfl ?_
          refine sv_call (impl_finiteList_ok v295 u315 hs (fun _ hs => (hs.shows 0 rfl)) _ h) rfl rfl nofun ?_
          clear h hs
          rintro _ H329 ⟨y327, y328, h, rfl, hs⟩
          replace h := ofT h; rcases h with ⟨c330, h⟩ | ⟨c330, h⟩
          · subst c330
            refine so_extract rfl rfl rfl ?_
            refine so_extract rfl rfl rfl ?_
            refine so_assign (v := (.v v295)) rfl ?_
            refine so_assign (v := (.v (.bool y328))) rfl ?_
            refine so_nil ?_
            exact by_ret rfl ⟨_, _, h, _, rfl, (Sep.del 1 (Sep.del 1 hs))⟩
          · subst c330
            refine so_extract rfl rfl rfl ?_
            refine so_extract rfl rfl rfl ?_
            refine so_assign (v := (.v .nilsl)) rfl ?_
            refine so_assign (v := (.v (.bool y328))) rfl ?_
            refine so_nil ?_
            exact by_ret rfl ⟨_, _, h, _, rfl, (Sep.nil (Sep.del 0 (Sep.del 0 (Sep.del 0 hs))) 1)⟩
    · refine fi_true rfl (not_t c106) ?_
      refine fi_seq ?_
      refine fi_region ?_
      refine so_assign (v := (.v .nilsl)) rfl ?_
      refine so_assign (v := (.v (.bool false))) rfl ?_
      refine so_nil ?_
      exact by_ret rfl ⟨_, _, h, _, rfl, (Sep.nil hs 1)⟩
  · refine so_gno rfl (not_t c103) ?_
    refine so_gno rfl (not_t c103) ?_
    refine so_gno rfl (not_t c103) ?_
    refine so_pick_t (v := (.v (.bool true))) rfl (not_t c103) rfl ?_
    refine so_nil ?_
    refine fi_true rfl rfl ?_
    refine fi_seq ?_
    refine fi_region ?_
    refine so_assign (v := (.v .nilsl)) rfl ?_
    refine so_assign (v := (.v (.bool false))) rfl ?_
    refine so_nil ?_
    exact by_ret rfl ⟨_, _, h, _, rfl, (Sep.nil hs 1)⟩

end Go.Proofs.Ytkaidcgelbhofaa.G

namespace Go.Proofs.Ytkaidcgelbhofaa.G
open Go Go.Ab Go.Proofs Go.Proofs.Ytkaidcgelbhofaa
set_option maxRecDepth 100000
set_option linter.unusedVariables false
set_option linter.unusedSimpArgs false
set_option maxHeartbeats 1000000
attribute [local irreducible] wops wopf Go.Ab.Fin
theorem F31.tb4 : tbool Try.prog 4 = true := by kernel_rfl
theorem laws_sameFloat_ok {fr : List Pc} {H : Heap} (a0 : Nat) (a1 : Nat) (hs : Sep H (fr))  (K : Bool → Prop) (h : laws_sameFloat.wp a0 a1 K) : OkQ Try.prog 31 [(.v (.flt .f64 a0)), (.v (.flt .f64 a1))] H (fun r H2 => ∃ (y0 : Bool), K y0 ∧ r = (.v (.bool y0)) ∧ H = H2) := by
  unfold laws_sameFloat.wp at h
  refine of_body Try.f31 F.hm Try.func31 rfl Try.call31 (by kernel_rfl) (by simp) ?_
  refine fi_seq ?_
  refine fi_region ?_
  refine so_assign (v := (.v (.bool false))) rfl ?_
  refine so_nil ?_
  refine fi_seq ?_
  refine fi_seq ?_
  refine fi_region ?_
  refine so_move (v := (.v (.flt .f64 a0))) rfl ?_
  refine so_move (v := (.v (.flt .f64 a0))) rfl ?_
  refine so_bin rfl rfl ab_fneq ?_
  refine so_move (v := (.v (.bool (fcmp .neq .f64 a0 a0)))) rfl ?_
  replace h := ofT h; rcases h with ⟨c101, h⟩ | ⟨c101, h⟩
  · refine so_gno rfl c101 ?_
    refine so_gno rfl c101 ?_
    refine so_gno rfl c101 ?_
    refine so_pick_t (v := (.v (.bool true))) rfl c101 rfl ?_
    refine so_nil ?_
    refine fi_true rfl rfl ?_
    refine fi_seq ?_
    refine fi_region ?_
    refine so_move (v := (.v (.flt .f64 a0))) rfl ?_
    refine so_move (v := (.v (.flt .f64 a0))) rfl ?_
    refine so_bin rfl rfl ab_fneq ?_
    refine so_move (v := (.v (.bool (fcmp .neq .f64 a0 a0)))) rfl ?_
    refine so_gyes rfl c101 ?_
    refine so_move (v := (.v (.flt .f64 a1))) rfl ?_
    refine so_gyes rfl c101 ?_
    refine so_move (v := (.v (.flt .f64 a1))) rfl ?_
    refine so_gyes rfl c101 ?_
    refine so_bin rfl rfl ab_fneq ?_
    refine so_pick_t (v := (.v (.bool (fcmp .neq .f64 a1 a1)))) rfl c101 rfl ?_
    refine so_assign (v := (.v (.bool (fcmp .neq .f64 a1 a1)))) rfl ?_
    refine so_nil ?_
    exact by_ret rfl ⟨_, h, rfl, rfl⟩
  · refine so_gyes rfl c101 ?_
    refine so_move (v := (.v (.flt .f64 a1))) rfl ?_
    refine so_gyes rfl c101 ?_
    refine so_move (v := (.v (.flt .f64 a1))) rfl ?_
    refine so_gyes rfl c101 ?_
    refine so_bin rfl rfl ab_fneq ?_
    refine so_pick_f (v := (.v (.bool (fcmp .neq .f64 a1 a1)))) rfl c101 rfl ?_
    refine so_nil ?_
    replace h := ofT h; rcases h with ⟨c102, h⟩ | ⟨c102, h⟩
    · refine fi_true rfl c102 ?_
      refine fi_seq ?_
      refine fi_region ?_
      refine so_move (v := (.v (.flt .f64 a0))) rfl ?_
      refine so_move (v := (.v (.flt .f64 a0))) rfl ?_
      refine so_bin rfl rfl ab_fneq ?_
      refine so_move (v := (.v (.bool (fcmp .neq .f64 a0 a0)))) rfl ?_
      refine so_gno rfl c101 ?_
      refine so_gno rfl c101 ?_
      refine so_gno rfl c101 ?_
      refine so_pick_f (v := (.v (.bool false))) rfl c101 rfl ?_
      refine so_assign (v := (.v (.bool false))) rfl ?_
      refine so_nil ?_
      exact by_ret rfl ⟨_, h, rfl, rfl⟩
    · refine fi_false rfl c102 ?_
      refine fi_skip ?_
      refine fi_seq ?_
      refine fi_seq ?_
      refine fi_region ?_
      refine so_move (v := (.v (.flt .f64 a0))) rfl ?_
      refine so_bin rfl rfl ab_feql ?_
      refine so_move (v := (.v (.bool (fcmp .eql .f64 a0 (cz .f64 0))))) rfl ?_
      replace h := ofT h; rcases h with ⟨c103, h⟩ | ⟨c103, h⟩
      · refine so_gyes rfl c103 ?_
        refine so_move (v := (.v (.flt .f64 a1))) rfl ?_
        refine so_gyes rfl c103 ?_
        refine so_bin rfl rfl ab_feql ?_
        refine so_pick_t (v := (.v (.bool (fcmp .eql .f64 a1 (cz .f64 0))))) rfl c103 rfl ?_
        refine so_nil ?_
        replace h := ofT h; rcases h with ⟨c104, h⟩ | ⟨c104, h⟩
        · refine fi_true rfl c104 ?_
          refine fi_seq ?_
          refine fi_region ?_
          refine so_move (v := (.v (.flt .f64 a0))) rfl ?_
          refine so_bin rfl rfl ab_fquo ?_
          refine so_bin rfl rfl ab_fgtr ?_
          refine so_move (v := (.v (.flt .f64 a1))) rfl ?_
          refine so_bin rfl rfl ab_fquo ?_
          refine so_bin rfl rfl ab_fgtr ?_
          refine so_bin rfl rfl (ab_beql F31.tb4) ?_
          refine so_assign (v := (.v (.bool ((fcmp .gtr .f64 (fop .quo .f64 (cz .f64 4607182418800017408) a0) (cz .f64 0)) == (fcmp .gtr .f64 (fop .quo .f64 (cz .f64 4607182418800017408) a1) (cz .f64 0)))))) rfl ?_
          refine so_nil ?_
          exact by_ret rfl ⟨_, h, rfl, rfl⟩
        · refine fi_false rfl c104 ?_
          refine fi_skip ?_
          refine fi_seq ?_
          refine fi_region ?_
          refine so_move (v := (.v (.flt .f64 a0))) rfl ?_
          refine so_move (v := (.v (.flt .f64 a1))) rfl ?_
          refine so_bin rfl rfl ab_feql ?_
          refine so_assign (v := (.v (.bool (fcmp .eql .f64 a0 a1)))) rfl ?_
          refine so_nil ?_
          exact by_ret rfl ⟨_, h, rfl, rfl⟩
      · refine so_gno rfl c103 ?_
        refine so_gno rfl c103 ?_
        refine so_pick_f (v := (.v (.bool false))) rfl c103 rfl ?_
        refine so_nil ?_
        refine fi_false rfl rfl ?_
        refine fi_skip ?_
        refine fi_seq ?_
        refine fi_region ?_
        refine so_move (v := (.v (.flt .f64 a0))) rfl ?_
        refine so_move (v := (.v (.flt .f64 a1))) rfl ?_
        refine so_bin rfl rfl ab_feql ?_
        refine so_assign (v := (.v (.bool (fcmp .eql .f64 a0 a1)))) rfl ?_
        refine so_nil ?_
        exact by_ret rfl ⟨_, h, rfl, rfl⟩

end Go.Proofs.Ytkaidcgelbhofaa.G

namespace Go.Proofs.Ytkaidcgelbhofaa.G
open Go Go.Ab Go.Proofs Go.Proofs.Ytkaidcgelbhofaa
set_option maxRecDepth 100000
set_option linter.unusedVariables false
set_option linter.unusedSimpArgs false
set_option maxHeartbeats 1000000
attribute [local irreducible] wops wopf Go.Ab.Fin
theorem F25.ag37 : tagg Try.prog 37 = some false := by kernel_rfl
theorem F25.fl48 : tflt Try.prog 48 = some .f64 := by kernel_rfl
theorem F25.in48 : tint Try.prog 48 = none := by kernel_rfl
theorem F25.ti36 : (telem Try.prog 36).isSome = true := by kernel_rfl
theorem F25.tl36 : (telem Try.prog 36).bind (tsz Try.prog) = some 1 := by kernel_rfl
theorem F25.us37 : (Try.prog.underlying 37).isSome = true := by kernel_rfl
theorem laws_eqFloat32S_ok {fr : List Pc} {H : Heap} (v0 : AV) (l0 : List (Nat)) (v1 : AV) (l1 : List (Nat)) (hs : Sep H (fr)) (g0 : ∀ H, Sep H fr → Shows H v0 1 (enc (eFlt .f32) l0)) (g1 : ∀ H, Sep H fr → Shows H v1 1 (enc (eFlt .f32) l1)) (K : Bool → Prop) (h : laws_eqFloat32S.wp l0 l1 K) : OkQ Try.prog 25 [(.v v0), (.v v1)] H (fun r H2 => ∃ (y0 : Bool), K y0 ∧ r = (.v (.bool y0)) ∧ H = H2) := by
  unfold laws_eqFloat32S.wp at h
  refine of_body Try.f25 F.hm Try.func25 rfl Try.call25 (by kernel_rfl) (by simp) ?_
  refine fi_seq ?_
  refine fi_region ?_
  refine so_assign (v := (.v (.bool false))) rfl ?_
  refine so_nil ?_
  refine fi_seq ?_
  refine fi_seq ?_
  refine fi_region ?_
  refine so_move (v := (.v v0)) rfl ?_
  refine sv_len (g0 _ hs) (fun _ => rfl) (by decide) rfl F25.ti36 ?_
  refine so_move (v := (.v v1)) rfl ?_
  refine sv_len (g1 _ hs) (fun _ => rfl) (by decide) rfl F25.ti36 ?_
  refine so_bin rfl rfl ab_neq ?_
  refine so_nil ?_
  replace h := ofP h; rcases h with ⟨c101, h⟩ | ⟨c101, h⟩
  · refine fi_false rfl (not_f (decide_eq_true c101)) ?_
    refine fi_skip ?_
    refine fi_seq ?_
    refine fi_seq ?_
    refine fi_region ?_
    refine so_assign (v := (.v (.int .i64 (0 : Int)))) rfl ?_
    refine so_nil ?_
    refine fi_block ?_
    refine fi_loop ?_
    refine fi_at [(0, (.v v0)), (1, (.v v1)), (5, (.v (.int .i64 (0 : Int))))] ⟨rfl, rfl, rfl, trivial⟩ ?_
    refine h (fun (i103 : Int) => ∀ (s : Nat → TV), Fin _ _ (updL s [(0, (.v v0)), (1, (.v v1)), (5, (.v (.int .i64 i103)))]) _ _) ?_ _
    intro i103 h s110
    refine fi_inLoop ?_
    refine fi_seq ?_
    refine fi_seq ?_
    refine fi_region ?_
    refine so_move (v := (.v (.int .i64 i103))) rfl ?_
    refine so_move (v := (.v v0)) rfl ?_
    refine sv_len (g0 _ hs) (fun _ => rfl) (by decide) rfl F25.ti36 ?_
    refine so_bin rfl rfl ab_lss ?_
    refine so_nil ?_
    replace h := ofP h; rcases h with ⟨c104, h⟩ | ⟨c104, h⟩
    · refine fi_true rfl (decide_eq_true c104) ?_
      refine fi_skip ?_
      refine fi_seq ?_
      refine fi_block ?_
      refine fi_seq ?_
      refine fi_region ?_
      refine so_move (v := (.v v0)) rfl ?_
      refine so_move (v := (.v (.int .i64 i103))) rfl ?_
      obtain ⟨c105, h⟩ := h
      refine sv_idx (g0 _ hs) c105 (fun _ => rfl) (by decide) rfl rfl F25.tl36 ?_
      refine sv_cell (g0 _ hs) c105 (0 : Nat) 0 (fun x => (AV.flt .f32 x)) (fun _ => rfl) (fun _ => rfl) rfl F25.ag37 ?_
      refine sv_ffw rfl F25.us37 F25.in48 F25.fl48 ?_
      refine so_move (v := (.v v1)) rfl ?_
      refine so_move (v := (.v (.int .i64 i103))) rfl ?_
      obtain ⟨c106, h⟩ := h
      refine sv_idx (g1 _ hs) c106 (fun _ => rfl) (by decide) rfl rfl F25.tl36 ?_
      refine sv_cell (g1 _ hs) c106 (0 : Nat) 0 (fun x => (AV.flt .f32 x)) (fun _ => rfl) (fun _ => rfl) rfl F25.ag37 ?_
      refine sv_ffw rfl F25.us37 F25.in48 F25.fl48 ?_
      refine sv_callS (laws_sameFloat_ok (widen (l0.getD (i103).toNat (0 : Nat))) (widen (l1.getD (i103).toNat (0 : Nat))) hs  _ h) (fun _ _ ⟨_, _, _, e⟩ => e) rfl rfl ?_
      clear h
      rintro _ _ ⟨y107, h, rfl, rfl⟩
      refine so_un rfl au_not ?_
      refine so_nil ?_
      replace h := ofT h; rcases h with ⟨c109, h⟩ | ⟨c109, h⟩
      · refine fi_false rfl (not_f c109) ?_
        refine fi_skip ?_
        refine fi_inBlock ?_
        refine fi_region ?_
        refine so_move (v := (.v (.int .i64 i103))) rfl ?_
        refine so_bin rfl rfl ab_add ?_
        refine so_assign (v := (.v (.int .i64 (IntKind.i64.wrap (i103 + (1 : Int)))))) rfl ?_
        refine so_nil ?_
        exact fi_at [(0, (.v v0)), (1, (.v v1)), (5, (.v (.int .i64 (IntKind.i64.wrap (i103 + (1 : Int))))))] ⟨rfl, rfl, rfl, trivial⟩ (h _)
      · refine fi_true rfl (not_t c109) ?_
        refine fi_seq ?_
        refine fi_region ?_
        refine so_assign (v := (.v (.bool false))) rfl ?_
        refine so_nil ?_
        exact by_ret rfl ⟨_, h, rfl, rfl⟩
    · refine fi_false rfl (decide_eq_false c104) ?_
      refine fi_exit rfl ?_
      refine fi_seq ?_
      refine fi_region ?_
      refine so_assign (v := (.v (.bool true))) rfl ?_
      refine so_nil ?_
      exact by_ret rfl ⟨_, h, rfl, rfl⟩
  · refine fi_true rfl (not_t (decide_eq_false c101)) ?_
    refine fi_seq ?_
    refine fi_region ?_
    refine so_assign (v := (.v (.bool false))) rfl ?_
    refine so_nil ?_
    exact by_ret rfl ⟨_, h, rfl, rfl⟩

end Go.Proofs.Ytkaidcgelbhofaa.G

namespace Go.Proofs.Ytkaidcgelbhofaa.G
open Go Go.Ab Go.Proofs Go.Proofs.Ytkaidcgelbhofaa
set_option maxRecDepth 100000
set_option linter.unusedVariables false
set_option linter.unusedSimpArgs false
set_option maxHeartbeats 1000000
attribute [local irreducible] wops wopf Go.Ab.Fin
theorem F26.fl37 : tflt Try.prog 37 = some .f32 := by kernel_rfl
theorem F26.in37 : tint Try.prog 37 = none := by kernel_rfl
theorem F26.sz37 : tsz Try.prog 37 = some 1 := by kernel_rfl
theorem F26.ti36 : (telem Try.prog 36).isSome = true := by kernel_rfl
theorem F26.tl36 : (telem Try.prog 36).bind (tsz Try.prog) = some 1 := by kernel_rfl
theorem F26.us3 : (Try.prog.underlying 3).isSome = true := by kernel_rfl
theorem laws_markFloat32S_ok {fr : List Pc} {H : Heap} (v0 : AV) (l0 : List (Nat)) (a1 : Int) (hs : Sep H (Pc.osl v0 1 (enc (eFlt .f32) l0) :: fr))  (K : Int → (List (Nat)) → Prop) (h : laws_markFloat32S.wp l0 a1 K) : OkQ Try.prog 26 [(.v v0), (.v (.int .i64 a1))] H (fun r H2 => ∃ (y0 : Int) (y1 : List (Nat)), K y0 y1 ∧ r = (.v (.int .i64 y0)) ∧ Sep H2 (Pc.osl v0 1 (enc (eFlt .f32) y1) :: fr)) := by
  unfold laws_markFloat32S.wp at h
  refine of_body Try.f26 F.hm Try.func26 rfl Try.call26 (by kernel_rfl) (by simp) ?_
  refine fi_seq ?_
  refine fi_region ?_
  refine so_assign (v := (.v (.int .i64 (0 : Int)))) rfl ?_
  refine so_nil ?_
  refine fi_seq ?_
  refine fi_seq ?_
  refine fi_region ?_
  refine so_assign (v := (.v (.int .i64 (0 : Int)))) rfl ?_
  refine so_nil ?_
  refine fi_block ?_
  refine fi_loop ?_
  refine fi_at [(0, (.v v0)), (1, (.v (.int .i64 a1))), (5, (.v (.int .i64 (0 : Int))))] ⟨rfl, rfl, rfl, trivial⟩ ?_
  refine h (fun (a109 : List (Nat)) (k110 : Int) (i111 : Int) => ∀ (s : Nat → TV) (H : Heap), Sep H (Pc.osl v0 1 (enc (eFlt .f32) a109) :: fr) → Fin _ _ (updL s [(0, (.v v0)), (1, (.v (.int .i64 k110))), (5, (.v (.int .i64 i111)))]) H _) ?_ _ _ hs
  intro a109 k110 i111 h s115 H116 hs
  refine fi_inLoop ?_
  refine fi_seq ?_
  refine fi_seq ?_
  refine fi_region ?_
  refine so_move (v := (.v (.int .i64 i111))) rfl ?_
  refine so_move (v := (.v v0)) rfl ?_
  refine sv_len (hs.shows 0 rfl) (fun _ => rfl) (by decide) rfl F26.ti36 ?_
  refine so_bin rfl rfl ab_lss ?_
  refine so_nil ?_
  replace h := ofP h; rcases h with ⟨c112, h⟩ | ⟨c112, h⟩
  · refine fi_true rfl (decide_eq_true c112) ?_
    refine fi_skip ?_
    refine fi_seq ?_
    refine fi_block ?_
    refine fi_seq ?_
    refine fi_region ?_
    refine so_move (v := (.v v0)) rfl ?_
    refine so_move (v := (.v (.int .i64 i111))) rfl ?_
    refine so_move (v := (.v (.int .i64 k110))) rfl ?_
    refine sv_if rfl F26.us3 F26.in37 F26.fl37 ?_
    obtain ⟨c113, h⟩ := h
    refine sv_idx (hs.shows 0 rfl) c113 (fun _ => rfl) (by decide) rfl rfl F26.tl36 ?_
    refine sv_set hs 0 rfl c113 (itof .f32 k110) (fun _ => rfl) (by decide) rfl rfl rfl rfl F26.sz37 nofun (fun H114 hs => ?_)
    refine so_nil ?_
    refine fi_region ?_
    refine so_move (v := (.v (.int .i64 k110))) rfl ?_
    refine so_bin rfl rfl ab_add ?_
    refine so_assign (v := (.v (.int .i64 (IntKind.i64.wrap (k110 + (1 : Int)))))) rfl ?_
    refine so_nil ?_
    refine fi_inBlock ?_
    refine fi_region ?_
    refine so_move (v := (.v (.int .i64 i111))) rfl ?_
    refine so_bin rfl rfl ab_add ?_
    refine so_assign (v := (.v (.int .i64 (IntKind.i64.wrap (i111 + (1 : Int)))))) rfl ?_
    refine so_nil ?_
    exact fi_at [(0, (.v v0)), (1, (.v (.int .i64 (IntKind.i64.wrap (k110 + (1 : Int)))))), (5, (.v (.int .i64 (IntKind.i64.wrap (i111 + (1 : Int))))))] ⟨rfl, rfl, rfl, trivial⟩ (h _ _  hs)
  · refine fi_false rfl (decide_eq_false c112) ?_
    refine fi_exit rfl ?_
    refine fi_seq ?_
    refine fi_region ?_
    refine so_move (v := (.v (.int .i64 k110))) rfl ?_
    refine so_assign (v := (.v (.int .i64 k110))) rfl ?_
    refine so_nil ?_
    exact by_ret rfl ⟨_, _, h, rfl, hs⟩

end Go.Proofs.Ytkaidcgelbhofaa.G

namespace Go.Proofs.Ytkaidcgelbhofaa.G
open Go Go.Ab Go.Proofs Go.Proofs.Ytkaidcgelbhofaa
set_option maxRecDepth 100000
set_option linter.unusedVariables false
set_option linter.unusedSimpArgs false
set_option maxHeartbeats 1000000
attribute [local irreducible] wops wopf Go.Ab.Fin
theorem F27.ag37 : tagg Try.prog 37 = some false := by kernel_rfl
theorem F27.fl37 : tflt Try.prog 37 = some .f32 := by kernel_rfl
theorem F27.in37 : tint Try.prog 37 = none := by kernel_rfl
theorem F27.ti36 : (telem Try.prog 36).isSome = true := by kernel_rfl
theorem F27.tl36 : (telem Try.prog 36).bind (tsz Try.prog) = some 1 := by kernel_rfl
theorem F27.us3 : (Try.prog.underlying 3).isSome = true := by kernel_rfl
theorem laws_heldFloat32S_ok {fr : List Pc} {H : Heap} (v0 : AV) (l0 : List (Nat)) (a1 : Int) (hs : Sep H (fr)) (g0 : ∀ H, Sep H fr → Shows H v0 1 (enc (eFlt .f32) l0)) (K : Int → Prop) (h : laws_heldFloat32S.wp l0 a1 K) : OkQ Try.prog 27 [(.v v0), (.v (.int .i64 a1))] H (fun r H2 => ∃ (y0 : Int), K y0 ∧ r = (.v (.int .i64 y0)) ∧ H = H2) := by
  unfold laws_heldFloat32S.wp at h
  refine of_body Try.f27 F.hm Try.func27 rfl Try.call27 (by kernel_rfl) (by simp) ?_
  refine fi_seq ?_
  refine fi_region ?_
  refine so_assign (v := (.v (.int .i64 (0 : Int)))) rfl ?_
  refine so_nil ?_
  refine fi_seq ?_
  refine fi_seq ?_
  refine fi_region ?_
  refine so_assign (v := (.v (.int .i64 (0 : Int)))) rfl ?_
  refine so_nil ?_
  refine fi_block ?_
  refine fi_loop ?_
  refine fi_at [(0, (.v v0)), (1, (.v (.int .i64 a1))), (5, (.v (.int .i64 (0 : Int))))] ⟨rfl, rfl, rfl, trivial⟩ ?_
  refine h (fun (k102 : Int) (i103 : Int) => ∀ (s : Nat → TV), Fin _ _ (updL s [(0, (.v v0)), (1, (.v (.int .i64 k102))), (5, (.v (.int .i64 i103)))]) _ _) ?_ _
  intro k102 i103 h s107
  refine fi_inLoop ?_
  refine fi_seq ?_
  refine fi_seq ?_
  refine fi_region ?_
  refine so_move (v := (.v (.int .i64 i103))) rfl ?_
  refine so_move (v := (.v v0)) rfl ?_
  refine sv_len (g0 _ hs) (fun _ => rfl) (by decide) rfl F27.ti36 ?_
  refine so_bin rfl rfl ab_lss ?_
  refine so_nil ?_
  replace h := ofP h; rcases h with ⟨c104, h⟩ | ⟨c104, h⟩
  · refine fi_true rfl (decide_eq_true c104) ?_
    refine fi_skip ?_
    refine fi_seq ?_
    refine fi_block ?_
    refine fi_seq ?_
    refine fi_seq ?_
    refine fi_region ?_
    refine so_move (v := (.v v0)) rfl ?_
    refine so_move (v := (.v (.int .i64 i103))) rfl ?_
    obtain ⟨c105, h⟩ := h
    refine sv_idx (g0 _ hs) c105 (fun _ => rfl) (by decide) rfl rfl F27.tl36 ?_
    refine sv_cell (g0 _ hs) c105 (0 : Nat) 0 (fun x => (AV.flt .f32 x)) (fun _ => rfl) (fun _ => rfl) rfl F27.ag37 ?_
    refine so_move (v := (.v (.int .i64 k102))) rfl ?_
    refine sv_if rfl F27.us3 F27.in37 F27.fl37 ?_
    refine so_bin rfl rfl ab_fneq ?_
    refine so_nil ?_
    replace h := ofT h; rcases h with ⟨c106, h⟩ | ⟨c106, h⟩
    · refine fi_true rfl c106 ?_
      refine fi_seq ?_
      refine fi_region ?_
      refine so_assign (v := (.v (.int .i64 (-1 : Int)))) rfl ?_
      refine so_nil ?_
      exact by_ret rfl ⟨_, h, rfl, rfl⟩
    · refine fi_false rfl c106 ?_
      refine fi_skip ?_
      refine fi_region ?_
      refine so_move (v := (.v (.int .i64 k102))) rfl ?_
      refine so_bin rfl rfl ab_add ?_
      refine so_assign (v := (.v (.int .i64 (IntKind.i64.wrap (k102 + (1 : Int)))))) rfl ?_
      refine so_nil ?_
      refine fi_inBlock ?_
      refine fi_region ?_
      refine so_move (v := (.v (.int .i64 i103))) rfl ?_
      refine so_bin rfl rfl ab_add ?_
      refine so_assign (v := (.v (.int .i64 (IntKind.i64.wrap (i103 + (1 : Int)))))) rfl ?_
      refine so_nil ?_
      exact fi_at [(0, (.v v0)), (1, (.v (.int .i64 (IntKind.i64.wrap (k102 + (1 : Int)))))), (5, (.v (.int .i64 (IntKind.i64.wrap (i103 + (1 : Int))))))] ⟨rfl, rfl, rfl, trivial⟩ (h _)
  · refine fi_false rfl (decide_eq_false c104) ?_
    refine fi_exit rfl ?_
    refine fi_seq ?_
    refine fi_region ?_
    refine so_move (v := (.v (.int .i64 k102))) rfl ?_
    refine so_assign (v := (.v (.int .i64 k102))) rfl ?_
    refine so_nil ?_
    exact by_ret rfl ⟨_, h, rfl, rfl⟩

end Go.Proofs.Ytkaidcgelbhofaa.G

namespace Go.Proofs.Ytkaidcgelbhofaa.G
open Go Go.Ab Go.Proofs Go.Proofs.Ytkaidcgelbhofaa
set_option maxRecDepth 100000
set_option linter.unusedVariables false
set_option linter.unusedSimpArgs false
set_option maxHeartbeats 1000000
attribute [local irreducible] wops wopf Go.Ab.Fin
theorem F4.tb4 : tbool Try.prog 4 = true := by kernel_rfl
theorem F4.ti36 : (telem Try.prog 36).isSome = true := by kernel_rfl
theorem laws_FnExactSolveLine_ok {fr : List Pc} {H : Heap} (v0 : AV) (l0 : List (Nat)) (a1 : Nat) (hs : Sep H (fr)) (g0 : ∀ H, Sep H fr → Shows H v0 1 (enc (eFlt .f32) l0)) (K : Bool → Prop) (h : laws_FnExactSolveLine.wp l0 a1 K) : OkQ Try.prog 4 [(.v v0), (.v (.flt .f32 a1))] H (fun r H2 => ∃ (y0 : Bool), K y0 ∧ r = (.v (.bool y0)) ∧ Sep H2 (fr)) := by
  unfold laws_FnExactSolveLine.wp at h
  refine of_body Try.f4 F.hm Try.func4 rfl Try.call4 (by kernel_rfl) (by simp) ?_
  refine fi_seq ?_
  refine fi_region ?_
  refine so_assign (v := (.v (.bool false))) rfl ?_
  refine so_nil ?_
  refine fi_seq ?_
  refine fi_seq ?_
  refine fi_region ?_
  refine so_move (v := (.v v0)) rfl ?_
  refine sv_len (g0 _ hs) (fun _ => rfl) (by decide) rfl F4.ti36 ?_
  refine so_bin rfl rfl ab_gtr ?_
  refine so_nil ?_
  replace h := ofP h; rcases h with ⟨c101, h⟩ | ⟨c101, h⟩
  · refine fi_true rfl (decide_eq_true c101) ?_
    refine fi_seq ?_
    refine fi_region ?_
    refine so_assign (v := (.v (.bool true))) rfl ?_
    refine so_nil ?_
    exact by_ret rfl ⟨_, h, rfl, hs⟩
  · refine fi_false rfl (decide_eq_false c101) ?_
    refine fi_skip ?_
    refine fi_seq ?_
    refine fi_region ?_
    refine so_move (v := (.v v0)) rfl ?_
    refine sv_call (laws_toFloat32S_ok v0 l0 hs (fun _ hs => (g0 _ hs)) _ h) rfl rfl nofun ?_
    clear h hs
    rintro _ H105 ⟨y102, h, v103, rfl, hs⟩
    refine so_move (v := (.v (.flt .f32 a1))) rfl ?_
    refine sv_call (spec_SolveLine_ok v103 y102 a1 hs (fun _ hs => (hs.shows 0 rfl)) _ h) rfl rfl nofun ?_
    clear h hs
    rintro _ H110 ⟨y106, y109, h, v107, rfl, hs⟩
    refine so_move (v := (.t [(.v v107), (.v (.bool y109))])) rfl ?_
    refine so_extract rfl rfl rfl ?_
    refine so_extract rfl rfl rfl ?_
    refine so_assign (v := (.v v107)) rfl ?_
    refine so_assign (v := (.v (.bool y109))) rfl ?_
    refine so_nil ?_
    refine fi_seq ?_
    refine fi_region ?_
    refine so_move (v := (.v v0)) rfl ?_
    refine sv_call (laws_toFloat32S_ok v0 l0 hs (fun _ hs => (g0 _ hs.tl.tl)) _ h) rfl rfl nofun ?_
    clear h hs
    rintro _ H114 ⟨y111, h, v112, rfl, hs⟩
    refine so_assign (v := (.v v112)) rfl ?_
    refine so_nil ?_
    refine fi_seq ?_
    refine fi_region ?_
    refine so_move (v := (.v v112)) rfl ?_
    refine so_move (v := (.v (.flt .f32 a1))) rfl ?_
    refine sv_call (impl_SolveLine_ok v112 y111 a1 hs (fun _ hs => (hs.shows 0 rfl)) _ h) rfl rfl nofun ?_
    clear h hs
    rintro _ H119 ⟨y115, y118, h, v116, rfl, hs⟩
    refine so_move (v := (.t [(.v v116), (.v (.bool y118))])) rfl ?_
    refine so_extract rfl rfl rfl ?_
    refine so_extract rfl rfl rfl ?_
    refine so_assign (v := (.v v116)) rfl ?_
    refine so_assign (v := (.v (.bool y118))) rfl ?_
    refine so_nil ?_
    refine fi_seq ?_
    refine fi_seq ?_
    refine fi_region ?_
    refine so_move (v := (.v v116)) rfl ?_
    refine so_move (v := (.v v107)) rfl ?_
    refine sv_callS (laws_eqFloat32S_ok v116 y115 v107 y106 hs (fun _ hs => (hs.shows 0 rfl)) (fun _ hs => (hs.shows 2 rfl)) _ h) (fun _ _ ⟨_, _, _, e⟩ => e) rfl rfl ?_
    clear h
    rintro _ _ ⟨y120, h, rfl, rfl⟩
    refine so_un rfl au_not ?_
    refine so_move (v := (.v (.bool (!y120)))) rfl ?_
    replace h := ofT h; rcases h with ⟨c122, h⟩ | ⟨c122, h⟩
    · refine so_gyes rfl (not_f c122) ?_
      refine so_move (v := (.v (.bool y118))) rfl ?_
      refine so_gyes rfl (not_f c122) ?_
      refine so_move (v := (.v (.bool y109))) rfl ?_
      refine so_gyes rfl (not_f c122) ?_
      refine so_bin rfl rfl (ab_bneq F4.tb4) ?_
      refine so_pick_f (v := (.v (.bool (!(y118 == y109))))) rfl (not_f c122) rfl ?_
      refine so_nil ?_
      replace h := ofT h; rcases h with ⟨c123, h⟩ | ⟨c123, h⟩
      · refine fi_false rfl (not_f c123) ?_
        refine fi_skip ?_
        refine fi_seq ?_
        refine fi_seq ?_
        refine fi_region ?_
        refine so_move (v := (.v v112)) rfl ?_
        refine so_move (v := (.v v0)) rfl ?_
        refine sv_call (laws_toFloat32S_ok v0 l0 hs (fun _ hs => (g0 _ hs.tl.tl.tl.tl)) _ h) rfl rfl nofun ?_
        clear h hs
        rintro _ H127 ⟨y124, h, v125, rfl, hs⟩
        refine sv_callS (laws_eqFloat32S_ok v112 y111 v125 y124 hs (fun _ hs => (hs.shows 2 rfl)) (fun _ hs => (hs.shows 0 rfl)) _ h) (fun _ _ ⟨_, _, _, e⟩ => e) rfl rfl ?_
        clear h
        rintro _ _ ⟨y128, h, rfl, rfl⟩
        refine so_un rfl au_not ?_
        refine so_nil ?_
        replace h := ofT h; rcases h with ⟨c130, h⟩ | ⟨c130, h⟩
        · refine fi_false rfl (not_f c130) ?_
          refine fi_skip ?_
          refine fi_seq ?_
          refine fi_region ?_
          refine so_assign (v := (.v (.int .i64 (1 : Int)))) rfl ?_
          refine so_nil ?_
          refine fi_seq ?_
          refine fi_region ?_
          refine so_move (v := (.v v112)) rfl ?_
          refine so_move (v := (.v (.int .i64 (1 : Int)))) rfl ?_
          replace hs := (Sep.front 2 hs rfl)
          refine sv_call (laws_markFloat32S_ok v112 y111 (1 : Int) hs  _ h) rfl rfl nofun ?_
          clear h hs
          rintro _ H133 ⟨y131, y132, h, rfl, hs⟩
          refine so_assign (v := (.v (.int .i64 y131))) rfl ?_
          refine so_nil ?_
          refine fi_seq ?_
          refine fi_seq ?_
          refine fi_region ?_
          refine so_move (v := (.v (.int .i64 y131))) rfl ?_
          refine so_bin rfl rfl ab_lss ?_
          refine so_move (v := (.v (.bool (decide (y131 < (0 : Int)))))) rfl ?_
          replace h := ofP h; rcases h with ⟨c134, h⟩ | ⟨c134, h⟩
          · refine so_gno rfl (decide_eq_true c134) ?_
            refine so_gno rfl (decide_eq_true c134) ?_
            refine so_gno rfl (decide_eq_true c134) ?_
            refine so_gno rfl (decide_eq_true c134) ?_
            refine so_pick_t (v := (.v (.bool true))) rfl (decide_eq_true c134) rfl ?_
            refine so_move (v := (.v (.bool true))) rfl ?_
            refine so_gno rfl rfl ?_
            refine so_gno rfl rfl ?_
            refine so_gno rfl rfl ?_
            refine so_pick_t (v := (.v (.bool true))) rfl rfl rfl ?_
            refine so_nil ?_
            refine fi_true rfl rfl ?_
            refine fi_seq ?_
            refine fi_region ?_
            refine so_assign (v := (.v (.bool false))) rfl ?_
            refine so_nil ?_
            exact by_ret rfl ⟨_, h, rfl, (Sep.dropn 5 hs)⟩
          · refine so_gyes rfl (decide_eq_false c134) ?_
            refine so_move (v := (.v v116)) rfl ?_
            refine so_gyes rfl (decide_eq_false c134) ?_
            refine so_move (v := (.v v107)) rfl ?_
            refine so_gyes rfl (decide_eq_false c134) ?_
            refine sv_callS (laws_eqFloat32S_ok v116 y115 v107 y106 hs (fun _ hs => (hs.shows 2 rfl)) (fun _ hs => (hs.shows 3 rfl)) _ h) (fun _ _ ⟨_, _, _, e⟩ => e) rfl rfl ?_
            clear h
            rintro _ _ ⟨y135, h, rfl, rfl⟩
            refine so_gyes rfl (decide_eq_false c134) ?_
            refine so_un rfl au_not ?_
            refine so_pick_f (v := (.v (.bool (!y135)))) rfl (decide_eq_false c134) rfl ?_
            refine so_move (v := (.v (.bool (!y135)))) rfl ?_
            replace h := ofT h; rcases h with ⟨c137, h⟩ | ⟨c137, h⟩
            · refine so_gyes rfl (not_f c137) ?_
              refine so_move (v := (.v (.bool y118))) rfl ?_
              refine so_gyes rfl (not_f c137) ?_
              refine so_move (v := (.v (.bool y109))) rfl ?_
              refine so_gyes rfl (not_f c137) ?_
              refine so_bin rfl rfl (ab_bneq F4.tb4) ?_
              refine so_pick_f (v := (.v (.bool (!(y118 == y109))))) rfl (not_f c137) rfl ?_
              refine so_nil ?_
              refine fi_false rfl (not_f c123) ?_
              refine fi_skip ?_
              refine fi_seq ?_
              refine fi_region ?_
              refine so_assign (v := (.v (.int .i64 (1 : Int)))) rfl ?_
              refine so_nil ?_
              refine fi_seq ?_
              refine fi_region ?_
              refine so_move (v := (.v v116)) rfl ?_
              refine so_move (v := (.v (.int .i64 (1 : Int)))) rfl ?_
              replace hs := (Sep.front 2 hs rfl)
              refine sv_call (laws_markFloat32S_ok v116 y115 (1 : Int) hs  _ h) rfl rfl nofun ?_
              clear h hs
              rintro _ H140 ⟨y138, y139, h, rfl, hs⟩
              refine so_assign (v := (.v (.int .i64 y138))) rfl ?_
              refine so_nil ?_
              refine fi_seq ?_
              refine fi_region ?_
              refine so_assign (v := (.v (.int .i64 (1 : Int)))) rfl ?_
              refine so_nil ?_
              refine fi_seq ?_
              refine fi_region ?_
              refine so_move (v := (.v v116)) rfl ?_
              refine so_move (v := (.v (.int .i64 (1 : Int)))) rfl ?_
              refine sv_callS (laws_heldFloat32S_ok v116 y139 (1 : Int) hs (fun _ hs => (hs.shows 0 rfl)) _ h) (fun _ _ ⟨_, _, _, e⟩ => e) rfl rfl ?_
              clear h
              rintro _ _ ⟨y141, h, rfl, rfl⟩
              refine so_assign (v := (.v (.int .i64 y141))) rfl ?_
              refine so_nil ?_
              refine fi_seq ?_
              refine fi_seq ?_
              refine fi_region ?_
              refine so_move (v := (.v (.int .i64 y141))) rfl ?_
              refine so_bin rfl rfl ab_lss ?_
              refine so_nil ?_
              replace h := ofP h; rcases h with ⟨c143, h⟩ | ⟨c143, h⟩
              · refine fi_true rfl (decide_eq_true c143) ?_
                refine fi_seq ?_
                refine fi_region ?_
                refine so_assign (v := (.v (.bool false))) rfl ?_
                refine so_nil ?_
                exact by_ret rfl ⟨_, h, rfl, (Sep.dropn 5 hs)⟩
              · refine fi_false rfl (decide_eq_false c143) ?_
                refine fi_skip ?_
                refine fi_seq ?_
                refine fi_seq ?_
                refine fi_region ?_
                refine so_move (v := (.v (.int .i64 y141))) rfl ?_
                refine so_move (v := (.v (.int .i64 y138))) rfl ?_
                refine so_bin rfl rfl ab_neq ?_
                refine so_nil ?_
                replace h := ofP h; rcases h with ⟨c144, h⟩ | ⟨c144, h⟩
                · refine fi_false rfl (not_f (decide_eq_true c144)) ?_
                  refine fi_skip ?_
                  refine fi_seq ?_
                  refine fi_region ?_
                  refine so_move (v := (.v v0)) rfl ?_
                  refine sv_call (laws_toFloat32S_ok v0 l0 hs (fun _ hs => (g0 _ hs.tl.tl.tl.tl.tl)) _ h) rfl rfl nofun ?_
                  clear h hs
                  rintro _ H148 ⟨y145, h, v146, rfl, hs⟩
                  refine so_move (v := (.v (.flt .f32 a1))) rfl ?_
                  refine sv_call (impl_SolveLine_ok v146 y145 a1 hs (fun _ hs => (hs.shows 0 rfl)) _ h) rfl rfl nofun ?_
                  clear h hs
                  rintro _ H153 ⟨y149, y152, h, v150, rfl, hs⟩
                  refine so_move (v := (.t [(.v v150), (.v (.bool y152))])) rfl ?_
                  refine so_extract rfl rfl rfl ?_
                  refine so_extract rfl rfl rfl ?_
                  refine so_assign (v := (.v v150)) rfl ?_
                  refine so_assign (v := (.v (.bool y152))) rfl ?_
                  refine so_nil ?_
                  refine fi_seq ?_
                  refine fi_seq ?_
                  refine fi_region ?_
                  refine so_move (v := (.v v150)) rfl ?_
                  refine so_move (v := (.v v107)) rfl ?_
                  refine sv_callS (laws_eqFloat32S_ok v150 y149 v107 y106 hs (fun _ hs => (hs.shows 0 rfl)) (fun _ hs => (hs.shows 5 rfl)) _ h) (fun _ _ ⟨_, _, _, e⟩ => e) rfl rfl ?_
                  clear h
                  rintro _ _ ⟨y154, h, rfl, rfl⟩
                  refine so_un rfl au_not ?_
                  refine so_move (v := (.v (.bool (!y154)))) rfl ?_
                  replace h := ofT h; rcases h with ⟨c156, h⟩ | ⟨c156, h⟩
                  · refine so_gyes rfl (not_f c156) ?_
                    refine so_move (v := (.v (.bool y152))) rfl ?_
                    refine so_gyes rfl (not_f c156) ?_
                    refine so_move (v := (.v (.bool y109))) rfl ?_
                    refine so_gyes rfl (not_f c156) ?_
                    refine so_bin rfl rfl (ab_bneq F4.tb4) ?_
                    refine so_pick_f (v := (.v (.bool (!(y152 == y109))))) rfl (not_f c156) rfl ?_
                    refine so_nil ?_
                    replace h := ofT h; rcases h with ⟨c157, h⟩ | ⟨c157, h⟩
                    · refine fi_false rfl (not_f c157) ?_
                      refine fi_skip ?_
                      refine fi_seq ?_
                      refine fi_region ?_
                      refine so_assign (v := (.v (.int .i64 (1 : Int)))) rfl ?_
                      refine so_nil ?_
                      refine fi_seq ?_
                      refine fi_region ?_
                      refine so_move (v := (.v v116)) rfl ?_
                      refine so_move (v := (.v (.int .i64 (1 : Int)))) rfl ?_
                      refine sv_callS (laws_heldFloat32S_ok v116 y139 (1 : Int) hs (fun _ hs => (hs.shows 2 rfl)) _ h) (fun _ _ ⟨_, _, _, e⟩ => e) rfl rfl ?_
                      clear h
                      rintro _ _ ⟨y158, h, rfl, rfl⟩
                      refine so_assign (v := (.v (.int .i64 y158))) rfl ?_
                      refine so_nil ?_
                      refine fi_seq ?_
                      refine fi_seq ?_
                      refine fi_region ?_
                      refine so_move (v := (.v (.int .i64 y158))) rfl ?_
                      refine so_bin rfl rfl ab_lss ?_
                      refine so_nil ?_
                      replace h := ofP h; rcases h with ⟨c160, h⟩ | ⟨c160, h⟩
                      · refine fi_true rfl (decide_eq_true c160) ?_
                        refine fi_seq ?_
                        refine fi_region ?_
                        refine so_assign (v := (.v (.bool false))) rfl ?_
                        refine so_nil ?_
                        exact by_ret rfl ⟨_, h, rfl, (Sep.dropn 7 hs)⟩
                      · refine fi_false rfl (decide_eq_false c160) ?_
                        refine fi_skip ?_
                        refine fi_seq ?_
                        refine fi_seq ?_
                        refine fi_region ?_
                        refine so_move (v := (.v (.int .i64 y158))) rfl ?_
                        refine so_move (v := (.v (.int .i64 y138))) rfl ?_
                        refine so_bin rfl rfl ab_neq ?_
                        refine so_nil ?_
                        replace h := ofP h; rcases h with ⟨c161, h⟩ | ⟨c161, h⟩
                        · refine fi_false rfl (not_f (decide_eq_true c161)) ?_
                          refine fi_skip ?_
                          refine fi_seq ?_
                          refine fi_region ?_
                          refine so_assign (v := (.v (.bool true))) rfl ?_
                          refine so_nil ?_
                          exact by_ret rfl ⟨_, h, rfl, (Sep.dropn 7 hs)⟩
                        · refine fi_true rfl (not_t (decide_eq_false c161)) ?_
                          refine fi_seq ?_
                          refine fi_region ?_
                          refine so_assign (v := (.v (.bool false))) rfl ?_
                          refine so_nil ?_
                          exact by_ret rfl ⟨_, h, rfl, (Sep.dropn 7 hs)⟩
                    · refine fi_true rfl (not_t c157) ?_
                      refine fi_seq ?_
                      refine fi_region ?_
                      refine so_assign (v := (.v (.bool false))) rfl ?_
                      refine so_nil ?_
                      exact by_ret rfl ⟨_, h, rfl, (Sep.dropn 7 hs)⟩
                  · refine so_gno rfl (not_t c156) ?_
                    refine so_gno rfl (not_t c156) ?_
                    refine so_gno rfl (not_t c156) ?_
                    refine so_pick_t (v := (.v (.bool true))) rfl (not_t c156) rfl ?_
                    refine so_nil ?_
                    refine fi_true rfl rfl ?_
                    refine fi_seq ?_
                    refine fi_region ?_
                    refine so_assign (v := (.v (.bool false))) rfl ?_
                    refine so_nil ?_
                    exact by_ret rfl ⟨_, h, rfl, (Sep.dropn 7 hs)⟩
                · refine fi_true rfl (not_t (decide_eq_false c144)) ?_
                  refine fi_seq ?_
                  refine fi_region ?_
                  refine so_assign (v := (.v (.bool false))) rfl ?_
                  refine so_nil ?_
                  exact by_ret rfl ⟨_, h, rfl, (Sep.dropn 5 hs)⟩
            · refine so_gno rfl (not_t c137) ?_
              refine so_gno rfl (not_t c137) ?_
              refine so_gno rfl (not_t c137) ?_
              refine so_pick_t (v := (.v (.bool true))) rfl (not_t c137) rfl ?_
              refine so_nil ?_
              refine fi_true rfl rfl ?_
              refine fi_seq ?_
              refine fi_region ?_
              refine so_assign (v := (.v (.bool false))) rfl ?_
              refine so_nil ?_
              exact by_ret rfl ⟨_, h, rfl, (Sep.dropn 5 hs)⟩
        · refine fi_true rfl (not_t c130) ?_
          refine fi_seq ?_
          refine fi_region ?_
          refine so_assign (v := (.v (.bool false))) rfl ?_
          refine so_nil ?_
          exact by_ret rfl ⟨_, h, rfl, (Sep.dropn 5 hs)⟩
      · refine fi_true rfl (not_t c123) ?_
        refine fi_seq ?_
        refine fi_region ?_
        refine so_assign (v := (.v (.bool false))) rfl ?_
        refine so_nil ?_
        exact by_ret rfl ⟨_, h, rfl, (Sep.dropn 4 hs)⟩
    · refine so_gno rfl (not_t c122) ?_
      refine so_gno rfl (not_t c122) ?_
      refine so_gno rfl (not_t c122) ?_
      refine so_pick_t (v := (.v (.bool true))) rfl (not_t c122) rfl ?_
      refine so_nil ?_
      refine fi_true rfl rfl ?_
      refine fi_seq ?_
      refine fi_region ?_
      refine so_assign (v := (.v (.bool false))) rfl ?_
      refine so_nil ?_
      exact by_ret rfl ⟨_, h, rfl, (Sep.dropn 4 hs)⟩

end Go.Proofs.Ytkaidcgelbhofaa.G

