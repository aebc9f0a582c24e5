/-
  The model ends so. Printed by a program of the session; nothing here is trusted.
-/
import Derived.Test.YtecdkjnomkdbkaaProg
import Derived.KernelRfl
import Derived.Test.YtecdkjnomkdbkaaMExactBestCutsWa
namespace Go.Proofs.Ytecdkjnomkdbkaa.F
open Go Go.Ab Go.Proofs
set_option maxRecDepth 100000
set_option linter.unusedVariables false
set_option linter.unusedSimpArgs false
set_option maxHeartbeats 1000000
theorem hm : Try.prog.follows .mixedOrders = true := by kernel_rfl
end Go.Proofs.Ytecdkjnomkdbkaa.F

namespace Go.Proofs.Ytecdkjnomkdbkaa.G
open Go Go.Ab Go.Proofs Go.Proofs.Ytecdkjnomkdbkaa
set_option maxRecDepth 100000
set_option linter.unusedVariables false
set_option linter.unusedSimpArgs false
set_option maxHeartbeats 1000000
attribute [local irreducible] wops wopf Go.Ab.Fin
theorem F10.tb4 : tbool Try.prog 4 = true := by kernel_rfl
theorem laws_sameFloat_ok {fr : List Pc} {H : Heap} (a0 : Nat) (a1 : Nat) (hs : Sep H (fr))  (K : Bool → Prop) (h : laws_sameFloat.wp a0 a1 K) : OkQ Try.prog 10 [(.v (.flt .f64 a0)), (.v (.flt .f64 a1))] H (fun r H2 => ∃ (y0 : Bool), K y0 ∧ r = (.v (.bool y0)) ∧ H = H2) := by
  unfold laws_sameFloat.wp at h
  refine of_body Try.f10 F.hm Try.func10 rfl Try.call10 (by kernel_rfl) (by simp) ?_
  refine fi_seq ?_
  refine fi_region ?_
  refine so_assign (v := (.v (.bool false))) rfl ?_
  refine so_nil ?_
  refine fi_seq ?_
  refine fi_seq ?_
  refine fi_region ?_
  refine so_move (v := (.v (.flt .f64 a0))) rfl ?_
  refine so_move (v := (.v (.flt .f64 a0))) rfl ?_
  refine so_bin rfl rfl ab_fneq ?_
  refine so_move (v := (.v (.bool (fcmp .neq .f64 a0 a0)))) rfl ?_
  replace h := ofT h; rcases h with ⟨c101, h⟩ | ⟨c101, h⟩
  · refine so_gno rfl c101 ?_
    refine so_gno rfl c101 ?_
    refine so_gno rfl c101 ?_
    refine so_pick_t (v := (.v (.bool true))) rfl c101 rfl ?_
    refine so_nil ?_
    refine fi_true rfl rfl ?_
    refine fi_seq ?_
    refine fi_region ?_
    refine so_move (v := (.v (.flt .f64 a0))) rfl ?_
    refine so_move (v := (.v (.flt .f64 a0))) rfl ?_
    refine so_bin rfl rfl ab_fneq ?_
    refine so_move (v := (.v (.bool (fcmp .neq .f64 a0 a0)))) rfl ?_
    refine so_gyes rfl c101 ?_
    refine so_move (v := (.v (.flt .f64 a1))) rfl ?_
    refine so_gyes rfl c101 ?_
    refine so_move (v := (.v (.flt .f64 a1))) rfl ?_
    refine so_gyes rfl c101 ?_
    refine so_bin rfl rfl ab_fneq ?_
    refine so_pick_t (v := (.v (.bool (fcmp .neq .f64 a1 a1)))) rfl c101 rfl ?_
    refine so_assign (v := (.v (.bool (fcmp .neq .f64 a1 a1)))) rfl ?_
    refine so_nil ?_
    exact by_ret rfl ⟨_, h, rfl, rfl⟩
  · refine so_gyes rfl c101 ?_
    refine so_move (v := (.v (.flt .f64 a1))) rfl ?_
    refine so_gyes rfl c101 ?_
    refine so_move (v := (.v (.flt .f64 a1))) rfl ?_
    refine so_gyes rfl c101 ?_
    refine so_bin rfl rfl ab_fneq ?_
    refine so_pick_f (v := (.v (.bool (fcmp .neq .f64 a1 a1)))) rfl c101 rfl ?_
    refine so_nil ?_
    replace h := ofT h; rcases h with ⟨c102, h⟩ | ⟨c102, h⟩
    · refine fi_true rfl c102 ?_
      refine fi_seq ?_
      refine fi_region ?_
      refine so_move (v := (.v (.flt .f64 a0))) rfl ?_
      refine so_move (v := (.v (.flt .f64 a0))) rfl ?_
      refine so_bin rfl rfl ab_fneq ?_
      refine so_move (v := (.v (.bool (fcmp .neq .f64 a0 a0)))) rfl ?_
      refine so_gno rfl c101 ?_
      refine so_gno rfl c101 ?_
      refine so_gno rfl c101 ?_
      refine so_pick_f (v := (.v (.bool false))) rfl c101 rfl ?_
      refine so_assign (v := (.v (.bool false))) rfl ?_
      refine so_nil ?_
      exact by_ret rfl ⟨_, h, rfl, rfl⟩
    · refine fi_false rfl c102 ?_
      refine fi_skip ?_
      refine fi_seq ?_
      refine fi_seq ?_
      refine fi_region ?_
      refine so_move (v := (.v (.flt .f64 a0))) rfl ?_
      refine so_bin rfl rfl ab_feql ?_
      refine so_move (v := (.v (.bool (fcmp .eql .f64 a0 (cz .f64 0))))) rfl ?_
      replace h := ofT h; rcases h with ⟨c103, h⟩ | ⟨c103, h⟩
      · refine so_gyes rfl c103 ?_
        refine so_move (v := (.v (.flt .f64 a1))) rfl ?_
        refine so_gyes rfl c103 ?_
        refine so_bin rfl rfl ab_feql ?_
        refine so_pick_t (v := (.v (.bool (fcmp .eql .f64 a1 (cz .f64 0))))) rfl c103 rfl ?_
        refine so_nil ?_
        replace h := ofT h; rcases h with ⟨c104, h⟩ | ⟨c104, h⟩
        · refine fi_true rfl c104 ?_
          refine fi_seq ?_
          refine fi_region ?_
          refine so_move (v := (.v (.flt .f64 a0))) rfl ?_
          refine so_bin rfl rfl ab_fquo ?_
          refine so_bin rfl rfl ab_fgtr ?_
          refine so_move (v := (.v (.flt .f64 a1))) rfl ?_
          refine so_bin rfl rfl ab_fquo ?_
          refine so_bin rfl rfl ab_fgtr ?_
          refine so_bin rfl rfl (ab_beql F10.tb4) ?_
          refine so_assign (v := (.v (.bool ((fcmp .gtr .f64 (fop .quo .f64 (cz .f64 4607182418800017408) a0) (cz .f64 0)) == (fcmp .gtr .f64 (fop .quo .f64 (cz .f64 4607182418800017408) a1) (cz .f64 0)))))) rfl ?_
          refine so_nil ?_
          exact by_ret rfl ⟨_, h, rfl, rfl⟩
        · refine fi_false rfl c104 ?_
          refine fi_skip ?_
          refine fi_seq ?_
          refine fi_region ?_
          refine so_move (v := (.v (.flt .f64 a0))) rfl ?_
          refine so_move (v := (.v (.flt .f64 a1))) rfl ?_
          refine so_bin rfl rfl ab_feql ?_
          refine so_assign (v := (.v (.bool (fcmp .eql .f64 a0 a1)))) rfl ?_
          refine so_nil ?_
          exact by_ret rfl ⟨_, h, rfl, rfl⟩
      · refine so_gno rfl c103 ?_
        refine so_gno rfl c103 ?_
        refine so_pick_f (v := (.v (.bool false))) rfl c103 rfl ?_
        refine so_nil ?_
        refine fi_false rfl rfl ?_
        refine fi_skip ?_
        refine fi_seq ?_
        refine fi_region ?_
        refine so_move (v := (.v (.flt .f64 a0))) rfl ?_
        refine so_move (v := (.v (.flt .f64 a1))) rfl ?_
        refine so_bin rfl rfl ab_feql ?_
        refine so_assign (v := (.v (.bool (fcmp .eql .f64 a0 a1)))) rfl ?_
        refine so_nil ?_
        exact by_ret rfl ⟨_, h, rfl, rfl⟩

end Go.Proofs.Ytecdkjnomkdbkaa.G

namespace Go.Proofs.Ytecdkjnomkdbkaa.G
open Go Go.Ab Go.Proofs Go.Proofs.Ytecdkjnomkdbkaa
set_option maxRecDepth 100000
set_option linter.unusedVariables false
set_option linter.unusedSimpArgs false
set_option maxHeartbeats 1000000
attribute [local irreducible] wops wopf Go.Ab.Fin
theorem F11.ag2 : tagg Try.prog 2 = some false := by kernel_rfl
theorem F11.ti22 : (telem Try.prog 22).isSome = true := by kernel_rfl
theorem F11.tl22 : (telem Try.prog 22).bind (tsz Try.prog) = some 1 := by kernel_rfl
theorem laws_eqInt64S_ok {fr : List Pc} {H : Heap} (v0 : AV) (l0 : List (Int)) (v1 : AV) (l1 : List (Int)) (hs : Sep H (fr)) (g0 : ∀ H, Sep H fr → Shows H v0 1 (enc (eInt .i64) l0)) (g1 : ∀ H, Sep H fr → Shows H v1 1 (enc (eInt .i64) l1)) (K : Bool → Prop) (h : laws_eqInt64S.wp l0 l1 K) : OkQ Try.prog 11 [(.v v0), (.v v1)] H (fun r H2 => ∃ (y0 : Bool), K y0 ∧ r = (.v (.bool y0)) ∧ H = H2) := by
  unfold laws_eqInt64S.wp at h
  refine of_body Try.f11 F.hm Try.func11 rfl Try.call11 (by kernel_rfl) (by simp) ?_
  refine fi_seq ?_
  refine fi_region ?_
  refine so_assign (v := (.v (.bool false))) rfl ?_
  refine so_nil ?_
  refine fi_seq ?_
  refine fi_seq ?_
  refine fi_region ?_
  refine so_move (v := (.v v0)) rfl ?_
  refine sv_len (g0 _ hs) (fun _ => rfl) (by decide) rfl F11.ti22 ?_
  refine so_move (v := (.v v1)) rfl ?_
  refine sv_len (g1 _ hs) (fun _ => rfl) (by decide) rfl F11.ti22 ?_
  refine so_bin rfl rfl ab_neq ?_
  refine so_nil ?_
  replace h := ofP h; rcases h with ⟨c101, h⟩ | ⟨c101, h⟩
  · refine fi_false rfl (not_f (decide_eq_true c101)) ?_
    refine fi_skip ?_
    refine fi_seq ?_
    refine fi_seq ?_
    refine fi_region ?_
    refine so_assign (v := (.v (.int .i64 (0 : Int)))) rfl ?_
    refine so_nil ?_
    refine fi_block ?_
    refine fi_loop ?_
    refine fi_at [(0, (.v v0)), (1, (.v v1)), (5, (.v (.int .i64 (0 : Int))))] ⟨rfl, rfl, rfl, trivial⟩ ?_
    refine h (fun (i103 : Int) => ∀ (s : Nat → TV), Fin _ _ (updL s [(0, (.v v0)), (1, (.v v1)), (5, (.v (.int .i64 i103)))]) _ _) ?_ _
    intro i103 h s108
    refine fi_inLoop ?_
    refine fi_seq ?_
    refine fi_seq ?_
    refine fi_region ?_
    refine so_move (v := (.v (.int .i64 i103))) rfl ?_
    refine so_move (v := (.v v0)) rfl ?_
    refine sv_len (g0 _ hs) (fun _ => rfl) (by decide) rfl F11.ti22 ?_
    refine so_bin rfl rfl ab_lss ?_
    refine so_nil ?_
    replace h := ofP h; rcases h with ⟨c104, h⟩ | ⟨c104, h⟩
    · refine fi_true rfl (decide_eq_true c104) ?_
      refine fi_skip ?_
      refine fi_seq ?_
      refine fi_block ?_
      refine fi_seq ?_
      refine fi_region ?_
      refine so_move (v := (.v v0)) rfl ?_
      refine so_move (v := (.v (.int .i64 i103))) rfl ?_
      obtain ⟨c105, h⟩ := h
      refine sv_idx (g0 _ hs) c105 (fun _ => rfl) (by decide) rfl rfl F11.tl22 ?_
      refine sv_cell (g0 _ hs) c105 (0 : Int) 0 (fun x => (AV.int .i64 x)) (fun _ => rfl) (fun _ => rfl) rfl F11.ag2 ?_
      refine so_move (v := (.v v1)) rfl ?_
      refine so_move (v := (.v (.int .i64 i103))) rfl ?_
      obtain ⟨c106, h⟩ := h
      refine sv_idx (g1 _ hs) c106 (fun _ => rfl) (by decide) rfl rfl F11.tl22 ?_
      refine sv_cell (g1 _ hs) c106 (0 : Int) 0 (fun x => (AV.int .i64 x)) (fun _ => rfl) (fun _ => rfl) rfl F11.ag2 ?_
      refine so_bin rfl rfl ab_neq ?_
      refine so_nil ?_
      replace h := ofP h; rcases h with ⟨c107, h⟩ | ⟨c107, h⟩
      · refine fi_false rfl (not_f (decide_eq_true c107)) ?_
        refine fi_skip ?_
        refine fi_inBlock ?_
        refine fi_region ?_
        refine so_move (v := (.v (.int .i64 i103))) rfl ?_
        refine so_bin rfl rfl ab_add ?_
        refine so_assign (v := (.v (.int .i64 (IntKind.i64.wrap (i103 + (1 : Int)))))) rfl ?_
        refine so_nil ?_
        exact fi_at [(0, (.v v0)), (1, (.v v1)), (5, (.v (.int .i64 (IntKind.i64.wrap (i103 + (1 : Int))))))] ⟨rfl, rfl, rfl, trivial⟩ (h _)
      · refine fi_true rfl (not_t (decide_eq_false c107)) ?_
        refine fi_seq ?_
        refine fi_region ?_
        refine so_assign (v := (.v (.bool false))) rfl ?_
        refine so_nil ?_
        exact by_ret rfl ⟨_, h, rfl, rfl⟩
    · refine fi_false rfl (decide_eq_false c104) ?_
      refine fi_exit rfl ?_
      refine fi_seq ?_
      refine fi_region ?_
      refine so_assign (v := (.v (.bool true))) rfl ?_
      refine so_nil ?_
      exact by_ret rfl ⟨_, h, rfl, rfl⟩
  · refine fi_true rfl (not_t (decide_eq_false c101)) ?_
    refine fi_seq ?_
    refine fi_region ?_
    refine so_assign (v := (.v (.bool false))) rfl ?_
    refine so_nil ?_
    exact by_ret rfl ⟨_, h, rfl, rfl⟩

end Go.Proofs.Ytecdkjnomkdbkaa.G

namespace Go.Proofs.Ytecdkjnomkdbkaa.G
open Go Go.Ab Go.Proofs Go.Proofs.Ytecdkjnomkdbkaa
set_option maxRecDepth 100000
set_option linter.unusedVariables false
set_option linter.unusedSimpArgs false
set_option maxHeartbeats 1000000
attribute [local irreducible] wops wopf Go.Ab.Fin
theorem F41.ti69 : (telem Try.prog 69).isSome = true := by kernel_rfl
theorem laws_szCostS_ok {fr : List Pc} {H : Heap} (v0 : AV) (l0 : List ((Int) × (Nat))) (a1 : Int) (hs : Sep H (fr)) (g0 : ∀ H, Sep H fr → Shows H v0 2 (enc (ePair (eInt .i64) (eFlt .f32)) l0)) (K : Int → Prop) (h : laws_szCostS.wp l0 a1 K) : OkQ Try.prog 41 [(.v v0), (.v (.int .i64 a1))] H (fun r H2 => ∃ (y0 : Int), K y0 ∧ r = (.v (.int .i64 y0)) ∧ H = H2) := by
  unfold laws_szCostS.wp at h
  refine of_body Try.f41 F.hm Try.func41 rfl Try.call41 (by kernel_rfl) (by simp) ?_
  refine fi_seq ?_
  refine fi_region ?_
  refine so_assign (v := (.v (.int .i64 (0 : Int)))) rfl ?_
  refine so_nil ?_
  refine fi_seq ?_
  refine fi_region ?_
  refine so_move (v := (.v (.int .i64 a1))) rfl ?_
  refine so_move (v := (.v v0)) rfl ?_
  refine sv_len (g0 _ hs) (fun _ => rfl) (by decide) rfl F41.ti69 ?_
  refine so_bin rfl rfl ab_sub ?_
  refine so_assign (v := (.v (.int .i64 (IntKind.i64.wrap (a1 - (l0.length : Int)))))) rfl ?_
  refine so_nil ?_
  refine fi_seq ?_
  refine fi_seq ?_
  refine fi_region ?_
  refine so_move (v := (.v (.int .i64 (IntKind.i64.wrap (a1 - (l0.length : Int)))))) rfl ?_
  refine so_bin rfl rfl ab_lss ?_
  refine so_nil ?_
  replace h := ofP h; rcases h with ⟨c101, h⟩ | ⟨c101, h⟩
  · refine fi_true rfl (decide_eq_true c101) ?_
    refine fi_seq ?_
    refine fi_region ?_
    refine so_assign (v := (.v (.int .i64 (-1 : Int)))) rfl ?_
    refine so_nil ?_
    exact by_ret rfl ⟨_, h, rfl, rfl⟩
  · refine fi_false rfl (decide_eq_false c101) ?_
    refine fi_skip ?_
    refine fi_seq ?_
    refine fi_region ?_
    refine so_move (v := (.v (.int .i64 (IntKind.i64.wrap (a1 - (l0.length : Int)))))) rfl ?_
    refine so_assign (v := (.v (.int .i64 (IntKind.i64.wrap (a1 - (l0.length : Int)))))) rfl ?_
    refine so_nil ?_
    exact by_ret rfl ⟨_, h, rfl, rfl⟩

end Go.Proofs.Ytecdkjnomkdbkaa.G

namespace Go.Proofs.Ytecdkjnomkdbkaa.G
open Go Go.Ab Go.Proofs Go.Proofs.Ytecdkjnomkdbkaa
set_option maxRecDepth 100000
set_option linter.unusedVariables false
set_option linter.unusedSimpArgs false
set_option maxHeartbeats 1000000
attribute [local irreducible] wops wopf Go.Ab.Fin
theorem F12.ag69 : tagg Try.prog 69 = some false := by kernel_rfl
theorem F12.ti31 : (telem Try.prog 31).isSome = true := by kernel_rfl
theorem F12.tl31 : (telem Try.prog 31).bind (tsz Try.prog) = some 1 := by kernel_rfl
theorem laws_szCostSS_ok {fr : List Pc} {H : Heap} (v0 : AV) (w0 : List (List AV)) (l0 : List (List ((Int) × (Nat)))) (a1 : Int) (hs : Sep H (fr)) (g0 : ∀ H, Sep H fr → DSh H v0 1 R_LePair_eInt_i64_eFlt_f32_o l0 w0) (K : Int → Prop) (h : laws_szCostSS.wp l0 a1 K) : OkQ Try.prog 12 [(.v v0), (.v (.int .i64 a1))] H (fun r H2 => ∃ (y0 : Int), K y0 ∧ r = (.v (.int .i64 y0)) ∧ H = H2) := by
  unfold laws_szCostSS.wp at h
  refine of_body Try.f12 F.hm Try.func12 rfl Try.call12 (by kernel_rfl) (by simp) ?_
  refine fi_seq ?_
  refine fi_region ?_
  refine so_assign (v := (.v (.int .i64 (0 : Int)))) rfl ?_
  refine so_nil ?_
  refine fi_seq ?_
  refine fi_region ?_
  refine so_move (v := (.v (.int .i64 a1))) rfl ?_
  refine so_move (v := (.v v0)) rfl ?_
  refine sd_len ((g0 _ hs) : DSh _ _ 1 R_LePair_eInt_i64_eFlt_f32_o l0 w0) (by decide) rfl F12.ti31 ?_
  refine so_bin rfl rfl ab_sub ?_
  refine so_assign (v := (.v (.int .i64 (IntKind.i64.wrap (a1 - (l0.length : Int)))))) rfl ?_
  refine so_nil ?_
  refine fi_seq ?_
  refine fi_seq ?_
  refine fi_region ?_
  refine so_move (v := (.v (.int .i64 (IntKind.i64.wrap (a1 - (l0.length : Int)))))) rfl ?_
  refine so_bin rfl rfl ab_lss ?_
  refine so_nil ?_
  replace h := ofP h; rcases h with ⟨c101, h⟩ | ⟨c101, h⟩
  · refine fi_true rfl (decide_eq_true c101) ?_
    refine fi_seq ?_
    refine fi_region ?_
    refine so_assign (v := (.v (.int .i64 (-1 : Int)))) rfl ?_
    refine so_nil ?_
    exact by_ret rfl ⟨_, h, rfl, rfl⟩
  · refine fi_false rfl (decide_eq_false c101) ?_
    refine fi_skip ?_
    refine fi_seq ?_
    refine fi_seq ?_
    refine fi_region ?_
    refine so_assign (v := (.v (.int .i64 (0 : Int)))) rfl ?_
    refine so_nil ?_
    refine fi_block ?_
    refine fi_loop ?_
    refine fi_at [(0, (.v v0)), (1, (.v (.int .i64 (IntKind.i64.wrap (a1 - (l0.length : Int)))))), (5, (.v (.int .i64 (0 : Int))))] ⟨rfl, rfl, rfl, trivial⟩ ?_
    refine h (fun (left103 : Int) (i104 : Int) => ∀ (s : Nat → TV), Fin _ _ (updL s [(0, (.v v0)), (1, (.v (.int .i64 left103))), (5, (.v (.int .i64 i104)))]) _ _) ?_ _
    intro left103 i104 h s110
    refine fi_inLoop ?_
    refine fi_seq ?_
    refine fi_seq ?_
    refine fi_region ?_
    refine so_move (v := (.v (.int .i64 i104))) rfl ?_
    refine so_move (v := (.v v0)) rfl ?_
    refine sd_len ((g0 _ hs) : DSh _ _ 1 R_LePair_eInt_i64_eFlt_f32_o l0 w0) (by decide) rfl F12.ti31 ?_
    refine so_bin rfl rfl ab_lss ?_
    refine so_nil ?_
    replace h := ofP h; rcases h with ⟨c105, h⟩ | ⟨c105, h⟩
    · refine fi_true rfl (decide_eq_true c105) ?_
      refine fi_skip ?_
      refine fi_seq ?_
      refine fi_block ?_
      refine fi_seq ?_
      refine fi_region ?_
      refine so_move (v := (.v v0)) rfl ?_
      refine so_move (v := (.v (.int .i64 i104))) rfl ?_
      obtain ⟨c106, h⟩ := h
      refine sd_idx ((g0 _ hs) : DSh _ _ 1 R_LePair_eInt_i64_eFlt_f32_o l0 w0) c106 ([] : List ((Int) × (Nat))) (by decide) rfl rfl F12.tl31 ?_
      refine su_ld ((((g0 _ hs) : DSh _ _ 1 R_LePair_eInt_i64_eFlt_f32_o l0 w0)).at (by decide) c106 ([] : List ((Int) × (Nat)))).2.2 0 (congrArg (fun c => c[0]?) ((((g0 _ hs) : DSh _ _ 1 R_LePair_eInt_i64_eFlt_f32_o l0 w0)).at (by decide) c106 ([] : List ((Int) × (Nat)))).2.1.1) rfl F12.ag69 ?_
      refine so_move (v := (.v (.int .i64 left103))) rfl ?_
      refine sv_callS (laws_szCostS_ok ((w0.getD (i104).toNat []).getD 0 .und) (l0.getD (i104).toNat ([] : List ((Int) × (Nat)))) left103 hs (fun _ hs => ((((g0 _ hs) : DSh _ _ 1 R_LePair_eInt_i64_eFlt_f32_o l0 w0)).at (by decide) c106 ([] : List ((Int) × (Nat)))).2.1.2) _ h) (fun _ _ ⟨_, _, _, e⟩ => e) rfl rfl ?_
      clear h
      rintro _ _ ⟨y107, h, rfl, rfl⟩
      refine so_assign (v := (.v (.int .i64 y107))) rfl ?_
      refine so_nil ?_
      refine fi_seq ?_
      refine fi_region ?_
      refine so_move (v := (.v (.int .i64 y107))) rfl ?_
      refine so_bin rfl rfl ab_lss ?_
      refine so_nil ?_
      replace h := ofP h; rcases h with ⟨c109, h⟩ | ⟨c109, h⟩
      · refine fi_true rfl (decide_eq_true c109) ?_
        refine fi_seq ?_
        refine fi_region ?_
        refine so_assign (v := (.v (.int .i64 (-1 : Int)))) rfl ?_
        refine so_nil ?_
        exact by_ret rfl ⟨_, h, rfl, rfl⟩
      · refine fi_false rfl (decide_eq_false c109) ?_
        refine fi_skip ?_
        refine fi_inBlock ?_
        refine fi_region ?_
        refine so_move (v := (.v (.int .i64 i104))) rfl ?_
        refine so_bin rfl rfl ab_add ?_
        refine so_assign (v := (.v (.int .i64 (IntKind.i64.wrap (i104 + (1 : Int)))))) rfl ?_
        refine so_nil ?_
        exact fi_at [(0, (.v v0)), (1, (.v (.int .i64 y107))), (5, (.v (.int .i64 (IntKind.i64.wrap (i104 + (1 : Int))))))] ⟨rfl, rfl, rfl, trivial⟩ (h _)
    · refine fi_false rfl (decide_eq_false c105) ?_
      refine fi_exit rfl ?_
      refine fi_seq ?_
      refine fi_region ?_
      refine so_move (v := (.v (.int .i64 left103))) rfl ?_
      refine so_assign (v := (.v (.int .i64 left103))) rfl ?_
      refine so_nil ?_
      exact by_ret rfl ⟨_, h, rfl, rfl⟩

end Go.Proofs.Ytecdkjnomkdbkaa.G

namespace Go.Proofs.Ytecdkjnomkdbkaa.G
open Go Go.Ab Go.Proofs Go.Proofs.Ytecdkjnomkdbkaa
set_option maxRecDepth 100000
set_option linter.unusedVariables false
set_option linter.unusedSimpArgs false
set_option maxHeartbeats 1000000
attribute [local irreducible] wops wopf Go.Ab.Fin
theorem spec_l00In_ok {fr : List Pc} {H : Heap} (a0 : Int) (a1 : Int) (a2 : Int) (hs : Sep H (fr))  (K : Bool → Prop) (h : spec_l00In.wp a0 a1 a2 K) : OkQ Try.prog 43 [(.v (.int .i64 a0)), (.v (.int .i64 a1)), (.v (.int .i64 a2))] H (fun r H2 => ∃ (y0 : Bool), K y0 ∧ r = (.v (.bool y0)) ∧ H = H2) := by
  unfold spec_l00In.wp at h
  refine of_body Try.f43 F.hm Try.func43 rfl Try.call43 (by kernel_rfl) (by simp) ?_
  refine fi_seq ?_
  refine fi_region ?_
  refine so_assign (v := (.v (.bool false))) rfl ?_
  refine so_nil ?_
  refine fi_seq ?_
  refine fi_region ?_
  refine so_move (v := (.v (.int .i64 a0))) rfl ?_
  refine so_move (v := (.v (.int .i64 a1))) rfl ?_
  refine so_bin rfl rfl ab_geq ?_
  refine so_move (v := (.v (.bool (decide (a1 ≤ a0))))) rfl ?_
  replace h := ofP h; rcases h with ⟨c101, h⟩ | ⟨c101, h⟩
  · refine so_gyes rfl (decide_eq_true c101) ?_
    refine so_move (v := (.v (.int .i64 a0))) rfl ?_
    refine so_gyes rfl (decide_eq_true c101) ?_
    refine so_move (v := (.v (.int .i64 a2))) rfl ?_
    refine so_gyes rfl (decide_eq_true c101) ?_
    refine so_bin rfl rfl ab_leq ?_
    refine so_pick_t (v := (.v (.bool (decide (a0 ≤ a2))))) rfl (decide_eq_true c101) rfl ?_
    refine so_assign (v := (.v (.bool (decide (a0 ≤ a2))))) rfl ?_
    refine so_nil ?_
    exact by_ret rfl ⟨_, h, rfl, rfl⟩
  · refine so_gno rfl (decide_eq_false c101) ?_
    refine so_gno rfl (decide_eq_false c101) ?_
    refine so_gno rfl (decide_eq_false c101) ?_
    refine so_pick_f (v := (.v (.bool false))) rfl (decide_eq_false c101) rfl ?_
    refine so_assign (v := (.v (.bool false))) rfl ?_
    refine so_nil ?_
    exact by_ret rfl ⟨_, h, rfl, rfl⟩

end Go.Proofs.Ytecdkjnomkdbkaa.G

namespace Go.Proofs.Ytecdkjnomkdbkaa.G
open Go Go.Ab Go.Proofs Go.Proofs.Ytecdkjnomkdbkaa
set_option maxRecDepth 100000
set_option linter.unusedVariables false
set_option linter.unusedSimpArgs false
set_option maxHeartbeats 1000000
attribute [local irreducible] wops wopf Go.Ab.Fin
theorem spec_l01Finite_ok {fr : List Pc} {H : Heap} (a0 : Nat) (hs : Sep H (fr))  (K : Bool → Prop) (h : spec_l01Finite.wp a0 K) : OkQ Try.prog 44 [(.v (.flt .f32 a0))] H (fun r H2 => ∃ (y0 : Bool), K y0 ∧ r = (.v (.bool y0)) ∧ H = H2) := by
  unfold spec_l01Finite.wp at h
  refine of_body Try.f44 F.hm Try.func44 rfl Try.call44 (by kernel_rfl) (by simp) ?_
  refine fi_seq ?_
  refine fi_region ?_
  refine so_assign (v := (.v (.bool false))) rfl ?_
  refine so_nil ?_
  refine fi_seq ?_
  refine fi_region ?_
  refine so_move (v := (.v (.flt .f32 a0))) rfl ?_
  refine so_move (v := (.v (.flt .f32 a0))) rfl ?_
  refine so_bin rfl rfl ab_fsub ?_
  refine so_bin rfl rfl ab_feql ?_
  refine so_assign (v := (.v (.bool (fcmp .eql .f32 (fop .sub .f32 a0 a0) (cz .f32 0))))) rfl ?_
  refine so_nil ?_
  exact by_ret rfl ⟨_, h, rfl, rfl⟩

end Go.Proofs.Ytecdkjnomkdbkaa.G

namespace Go.Proofs.Ytecdkjnomkdbkaa.G
open Go Go.Ab Go.Proofs Go.Proofs.Ytecdkjnomkdbkaa
set_option maxRecDepth 100000
set_option linter.unusedVariables false
set_option linter.unusedSimpArgs false
set_option maxHeartbeats 1000000
attribute [local irreducible] wops wopf Go.Ab.Fin
theorem spec_l02Least_ok {fr : List Pc} {H : Heap} (a0 : Nat) (hs : Sep H (fr))  (K : Bool → Prop) (h : spec_l02Least.wp a0 K) : OkQ Try.prog 68 [(.v (.flt .f32 a0))] H (fun r H2 => ∃ (y0 : Bool), K y0 ∧ r = (.v (.bool y0)) ∧ H = H2) := by
  unfold spec_l02Least.wp at h
  refine of_body Try.f68 F.hm Try.func68 rfl Try.call68 (by kernel_rfl) (by simp) ?_
  refine fi_seq ?_
  refine fi_region ?_
  refine so_assign (v := (.v (.bool false))) rfl ?_
  refine so_nil ?_
  refine fi_seq ?_
  refine fi_region ?_
  refine so_move (v := (.v (.flt .f32 a0))) rfl ?_
  refine sv_callS (spec_l01Finite_ok a0 hs  _ h) (fun _ _ ⟨_, _, _, e⟩ => e) rfl rfl ?_
  clear h
  rintro _ _ ⟨y101, h, rfl, rfl⟩
  refine so_move (v := (.v (.bool y101))) rfl ?_
  replace h := ofT h; rcases h with ⟨c103, h⟩ | ⟨c103, h⟩
  · refine so_gyes rfl c103 ?_
    refine so_move (v := (.v (.flt .f32 a0))) rfl ?_
    refine so_gyes rfl c103 ?_
    refine so_bin rfl rfl ab_fgeq ?_
    refine so_pick_t (v := (.v (.bool (fcmp .geq .f32 a0 (cz .f32 0))))) rfl c103 rfl ?_
    refine so_assign (v := (.v (.bool (fcmp .geq .f32 a0 (cz .f32 0))))) rfl ?_
    refine so_nil ?_
    exact by_ret rfl ⟨_, h, rfl, rfl⟩
  · refine so_gno rfl c103 ?_
    refine so_gno rfl c103 ?_
    refine so_pick_f (v := (.v (.bool false))) rfl c103 rfl ?_
    refine so_assign (v := (.v (.bool false))) rfl ?_
    refine so_nil ?_
    exact by_ret rfl ⟨_, h, rfl, rfl⟩

end Go.Proofs.Ytecdkjnomkdbkaa.G

namespace Go.Proofs.Ytecdkjnomkdbkaa.G
open Go Go.Ab Go.Proofs Go.Proofs.Ytecdkjnomkdbkaa
set_option maxRecDepth 100000
set_option linter.unusedVariables false
set_option linter.unusedSimpArgs false
set_option maxHeartbeats 1000000
attribute [local irreducible] wops wopf Go.Ab.Fin
theorem F81.ag2 : tagg Try.prog 2 = some false := by kernel_rfl
theorem F81.ag23 : tagg Try.prog 23 = some false := by kernel_rfl
theorem F81.fd49_0 : tfield Try.prog 49 0 = some (0, 1, false) := by kernel_rfl
theorem F81.fd49_1 : tfield Try.prog 49 1 = some (1, 1, false) := by kernel_rfl
theorem F81.ti47 : (telem Try.prog 47).isSome = true := by kernel_rfl
theorem F81.tl47 : (telem Try.prog 47).bind (tsz Try.prog) = some 2 := by kernel_rfl
theorem spec_l07Costs_ok {fr : List Pc} {H : Heap} (v0 : AV) (l0 : List ((Int) × (Nat))) (hs : Sep H (fr)) (g0 : ∀ H, Sep H fr → Shows H v0 2 (enc (ePair (eInt .i64) (eFlt .f32)) l0)) (K : Bool → Prop) (h : spec_l07Costs.wp l0 K) : OkQ Try.prog 81 [(.v v0)] H (fun r H2 => ∃ (y0 : Bool), K y0 ∧ r = (.v (.bool y0)) ∧ H = H2) := by
  unfold spec_l07Costs.wp at h
  refine of_body Try.f81 F.hm Try.func81 rfl Try.call81 (by kernel_rfl) (by simp) ?_
  refine fi_seq ?_
  refine fi_region ?_
  refine so_assign (v := (.v (.bool false))) rfl ?_
  refine so_nil ?_
  refine fi_seq ?_
  refine fi_region ?_
  refine so_move (v := (.v v0)) rfl ?_
  refine sv_len (g0 _ hs) (fun _ => rfl) (by decide) rfl F81.ti47 ?_
  refine so_assign (v := (.v (.int .i64 (l0.length : Int)))) rfl ?_
  refine so_nil ?_
  refine fi_seq ?_
  refine fi_seq ?_
  refine fi_region ?_
  refine so_move (v := (.v (.int .i64 (l0.length : Int)))) rfl ?_
  refine so_bin rfl rfl ab_lss ?_
  refine so_move (v := (.v (.bool (decide ((l0.length : Int) < (1 : Int)))))) rfl ?_
  replace h := ofP h; rcases h with ⟨c101, h⟩ | ⟨c101, h⟩
  · refine so_gno rfl (decide_eq_true c101) ?_
    refine so_gno rfl (decide_eq_true c101) ?_
    refine so_pick_t (v := (.v (.bool true))) rfl (decide_eq_true c101) rfl ?_
    refine so_nil ?_
    refine fi_true rfl rfl ?_
    refine fi_seq ?_
    refine fi_region ?_
    refine so_assign (v := (.v (.bool false))) rfl ?_
    refine so_nil ?_
    exact by_ret rfl ⟨_, h, rfl, rfl⟩
  · refine so_gyes rfl (decide_eq_false c101) ?_
    refine so_move (v := (.v (.int .i64 (l0.length : Int)))) rfl ?_
    refine so_gyes rfl (decide_eq_false c101) ?_
    refine so_bin rfl rfl ab_gtr ?_
    refine so_pick_f (v := (.v (.bool (decide ((16 : Int) < (l0.length : Int)))))) rfl (decide_eq_false c101) rfl ?_
    refine so_nil ?_
    replace h := ofP h; rcases h with ⟨c102, h⟩ | ⟨c102, h⟩
    · refine fi_true rfl (decide_eq_true c102) ?_
      refine fi_seq ?_
      refine fi_region ?_
      refine so_assign (v := (.v (.bool false))) rfl ?_
      refine so_nil ?_
      exact by_ret rfl ⟨_, h, rfl, rfl⟩
    · refine fi_false rfl (decide_eq_false c102) ?_
      refine fi_skip ?_
      refine fi_seq ?_
      refine fi_seq ?_
      refine fi_region ?_
      refine so_move (v := (.v v0)) rfl ?_
      refine sv_len (g0 _ hs) (fun _ => rfl) (by decide) rfl F81.ti47 ?_
      refine so_move (v := (.v (.int .i64 (0 : Int)))) rfl ?_
      refine so_nil ?_
      refine fi_block ?_
      refine fi_loop ?_
      refine fi_at [(0, (.v v0)), (14, (.v (.int .i64 (l0.length : Int)))), (15, (.v (.int .i64 (0 : Int))))] ⟨rfl, rfl, rfl, trivial⟩ ?_
      refine h (fun (x104 : Int) => ∀ (s : Nat → TV), Fin _ _ (updL s [(0, (.v v0)), (14, (.v (.int .i64 (l0.length : Int)))), (15, (.v (.int .i64 x104)))]) _ _) ?_ _
      intro x104 h s117
      refine fi_inLoop ?_
      refine fi_seq ?_
      refine fi_region ?_
      refine so_bin rfl rfl ab_lss ?_
      refine so_nil ?_
      refine fi_seq ?_
      replace h := ofP h; rcases h with ⟨c105, h⟩ | ⟨c105, h⟩
      · refine fi_true rfl (decide_eq_true c105) ?_
        refine fi_skip ?_
        refine fi_seq ?_
        refine fi_block ?_
        refine fi_seq ?_
        refine fi_region ?_
        refine so_move (v := (.v (.int .i64 x104))) rfl ?_
        refine so_assign (v := (.v (.int .i64 x104))) rfl ?_
        refine so_nil ?_
        refine fi_seq ?_
        refine fi_seq ?_
        refine fi_region ?_
        refine so_move (v := (.v v0)) rfl ?_
        refine so_move (v := (.v (.int .i64 x104))) rfl ?_
        obtain ⟨c106, h⟩ := h
        refine sv_idx (g0 _ hs) c106 (fun _ => rfl) (by decide) rfl rfl F81.tl47 ?_
        refine so_fieldAddr rfl F81.fd49_0 ?_
        refine sv_cell (g0 _ hs) c106 ((0 : Int), (0 : Nat)) 0 (fun x => (AV.int .i64 x.1)) (fun _ => rfl) (fun _ => rfl) rfl F81.ag2 ?_
        refine sv_callS (spec_l00In_ok (l0.getD (x104).toNat ((0 : Int), (0 : Nat))).1 (0 : Int) (512 : Int) hs  _ h) (fun _ _ ⟨_, _, _, e⟩ => e) rfl rfl ?_
        clear h
        rintro _ _ ⟨y107, h, rfl, rfl⟩
        refine so_un rfl au_not ?_
        refine so_move (v := (.v (.bool (!y107)))) rfl ?_
        replace h := ofT h; rcases h with ⟨c109, h⟩ | ⟨c109, h⟩
        · refine so_gyes rfl (not_f c109) ?_
          refine so_move (v := (.v v0)) rfl ?_
          refine so_gyes rfl (not_f c109) ?_
          refine so_move (v := (.v (.int .i64 x104))) rfl ?_
          refine so_gyes rfl (not_f c109) ?_
          refine sv_idx (g0 _ hs) c106 (fun _ => rfl) (by decide) rfl rfl F81.tl47 ?_
          refine so_gyes rfl (not_f c109) ?_
          refine so_fieldAddr rfl F81.fd49_1 ?_
          refine so_gyes rfl (not_f c109) ?_
          refine sv_cell (g0 _ hs) c106 ((0 : Int), (0 : Nat)) 1 (fun x => (AV.flt .f32 x.2)) (fun _ => rfl) (fun _ => rfl) rfl F81.ag23 ?_
          refine so_gyes rfl (not_f c109) ?_
          refine sv_callS (spec_l02Least_ok (l0.getD (x104).toNat ((0 : Int), (0 : Nat))).2 hs  _ h) (fun _ _ ⟨_, _, _, e⟩ => e) rfl rfl ?_
          clear h
          rintro _ _ ⟨y110, h, rfl, rfl⟩
          refine so_gyes rfl (not_f c109) ?_
          refine so_un rfl au_not ?_
          refine so_pick_f (v := (.v (.bool (!y110)))) rfl (not_f c109) rfl ?_
          refine so_nil ?_
          replace h := ofT h; rcases h with ⟨c112, h⟩ | ⟨c112, h⟩
          · refine fi_false rfl (not_f c112) ?_
            refine fi_skip ?_
            refine fi_seq ?_
            refine fi_region ?_
            refine so_move (v := (.v (.int .i64 x104))) rfl ?_
            refine so_bin rfl rfl ab_gtr ?_
            refine so_move (v := (.v (.bool (decide ((0 : Int) < x104))))) rfl ?_
            replace h := ofP h; rcases h with ⟨c113, h⟩ | ⟨c113, h⟩
            · refine so_gyes rfl (decide_eq_true c113) ?_
              refine so_move (v := (.v v0)) rfl ?_
              refine so_gyes rfl (decide_eq_true c113) ?_
              refine so_move (v := (.v (.int .i64 x104))) rfl ?_
              refine so_gyes rfl (decide_eq_true c113) ?_
              refine sv_idx (g0 _ hs) c106 (fun _ => rfl) (by decide) rfl rfl F81.tl47 ?_
              refine so_gyes rfl (decide_eq_true c113) ?_
              refine so_fieldAddr rfl F81.fd49_0 ?_
              refine so_gyes rfl (decide_eq_true c113) ?_
              refine sv_cell (g0 _ hs) c106 ((0 : Int), (0 : Nat)) 0 (fun x => (AV.int .i64 x.1)) (fun _ => rfl) (fun _ => rfl) rfl F81.ag2 ?_
              refine so_gyes rfl (decide_eq_true c113) ?_
              refine so_move (v := (.v v0)) rfl ?_
              refine so_gyes rfl (decide_eq_true c113) ?_
              refine so_move (v := (.v (.int .i64 x104))) rfl ?_
              refine so_gyes rfl (decide_eq_true c113) ?_
              refine so_bin rfl rfl ab_sub ?_
              refine so_gyes rfl (decide_eq_true c113) ?_
              obtain ⟨c114, h⟩ := h
              refine sv_idx (g0 _ hs) c114 (fun _ => rfl) (by decide) rfl rfl F81.tl47 ?_
              refine so_gyes rfl (decide_eq_true c113) ?_
              refine so_fieldAddr rfl F81.fd49_0 ?_
              refine so_gyes rfl (decide_eq_true c113) ?_
              refine sv_cell (g0 _ hs) c114 ((0 : Int), (0 : Nat)) 0 (fun x => (AV.int .i64 x.1)) (fun _ => rfl) (fun _ => rfl) rfl F81.ag2 ?_
              refine so_gyes rfl (decide_eq_true c113) ?_
              refine so_bin rfl rfl ab_leq ?_
              refine so_gyes rfl (decide_eq_true c113) ?_
              refine so_move (v := (.v (.bool (decide ((l0.getD (x104).toNat ((0 : Int), (0 : Nat))).1 ≤ (l0.getD ((IntKind.i64.wrap (x104 - (1 : Int)))).toNat ((0 : Int), (0 : Nat))).1))))) rfl ?_
              replace h := ofP h; rcases h with ⟨c115, h⟩ | ⟨c115, h⟩
              · refine so_gno rfl (decide_eq_true c115) ?_
                refine so_gno rfl (decide_eq_true c115) ?_
                refine so_gno rfl (decide_eq_true c115) ?_
                refine so_gno rfl (decide_eq_true c115) ?_
                refine so_gno rfl (decide_eq_true c115) ?_
                refine so_gno rfl (decide_eq_true c115) ?_
                refine so_gno rfl (decide_eq_true c115) ?_
                refine so_gno rfl (decide_eq_true c115) ?_
                refine so_gno rfl (decide_eq_true c115) ?_
                refine so_gno rfl (decide_eq_true c115) ?_
                refine so_gno rfl (decide_eq_true c115) ?_
                refine so_gno rfl (decide_eq_true c115) ?_
                refine so_gyes rfl (decide_eq_true c113) ?_
                refine so_pick_t (v := (.v (.bool true))) rfl (decide_eq_true c115) rfl ?_
                refine so_pick_t (v := (.v (.bool true))) rfl (decide_eq_true c113) rfl ?_
                refine so_nil ?_
                refine fi_true rfl rfl ?_
                refine fi_seq ?_
                refine fi_region ?_
                refine so_assign (v := (.v (.bool false))) rfl ?_
                refine so_nil ?_
                exact by_ret rfl ⟨_, h, rfl, rfl⟩
              · refine so_gyes rfl (decide_eq_false c115) ?_
                refine so_move (v := (.v v0)) rfl ?_
                refine so_gyes rfl (decide_eq_false c115) ?_
                refine so_move (v := (.v (.int .i64 x104))) rfl ?_
                refine so_gyes rfl (decide_eq_false c115) ?_
                refine sv_idx (g0 _ hs) c106 (fun _ => rfl) (by decide) rfl rfl F81.tl47 ?_
                refine so_gyes rfl (decide_eq_false c115) ?_
                refine so_fieldAddr rfl F81.fd49_1 ?_
                refine so_gyes rfl (decide_eq_false c115) ?_
                refine sv_cell (g0 _ hs) c106 ((0 : Int), (0 : Nat)) 1 (fun x => (AV.flt .f32 x.2)) (fun _ => rfl) (fun _ => rfl) rfl F81.ag23 ?_
                refine so_gyes rfl (decide_eq_false c115) ?_
                refine so_move (v := (.v v0)) rfl ?_
                refine so_gyes rfl (decide_eq_false c115) ?_
                refine so_move (v := (.v (.int .i64 x104))) rfl ?_
                refine so_gyes rfl (decide_eq_false c115) ?_
                refine so_bin rfl rfl ab_sub ?_
                refine so_gyes rfl (decide_eq_false c115) ?_
                refine sv_idx (g0 _ hs) c114 (fun _ => rfl) (by decide) rfl rfl F81.tl47 ?_
                refine so_gyes rfl (decide_eq_false c115) ?_
                refine so_fieldAddr rfl F81.fd49_1 ?_
                refine so_gyes rfl (decide_eq_false c115) ?_
                refine sv_cell (g0 _ hs) c114 ((0 : Int), (0 : Nat)) 1 (fun x => (AV.flt .f32 x.2)) (fun _ => rfl) (fun _ => rfl) rfl F81.ag23 ?_
                refine so_gyes rfl (decide_eq_false c115) ?_
                refine so_bin rfl rfl ab_fgeq ?_
                refine so_gyes rfl (decide_eq_true c113) ?_
                refine so_pick_f (v := (.v (.bool (fcmp .geq .f32 (l0.getD (x104).toNat ((0 : Int), (0 : Nat))).2 (l0.getD ((IntKind.i64.wrap (x104 - (1 : Int)))).toNat ((0 : Int), (0 : Nat))).2)))) rfl (decide_eq_false c115) rfl ?_
                refine so_pick_t (v := (.v (.bool (fcmp .geq .f32 (l0.getD (x104).toNat ((0 : Int), (0 : Nat))).2 (l0.getD ((IntKind.i64.wrap (x104 - (1 : Int)))).toNat ((0 : Int), (0 : Nat))).2)))) rfl (decide_eq_true c113) rfl ?_
                refine so_nil ?_
                replace h := ofT h; rcases h with ⟨c116, h⟩ | ⟨c116, h⟩
                · refine fi_true rfl c116 ?_
                  refine fi_seq ?_
                  refine fi_region ?_
                  refine so_assign (v := (.v (.bool false))) rfl ?_
                  refine so_nil ?_
                  exact by_ret rfl ⟨_, h, rfl, rfl⟩
                · refine fi_false rfl c116 ?_
                  refine fi_skip ?_
                  refine fi_inBlock ?_
                  refine fi_region ?_
                  refine so_bin rfl rfl ab_add ?_
                  refine so_move (v := (.v (.int .i64 (IntKind.i64.wrap (x104 + (1 : Int)))))) rfl ?_
                  refine so_nil ?_
                  exact fi_at [(0, (.v v0)), (14, (.v (.int .i64 (l0.length : Int)))), (15, (.v (.int .i64 (IntKind.i64.wrap (x104 + (1 : Int))))))] ⟨rfl, rfl, rfl, trivial⟩ (h _)
            · refine so_gno rfl (decide_eq_false c113) ?_
              refine so_gno rfl (decide_eq_false c113) ?_
              refine so_gno rfl (decide_eq_false c113) ?_
              refine so_gno rfl (decide_eq_false c113) ?_
              refine so_gno rfl (decide_eq_false c113) ?_
              refine so_gno rfl (decide_eq_false c113) ?_
              refine so_gno rfl (decide_eq_false c113) ?_
              refine so_gno rfl (decide_eq_false c113) ?_
              refine so_gno rfl (decide_eq_false c113) ?_
              refine so_gno rfl (decide_eq_false c113) ?_
              refine so_gno rfl (decide_eq_false c113) ?_
              refine so_gno rfl (decide_eq_false c113) ?_
              refine so_gno rfl (decide_eq_false c113) ?_
              refine so_gund rfl ?_
              refine so_gund rfl ?_
              refine so_gund rfl ?_
              refine so_gund rfl ?_
              refine so_gund rfl ?_
              refine so_gund rfl ?_
              refine so_gund rfl ?_
              refine so_gund rfl ?_
              refine so_gund rfl ?_
              refine so_gund rfl ?_
              refine so_gund rfl ?_
              refine so_gund rfl ?_
              refine so_gno rfl (decide_eq_false c113) ?_
              refine so_pick_f (v := (.v (.bool false))) rfl (decide_eq_false c113) rfl ?_
              refine so_nil ?_
              refine fi_false rfl rfl ?_
              refine fi_skip ?_
              refine fi_inBlock ?_
              refine fi_region ?_
              refine so_bin rfl rfl ab_add ?_
              refine so_move (v := (.v (.int .i64 (IntKind.i64.wrap (x104 + (1 : Int)))))) rfl ?_
              refine so_nil ?_
              exact fi_at [(0, (.v v0)), (14, (.v (.int .i64 (l0.length : Int)))), (15, (.v (.int .i64 (IntKind.i64.wrap (x104 + (1 : Int))))))] ⟨rfl, rfl, rfl, trivial⟩ (h _)
          · refine fi_true rfl (not_t c112) ?_
            refine fi_seq ?_
            refine fi_region ?_
            refine so_assign (v := (.v (.bool false))) rfl ?_
            refine so_nil ?_
            exact by_ret rfl ⟨_, h, rfl, rfl⟩
        · refine so_gno rfl (not_t c109) ?_
          refine so_gno rfl (not_t c109) ?_
          refine so_gno rfl (not_t c109) ?_
          refine so_gno rfl (not_t c109) ?_
          refine so_gno rfl (not_t c109) ?_
          refine so_gno rfl (not_t c109) ?_
          refine so_gno rfl (not_t c109) ?_
          refine so_pick_t (v := (.v (.bool true))) rfl (not_t c109) rfl ?_
          refine so_nil ?_
          refine fi_true rfl rfl ?_
          refine fi_seq ?_
          refine fi_region ?_
          refine so_assign (v := (.v (.bool false))) rfl ?_
          refine so_nil ?_
          exact by_ret rfl ⟨_, h, rfl, rfl⟩
      · refine fi_false rfl (decide_eq_false c105) ?_
        refine fi_exit rfl ?_
        refine fi_seq ?_
        refine fi_region ?_
        refine so_assign (v := (.v (.bool true))) rfl ?_
        refine so_nil ?_
        exact by_ret rfl ⟨_, h, rfl, rfl⟩

end Go.Proofs.Ytecdkjnomkdbkaa.G

namespace Go.Proofs.Ytecdkjnomkdbkaa.G
open Go Go.Ab Go.Proofs Go.Proofs.Ytecdkjnomkdbkaa
set_option maxRecDepth 100000
set_option linter.unusedVariables false
set_option linter.unusedSimpArgs false
set_option maxHeartbeats 1000000
attribute [local irreducible] wops wopf Go.Ab.Fin
theorem F42.ag47 : tagg Try.prog 47 = some false := by kernel_rfl
theorem F42.ti35 : (telem Try.prog 35).isSome = true := by kernel_rfl
theorem F42.tl35 : (telem Try.prog 35).bind (tsz Try.prog) = some 1 := by kernel_rfl
theorem spec_l07Blocks_ok {fr : List Pc} {H : Heap} (v0 : AV) (w0 : List (List AV)) (l0 : List (List ((Int) × (Nat)))) (hs : Sep H (fr)) (g0 : ∀ H, Sep H fr → DSh H v0 1 R_LePair_eInt_i64_eFlt_f32_o l0 w0) (K : Bool → Prop) (h : spec_l07Blocks.wp l0 K) : OkQ Try.prog 42 [(.v v0)] H (fun r H2 => ∃ (y0 : Bool), K y0 ∧ r = (.v (.bool y0)) ∧ H = H2) := by
  unfold spec_l07Blocks.wp at h
  refine of_body Try.f42 F.hm Try.func42 rfl Try.call42 (by kernel_rfl) (by simp) ?_
  refine fi_seq ?_
  refine fi_region ?_
  refine so_assign (v := (.v (.bool false))) rfl ?_
  refine so_nil ?_
  refine fi_seq ?_
  refine fi_seq ?_
  refine fi_region ?_
  refine so_move (v := (.v v0)) rfl ?_
  refine sd_len ((g0 _ hs) : DSh _ _ 1 R_LePair_eInt_i64_eFlt_f32_o l0 w0) (by decide) rfl F42.ti35 ?_
  refine so_bin rfl rfl ab_lss ?_
  refine so_move (v := (.v (.bool (decide ((l0.length : Int) < (1 : Int)))))) rfl ?_
  replace h := ofP h; rcases h with ⟨c101, h⟩ | ⟨c101, h⟩
  · refine so_gno rfl (decide_eq_true c101) ?_
    refine so_gno rfl (decide_eq_true c101) ?_
    refine so_gno rfl (decide_eq_true c101) ?_
    refine so_pick_t (v := (.v (.bool true))) rfl (decide_eq_true c101) rfl ?_
    refine so_nil ?_
    refine fi_true rfl rfl ?_
    refine fi_seq ?_
    refine fi_region ?_
    refine so_assign (v := (.v (.bool false))) rfl ?_
    refine so_nil ?_
    exact by_ret rfl ⟨_, h, rfl, rfl⟩
  · refine so_gyes rfl (decide_eq_false c101) ?_
    refine so_move (v := (.v v0)) rfl ?_
    refine so_gyes rfl (decide_eq_false c101) ?_
    refine sd_len ((g0 _ hs) : DSh _ _ 1 R_LePair_eInt_i64_eFlt_f32_o l0 w0) (by decide) rfl F42.ti35 ?_
    refine so_gyes rfl (decide_eq_false c101) ?_
    refine so_bin rfl rfl ab_gtr ?_
    refine so_pick_f (v := (.v (.bool (decide ((8 : Int) < (l0.length : Int)))))) rfl (decide_eq_false c101) rfl ?_
    refine so_nil ?_
    replace h := ofP h; rcases h with ⟨c102, h⟩ | ⟨c102, h⟩
    · refine fi_true rfl (decide_eq_true c102) ?_
      refine fi_seq ?_
      refine fi_region ?_
      refine so_assign (v := (.v (.bool false))) rfl ?_
      refine so_nil ?_
      exact by_ret rfl ⟨_, h, rfl, rfl⟩
    · refine fi_false rfl (decide_eq_false c102) ?_
      refine fi_skip ?_
      refine fi_seq ?_
      refine fi_seq ?_
      refine fi_region ?_
      refine so_move (v := (.v v0)) rfl ?_
      refine sd_len ((g0 _ hs) : DSh _ _ 1 R_LePair_eInt_i64_eFlt_f32_o l0 w0) (by decide) rfl F42.ti35 ?_
      refine so_move (v := (.v (.int .i64 (0 : Int)))) rfl ?_
      refine so_nil ?_
      refine fi_block ?_
      refine fi_loop ?_
      refine fi_at [(0, (.v v0)), (13, (.v (.int .i64 (l0.length : Int)))), (14, (.v (.int .i64 (0 : Int))))] ⟨rfl, rfl, rfl, trivial⟩ ?_
      refine h (fun (x104 : Int) => ∀ (s : Nat → TV), Fin _ _ (updL s [(0, (.v v0)), (13, (.v (.int .i64 (l0.length : Int)))), (14, (.v (.int .i64 x104)))]) _ _) ?_ _
      intro x104 h s110
      refine fi_inLoop ?_
      refine fi_seq ?_
      refine fi_region ?_
      refine so_bin rfl rfl ab_lss ?_
      refine so_nil ?_
      refine fi_seq ?_
      replace h := ofP h; rcases h with ⟨c105, h⟩ | ⟨c105, h⟩
      · refine fi_true rfl (decide_eq_true c105) ?_
        refine fi_skip ?_
        refine fi_seq ?_
        refine fi_block ?_
        refine fi_seq ?_
        refine fi_region ?_
        refine so_move (v := (.v (.int .i64 x104))) rfl ?_
        refine so_assign (v := (.v (.int .i64 x104))) rfl ?_
        refine so_nil ?_
        refine fi_seq ?_
        refine fi_region ?_
        refine so_move (v := (.v v0)) rfl ?_
        refine so_move (v := (.v (.int .i64 x104))) rfl ?_
        obtain ⟨c106, h⟩ := h
        refine sd_idx ((g0 _ hs) : DSh _ _ 1 R_LePair_eInt_i64_eFlt_f32_o l0 w0) c106 ([] : List ((Int) × (Nat))) (by decide) rfl rfl F42.tl35 ?_
        refine su_ld ((((g0 _ hs) : DSh _ _ 1 R_LePair_eInt_i64_eFlt_f32_o l0 w0)).at (by decide) c106 ([] : List ((Int) × (Nat)))).2.2 0 (congrArg (fun c => c[0]?) ((((g0 _ hs) : DSh _ _ 1 R_LePair_eInt_i64_eFlt_f32_o l0 w0)).at (by decide) c106 ([] : List ((Int) × (Nat)))).2.1.1) rfl F42.ag47 ?_
        refine sv_callS (spec_l07Costs_ok ((w0.getD (x104).toNat []).getD 0 .und) (l0.getD (x104).toNat ([] : List ((Int) × (Nat)))) hs (fun _ hs => ((((g0 _ hs) : DSh _ _ 1 R_LePair_eInt_i64_eFlt_f32_o l0 w0)).at (by decide) c106 ([] : List ((Int) × (Nat)))).2.1.2) _ h) (fun _ _ ⟨_, _, _, e⟩ => e) rfl rfl ?_
        clear h
        rintro _ _ ⟨y107, h, rfl, rfl⟩
        refine so_un rfl au_not ?_
        refine so_nil ?_
        replace h := ofT h; rcases h with ⟨c109, h⟩ | ⟨c109, h⟩
        · refine fi_false rfl (not_f c109) ?_
          refine fi_skip ?_
          refine fi_inBlock ?_
          refine fi_region ?_
          refine so_bin rfl rfl ab_add ?_
          refine so_move (v := (.v (.int .i64 (IntKind.i64.wrap (x104 + (1 : Int)))))) rfl ?_
          refine so_nil ?_
          exact fi_at [(0, (.v v0)), (13, (.v (.int .i64 (l0.length : Int)))), (14, (.v (.int .i64 (IntKind.i64.wrap (x104 + (1 : Int))))))] ⟨rfl, rfl, rfl, trivial⟩ (h _)
        · refine fi_true rfl (not_t c109) ?_
          refine fi_seq ?_
          refine fi_region ?_
          refine so_assign (v := (.v (.bool false))) rfl ?_
          refine so_nil ?_
          exact by_ret rfl ⟨_, h, rfl, rfl⟩
      · refine fi_false rfl (decide_eq_false c105) ?_
        refine fi_exit rfl ?_
        refine fi_seq ?_
        refine fi_region ?_
        refine so_assign (v := (.v (.bool true))) rfl ?_
        refine so_nil ?_
        exact by_ret rfl ⟨_, h, rfl, rfl⟩

end Go.Proofs.Ytecdkjnomkdbkaa.G

namespace Go.Proofs.Ytecdkjnomkdbkaa.G
open Go Go.Ab Go.Proofs Go.Proofs.Ytecdkjnomkdbkaa
set_option maxRecDepth 100000
set_option linter.unusedVariables false
set_option linter.unusedSimpArgs false
set_option maxHeartbeats 1000000
attribute [local irreducible] wops wopf Go.Ab.Fin
theorem F13.ag2 : tagg Try.prog 2 = some false := by kernel_rfl
theorem F13.ag22 : tagg Try.prog 22 = some false := by kernel_rfl
theorem F13.ag23 : tagg Try.prog 23 = some false := by kernel_rfl
theorem F13.ag4 : tagg Try.prog 4 = some false := by kernel_rfl
theorem F13.ag47 : tagg Try.prog 47 = some false := by kernel_rfl
theorem F13.by2 : tbytes Try.prog 2 = some 8 := by kernel_rfl
theorem F13.by23 : tbytes Try.prog 23 = some 4 := by kernel_rfl
theorem F13.by4 : tbytes Try.prog 4 = some 1 := by kernel_rfl
theorem F13.fd49_0 : tfield Try.prog 49 0 = some (0, 1, false) := by kernel_rfl
theorem F13.fd49_1 : tfield Try.prog 49 1 = some (1, 1, false) := by kernel_rfl
theorem F13.sz2 : tsz Try.prog 2 = some 1 := by kernel_rfl
theorem F13.sz22 : tsz Try.prog 22 = some 1 := by kernel_rfl
theorem F13.sz23 : tsz Try.prog 23 = some 1 := by kernel_rfl
theorem F13.sz4 : tsz Try.prog 4 = some 1 := by kernel_rfl
theorem F13.ta72_72 : tapp Try.prog 72 72 = some (1, 24) := by kernel_rfl
theorem F13.te22 : telem Try.prog 22 = some 2 := by kernel_rfl
theorem F13.te55 : telem Try.prog 55 = some 23 := by kernel_rfl
theorem F13.te60 : telem Try.prog 60 = some 4 := by kernel_rfl
theorem F13.te72 : telem Try.prog 72 = some 22 := by kernel_rfl
theorem F13.ti35 : (telem Try.prog 35).isSome = true := by kernel_rfl
theorem F13.ti47 : (telem Try.prog 47).isSome = true := by kernel_rfl
theorem F13.ti60 : (telem Try.prog 60).isSome = true := by kernel_rfl
theorem F13.tl22 : (telem Try.prog 22).bind (tsz Try.prog) = some 1 := by kernel_rfl
theorem F13.tl35 : (telem Try.prog 35).bind (tsz Try.prog) = some 1 := by kernel_rfl
theorem F13.tl47 : (telem Try.prog 47).bind (tsz Try.prog) = some 2 := by kernel_rfl
theorem F13.tl55 : (telem Try.prog 55).bind (tsz Try.prog) = some 1 := by kernel_rfl
theorem F13.tl60 : (telem Try.prog 60).bind (tsz Try.prog) = some 1 := by kernel_rfl
theorem F13.tl72 : (telem Try.prog 72).bind (tsz Try.prog) = some 1 := by kernel_rfl
theorem F13.ze2 : tzero Try.prog 2 = some [(.int .i64 (0 : Int))] := by kernel_rfl
theorem F13.ze22 : tzero Try.prog 22 = some [.nilsl] := by kernel_rfl
theorem F13.ze23 : tzero Try.prog 23 = some [(.flt .f32 (0 : Nat))] := by kernel_rfl
theorem F13.ze4 : tzero Try.prog 4 = some [(.bool false)] := by kernel_rfl
theorem spec_BestCuts_ok {fr : List Pc} {H : Heap} (v0 : AV) (w0 : List (List AV)) (l0 : List (List ((Int) × (Nat)))) (a1 : Int) (hs : Sep H (fr)) (g0 : ∀ H, Sep H fr → DSh H v0 1 R_LePair_eInt_i64_eFlt_f32_o l0 w0) (K : (List (Int)) → Nat → Bool → Prop) (h : spec_BestCuts.wp l0 a1 K) : OkQ Try.prog 13 [(.v v0), (.v (.int .i64 a1))] H (fun r H2 => ∃ (y0 : List (Int)) (y1 : Nat) (y2 : Bool), K y0 y1 y2 ∧ ∃ (w0_ : AV), r = (.t [(.v w0_), (.v (.flt .f32 y1)), (.v (.bool y2))]) ∧ Sep H2 (Pc.osl w0_ 1 (enc (eInt .i64) y0) :: fr)) := by
  unfold spec_BestCuts.wp at h
  refine of_body Try.f13 F.hm Try.func13 rfl Try.call13 (by kernel_rfl) (by simp) ?_
  refine fi_seq ?_
  refine fi_region ?_
  refine so_assign (v := (.v .nilsl)) rfl ?_
  refine so_assign (v := (.v (.flt .f32 (cz .f32 0)))) rfl ?_
  refine so_assign (v := (.v (.bool false))) rfl ?_
  refine so_nil ?_
  refine fi_seq ?_
  refine fi_seq ?_
  refine fi_region ?_
  refine so_move (v := (.v v0)) rfl ?_
  refine sv_callS (spec_l07Blocks_ok v0 w0 l0 hs (fun _ hs => (g0 _ hs)) _ h) (fun _ _ ⟨_, _, _, e⟩ => e) rfl rfl ?_
  clear h
  rintro _ _ ⟨y101, h, rfl, rfl⟩
  refine so_un rfl au_not ?_
  refine so_move (v := (.v (.bool (!y101)))) rfl ?_
  replace h := ofT h; rcases h with ⟨c103, h⟩ | ⟨c103, h⟩
  · refine so_gyes rfl (not_f c103) ?_
    refine so_move (v := (.v (.int .i64 a1))) rfl ?_
    refine so_gyes rfl (not_f c103) ?_
    refine sv_callS (spec_l00In_ok a1 (0 : Int) (512 : Int) hs  _ h) (fun _ _ ⟨_, _, _, e⟩ => e) rfl rfl ?_
    clear h
    rintro _ _ ⟨y104, h, rfl, rfl⟩
    refine so_gyes rfl (not_f c103) ?_
    refine so_un rfl au_not ?_
    refine so_pick_f (v := (.v (.bool (!y104)))) rfl (not_f c103) rfl ?_
    refine so_nil ?_
    replace h := ofT h; rcases h with ⟨c106, h⟩ | ⟨c106, h⟩
    · refine fi_false rfl (not_f c106) ?_
      refine fi_skip ?_
      refine fi_seq ?_
      refine fi_region ?_
      refine so_move (v := (.v (.int .i64 a1))) rfl ?_
      refine so_bin rfl rfl ab_add ?_
      obtain ⟨c107, h⟩ := h
      refine sv_make hs (eFlt .f32) (0 : Nat) c107 (fun _ => rfl) rfl rfl F13.te55 F13.sz23 F13.by23 F13.ze23 rfl rfl nofun (fun v108 H109 nv108 hs => ?_)
      refine so_assign (v := (.v v108)) rfl ?_
      refine so_nil ?_
      refine fi_seq ?_
      refine fi_region ?_
      refine so_move (v := (.v (.int .i64 a1))) rfl ?_
      refine so_bin rfl rfl ab_add ?_
      obtain ⟨c111, h⟩ := h
      refine sv_make hs eBool false c111 (fun _ => rfl) rfl rfl F13.te60 F13.sz4 F13.by4 F13.ze4 rfl rfl nofun (fun v112 H113 nv112 hs => ?_)
      refine so_assign (v := (.v v112)) rfl ?_
      refine so_nil ?_
      refine fi_seq ?_
      refine fi_seq ?_
      refine fi_region ?_
      refine so_move (v := (.v v112)) rfl ?_
      refine sv_len (hs.shows 0 rfl) (fun _ => rfl) (by decide) rfl F13.ti60 ?_
      refine so_move (v := (.v (.int .i64 (0 : Int)))) rfl ?_
      refine so_nil ?_
      refine fi_block ?_
      refine fi_loop ?_
      refine fi_at [(0, (.v v0)), (1, (.v (.int .i64 a1))), (7, (.v v108)), (8, (.v v112)), (37, (.v (.int .i64 ((List.replicate ((IntKind.i64.wrap (a1 + (1 : Int)))).toNat false).length : Int)))), (38, (.v (.int .i64 (0 : Int))))] ⟨rfl, rfl, rfl, rfl, rfl, rfl, trivial⟩ ?_
      refine h (fun (can486 : List (Bool)) (x487 : Int) => ∀ (s : Nat → TV) (H : Heap), Sep H (Pc.osl v112 1 (enc eBool can486) :: Pc.osl v108 1 (enc (eFlt .f32) (List.replicate ((IntKind.i64.wrap (a1 + (1 : Int)))).toNat (0 : Nat))) :: fr) → Fin _ _ (updL s [(0, (.v v0)), (1, (.v (.int .i64 a1))), (7, (.v v108)), (8, (.v v112)), (37, (.v (.int .i64 ((List.replicate ((IntKind.i64.wrap (a1 + (1 : Int)))).toNat false).length : Int)))), (38, (.v (.int .i64 x487)))]) H _) ?_ _ _ hs
      intro can486 x487 h s856 H857 hs
      refine fi_inLoop ?_
      refine fi_seq ?_
      refine fi_region ?_
      refine so_bin rfl rfl ab_lss ?_
      refine so_nil ?_
      refine fi_seq ?_
      replace h := ofP h; rcases h with ⟨c488, h⟩ | ⟨c488, h⟩
      · refine fi_true rfl (decide_eq_true c488) ?_
        refine fi_skip ?_
        refine fi_seq ?_
        refine fi_block ?_
        refine fi_seq ?_
        refine fi_region ?_
        refine so_move (v := (.v (.int .i64 x487))) rfl ?_
        refine so_assign (v := (.v (.int .i64 x487))) rfl ?_
        refine so_nil ?_
        refine fi_region ?_
        refine so_move (v := (.v v112)) rfl ?_
        refine so_move (v := (.v (.int .i64 x487))) rfl ?_
        obtain ⟨c489, h⟩ := h
        refine sv_idx (hs.shows 0 rfl) c489 (fun _ => rfl) (by decide) rfl rfl F13.tl60 ?_
        refine sv_set hs 0 rfl c489 true (fun _ => rfl) (by decide) rfl rfl rfl rfl F13.sz4 nofun (fun H490 hs => ?_)
        refine so_nil ?_
        refine fi_inBlock ?_
        refine fi_region ?_
        refine so_bin rfl rfl ab_add ?_
        refine so_move (v := (.v (.int .i64 (IntKind.i64.wrap (x487 + (1 : Int)))))) rfl ?_
        refine so_nil ?_
        exact fi_at [(0, (.v v0)), (1, (.v (.int .i64 a1))), (7, (.v v108)), (8, (.v v112)), (37, (.v (.int .i64 ((List.replicate ((IntKind.i64.wrap (a1 + (1 : Int)))).toNat false).length : Int)))), (38, (.v (.int .i64 (IntKind.i64.wrap (x487 + (1 : Int))))))] ⟨rfl, rfl, rfl, rfl, rfl, rfl, trivial⟩ (h _ _  hs)
      · refine fi_false rfl (decide_eq_false c488) ?_
        refine fi_exit rfl ?_
        refine fi_seq ?_
        refine fi_region ?_
        refine sk_empty hs R_LeInt_i64_o IR_LeInt_i64_o F13.te72 F13.sz22 F13.ze22 rfl nofun (fun v491 ws492 S493 H494 _ hs => ?_)
        refine so_assign (v := (.v v491)) rfl ?_
        refine so_nil ?_
        refine fi_seq ?_
        refine fi_seq ?_
        refine fi_region ?_
        refine so_move (v := (.v v0)) rfl ?_
        refine sd_len ((g0 _ hs.tl.tl.tl) : DSh _ _ 1 R_LePair_eInt_i64_eFlt_f32_o l0 w0) (by decide) rfl F13.ti35 ?_
        refine so_move (v := (.v (.int .i64 (0 : Int)))) rfl ?_
        refine so_nil ?_
        refine fi_block ?_
        refine fi_loop ?_
        refine fi_at [(0, (.v v0)), (1, (.v (.int .i64 a1))), (7, (.v v108)), (8, (.v v112)), (10, (.v v491)), (47, (.v (.int .i64 (l0.length : Int)))), (48, (.v (.int .i64 (0 : Int))))] ⟨rfl, rfl, rfl, rfl, rfl, rfl, rfl, trivial⟩ ?_
        refine h (fun (choices676 : List (List (Int))) (can680 : List (Bool)) (sums682 : List (Nat)) (x684 : Int) => ∀ (s : Nat → TV) (H : Heap) (v677 : AV) (ws678 : List (List AV)) (S679 : Nat → Prop) (v681 : AV) (nv681 : v681 ≠ .nilsl) (v683 : AV) (nv683 : v683 ≠ .nilsl), Sep H (dpc v677 1 R_LeInt_i64_o IR_LeInt_i64_o choices676 ws678 S679 :: Pc.osl v681 1 (enc eBool can680) :: Pc.osl v683 1 (enc (eFlt .f32) sums682) :: fr) → Fin _ _ (updL s [(0, (.v v0)), (1, (.v (.int .i64 a1))), (7, (.v v683)), (8, (.v v681)), (10, (.v v677)), (47, (.v (.int .i64 (l0.length : Int)))), (48, (.v (.int .i64 x684)))]) H _) ?_ _ _ _ _ _ _ nv112 _ nv108 hs
        intro choices676 can680 sums682 x684 h s854 H855 v677 ws678 S679 v681 nv681 v683 nv683 hs
        refine fi_inLoop ?_
        refine fi_seq ?_
        refine fi_region ?_
        refine so_bin rfl rfl ab_lss ?_
        refine so_nil ?_
        refine fi_seq ?_
        replace h := ofP h; rcases h with ⟨c685, h⟩ | ⟨c685, h⟩
        · refine fi_true rfl (decide_eq_true c685) ?_
          refine fi_skip ?_
          refine fi_seq ?_
          refine fi_block ?_
          refine fi_seq ?_
          refine fi_region ?_
          refine so_move (v := (.v (.int .i64 x684))) rfl ?_
          refine so_assign (v := (.v (.int .i64 x684))) rfl ?_
          refine so_nil ?_
          refine fi_seq ?_
          refine fi_region ?_
          refine so_move (v := (.v (.int .i64 a1))) rfl ?_
          refine so_bin rfl rfl ab_add ?_
          refine sv_make hs (eFlt .f32) (0 : Nat) c107 (fun _ => rfl) rfl rfl F13.te55 F13.sz23 F13.by23 F13.ze23 rfl rfl nofun (fun v686 H687 nv686 hs => ?_)
          refine so_assign (v := (.v v686)) rfl ?_
          refine so_nil ?_
          refine fi_seq ?_
          refine fi_region ?_
          refine so_move (v := (.v (.int .i64 a1))) rfl ?_
          refine so_bin rfl rfl ab_add ?_
          refine sv_make hs eBool false c111 (fun _ => rfl) rfl rfl F13.te60 F13.sz4 F13.by4 F13.ze4 rfl rfl nofun (fun v689 H690 nv689 hs => ?_)
          refine so_assign (v := (.v v689)) rfl ?_
          refine so_nil ?_
          refine fi_seq ?_
          refine fi_region ?_
          refine so_move (v := (.v (.int .i64 a1))) rfl ?_
          refine so_bin rfl rfl ab_add ?_
          obtain ⟨c692, h⟩ := h
          refine sv_make hs (eInt .i64) (0 : Int) c692 (fun _ => rfl) rfl rfl F13.te22 F13.sz2 F13.by2 F13.ze2 rfl rfl nofun (fun v693 H694 nv693 hs => ?_)
          refine so_assign (v := (.v v693)) rfl ?_
          refine so_nil ?_
          refine fi_seq ?_
          refine fi_seq ?_
          refine fi_region ?_
          refine so_assign (v := (.v (.int .i64 (0 : Int)))) rfl ?_
          refine so_nil ?_
          refine fi_block ?_
          refine fi_loop ?_
          refine fi_at [(0, (.v v0)), (1, (.v (.int .i64 a1))), (7, (.v v683)), (8, (.v v681)), (10, (.v v677)), (11, (.v (.int .i64 x684))), (12, (.v v686)), (13, (.v v689)), (14, (.v v693)), (15, (.v (.int .i64 (0 : Int)))), (47, (.v (.int .i64 (l0.length : Int)))), (48, (.v (.int .i64 x684)))] ⟨rfl, rfl, rfl, rfl, rfl, rfl, rfl, rfl, rfl, rfl, rfl, rfl, trivial⟩ ?_
          refine h (fun (choice756 : List (Int)) (have757 : List (Bool)) (next758 : List (Nat)) (b759 : Int) => ∀ (s : Nat → TV) (H : Heap), Sep H (Pc.osl v693 1 (enc (eInt .i64) choice756) :: Pc.osl v689 1 (enc eBool have757) :: Pc.osl v686 1 (enc (eFlt .f32) next758) :: dpc v677 1 R_LeInt_i64_o IR_LeInt_i64_o choices676 ws678 S679 :: Pc.osl v681 1 (enc eBool can680) :: Pc.osl v683 1 (enc (eFlt .f32) sums682) :: fr) → Fin _ _ (updL s [(0, (.v v0)), (1, (.v (.int .i64 a1))), (7, (.v v683)), (8, (.v v681)), (10, (.v v677)), (11, (.v (.int .i64 x684))), (12, (.v v686)), (13, (.v v689)), (14, (.v v693)), (15, (.v (.int .i64 b759))), (47, (.v (.int .i64 (l0.length : Int)))), (48, (.v (.int .i64 x684)))]) H _) ?_ _ _ hs
          intro choice756 have757 next758 b759 h s817 H818 hs
          refine fi_inLoop ?_
          refine fi_seq ?_
          refine fi_seq ?_
          refine fi_region ?_
          refine so_move (v := (.v (.int .i64 b759))) rfl ?_
          refine so_move (v := (.v (.int .i64 a1))) rfl ?_
          refine so_bin rfl rfl ab_leq ?_
          refine so_nil ?_
          replace h := ofP h; rcases h with ⟨c760, h⟩ | ⟨c760, h⟩
          · refine fi_true rfl (decide_eq_true c760) ?_
            refine fi_skip ?_
            refine fi_seq ?_
            refine fi_block ?_
            refine fi_seq ?_
            refine fi_region ?_
            refine so_move (v := (.v v0)) rfl ?_
            refine so_move (v := (.v (.int .i64 x684))) rfl ?_
            obtain ⟨c761, h⟩ := h
            refine sd_idx ((g0 _ hs.tl.tl.tl.tl.tl.tl) : DSh _ _ 1 R_LePair_eInt_i64_eFlt_f32_o l0 w0) c761 ([] : List ((Int) × (Nat))) (by decide) rfl rfl F13.tl35 ?_
            refine su_ld ((((g0 _ hs.tl.tl.tl.tl.tl.tl) : DSh _ _ 1 R_LePair_eInt_i64_eFlt_f32_o l0 w0)).at (by decide) c761 ([] : List ((Int) × (Nat)))).2.2 0 (congrArg (fun c => c[0]?) ((((g0 _ hs.tl.tl.tl.tl.tl.tl) : DSh _ _ 1 R_LePair_eInt_i64_eFlt_f32_o l0 w0)).at (by decide) c761 ([] : List ((Int) × (Nat)))).2.1.1) rfl F13.ag47 ?_
            refine sv_len ((((g0 _ hs.tl.tl.tl.tl.tl.tl) : DSh _ _ 1 R_LePair_eInt_i64_eFlt_f32_o l0 w0)).at (by decide) c761 ([] : List ((Int) × (Nat)))).2.1.2 (fun _ => rfl) (by decide) rfl F13.ti47 ?_
            refine so_move (v := (.v (.int .i64 (0 : Int)))) rfl ?_
            refine so_nil ?_
            refine fi_block ?_
            refine fi_loop ?_
            refine fi_at [(0, (.v v0)), (1, (.v (.int .i64 a1))), (7, (.v v683)), (8, (.v v681)), (10, (.v v677)), (11, (.v (.int .i64 x684))), (12, (.v v686)), (13, (.v v689)), (14, (.v v693)), (15, (.v (.int .i64 b759))), (47, (.v (.int .i64 (l0.length : Int)))), (48, (.v (.int .i64 x684))), (69, (.v (.int .i64 ((l0.getD (x684).toNat ([] : List ((Int) × (Nat)))).length : Int)))), (70, (.v (.int .i64 (0 : Int))))] ⟨rfl, rfl, rfl, rfl, rfl, rfl, rfl, rfl, rfl, rfl, rfl, rfl, rfl, rfl, trivial⟩ ?_
            refine h (fun (choice784 : List (Int)) (have785 : List (Bool)) (next786 : List (Nat)) (x787 : Int) => ∀ (s : Nat → TV) (H : Heap), Sep H (Pc.osl v693 1 (enc (eInt .i64) choice784) :: Pc.osl v689 1 (enc eBool have785) :: Pc.osl v686 1 (enc (eFlt .f32) next786) :: dpc v677 1 R_LeInt_i64_o IR_LeInt_i64_o choices676 ws678 S679 :: Pc.osl v681 1 (enc eBool can680) :: Pc.osl v683 1 (enc (eFlt .f32) sums682) :: fr) → Fin _ _ (updL s [(0, (.v v0)), (1, (.v (.int .i64 a1))), (7, (.v v683)), (8, (.v v681)), (10, (.v v677)), (11, (.v (.int .i64 x684))), (12, (.v v686)), (13, (.v v689)), (14, (.v v693)), (15, (.v (.int .i64 b759))), (47, (.v (.int .i64 (l0.length : Int)))), (48, (.v (.int .i64 x684))), (69, (.v (.int .i64 ((l0.getD (x684).toNat ([] : List ((Int) × (Nat)))).length : Int)))), (70, (.v (.int .i64 x787)))]) H _) ?_ _ _ hs
            intro choice784 have785 next786 x787 h s807 H808 hs
            refine fi_inLoop ?_
            refine fi_seq ?_
            refine fi_region ?_
            refine so_bin rfl rfl ab_lss ?_
            refine so_nil ?_
            refine fi_seq ?_
            replace h := ofP h; rcases h with ⟨c788, h⟩ | ⟨c788, h⟩
            · refine fi_true rfl (decide_eq_true c788) ?_
              refine fi_skip ?_
              refine fi_seq ?_
              refine fi_block ?_
              refine fi_seq ?_
              refine fi_region ?_
              refine so_move (v := (.v (.int .i64 x787))) rfl ?_
              refine so_assign (v := (.v (.int .i64 x787))) rfl ?_
              refine so_nil ?_
              refine fi_seq ?_
              refine fi_region ?_
              refine so_move (v := (.v (.int .i64 b759))) rfl ?_
              refine so_move (v := (.v v0)) rfl ?_
              refine so_move (v := (.v (.int .i64 x684))) rfl ?_
              refine sd_idx ((g0 _ hs.tl.tl.tl.tl.tl.tl) : DSh _ _ 1 R_LePair_eInt_i64_eFlt_f32_o l0 w0) c761 ([] : List ((Int) × (Nat))) (by decide) rfl rfl F13.tl35 ?_
              refine su_ld ((((g0 _ hs.tl.tl.tl.tl.tl.tl) : DSh _ _ 1 R_LePair_eInt_i64_eFlt_f32_o l0 w0)).at (by decide) c761 ([] : List ((Int) × (Nat)))).2.2 0 (congrArg (fun c => c[0]?) ((((g0 _ hs.tl.tl.tl.tl.tl.tl) : DSh _ _ 1 R_LePair_eInt_i64_eFlt_f32_o l0 w0)).at (by decide) c761 ([] : List ((Int) × (Nat)))).2.1.1) rfl F13.ag47 ?_
              refine so_move (v := (.v (.int .i64 x787))) rfl ?_
              obtain ⟨c789, h⟩ := h
              refine sv_idx ((((g0 _ hs.tl.tl.tl.tl.tl.tl) : DSh _ _ 1 R_LePair_eInt_i64_eFlt_f32_o l0 w0)).at (by decide) c761 ([] : List ((Int) × (Nat)))).2.1.2 c789 (fun _ => rfl) (by decide) rfl rfl F13.tl47 ?_
              refine so_fieldAddr rfl F13.fd49_0 ?_
              refine sv_cell ((((g0 _ hs.tl.tl.tl.tl.tl.tl) : DSh _ _ 1 R_LePair_eInt_i64_eFlt_f32_o l0 w0)).at (by decide) c761 ([] : List ((Int) × (Nat)))).2.1.2 c789 ((0 : Int), (0 : Nat)) 0 (fun x => (AV.int .i64 x.1)) (fun _ => rfl) (fun _ => rfl) rfl F13.ag2 ?_
              refine so_bin rfl rfl ab_sub ?_
              refine so_assign (v := (.v (.int .i64 (IntKind.i64.wrap (b759 - ((l0.getD (x684).toNat ([] : List ((Int) × (Nat)))).getD (x787).toNat ((0 : Int), (0 : Nat))).1))))) rfl ?_
              refine so_nil ?_
              refine fi_seq ?_
              refine fi_seq ?_
              refine fi_region ?_
              refine so_move (v := (.v (.int .i64 (IntKind.i64.wrap (b759 - ((l0.getD (x684).toNat ([] : List ((Int) × (Nat)))).getD (x787).toNat ((0 : Int), (0 : Nat))).1))))) rfl ?_
              refine so_bin rfl rfl ab_lss ?_
              refine so_move (v := (.v (.bool (decide ((IntKind.i64.wrap (b759 - ((l0.getD (x684).toNat ([] : List ((Int) × (Nat)))).getD (x787).toNat ((0 : Int), (0 : Nat))).1)) < (0 : Int)))))) rfl ?_
              replace h := ofP h; rcases h with ⟨c790, h⟩ | ⟨c790, h⟩
              · refine so_gno rfl (decide_eq_true c790) ?_
                refine so_gno rfl (decide_eq_true c790) ?_
                refine so_gno rfl (decide_eq_true c790) ?_
                refine so_gno rfl (decide_eq_true c790) ?_
                refine so_gno rfl (decide_eq_true c790) ?_
                refine so_pick_t (v := (.v (.bool true))) rfl (decide_eq_true c790) rfl ?_
                refine so_nil ?_
                refine fi_true rfl rfl ?_
                refine fi_exit rfl ?_
                refine fi_region ?_
                refine so_bin rfl rfl ab_add ?_
                refine so_move (v := (.v (.int .i64 (IntKind.i64.wrap (x787 + (1 : Int)))))) rfl ?_
                refine so_nil ?_
                exact fi_at [(0, (.v v0)), (1, (.v (.int .i64 a1))), (7, (.v v683)), (8, (.v v681)), (10, (.v v677)), (11, (.v (.int .i64 x684))), (12, (.v v686)), (13, (.v v689)), (14, (.v v693)), (15, (.v (.int .i64 b759))), (47, (.v (.int .i64 (l0.length : Int)))), (48, (.v (.int .i64 x684))), (69, (.v (.int .i64 ((l0.getD (x684).toNat ([] : List ((Int) × (Nat)))).length : Int)))), (70, (.v (.int .i64 (IntKind.i64.wrap (x787 + (1 : Int))))))] ⟨rfl, rfl, rfl, rfl, rfl, rfl, rfl, rfl, rfl, rfl, rfl, rfl, rfl, rfl, trivial⟩ (h _ _  hs)
              · refine so_gyes rfl (decide_eq_false c790) ?_
                refine so_move (v := (.v v681)) rfl ?_
                refine so_gyes rfl (decide_eq_false c790) ?_
                refine so_move (v := (.v (.int .i64 (IntKind.i64.wrap (b759 - ((l0.getD (x684).toNat ([] : List ((Int) × (Nat)))).getD (x787).toNat ((0 : Int), (0 : Nat))).1))))) rfl ?_
                refine so_gyes rfl (decide_eq_false c790) ?_
                obtain ⟨c791, h⟩ := h
                refine sv_idx (hs.shows 4 rfl) c791 (fun _ => rfl) (by decide) rfl rfl F13.tl60 ?_
                refine so_gyes rfl (decide_eq_false c790) ?_
                refine sv_cell (hs.shows 4 rfl) c791 false 0 (fun x => (AV.bool x)) (fun _ => rfl) (fun _ => rfl) rfl F13.ag4 ?_
                refine so_gyes rfl (decide_eq_false c790) ?_
                refine so_un rfl au_not ?_
                refine so_pick_f (v := (.v (.bool (!(can680.getD ((IntKind.i64.wrap (b759 - ((l0.getD (x684).toNat ([] : List ((Int) × (Nat)))).getD (x787).toNat ((0 : Int), (0 : Nat))).1))).toNat false))))) rfl (decide_eq_false c790) rfl ?_
                refine so_nil ?_
                replace h := ofT h; rcases h with ⟨c792, h⟩ | ⟨c792, h⟩
                · refine fi_false rfl (not_f c792) ?_
                  refine fi_skip ?_
                  refine fi_seq ?_
                  refine fi_region ?_
                  refine so_move (v := (.v v683)) rfl ?_
                  refine so_move (v := (.v (.int .i64 (IntKind.i64.wrap (b759 - ((l0.getD (x684).toNat ([] : List ((Int) × (Nat)))).getD (x787).toNat ((0 : Int), (0 : Nat))).1))))) rfl ?_
                  obtain ⟨c793, h⟩ := h
                  refine sv_idx (hs.shows 5 rfl) c793 (fun _ => rfl) (by decide) rfl rfl F13.tl55 ?_
                  refine sv_cell (hs.shows 5 rfl) c793 (0 : Nat) 0 (fun x => (AV.flt .f32 x)) (fun _ => rfl) (fun _ => rfl) rfl F13.ag23 ?_
                  refine so_move (v := (.v v0)) rfl ?_
                  refine so_move (v := (.v (.int .i64 x684))) rfl ?_
                  refine sd_idx ((g0 _ hs.tl.tl.tl.tl.tl.tl) : DSh _ _ 1 R_LePair_eInt_i64_eFlt_f32_o l0 w0) c761 ([] : List ((Int) × (Nat))) (by decide) rfl rfl F13.tl35 ?_
                  refine su_ld ((((g0 _ hs.tl.tl.tl.tl.tl.tl) : DSh _ _ 1 R_LePair_eInt_i64_eFlt_f32_o l0 w0)).at (by decide) c761 ([] : List ((Int) × (Nat)))).2.2 0 (congrArg (fun c => c[0]?) ((((g0 _ hs.tl.tl.tl.tl.tl.tl) : DSh _ _ 1 R_LePair_eInt_i64_eFlt_f32_o l0 w0)).at (by decide) c761 ([] : List ((Int) × (Nat)))).2.1.1) rfl F13.ag47 ?_
                  refine so_move (v := (.v (.int .i64 x787))) rfl ?_
                  refine sv_idx ((((g0 _ hs.tl.tl.tl.tl.tl.tl) : DSh _ _ 1 R_LePair_eInt_i64_eFlt_f32_o l0 w0)).at (by decide) c761 ([] : List ((Int) × (Nat)))).2.1.2 c789 (fun _ => rfl) (by decide) rfl rfl F13.tl47 ?_
                  refine so_fieldAddr rfl F13.fd49_1 ?_
                  refine sv_cell ((((g0 _ hs.tl.tl.tl.tl.tl.tl) : DSh _ _ 1 R_LePair_eInt_i64_eFlt_f32_o l0 w0)).at (by decide) c761 ([] : List ((Int) × (Nat)))).2.1.2 c789 ((0 : Int), (0 : Nat)) 1 (fun x => (AV.flt .f32 x.2)) (fun _ => rfl) (fun _ => rfl) rfl F13.ag23 ?_
                  refine so_bin rfl rfl ab_fadd ?_
                  refine so_assign (v := (.v (.flt .f32 (fop .add .f32 (sums682.getD ((IntKind.i64.wrap (b759 - ((l0.getD (x684).toNat ([] : List ((Int) × (Nat)))).getD (x787).toNat ((0 : Int), (0 : Nat))).1))).toNat (0 : Nat)) ((l0.getD (x684).toNat ([] : List ((Int) × (Nat)))).getD (x787).toNat ((0 : Int), (0 : Nat))).2)))) rfl ?_
                  refine so_nil ?_
                  refine fi_seq ?_
                  refine fi_region ?_
                  refine so_move (v := (.v v689)) rfl ?_
                  refine so_move (v := (.v (.int .i64 b759))) rfl ?_
                  obtain ⟨c794, h⟩ := h
                  refine sv_idx (hs.shows 1 rfl) c794 (fun _ => rfl) (by decide) rfl rfl F13.tl60 ?_
                  refine sv_cell (hs.shows 1 rfl) c794 false 0 (fun x => (AV.bool x)) (fun _ => rfl) (fun _ => rfl) rfl F13.ag4 ?_
                  refine so_un rfl au_not ?_
                  refine so_move (v := (.v (.bool (!(have785.getD (b759).toNat false))))) rfl ?_
                  replace h := ofT h; rcases h with ⟨c795, h⟩ | ⟨c795, h⟩
                  · refine so_gyes rfl (not_f c795) ?_
                    refine so_move (v := (.v (.flt .f32 (fop .add .f32 (sums682.getD ((IntKind.i64.wrap (b759 - ((l0.getD (x684).toNat ([] : List ((Int) × (Nat)))).getD (x787).toNat ((0 : Int), (0 : Nat))).1))).toNat (0 : Nat)) ((l0.getD (x684).toNat ([] : List ((Int) × (Nat)))).getD (x787).toNat ((0 : Int), (0 : Nat))).2)))) rfl ?_
                    refine so_gyes rfl (not_f c795) ?_
                    refine so_move (v := (.v v686)) rfl ?_
                    refine so_gyes rfl (not_f c795) ?_
                    refine so_move (v := (.v (.int .i64 b759))) rfl ?_
                    refine so_gyes rfl (not_f c795) ?_
                    obtain ⟨c796, h⟩ := h
                    refine sv_idx (hs.shows 2 rfl) c796 (fun _ => rfl) (by decide) rfl rfl F13.tl55 ?_
                    refine so_gyes rfl (not_f c795) ?_
                    refine sv_cell (hs.shows 2 rfl) c796 (0 : Nat) 0 (fun x => (AV.flt .f32 x)) (fun _ => rfl) (fun _ => rfl) rfl F13.ag23 ?_
                    refine so_gyes rfl (not_f c795) ?_
                    refine so_bin rfl rfl ab_flss ?_
                    refine so_pick_f (v := (.v (.bool (fcmp .lss .f32 (fop .add .f32 (sums682.getD ((IntKind.i64.wrap (b759 - ((l0.getD (x684).toNat ([] : List ((Int) × (Nat)))).getD (x787).toNat ((0 : Int), (0 : Nat))).1))).toNat (0 : Nat)) ((l0.getD (x684).toNat ([] : List ((Int) × (Nat)))).getD (x787).toNat ((0 : Int), (0 : Nat))).2) (next786.getD (b759).toNat (0 : Nat)))))) rfl (not_f c795) rfl ?_
                    refine so_nil ?_
                    replace h := ofT h; rcases h with ⟨c797, h⟩ | ⟨c797, h⟩
                    · refine fi_true rfl c797 ?_
                      refine fi_seq ?_
                      refine fi_region ?_
                      refine so_move (v := (.v v689)) rfl ?_
                      refine so_move (v := (.v (.int .i64 b759))) rfl ?_
                      refine sv_idx (hs.shows 1 rfl) c794 (fun _ => rfl) (by decide) rfl rfl F13.tl60 ?_
                      refine sv_set hs 1 rfl c794 true (fun _ => rfl) (by decide) rfl rfl rfl rfl F13.sz4 nofun (fun H798 hs => ?_)
                      refine so_nil ?_
                      refine fi_seq ?_
                      refine fi_region ?_
                      refine so_move (v := (.v v686)) rfl ?_
                      refine so_move (v := (.v (.int .i64 b759))) rfl ?_
                      refine so_move (v := (.v (.flt .f32 (fop .add .f32 (sums682.getD ((IntKind.i64.wrap (b759 - ((l0.getD (x684).toNat ([] : List ((Int) × (Nat)))).getD (x787).toNat ((0 : Int), (0 : Nat))).1))).toNat (0 : Nat)) ((l0.getD (x684).toNat ([] : List ((Int) × (Nat)))).getD (x787).toNat ((0 : Int), (0 : Nat))).2)))) rfl ?_
                      refine sv_idx (hs.shows 2 rfl) c796 (fun _ => rfl) (by decide) rfl rfl F13.tl55 ?_
                      refine sv_set hs 2 rfl c796 (fop .add .f32 (sums682.getD ((IntKind.i64.wrap (b759 - ((l0.getD (x684).toNat ([] : List ((Int) × (Nat)))).getD (x787).toNat ((0 : Int), (0 : Nat))).1))).toNat (0 : Nat)) ((l0.getD (x684).toNat ([] : List ((Int) × (Nat)))).getD (x787).toNat ((0 : Int), (0 : Nat))).2) (fun _ => rfl) (by decide) rfl rfl rfl rfl F13.sz23 nofun (fun H799 hs => ?_)
                      refine so_nil ?_
                      refine fi_region ?_
                      refine so_move (v := (.v v693)) rfl ?_
                      refine so_move (v := (.v (.int .i64 b759))) rfl ?_
                      refine so_move (v := (.v (.int .i64 x787))) rfl ?_
                      obtain ⟨c800, h⟩ := h
                      refine sv_idx (hs.shows 0 rfl) c800 (fun _ => rfl) (by decide) rfl rfl F13.tl22 ?_
                      refine sv_set hs 0 rfl c800 x787 (fun _ => rfl) (by decide) rfl rfl rfl rfl F13.sz2 nofun (fun H801 hs => ?_)
                      refine so_nil ?_
                      refine fi_inBlock ?_
                      refine fi_region ?_
                      refine so_bin rfl rfl ab_add ?_
                      refine so_move (v := (.v (.int .i64 (IntKind.i64.wrap (x787 + (1 : Int)))))) rfl ?_
                      refine so_nil ?_
                      exact fi_at [(0, (.v v0)), (1, (.v (.int .i64 a1))), (7, (.v v683)), (8, (.v v681)), (10, (.v v677)), (11, (.v (.int .i64 x684))), (12, (.v v686)), (13, (.v v689)), (14, (.v v693)), (15, (.v (.int .i64 b759))), (47, (.v (.int .i64 (l0.length : Int)))), (48, (.v (.int .i64 x684))), (69, (.v (.int .i64 ((l0.getD (x684).toNat ([] : List ((Int) × (Nat)))).length : Int)))), (70, (.v (.int .i64 (IntKind.i64.wrap (x787 + (1 : Int))))))] ⟨rfl, rfl, rfl, rfl, rfl, rfl, rfl, rfl, rfl, rfl, rfl, rfl, rfl, rfl, trivial⟩ (h _ _  hs)
                    · refine fi_false rfl c797 ?_
                      refine fi_skip ?_
                      refine fi_inBlock ?_
                      refine fi_region ?_
                      refine so_bin rfl rfl ab_add ?_
                      refine so_move (v := (.v (.int .i64 (IntKind.i64.wrap (x787 + (1 : Int)))))) rfl ?_
                      refine so_nil ?_
                      exact fi_at [(0, (.v v0)), (1, (.v (.int .i64 a1))), (7, (.v v683)), (8, (.v v681)), (10, (.v v677)), (11, (.v (.int .i64 x684))), (12, (.v v686)), (13, (.v v689)), (14, (.v v693)), (15, (.v (.int .i64 b759))), (47, (.v (.int .i64 (l0.length : Int)))), (48, (.v (.int .i64 x684))), (69, (.v (.int .i64 ((l0.getD (x684).toNat ([] : List ((Int) × (Nat)))).length : Int)))), (70, (.v (.int .i64 (IntKind.i64.wrap (x787 + (1 : Int))))))] ⟨rfl, rfl, rfl, rfl, rfl, rfl, rfl, rfl, rfl, rfl, rfl, rfl, rfl, rfl, trivial⟩ (h _ _  hs)
                  · refine so_gno rfl (not_t c795) ?_
                    refine so_gno rfl (not_t c795) ?_
                    refine so_gno rfl (not_t c795) ?_
                    refine so_gno rfl (not_t c795) ?_
                    refine so_gno rfl (not_t c795) ?_
                    refine so_gno rfl (not_t c795) ?_
                    refine so_pick_t (v := (.v (.bool true))) rfl (not_t c795) rfl ?_
                    refine so_nil ?_
                    refine fi_true rfl rfl ?_
                    refine fi_seq ?_
                    refine fi_region ?_
                    refine so_move (v := (.v v689)) rfl ?_
                    refine so_move (v := (.v (.int .i64 b759))) rfl ?_
                    refine sv_idx (hs.shows 1 rfl) c794 (fun _ => rfl) (by decide) rfl rfl F13.tl60 ?_
                    refine sv_set hs 1 rfl c794 true (fun _ => rfl) (by decide) rfl rfl rfl rfl F13.sz4 nofun (fun H802 hs => ?_)
                    refine so_nil ?_
                    refine fi_seq ?_
                    refine fi_region ?_
                    refine so_move (v := (.v v686)) rfl ?_
                    refine so_move (v := (.v (.int .i64 b759))) rfl ?_
                    refine so_move (v := (.v (.flt .f32 (fop .add .f32 (sums682.getD ((IntKind.i64.wrap (b759 - ((l0.getD (x684).toNat ([] : List ((Int) × (Nat)))).getD (x787).toNat ((0 : Int), (0 : Nat))).1))).toNat (0 : Nat)) ((l0.getD (x684).toNat ([] : List ((Int) × (Nat)))).getD (x787).toNat ((0 : Int), (0 : Nat))).2)))) rfl ?_
                    obtain ⟨c803, h⟩ := h
                    refine sv_idx (hs.shows 2 rfl) c803 (fun _ => rfl) (by decide) rfl rfl F13.tl55 ?_
                    refine sv_set hs 2 rfl c803 (fop .add .f32 (sums682.getD ((IntKind.i64.wrap (b759 - ((l0.getD (x684).toNat ([] : List ((Int) × (Nat)))).getD (x787).toNat ((0 : Int), (0 : Nat))).1))).toNat (0 : Nat)) ((l0.getD (x684).toNat ([] : List ((Int) × (Nat)))).getD (x787).toNat ((0 : Int), (0 : Nat))).2) (fun _ => rfl) (by decide) rfl rfl rfl rfl F13.sz23 nofun (fun H804 hs => ?_)
                    refine so_nil ?_
                    refine fi_region ?_
                    refine so_move (v := (.v v693)) rfl ?_
                    refine so_move (v := (.v (.int .i64 b759))) rfl ?_
                    refine so_move (v := (.v (.int .i64 x787))) rfl ?_
                    obtain ⟨c805, h⟩ := h
                    refine sv_idx (hs.shows 0 rfl) c805 (fun _ => rfl) (by decide) rfl rfl F13.tl22 ?_
                    refine sv_set hs 0 rfl c805 x787 (fun _ => rfl) (by decide) rfl rfl rfl rfl F13.sz2 nofun (fun H806 hs => ?_)
                    refine so_nil ?_
                    refine fi_inBlock ?_
                    refine fi_region ?_
                    refine so_bin rfl rfl ab_add ?_
                    refine so_move (v := (.v (.int .i64 (IntKind.i64.wrap (x787 + (1 : Int)))))) rfl ?_
                    refine so_nil ?_
                    exact fi_at [(0, (.v v0)), (1, (.v (.int .i64 a1))), (7, (.v v683)), (8, (.v v681)), (10, (.v v677)), (11, (.v (.int .i64 x684))), (12, (.v v686)), (13, (.v v689)), (14, (.v v693)), (15, (.v (.int .i64 b759))), (47, (.v (.int .i64 (l0.length : Int)))), (48, (.v (.int .i64 x684))), (69, (.v (.int .i64 ((l0.getD (x684).toNat ([] : List ((Int) × (Nat)))).length : Int)))), (70, (.v (.int .i64 (IntKind.i64.wrap (x787 + (1 : Int))))))] ⟨rfl, rfl, rfl, rfl, rfl, rfl, rfl, rfl, rfl, rfl, rfl, rfl, rfl, rfl, trivial⟩ (h _ _  hs)
                · refine fi_true rfl (not_t c792) ?_
                  refine fi_exit rfl ?_
                  refine fi_region ?_
                  refine so_bin rfl rfl ab_add ?_
                  refine so_move (v := (.v (.int .i64 (IntKind.i64.wrap (x787 + (1 : Int)))))) rfl ?_
                  refine so_nil ?_
                  exact fi_at [(0, (.v v0)), (1, (.v (.int .i64 a1))), (7, (.v v683)), (8, (.v v681)), (10, (.v v677)), (11, (.v (.int .i64 x684))), (12, (.v v686)), (13, (.v v689)), (14, (.v v693)), (15, (.v (.int .i64 b759))), (47, (.v (.int .i64 (l0.length : Int)))), (48, (.v (.int .i64 x684))), (69, (.v (.int .i64 ((l0.getD (x684).toNat ([] : List ((Int) × (Nat)))).length : Int)))), (70, (.v (.int .i64 (IntKind.i64.wrap (x787 + (1 : Int))))))] ⟨rfl, rfl, rfl, rfl, rfl, rfl, rfl, rfl, rfl, rfl, rfl, rfl, rfl, rfl, trivial⟩ (h _ _  hs)
            · refine fi_false rfl (decide_eq_false c788) ?_
              refine fi_exit rfl ?_
              refine fi_inBlock ?_
              refine fi_region ?_
              refine so_move (v := (.v (.int .i64 b759))) rfl ?_
              refine so_bin rfl rfl ab_add ?_
              refine so_assign (v := (.v (.int .i64 (IntKind.i64.wrap (b759 + (1 : Int)))))) rfl ?_
              refine so_nil ?_
              exact fi_at [(0, (.v v0)), (1, (.v (.int .i64 a1))), (7, (.v v683)), (8, (.v v681)), (10, (.v v677)), (11, (.v (.int .i64 x684))), (12, (.v v686)), (13, (.v v689)), (14, (.v v693)), (15, (.v (.int .i64 (IntKind.i64.wrap (b759 + (1 : Int)))))), (47, (.v (.int .i64 (l0.length : Int)))), (48, (.v (.int .i64 x684)))] ⟨rfl, rfl, rfl, rfl, rfl, rfl, rfl, rfl, rfl, rfl, rfl, rfl, trivial⟩ (h _ _  hs)
          · refine fi_false rfl (decide_eq_false c760) ?_
            refine fi_exit rfl ?_
            refine fi_seq ?_
            refine fi_region ?_
            refine so_move (v := (.v v686)) rfl ?_
            refine so_assign (v := (.v v686)) rfl ?_
            refine so_nil ?_
            refine fi_seq ?_
            refine fi_region ?_
            refine so_move (v := (.v v689)) rfl ?_
            refine so_assign (v := (.v v689)) rfl ?_
            refine so_nil ?_
            refine fi_region ?_
            refine so_move (v := (.v v677)) rfl ?_
            refine so_move (v := (.v v693)) rfl ?_
            refine sd_bslice hs [[v693]] F13.te72 F13.sz22 F13.ze22 rfl rfl rfl (by simp) (fac (stc (hs.shows 0 rfl).stor stn) fan) (by decide) rfl nofun (fun v809 H810 _ hs => ?_)
            obtain ⟨c812, h⟩ := h
            replace hs := Sep.front 1 hs rfl
            refine sk_app hs 3 rfl choice756 [v693] (hs.tl.shows 0 rfl) (fun _ hh => ⟨rfl, hh⟩) rfl rfl (by decide) F13.ta72_72 (by decide) c812 rfl rfl nofun (fun v813 ws814 S815 H816 hs => ?_)
            replace hs := hs.del 0
            refine so_assign (v := (.v v813)) rfl ?_
            refine so_nil ?_
            refine fi_inBlock ?_
            refine fi_region ?_
            refine so_bin rfl rfl ab_add ?_
            refine so_move (v := (.v (.int .i64 (IntKind.i64.wrap (x684 + (1 : Int)))))) rfl ?_
            refine so_nil ?_
            exact fi_at [(0, (.v v0)), (1, (.v (.int .i64 a1))), (7, (.v v686)), (8, (.v v689)), (10, (.v v813)), (47, (.v (.int .i64 (l0.length : Int)))), (48, (.v (.int .i64 (IntKind.i64.wrap (x684 + (1 : Int))))))] ⟨rfl, rfl, rfl, rfl, rfl, rfl, rfl, trivial⟩ (h _ _ _ _ _ _ nv689 _ nv686 (Sep.front 2 (Sep.front 1 (Sep.front 1 (Sep.del 3 (Sep.del 3 hs)) rfl) rfl) rfl))
        · refine fi_false rfl (decide_eq_false c685) ?_
          refine fi_exit rfl ?_
          refine fi_seq ?_
          refine fi_seq ?_
          refine fi_region ?_
          refine so_move (v := (.v v681)) rfl ?_
          refine so_move (v := (.v (.int .i64 a1))) rfl ?_
          obtain ⟨c819, h⟩ := h
          refine sv_idx (hs.shows 1 rfl) c819 (fun _ => rfl) (by decide) rfl rfl F13.tl60 ?_
          refine sv_cell (hs.shows 1 rfl) c819 false 0 (fun x => (AV.bool x)) (fun _ => rfl) (fun _ => rfl) rfl F13.ag4 ?_
          refine so_un rfl au_not ?_
          refine so_move (v := (.v (.bool (!(can680.getD (a1).toNat false))))) rfl ?_
          replace h := ofT h; rcases h with ⟨c820, h⟩ | ⟨c820, h⟩
          · refine so_gyes rfl (not_f c820) ?_
            refine so_move (v := (.v v683)) rfl ?_
            refine so_gyes rfl (not_f c820) ?_
            refine so_move (v := (.v (.int .i64 a1))) rfl ?_
            refine so_gyes rfl (not_f c820) ?_
            obtain ⟨c821, h⟩ := h
            refine sv_idx (hs.shows 2 rfl) c821 (fun _ => rfl) (by decide) rfl rfl F13.tl55 ?_
            refine so_gyes rfl (not_f c820) ?_
            refine sv_cell (hs.shows 2 rfl) c821 (0 : Nat) 0 (fun x => (AV.flt .f32 x)) (fun _ => rfl) (fun _ => rfl) rfl F13.ag23 ?_
            refine so_gyes rfl (not_f c820) ?_
            refine sv_callS (spec_l01Finite_ok (sums682.getD (a1).toNat (0 : Nat)) hs  _ h) (fun _ _ ⟨_, _, _, e⟩ => e) rfl rfl ?_
            clear h
            rintro _ _ ⟨y822, h, rfl, rfl⟩
            refine so_gyes rfl (not_f c820) ?_
            refine so_un rfl au_not ?_
            refine so_pick_f (v := (.v (.bool (!y822)))) rfl (not_f c820) rfl ?_
            refine so_nil ?_
            replace h := ofT h; rcases h with ⟨c824, h⟩ | ⟨c824, h⟩
            · refine fi_false rfl (not_f c824) ?_
              refine fi_skip ?_
              refine fi_seq ?_
              refine fi_region ?_
              refine so_move (v := (.v v0)) rfl ?_
              refine sd_len ((g0 _ hs.tl.tl.tl) : DSh _ _ 1 R_LePair_eInt_i64_eFlt_f32_o l0 w0) (by decide) rfl F13.ti35 ?_
              obtain ⟨c825, h⟩ := h
              refine sv_make hs (eInt .i64) (0 : Int) c825 (fun _ => rfl) rfl rfl F13.te22 F13.sz2 F13.by2 F13.ze2 rfl rfl nofun (fun v826 H827 nv826 hs => ?_)
              refine so_assign (v := (.v v826)) rfl ?_
              refine so_nil ?_
              refine fi_seq ?_
              refine fi_region ?_
              refine so_move (v := (.v (.int .i64 a1))) rfl ?_
              refine so_assign (v := (.v (.int .i64 a1))) rfl ?_
              refine so_nil ?_
              refine fi_seq ?_
              refine fi_seq ?_
              refine fi_region ?_
              refine so_move (v := (.v v0)) rfl ?_
              refine sd_len ((g0 _ hs.tl.tl.tl.tl) : DSh _ _ 1 R_LePair_eInt_i64_eFlt_f32_o l0 w0) (by decide) rfl F13.ti35 ?_
              refine so_bin rfl rfl ab_sub ?_
              refine so_assign (v := (.v (.int .i64 (IntKind.i64.wrap ((l0.length : Int) - (1 : Int)))))) rfl ?_
              refine so_nil ?_
              refine fi_block ?_
              refine fi_loop ?_
              replace hs := hs.del 2
              refine fi_at [(0, (.v v0)), (1, (.v (.int .i64 a1))), (7, (.v v683)), (10, (.v v677)), (19, (.v v826)), (20, (.v (.int .i64 a1))), (21, (.v (.int .i64 (IntKind.i64.wrap ((l0.length : Int) - (1 : Int))))))] ⟨rfl, rfl, rfl, rfl, rfl, rfl, rfl, trivial⟩ ?_
              refine h (fun (out841 : List (Int)) (atq842 : Int) (i843 : Int) => ∀ (s : Nat → TV) (H : Heap), Sep H (Pc.osl v826 1 (enc (eInt .i64) out841) :: dpc v677 1 R_LeInt_i64_o IR_LeInt_i64_o choices676 ws678 S679 :: Pc.osl v683 1 (enc (eFlt .f32) sums682) :: fr) → Fin _ _ (updL s [(0, (.v v0)), (1, (.v (.int .i64 a1))), (7, (.v v683)), (10, (.v v677)), (19, (.v v826)), (20, (.v (.int .i64 atq842))), (21, (.v (.int .i64 i843)))]) H _) ?_ _ _ hs
              intro out841 atq842 i843 h s852 H853 hs
              refine fi_inLoop ?_
              refine fi_seq ?_
              refine fi_seq ?_
              refine fi_region ?_
              refine so_move (v := (.v (.int .i64 i843))) rfl ?_
              refine so_bin rfl rfl ab_geq ?_
              refine so_nil ?_
              replace h := ofP h; rcases h with ⟨c844, h⟩ | ⟨c844, h⟩
              · refine fi_true rfl (decide_eq_true c844) ?_
                refine fi_skip ?_
                refine fi_seq ?_
                refine fi_block ?_
                refine fi_seq ?_
                refine fi_region ?_
                refine so_move (v := (.v v826)) rfl ?_
                refine so_move (v := (.v (.int .i64 i843))) rfl ?_
                refine so_move (v := (.v v677)) rfl ?_
                refine so_move (v := (.v (.int .i64 i843))) rfl ?_
                obtain ⟨c845, h⟩ := h
                refine sd_idx ((hs.dshows 1 rfl) : DSh _ _ 1 R_LeInt_i64_o choices676 ws678) c845 ([] : List (Int)) (by decide) rfl rfl F13.tl72 ?_
                refine su_ld ((((hs.dshows 1 rfl) : DSh _ _ 1 R_LeInt_i64_o choices676 ws678)).at (by decide) c845 ([] : List (Int))).2.2 0 (congrArg (fun c => c[0]?) ((((hs.dshows 1 rfl) : DSh _ _ 1 R_LeInt_i64_o choices676 ws678)).at (by decide) c845 ([] : List (Int))).2.1.1) rfl F13.ag22 ?_
                refine so_move (v := (.v (.int .i64 atq842))) rfl ?_
                obtain ⟨c846, h⟩ := h
                refine sv_idx ((((hs.dshows 1 rfl) : DSh _ _ 1 R_LeInt_i64_o choices676 ws678)).at (by decide) c845 ([] : List (Int))).2.1.2 c846 (fun _ => rfl) (by decide) rfl rfl F13.tl22 ?_
                refine sv_cell ((((hs.dshows 1 rfl) : DSh _ _ 1 R_LeInt_i64_o choices676 ws678)).at (by decide) c845 ([] : List (Int))).2.1.2 c846 (0 : Int) 0 (fun x => (AV.int .i64 x)) (fun _ => rfl) (fun _ => rfl) rfl F13.ag2 ?_
                obtain ⟨c847, h⟩ := h
                refine sv_idx (hs.shows 0 rfl) c847 (fun _ => rfl) (by decide) rfl rfl F13.tl22 ?_
                refine sv_set hs 0 rfl c847 ((choices676.getD (i843).toNat ([] : List (Int))).getD (atq842).toNat (0 : Int)) (fun _ => rfl) (by decide) rfl rfl rfl rfl F13.sz2 nofun (fun H848 hs => ?_)
                refine so_nil ?_
                refine fi_region ?_
                refine so_move (v := (.v (.int .i64 atq842))) rfl ?_
                refine so_move (v := (.v v0)) rfl ?_
                refine so_move (v := (.v (.int .i64 i843))) rfl ?_
                obtain ⟨c849, h⟩ := h
                refine sd_idx ((g0 _ hs.tl.tl.tl) : DSh _ _ 1 R_LePair_eInt_i64_eFlt_f32_o l0 w0) c849 ([] : List ((Int) × (Nat))) (by decide) rfl rfl F13.tl35 ?_
                refine su_ld ((((g0 _ hs.tl.tl.tl) : DSh _ _ 1 R_LePair_eInt_i64_eFlt_f32_o l0 w0)).at (by decide) c849 ([] : List ((Int) × (Nat)))).2.2 0 (congrArg (fun c => c[0]?) ((((g0 _ hs.tl.tl.tl) : DSh _ _ 1 R_LePair_eInt_i64_eFlt_f32_o l0 w0)).at (by decide) c849 ([] : List ((Int) × (Nat)))).2.1.1) rfl F13.ag47 ?_
                refine so_move (v := (.v v826)) rfl ?_
                refine so_move (v := (.v (.int .i64 i843))) rfl ?_
                obtain ⟨c850, h⟩ := h
                refine sv_idx (hs.shows 0 rfl) c850 (fun _ => rfl) (by decide) rfl rfl F13.tl22 ?_
                refine sv_cell (hs.shows 0 rfl) c850 (0 : Int) 0 (fun x => (AV.int .i64 x)) (fun _ => rfl) (fun _ => rfl) rfl F13.ag2 ?_
                obtain ⟨c851, h⟩ := h
                refine sv_idx ((((g0 _ hs.tl.tl.tl) : DSh _ _ 1 R_LePair_eInt_i64_eFlt_f32_o l0 w0)).at (by decide) c849 ([] : List ((Int) × (Nat)))).2.1.2 c851 (fun _ => rfl) (by decide) rfl rfl F13.tl47 ?_
                refine so_fieldAddr rfl F13.fd49_0 ?_
                refine sv_cell ((((g0 _ hs.tl.tl.tl) : DSh _ _ 1 R_LePair_eInt_i64_eFlt_f32_o l0 w0)).at (by decide) c849 ([] : List ((Int) × (Nat)))).2.1.2 c851 ((0 : Int), (0 : Nat)) 0 (fun x => (AV.int .i64 x.1)) (fun _ => rfl) (fun _ => rfl) rfl F13.ag2 ?_
                refine so_bin rfl rfl ab_sub ?_
                refine so_assign (v := (.v (.int .i64 (IntKind.i64.wrap (atq842 - ((l0.getD (i843).toNat ([] : List ((Int) × (Nat)))).getD (((out841.set (i843).toNat ((choices676.getD (i843).toNat ([] : List (Int))).getD (atq842).toNat (0 : Int))).getD (i843).toNat (0 : Int))).toNat ((0 : Int), (0 : Nat))).1))))) rfl ?_
                refine so_nil ?_
                refine fi_inBlock ?_
                refine fi_region ?_
                refine so_move (v := (.v (.int .i64 i843))) rfl ?_
                refine so_bin rfl rfl ab_sub ?_
                refine so_assign (v := (.v (.int .i64 (IntKind.i64.wrap (i843 - (1 : Int)))))) rfl ?_
                refine so_nil ?_
                exact fi_at [(0, (.v v0)), (1, (.v (.int .i64 a1))), (7, (.v v683)), (10, (.v v677)), (19, (.v v826)), (20, (.v (.int .i64 (IntKind.i64.wrap (atq842 - ((l0.getD (i843).toNat ([] : List ((Int) × (Nat)))).getD (((out841.set (i843).toNat ((choices676.getD (i843).toNat ([] : List (Int))).getD (atq842).toNat (0 : Int))).getD (i843).toNat (0 : Int))).toNat ((0 : Int), (0 : Nat))).1))))), (21, (.v (.int .i64 (IntKind.i64.wrap (i843 - (1 : Int))))))] ⟨rfl, rfl, rfl, rfl, rfl, rfl, rfl, trivial⟩ (h _ _  hs)
              · refine fi_false rfl (decide_eq_false c844) ?_
                refine fi_exit rfl ?_
                refine fi_seq ?_
                refine fi_region ?_
                refine so_move (v := (.v v826)) rfl ?_
                refine so_move (v := (.v v683)) rfl ?_
                refine so_move (v := (.v (.int .i64 a1))) rfl ?_
                refine sv_idx (hs.shows 2 rfl) c821 (fun _ => rfl) (by decide) rfl rfl F13.tl55 ?_
                refine sv_cell (hs.shows 2 rfl) c821 (0 : Nat) 0 (fun x => (AV.flt .f32 x)) (fun _ => rfl) (fun _ => rfl) rfl F13.ag23 ?_
                refine so_assign (v := (.v v826)) rfl ?_
                refine so_assign (v := (.v (.flt .f32 (sums682.getD (a1).toNat (0 : Nat))))) rfl ?_
                refine so_assign (v := (.v (.bool true))) rfl ?_
                refine so_nil ?_
                exact by_ret rfl ⟨_, _, _, h, _, rfl, (Sep.del 1 (Sep.del 1 hs))⟩
            · refine fi_true rfl (not_t c824) ?_
              refine fi_seq ?_
              refine fi_region ?_
              refine so_assign (v := (.v .nilsl)) rfl ?_
              refine so_assign (v := (.v (.flt .f32 (cz .f32 0)))) rfl ?_
              refine so_assign (v := (.v (.bool false))) rfl ?_
              refine so_nil ?_
              exact by_ret rfl ⟨_, _, _, h, _, rfl, (Sep.nil (Sep.del 0 (Sep.del 0 (Sep.del 0 hs))) 1)⟩
          · refine so_gno rfl (not_t c820) ?_
            refine so_gno rfl (not_t c820) ?_
            refine so_gno rfl (not_t c820) ?_
            refine so_gno rfl (not_t c820) ?_
            refine so_gno rfl (not_t c820) ?_
            refine so_gno rfl (not_t c820) ?_
            refine so_pick_t (v := (.v (.bool true))) rfl (not_t c820) rfl ?_
            refine so_nil ?_
            refine fi_true rfl rfl ?_
            refine fi_seq ?_
            refine fi_region ?_
            refine so_assign (v := (.v .nilsl)) rfl ?_
            refine so_assign (v := (.v (.flt .f32 (cz .f32 0)))) rfl ?_
            refine so_assign (v := (.v (.bool false))) rfl ?_
            refine so_nil ?_
            exact by_ret rfl ⟨_, _, _, h, _, rfl, (Sep.nil (Sep.del 0 (Sep.del 0 (Sep.del 0 hs))) 1)⟩
    · refine fi_true rfl (not_t c106) ?_
      refine fi_seq ?_
      refine fi_region ?_
      refine so_assign (v := (.v .nilsl)) rfl ?_
      refine so_assign (v := (.v (.flt .f32 (cz .f32 0)))) rfl ?_
      refine so_assign (v := (.v (.bool false))) rfl ?_
      refine so_nil ?_
      exact by_ret rfl ⟨_, _, _, h, _, rfl, (Sep.nil hs 1)⟩
  · refine so_gno rfl (not_t c103) ?_
    refine so_gno rfl (not_t c103) ?_
    refine so_gno rfl (not_t c103) ?_
    refine so_pick_t (v := (.v (.bool true))) rfl (not_t c103) rfl ?_
    refine so_nil ?_
    refine fi_true rfl rfl ?_
    refine fi_seq ?_
    refine fi_region ?_
    refine so_assign (v := (.v .nilsl)) rfl ?_
    refine so_assign (v := (.v (.flt .f32 (cz .f32 0)))) rfl ?_
    refine so_assign (v := (.v (.bool false))) rfl ?_
    refine so_nil ?_
    exact by_ret rfl ⟨_, _, _, h, _, rfl, (Sep.nil hs 1)⟩

end Go.Proofs.Ytecdkjnomkdbkaa.G

namespace Go.Proofs.Ytecdkjnomkdbkaa.G
open Go Go.Ab Go.Proofs Go.Proofs.Ytecdkjnomkdbkaa
set_option maxRecDepth 100000
set_option linter.unusedVariables false
set_option linter.unusedSimpArgs false
set_option maxHeartbeats 1000000
attribute [local irreducible] wops wopf Go.Ab.Fin
theorem F82.ag2 : tagg Try.prog 2 = some false := by kernel_rfl
theorem F82.ag23 : tagg Try.prog 23 = some false := by kernel_rfl
theorem F82.ag49 : tagg Try.prog 49 = some true := by kernel_rfl
theorem F82.fd108_0 : tfield Try.prog 108 0 = some (0, 1, false) := by kernel_rfl
theorem F82.fd108_1 : tfield Try.prog 108 1 = some (1, 1, false) := by kernel_rfl
theorem F82.fd49_0 : tfield Try.prog 49 0 = some (0, 1, false) := by kernel_rfl
theorem F82.fd49_1 : tfield Try.prog 49 1 = some (1, 1, false) := by kernel_rfl
theorem F82.inf108 : (Try.prog.info? 108).isSome = true := by kernel_rfl
theorem F82.sz2 : tsz Try.prog 2 = some 1 := by kernel_rfl
theorem F82.sz23 : tsz Try.prog 23 = some 1 := by kernel_rfl
theorem F82.sz49 : tsz Try.prog 49 = some 2 := by kernel_rfl
theorem F82.ze49 : tzero Try.prog 49 = some [(.int .i64 (0 : Int)), (.flt .f32 (0 : Nat))] := by kernel_rfl
theorem laws_toCost_ok {fr : List Pc} {H : Heap} (a0 : Int) (a1 : Nat) (hs : Sep H (fr))  (K : Int → Nat → Prop) (h : laws_toCost.wp a0 a1 K) : OkQ Try.prog 82 [(.g [(.int .i64 a0), (.flt .f32 a1)])] H (fun r H2 => ∃ (y0 : Int) (y1 : Nat), K y0 y1 ∧ r = (.g [(.int .i64 y0), (.flt .f32 y1)]) ∧ Sep H2 (fr)) := by
  unfold laws_toCost.wp at h
  refine of_body Try.f82 F.hm Try.func82 rfl Try.call82 (by kernel_rfl) (by simp) ?_
  refine fi_seq ?_
  refine fi_region ?_
  refine sv_box hs rfl (c := [(.int .i64 a0), (.flt .f32 a1)]) rfl F82.inf108 (stc rfl (stc rfl stn)) nofun (fun id101 H102 hs => ?_)
  refine sv_alloc hs F82.ze49 rfl nofun (fun id104 H105 hs => ?_)
  refine so_nil ?_
  refine fi_seq ?_
  refine fi_region ?_
  refine sv_alloc hs F82.ze49 rfl nofun (fun id107 H108 hs => ?_)
  refine so_nil ?_
  refine fi_seq ?_
  refine fi_region ?_
  refine so_fieldAddr rfl F82.fd108_0 ?_
  refine sv_ld hs 2 rfl rfl rfl F82.ag2 ?_
  refine so_fieldAddr rfl F82.fd49_0 ?_
  refine sv_st hs 0 rfl rfl rfl (c := [(.int .i64 a0)]) rfl F82.sz2 rfl (stc rfl stn) (leb rfl) (cs' := [(.int .i64 a0), (.flt .f32 (0 : Nat))]) rfl nofun (fun H110 hs => ?_)
  refine so_nil ?_
  refine fi_seq ?_
  refine fi_region ?_
  refine so_fieldAddr rfl F82.fd108_1 ?_
  refine sv_ld hs 2 rfl rfl rfl F82.ag23 ?_
  refine so_fieldAddr rfl F82.fd49_1 ?_
  refine sv_st hs 0 rfl rfl rfl (c := [(.flt .f32 a1)]) rfl F82.sz23 rfl (stc rfl stn) (leb rfl) (cs' := [(.int .i64 a0), (.flt .f32 a1)]) rfl nofun (fun H111 hs => ?_)
  refine so_nil ?_
  refine fi_seq ?_
  refine fi_region ?_
  refine sv_lds hs 0 rfl rfl (leb rfl) rfl F82.ag49 F82.sz49 ?_
  refine sv_st hs 1 rfl rfl rfl (c := [(.int .i64 a0), (.flt .f32 a1)]) rfl F82.sz49 rfl (stc rfl (stc rfl stn)) (leb rfl) (cs' := [(.int .i64 a0), (.flt .f32 a1)]) rfl nofun (fun H112 hs => ?_)
  refine so_nil ?_
  exact by_ret (res_mk (ar_cells rfl F82.ag49 F82.sz49 (hs.lds 1 rfl (leb rfl) rfl) ar_nil) rfl) ⟨_, _, h, rfl, (Sep.del 0 (Sep.del 0 (Sep.del 0 hs)))⟩
theorem laws_toCost_okS {fr : List Pc} {H : Heap} (a0 : Int) (a1 : Nat) (hs : Sep H fr)  (K : Int → Nat → Prop) (h : laws_toCost.wp a0 a1 K) : OkQ Try.prog 82 [(.g [(.int .i64 a0), (.flt .f32 a1)])] H (fun r H2 => ∃ (y0 : Int) (y1 : Nat), K y0 y1 ∧ r = (.g [(.int .i64 y0), (.flt .f32 y1)]) ∧ H = H2) := by
  obtain ⟨r, H2, h1, y0, y1, hK, hr, hsep⟩ := laws_toCost_ok (fr := came H) (H := H) a0 a1 (came_sep H)  K h
  have hk : H.n ≤ H2.n ∧ ∀ i, i < H.n → H2.f i = H.f i := hsep.1.2.1
  exact ⟨r, H, h1.forget hk.1 hk.2 (by subst hr; rfl), y0, y1, hK, hr, rfl⟩

end Go.Proofs.Ytecdkjnomkdbkaa.G

namespace Go.Proofs.Ytecdkjnomkdbkaa.G
open Go Go.Ab Go.Proofs Go.Proofs.Ytecdkjnomkdbkaa
set_option maxRecDepth 100000
set_option linter.unusedVariables false
set_option linter.unusedSimpArgs false
set_option maxHeartbeats 1000000
attribute [local irreducible] wops wopf Go.Ab.Fin
theorem F45.ag108 : tagg Try.prog 108 = some true := by kernel_rfl
theorem F45.by49 : tbytes Try.prog 49 = some 16 := by kernel_rfl
theorem F45.sz108 : tsz Try.prog 108 = some 2 := by kernel_rfl
theorem F45.sz49 : tsz Try.prog 49 = some 2 := by kernel_rfl
theorem F45.te47 : telem Try.prog 47 = some 49 := by kernel_rfl
theorem F45.ti69 : (telem Try.prog 69).isSome = true := by kernel_rfl
theorem F45.tl47 : (telem Try.prog 47).bind (tsz Try.prog) = some 2 := by kernel_rfl
theorem F45.tl69 : (telem Try.prog 69).bind (tsz Try.prog) = some 2 := by kernel_rfl
theorem F45.ze49 : tzero Try.prog 49 = some [(.int .i64 (0 : Int)), (.flt .f32 (0 : Nat))] := by kernel_rfl
theorem laws_toCostS_ok {fr : List Pc} {H : Heap} (v0 : AV) (l0 : List ((Int) × (Nat))) (hs : Sep H (fr)) (g0 : ∀ H, Sep H fr → Shows H v0 2 (enc (ePair (eInt .i64) (eFlt .f32)) l0)) (K : (List ((Int) × (Nat))) → Prop) (h : laws_toCostS.wp l0 K) : OkQ Try.prog 45 [(.v v0)] H (fun r H2 => ∃ (y0 : List ((Int) × (Nat))), K y0 ∧ ∃ (w0_ : AV), r = (.v w0_) ∧ Sep H2 (Pc.osl w0_ 2 (enc (ePair (eInt .i64) (eFlt .f32)) y0) :: fr)) := by
  unfold laws_toCostS.wp at h
  refine of_body Try.f45 F.hm Try.func45 rfl Try.call45 (by kernel_rfl) (by simp) ?_
  refine fi_seq ?_
  refine fi_region ?_
  refine so_assign (v := (.v .nilsl)) rfl ?_
  refine so_nil ?_
  refine fi_seq ?_
  refine fi_region ?_
  refine so_move (v := (.v v0)) rfl ?_
  refine sv_len (g0 _ hs) (fun _ => rfl) (by decide) rfl F45.ti69 ?_
  obtain ⟨c101, h⟩ := h
  refine sv_make hs (ePair (eInt .i64) (eFlt .f32)) ((0 : Int), (0 : Nat)) c101 (fun _ => rfl) rfl rfl F45.te47 F45.sz49 F45.by49 F45.ze49 rfl rfl nofun (fun v102 H103 nv102 hs => ?_)
  refine so_assign (v := (.v v102)) rfl ?_
  refine so_nil ?_
  refine fi_seq ?_
  refine fi_seq ?_
  refine fi_region ?_
  refine so_assign (v := (.v (.int .i64 (0 : Int)))) rfl ?_
  refine so_nil ?_
  refine fi_block ?_
  refine fi_loop ?_
  refine fi_at [(0, (.v v0)), (3, (.v v102)), (4, (.v (.int .i64 (0 : Int))))] ⟨rfl, rfl, rfl, trivial⟩ ?_
  refine h (fun (out115 : List ((Int) × (Nat))) (i116 : Int) => ∀ (s : Nat → TV) (H : Heap), Sep H (Pc.osl v102 2 (enc (ePair (eInt .i64) (eFlt .f32)) out115) :: fr) → Fin _ _ (updL s [(0, (.v v0)), (3, (.v v102)), (4, (.v (.int .i64 i116)))]) H _) ?_ _ _ hs
  intro out115 i116 h s124 H125 hs
  refine fi_inLoop ?_
  refine fi_seq ?_
  refine fi_seq ?_
  refine fi_region ?_
  refine so_move (v := (.v (.int .i64 i116))) rfl ?_
  refine so_move (v := (.v v0)) rfl ?_
  refine sv_len (g0 _ hs.tl) (fun _ => rfl) (by decide) rfl F45.ti69 ?_
  refine so_bin rfl rfl ab_lss ?_
  refine so_nil ?_
  replace h := ofP h; rcases h with ⟨c117, h⟩ | ⟨c117, h⟩
  · refine fi_true rfl (decide_eq_true c117) ?_
    refine fi_skip ?_
    refine fi_seq ?_
    refine fi_block ?_
    refine fi_region ?_
    refine so_move (v := (.v v102)) rfl ?_
    refine so_move (v := (.v (.int .i64 i116))) rfl ?_
    refine so_move (v := (.v v0)) rfl ?_
    refine so_move (v := (.v (.int .i64 i116))) rfl ?_
    obtain ⟨c118, h⟩ := h
    refine sv_idx (g0 _ hs.tl) c118 (fun _ => rfl) (by decide) rfl rfl F45.tl69 ?_
    refine sv_elem (g0 _ hs.tl) c118 ((0 : Int), (0 : Nat)) (fun _ => rfl) (by decide) rfl F45.ag108 F45.sz108 ?_
    refine sv_callS (laws_toCost_okS (l0.getD (i116).toNat ((0 : Int), (0 : Nat))).1 (l0.getD (i116).toNat ((0 : Int), (0 : Nat))).2 hs  _ h) (fun _ _ ⟨_, _, _, _, e⟩ => e) rfl rfl ?_
    clear h
    rintro _ _ ⟨y119, y120, h, rfl, rfl⟩
    obtain ⟨c122, h⟩ := h
    refine sv_idx (hs.shows 0 rfl) c122 (fun _ => rfl) (by decide) rfl rfl F45.tl47 ?_
    refine sv_set hs 0 rfl c122 (y119, y120) (fun _ => rfl) (by decide) rfl rfl rfl rfl F45.sz49 nofun (fun H123 hs => ?_)
    refine so_nil ?_
    refine fi_inBlock ?_
    refine fi_region ?_
    refine so_move (v := (.v (.int .i64 i116))) rfl ?_
    refine so_bin rfl rfl ab_add ?_
    refine so_assign (v := (.v (.int .i64 (IntKind.i64.wrap (i116 + (1 : Int)))))) rfl ?_
    refine so_nil ?_
    exact fi_at [(0, (.v v0)), (3, (.v v102)), (4, (.v (.int .i64 (IntKind.i64.wrap (i116 + (1 : Int))))))] ⟨rfl, rfl, rfl, trivial⟩ (h _ _  hs)
  · refine fi_false rfl (decide_eq_false c117) ?_
    refine fi_exit rfl ?_
    refine fi_seq ?_
    refine fi_region ?_
    refine so_move (v := (.v v102)) rfl ?_
    refine so_assign (v := (.v v102)) rfl ?_
    refine so_nil ?_
    exact by_ret rfl ⟨_, h, _, rfl, hs⟩

end Go.Proofs.Ytecdkjnomkdbkaa.G

namespace Go.Proofs.Ytecdkjnomkdbkaa.G
open Go Go.Ab Go.Proofs Go.Proofs.Ytecdkjnomkdbkaa
set_option maxRecDepth 100000
set_option linter.unusedVariables false
set_option linter.unusedSimpArgs false
set_option maxHeartbeats 1000000
attribute [local irreducible] wops wopf Go.Ab.Fin
theorem F14.ag69 : tagg Try.prog 69 = some false := by kernel_rfl
theorem F14.by47 : tbytes Try.prog 47 = some 24 := by kernel_rfl
theorem F14.sz47 : tsz Try.prog 47 = some 1 := by kernel_rfl
theorem F14.te35 : telem Try.prog 35 = some 47 := by kernel_rfl
theorem F14.ti31 : (telem Try.prog 31).isSome = true := by kernel_rfl
theorem F14.tl31 : (telem Try.prog 31).bind (tsz Try.prog) = some 1 := by kernel_rfl
theorem F14.tl35 : (telem Try.prog 35).bind (tsz Try.prog) = some 1 := by kernel_rfl
theorem F14.ze47 : tzero Try.prog 47 = some [.nilsl] := by kernel_rfl
theorem laws_toCostSS_ok {fr : List Pc} {H : Heap} (v0 : AV) (w0 : List (List AV)) (l0 : List (List ((Int) × (Nat)))) (hs : Sep H (fr)) (g0 : ∀ H, Sep H fr → DSh H v0 1 R_LePair_eInt_i64_eFlt_f32_o l0 w0) (K : (List (List ((Int) × (Nat)))) → Prop) (h : laws_toCostSS.wp l0 K) : OkQ Try.prog 14 [(.v v0)] H (fun r H2 => ∃ (y0 : List (List ((Int) × (Nat)))), K y0 ∧ ∃ (w0_ : AV) (wsw0_ : List (List AV)) (Sw0_ : Nat → Prop), r = (.v w0_) ∧ Sep H2 (dpc w0_ 1 R_LePair_eInt_i64_eFlt_f32_o IR_LePair_eInt_i64_eFlt_f32_o y0 wsw0_ Sw0_ :: fr)) := by
  unfold laws_toCostSS.wp at h
  refine of_body Try.f14 F.hm Try.func14 rfl Try.call14 (by kernel_rfl) (by simp) ?_
  refine fi_seq ?_
  refine fi_region ?_
  refine so_assign (v := (.v .nilsl)) rfl ?_
  refine so_nil ?_
  refine fi_seq ?_
  refine fi_region ?_
  refine so_move (v := (.v v0)) rfl ?_
  refine sd_len ((g0 _ hs) : DSh _ _ 1 R_LePair_eInt_i64_eFlt_f32_o l0 w0) (by decide) rfl F14.ti31 ?_
  obtain ⟨c101, h⟩ := h
  refine sk_make hs ([] : List ((Int) × (Nat))) [.nilsl] R_LePair_eInt_i64_eFlt_f32_o IR_LePair_eInt_i64_eFlt_f32_o c101 (fun _ => ⟨rfl, .inl ⟨rfl, rfl⟩⟩) ⟨_, rfl⟩ rfl rfl F14.te35 F14.sz47 F14.by47 F14.ze47 rfl rfl nofun (fun v102 ws104 S105 H103 _ hs => ?_)
  refine so_assign (v := (.v v102)) rfl ?_
  refine so_nil ?_
  refine fi_seq ?_
  refine fi_seq ?_
  refine fi_region ?_
  refine so_assign (v := (.v (.int .i64 (0 : Int)))) rfl ?_
  refine so_nil ?_
  refine fi_block ?_
  refine fi_loop ?_
  refine fi_at [(0, (.v v0)), (3, (.v v102)), (4, (.v (.int .i64 (0 : Int))))] ⟨rfl, rfl, rfl, trivial⟩ ?_
  refine h (fun (out120 : List (List ((Int) × (Nat)))) (i123 : Int) => ∀ (s : Nat → TV) (H : Heap) (ws121 : List (List AV)) (S122 : Nat → Prop), Sep H (dpc v102 1 R_LePair_eInt_i64_eFlt_f32_o IR_LePair_eInt_i64_eFlt_f32_o out120 ws121 S122 :: fr) → Fin _ _ (updL s [(0, (.v v0)), (3, (.v v102)), (4, (.v (.int .i64 i123)))]) H _) ?_ _ _ _ _ hs
  intro out120 i123 h s134 H135 ws121 S122 hs
  refine fi_inLoop ?_
  refine fi_seq ?_
  refine fi_seq ?_
  refine fi_region ?_
  refine so_move (v := (.v (.int .i64 i123))) rfl ?_
  refine so_move (v := (.v v0)) rfl ?_
  refine sd_len ((g0 _ hs.tl) : DSh _ _ 1 R_LePair_eInt_i64_eFlt_f32_o l0 w0) (by decide) rfl F14.ti31 ?_
  refine so_bin rfl rfl ab_lss ?_
  refine so_nil ?_
  replace h := ofP h; rcases h with ⟨c124, h⟩ | ⟨c124, h⟩
  · refine fi_true rfl (decide_eq_true c124) ?_
    refine fi_skip ?_
    refine fi_seq ?_
    refine fi_block ?_
    refine fi_region ?_
    refine so_move (v := (.v v102)) rfl ?_
    refine so_move (v := (.v (.int .i64 i123))) rfl ?_
    refine so_move (v := (.v v0)) rfl ?_
    refine so_move (v := (.v (.int .i64 i123))) rfl ?_
    obtain ⟨c125, h⟩ := h
    refine sd_idx ((g0 _ hs.tl) : DSh _ _ 1 R_LePair_eInt_i64_eFlt_f32_o l0 w0) c125 ([] : List ((Int) × (Nat))) (by decide) rfl rfl F14.tl31 ?_
    refine su_ld ((((g0 _ hs.tl) : DSh _ _ 1 R_LePair_eInt_i64_eFlt_f32_o l0 w0)).at (by decide) c125 ([] : List ((Int) × (Nat)))).2.2 0 (congrArg (fun c => c[0]?) ((((g0 _ hs.tl) : DSh _ _ 1 R_LePair_eInt_i64_eFlt_f32_o l0 w0)).at (by decide) c125 ([] : List ((Int) × (Nat)))).2.1.1) rfl F14.ag69 ?_
    refine sv_call (laws_toCostS_ok ((w0.getD (i123).toNat []).getD 0 .und) (l0.getD (i123).toNat ([] : List ((Int) × (Nat)))) hs (fun _ hs => ((((g0 _ hs.tl) : DSh _ _ 1 R_LePair_eInt_i64_eFlt_f32_o l0 w0)).at (by decide) c125 ([] : List ((Int) × (Nat)))).2.1.2) _ h) rfl rfl nofun ?_
    clear h hs
    rintro _ H129 ⟨y126, h, v127, rfl, hs⟩
    obtain ⟨c130, h⟩ := h
    refine sd_idx ((hs.dshows 1 rfl) : DSh _ _ 1 R_LePair_eInt_i64_eFlt_f32_o out120 ws121) c130 ([] : List ((Int) × (Nat))) (by decide) rfl rfl F14.tl35 ?_
    have so_ : ([v127] : List AV).all AV.stor = true := (stc (hs.shows 0 rfl).stor stn)
    refine sk_set hs 0 rfl c130 y126 [v127] (fun _ hh => ⟨rfl, hh⟩) rfl rfl (by decide) so_ rfl rfl rfl F14.sz47 nofun (fun ws132 S133 H131 hs => ?_)
    refine so_nil ?_
    refine fi_inBlock ?_
    refine fi_region ?_
    refine so_move (v := (.v (.int .i64 i123))) rfl ?_
    refine so_bin rfl rfl ab_add ?_
    refine so_assign (v := (.v (.int .i64 (IntKind.i64.wrap (i123 + (1 : Int)))))) rfl ?_
    refine so_nil ?_
    exact fi_at [(0, (.v v0)), (3, (.v v102)), (4, (.v (.int .i64 (IntKind.i64.wrap (i123 + (1 : Int))))))] ⟨rfl, rfl, rfl, trivial⟩ (h _ _ _ _ hs)
  · refine fi_false rfl (decide_eq_false c124) ?_
    refine fi_exit rfl ?_
    refine fi_seq ?_
    refine fi_region ?_
    refine so_move (v := (.v v102)) rfl ?_
    refine so_assign (v := (.v v102)) rfl ?_
    refine so_nil ?_
    exact by_ret rfl ⟨_, h, _, _, _, rfl, hs⟩

end Go.Proofs.Ytecdkjnomkdbkaa.G

namespace Go.Proofs.Ytecdkjnomkdbkaa.G
open Go Go.Ab Go.Proofs Go.Proofs.Ytecdkjnomkdbkaa
set_option maxRecDepth 100000
set_option linter.unusedVariables false
set_option linter.unusedSimpArgs false
set_option maxHeartbeats 1000000
attribute [local irreducible] wops wopf Go.Ab.Fin
theorem impl_within_ok {fr : List Pc} {H : Heap} (a0 : Int) (a1 : Int) (a2 : Int) (hs : Sep H (fr))  (K : Bool → Prop) (h : impl_within.wp a0 a1 a2 K) : OkQ Try.prog 47 [(.v (.int .i64 a0)), (.v (.int .i64 a1)), (.v (.int .i64 a2))] H (fun r H2 => ∃ (y0 : Bool), K y0 ∧ r = (.v (.bool y0)) ∧ H = H2) := by
  unfold impl_within.wp at h
  refine of_body Try.f47 F.hm Try.func47 rfl Try.call47 (by kernel_rfl) (by simp) ?_
  refine fi_seq ?_
  refine fi_region ?_
  refine so_assign (v := (.v (.bool false))) rfl ?_
  refine so_nil ?_
  refine fi_seq ?_
  refine fi_region ?_
  refine so_move (v := (.v (.int .i64 a0))) rfl ?_
  refine so_move (v := (.v (.int .i64 a1))) rfl ?_
  refine so_bin rfl rfl ab_geq ?_
  refine so_move (v := (.v (.bool (decide (a1 ≤ a0))))) rfl ?_
  replace h := ofP h; rcases h with ⟨c101, h⟩ | ⟨c101, h⟩
  · refine so_gyes rfl (decide_eq_true c101) ?_
    refine so_move (v := (.v (.int .i64 a0))) rfl ?_
    refine so_gyes rfl (decide_eq_true c101) ?_
    refine so_move (v := (.v (.int .i64 a2))) rfl ?_
    refine so_gyes rfl (decide_eq_true c101) ?_
    refine so_bin rfl rfl ab_leq ?_
    refine so_pick_t (v := (.v (.bool (decide (a0 ≤ a2))))) rfl (decide_eq_true c101) rfl ?_
    refine so_assign (v := (.v (.bool (decide (a0 ≤ a2))))) rfl ?_
    refine so_nil ?_
    exact by_ret rfl ⟨_, h, rfl, rfl⟩
  · refine so_gno rfl (decide_eq_false c101) ?_
    refine so_gno rfl (decide_eq_false c101) ?_
    refine so_gno rfl (decide_eq_false c101) ?_
    refine so_pick_f (v := (.v (.bool false))) rfl (decide_eq_false c101) rfl ?_
    refine so_assign (v := (.v (.bool false))) rfl ?_
    refine so_nil ?_
    exact by_ret rfl ⟨_, h, rfl, rfl⟩

end Go.Proofs.Ytecdkjnomkdbkaa.G

namespace Go.Proofs.Ytecdkjnomkdbkaa.G
open Go Go.Ab Go.Proofs Go.Proofs.Ytecdkjnomkdbkaa
set_option maxRecDepth 100000
set_option linter.unusedVariables false
set_option linter.unusedSimpArgs false
set_option maxHeartbeats 1000000
attribute [local irreducible] wops wopf Go.Ab.Fin
theorem impl_IsFinite_ok {fr : List Pc} {H : Heap} (a0 : Nat) (hs : Sep H (fr))  (K : Bool → Prop) (h : impl_IsFinite.wp a0 K) : OkQ Try.prog 48 [(.v (.flt .f32 a0))] H (fun r H2 => ∃ (y0 : Bool), K y0 ∧ r = (.v (.bool y0)) ∧ H = H2) := by
  unfold impl_IsFinite.wp at h
  refine of_body Try.f48 F.hm Try.func48 rfl Try.call48 (by kernel_rfl) (by simp) ?_
  refine fi_seq ?_
  refine fi_region ?_
  refine so_assign (v := (.v (.bool false))) rfl ?_
  refine so_nil ?_
  refine fi_seq ?_
  refine fi_region ?_
  refine so_move (v := (.v (.flt .f32 a0))) rfl ?_
  refine so_move (v := (.v (.flt .f32 a0))) rfl ?_
  refine so_bin rfl rfl ab_fsub ?_
  refine so_bin rfl rfl ab_feql ?_
  refine so_assign (v := (.v (.bool (fcmp .eql .f32 (fop .sub .f32 a0 a0) (cz .f32 0))))) rfl ?_
  refine so_nil ?_
  exact by_ret rfl ⟨_, h, rfl, rfl⟩

end Go.Proofs.Ytecdkjnomkdbkaa.G

namespace Go.Proofs.Ytecdkjnomkdbkaa.G
open Go Go.Ab Go.Proofs Go.Proofs.Ytecdkjnomkdbkaa
set_option maxRecDepth 100000
set_option linter.unusedVariables false
set_option linter.unusedSimpArgs false
set_option maxHeartbeats 1000000
attribute [local irreducible] wops wopf Go.Ab.Fin
theorem impl_isLeast_ok {fr : List Pc} {H : Heap} (a0 : Nat) (hs : Sep H (fr))  (K : Bool → Prop) (h : impl_isLeast.wp a0 K) : OkQ Try.prog 53 [(.v (.flt .f32 a0))] H (fun r H2 => ∃ (y0 : Bool), K y0 ∧ r = (.v (.bool y0)) ∧ H = H2) := by
  unfold impl_isLeast.wp at h
  refine of_body Try.f53 F.hm Try.func53 rfl Try.call53 (by kernel_rfl) (by simp) ?_
  refine fi_seq ?_
  refine fi_region ?_
  refine so_assign (v := (.v (.bool false))) rfl ?_
  refine so_nil ?_
  refine fi_seq ?_
  refine fi_region ?_
  refine so_move (v := (.v (.flt .f32 a0))) rfl ?_
  refine sv_callS (impl_IsFinite_ok a0 hs  _ h) (fun _ _ ⟨_, _, _, e⟩ => e) rfl rfl ?_
  clear h
  rintro _ _ ⟨y101, h, rfl, rfl⟩
  refine so_move (v := (.v (.bool y101))) rfl ?_
  replace h := ofT h; rcases h with ⟨c103, h⟩ | ⟨c103, h⟩
  · refine so_gyes rfl c103 ?_
    refine so_move (v := (.v (.flt .f32 a0))) rfl ?_
    refine so_gyes rfl c103 ?_
    refine so_bin rfl rfl ab_fgeq ?_
    refine so_pick_t (v := (.v (.bool (fcmp .geq .f32 a0 (cz .f32 0))))) rfl c103 rfl ?_
    refine so_assign (v := (.v (.bool (fcmp .geq .f32 a0 (cz .f32 0))))) rfl ?_
    refine so_nil ?_
    exact by_ret rfl ⟨_, h, rfl, rfl⟩
  · refine so_gno rfl c103 ?_
    refine so_gno rfl c103 ?_
    refine so_pick_f (v := (.v (.bool false))) rfl c103 rfl ?_
    refine so_assign (v := (.v (.bool false))) rfl ?_
    refine so_nil ?_
    exact by_ret rfl ⟨_, h, rfl, rfl⟩

end Go.Proofs.Ytecdkjnomkdbkaa.G

namespace Go.Proofs.Ytecdkjnomkdbkaa.G
open Go Go.Ab Go.Proofs Go.Proofs.Ytecdkjnomkdbkaa
set_option maxRecDepth 100000
set_option linter.unusedVariables false
set_option linter.unusedSimpArgs false
set_option maxHeartbeats 1000000
attribute [local irreducible] wops wopf Go.Ab.Fin
theorem F28.ag2 : tagg Try.prog 2 = some false := by kernel_rfl
theorem F28.ag23 : tagg Try.prog 23 = some false := by kernel_rfl
theorem F28.ag49 : tagg Try.prog 49 = some true := by kernel_rfl
theorem F28.fd49_0 : tfield Try.prog 49 0 = some (0, 1, false) := by kernel_rfl
theorem F28.fd49_1 : tfield Try.prog 49 1 = some (1, 1, false) := by kernel_rfl
theorem F28.sz49 : tsz Try.prog 49 = some 2 := by kernel_rfl
theorem F28.ti47 : (telem Try.prog 47).isSome = true := by kernel_rfl
theorem F28.tl47 : (telem Try.prog 47).bind (tsz Try.prog) = some 2 := by kernel_rfl
theorem F28.ze49 : tzero Try.prog 49 = some [(.int .i64 (0 : Int)), (.flt .f32 (0 : Nat))] := by kernel_rfl
theorem impl_AreCosts_ok {fr : List Pc} {H : Heap} (v0 : AV) (l0 : List ((Int) × (Nat))) (hs : Sep H (fr)) (g0 : ∀ H, Sep H fr → Shows H v0 2 (enc (ePair (eInt .i64) (eFlt .f32)) l0)) (K : Bool → Prop) (h : impl_AreCosts.wp l0 K) : OkQ Try.prog 28 [(.v v0)] H (fun r H2 => ∃ (y0 : Bool), K y0 ∧ r = (.v (.bool y0)) ∧ Sep H2 (fr)) := by
  unfold impl_AreCosts.wp at h
  refine of_body Try.f28 F.hm Try.func28 rfl Try.call28 (by kernel_rfl) (by simp) ?_
  refine fi_seq ?_
  refine fi_region ?_
  refine so_assign (v := (.v (.bool false))) rfl ?_
  refine so_nil ?_
  refine fi_seq ?_
  refine fi_seq ?_
  refine fi_region ?_
  refine so_move (v := (.v v0)) rfl ?_
  refine sv_len (g0 _ hs) (fun _ => rfl) (by decide) rfl F28.ti47 ?_
  refine sv_callS (impl_within_ok (l0.length : Int) (1 : Int) (16 : Int) hs  _ h) (fun _ _ ⟨_, _, _, e⟩ => e) rfl rfl ?_
  clear h
  rintro _ _ ⟨y101, h, rfl, rfl⟩
  refine so_un rfl au_not ?_
  refine so_nil ?_
  replace h := ofT h; rcases h with ⟨c103, h⟩ | ⟨c103, h⟩
  · refine fi_false rfl (not_f c103) ?_
    refine fi_skip ?_
    refine fi_seq ?_
    refine fi_seq ?_
    refine fi_region ?_
    refine so_move (v := (.v v0)) rfl ?_
    refine sv_len (g0 _ hs) (fun _ => rfl) (by decide) rfl F28.ti47 ?_
    refine so_move (v := (.v (.int .i64 (0 : Int)))) rfl ?_
    refine so_nil ?_
    refine fi_block ?_
    refine fi_loop ?_
    refine fi_at [(0, (.v v0)), (9, (.v v0)), (10, (.v (.int .i64 (l0.length : Int)))), (11, (.v (.int .i64 (0 : Int))))] ⟨rfl, rfl, rfl, rfl, trivial⟩ ?_
    refine h (fun (x105 : Int) => ∀ (s : Nat → TV) (H : Heap), Sep H (fr) → Fin _ _ (updL s [(0, (.v v0)), (9, (.v v0)), (10, (.v (.int .i64 (l0.length : Int)))), (11, (.v (.int .i64 x105)))]) H _) ?_ _ _ hs
    intro x105 h s122 H123 hs
    refine fi_inLoop ?_
    refine fi_seq ?_
    refine fi_region ?_
    refine so_bin rfl rfl ab_lss ?_
    refine so_nil ?_
    refine fi_seq ?_
    replace h := ofP h; rcases h with ⟨c106, h⟩ | ⟨c106, h⟩
    · refine fi_true rfl (decide_eq_true c106) ?_
      refine fi_skip ?_
      refine fi_seq ?_
      refine fi_block ?_
      refine fi_seq ?_
      refine fi_region ?_
      refine so_move (v := (.v (.int .i64 x105))) rfl ?_
      obtain ⟨c107, h⟩ := h
      refine sv_idx (g0 _ hs) c107 (fun _ => rfl) (by decide) rfl rfl F28.tl47 ?_
      refine sv_elem (g0 _ hs) c107 ((0 : Int), (0 : Nat)) (fun _ => rfl) (by decide) rfl F28.ag49 F28.sz49 ?_
      refine sv_alloc hs F28.ze49 rfl nofun (fun id108 H109 hs => ?_)
      refine so_assign (v := (.v (.int .i64 x105))) rfl ?_
      refine sv_st hs 0 rfl rfl rfl (c := [(.int .i64 (l0.getD (x105).toNat ((0 : Int), (0 : Nat))).1), (.flt .f32 (l0.getD (x105).toNat ((0 : Int), (0 : Nat))).2)]) rfl F28.sz49 rfl (stc rfl (stc rfl stn)) (leb rfl) (cs' := [(.int .i64 (l0.getD (x105).toNat ((0 : Int), (0 : Nat))).1), (.flt .f32 (l0.getD (x105).toNat ((0 : Int), (0 : Nat))).2)]) rfl nofun (fun H111 hs => ?_)
      refine so_nil ?_
      refine fi_seq ?_
      refine fi_seq ?_
      refine fi_region ?_
      refine so_fieldAddr rfl F28.fd49_0 ?_
      refine sv_ld hs 0 rfl rfl rfl F28.ag2 ?_
      refine sv_callS (impl_within_ok (l0.getD (x105).toNat ((0 : Int), (0 : Nat))).1 (0 : Int) (512 : Int) hs  _ h) (fun _ _ ⟨_, _, _, e⟩ => e) rfl rfl ?_
      clear h
      rintro _ _ ⟨y112, h, rfl, rfl⟩
      refine so_un rfl au_not ?_
      refine so_move (v := (.v (.bool (!y112)))) rfl ?_
      replace h := ofT h; rcases h with ⟨c114, h⟩ | ⟨c114, h⟩
      · refine so_gyes rfl (not_f c114) ?_
        refine so_fieldAddr rfl F28.fd49_1 ?_
        refine so_gyes rfl (not_f c114) ?_
        refine sv_ld hs 0 rfl rfl rfl F28.ag23 ?_
        refine so_gyes rfl (not_f c114) ?_
        refine sv_callS (impl_isLeast_ok (l0.getD (x105).toNat ((0 : Int), (0 : Nat))).2 hs  _ h) (fun _ _ ⟨_, _, _, e⟩ => e) rfl rfl ?_
        clear h
        rintro _ _ ⟨y115, h, rfl, rfl⟩
        refine so_gyes rfl (not_f c114) ?_
        refine so_un rfl au_not ?_
        refine so_pick_f (v := (.v (.bool (!y115)))) rfl (not_f c114) rfl ?_
        refine so_nil ?_
        replace h := ofT h; rcases h with ⟨c117, h⟩ | ⟨c117, h⟩
        · refine fi_false rfl (not_f c117) ?_
          refine fi_skip ?_
          refine fi_seq ?_
          refine fi_region ?_
          refine so_move (v := (.v (.int .i64 x105))) rfl ?_
          refine so_bin rfl rfl ab_gtr ?_
          refine so_move (v := (.v (.bool (decide ((0 : Int) < x105))))) rfl ?_
          replace h := ofP h; rcases h with ⟨c118, h⟩ | ⟨c118, h⟩
          · refine so_gyes rfl (decide_eq_true c118) ?_
            refine so_fieldAddr rfl F28.fd49_0 ?_
            refine so_gyes rfl (decide_eq_true c118) ?_
            refine sv_ld hs 0 rfl rfl rfl F28.ag2 ?_
            refine so_gyes rfl (decide_eq_true c118) ?_
            refine so_move (v := (.v v0)) rfl ?_
            refine so_gyes rfl (decide_eq_true c118) ?_
            refine so_move (v := (.v (.int .i64 x105))) rfl ?_
            refine so_gyes rfl (decide_eq_true c118) ?_
            refine so_bin rfl rfl ab_sub ?_
            refine so_gyes rfl (decide_eq_true c118) ?_
            obtain ⟨c119, h⟩ := h
            refine sv_idx (g0 _ hs.tl) c119 (fun _ => rfl) (by decide) rfl rfl F28.tl47 ?_
            refine so_gyes rfl (decide_eq_true c118) ?_
            refine so_fieldAddr rfl F28.fd49_0 ?_
            refine so_gyes rfl (decide_eq_true c118) ?_
            refine sv_cell (g0 _ hs.tl) c119 ((0 : Int), (0 : Nat)) 0 (fun x => (AV.int .i64 x.1)) (fun _ => rfl) (fun _ => rfl) rfl F28.ag2 ?_
            refine so_gyes rfl (decide_eq_true c118) ?_
            refine so_bin rfl rfl ab_leq ?_
            refine so_gyes rfl (decide_eq_true c118) ?_
            refine so_move (v := (.v (.bool (decide ((l0.getD (x105).toNat ((0 : Int), (0 : Nat))).1 ≤ (l0.getD ((IntKind.i64.wrap (x105 - (1 : Int)))).toNat ((0 : Int), (0 : Nat))).1))))) rfl ?_
            replace h := ofP h; rcases h with ⟨c120, h⟩ | ⟨c120, h⟩
            · refine so_gno rfl (decide_eq_true c120) ?_
              refine so_gno rfl (decide_eq_true c120) ?_
              refine so_gno rfl (decide_eq_true c120) ?_
              refine so_gno rfl (decide_eq_true c120) ?_
              refine so_gno rfl (decide_eq_true c120) ?_
              refine so_gno rfl (decide_eq_true c120) ?_
              refine so_gno rfl (decide_eq_true c120) ?_
              refine so_gno rfl (decide_eq_true c120) ?_
              refine so_gno rfl (decide_eq_true c120) ?_
              refine so_gyes rfl (decide_eq_true c118) ?_
              refine so_pick_t (v := (.v (.bool true))) rfl (decide_eq_true c120) rfl ?_
              refine so_pick_t (v := (.v (.bool true))) rfl (decide_eq_true c118) rfl ?_
              refine so_nil ?_
              refine fi_true rfl rfl ?_
              refine fi_seq ?_
              refine fi_region ?_
              refine so_assign (v := (.v (.bool false))) rfl ?_
              refine so_nil ?_
              exact by_ret rfl ⟨_, h, rfl, (Sep.del 0 hs)⟩
            · refine so_gyes rfl (decide_eq_false c120) ?_
              refine so_fieldAddr rfl F28.fd49_1 ?_
              refine so_gyes rfl (decide_eq_false c120) ?_
              refine sv_ld hs 0 rfl rfl rfl F28.ag23 ?_
              refine so_gyes rfl (decide_eq_false c120) ?_
              refine so_move (v := (.v v0)) rfl ?_
              refine so_gyes rfl (decide_eq_false c120) ?_
              refine so_move (v := (.v (.int .i64 x105))) rfl ?_
              refine so_gyes rfl (decide_eq_false c120) ?_
              refine so_bin rfl rfl ab_sub ?_
              refine so_gyes rfl (decide_eq_false c120) ?_
              refine sv_idx (g0 _ hs.tl) c119 (fun _ => rfl) (by decide) rfl rfl F28.tl47 ?_
              refine so_gyes rfl (decide_eq_false c120) ?_
              refine so_fieldAddr rfl F28.fd49_1 ?_
              refine so_gyes rfl (decide_eq_false c120) ?_
              refine sv_cell (g0 _ hs.tl) c119 ((0 : Int), (0 : Nat)) 1 (fun x => (AV.flt .f32 x.2)) (fun _ => rfl) (fun _ => rfl) rfl F28.ag23 ?_
              refine so_gyes rfl (decide_eq_false c120) ?_
              refine so_bin rfl rfl ab_fgeq ?_
              refine so_gyes rfl (decide_eq_true c118) ?_
              refine so_pick_f (v := (.v (.bool (fcmp .geq .f32 (l0.getD (x105).toNat ((0 : Int), (0 : Nat))).2 (l0.getD ((IntKind.i64.wrap (x105 - (1 : Int)))).toNat ((0 : Int), (0 : Nat))).2)))) rfl (decide_eq_false c120) rfl ?_
              refine so_pick_t (v := (.v (.bool (fcmp .geq .f32 (l0.getD (x105).toNat ((0 : Int), (0 : Nat))).2 (l0.getD ((IntKind.i64.wrap (x105 - (1 : Int)))).toNat ((0 : Int), (0 : Nat))).2)))) rfl (decide_eq_true c118) rfl ?_
              refine so_nil ?_
              replace h := ofT h; rcases h with ⟨c121, h⟩ | ⟨c121, h⟩
              · refine fi_true rfl c121 ?_
                refine fi_seq ?_
                refine fi_region ?_
                refine so_assign (v := (.v (.bool false))) rfl ?_
                refine so_nil ?_
                exact by_ret rfl ⟨_, h, rfl, (Sep.del 0 hs)⟩
              · refine fi_false rfl c121 ?_
                refine fi_skip ?_
                refine fi_inBlock ?_
                refine fi_region ?_
                refine so_bin rfl rfl ab_add ?_
                refine so_move (v := (.v (.int .i64 (IntKind.i64.wrap (x105 + (1 : Int)))))) rfl ?_
                refine so_nil ?_
                exact fi_at [(0, (.v v0)), (9, (.v v0)), (10, (.v (.int .i64 (l0.length : Int)))), (11, (.v (.int .i64 (IntKind.i64.wrap (x105 + (1 : Int))))))] ⟨rfl, rfl, rfl, rfl, trivial⟩ (h _ _  (Sep.del 0 hs))
          · refine so_gno rfl (decide_eq_false c118) ?_
            refine so_gno rfl (decide_eq_false c118) ?_
            refine so_gno rfl (decide_eq_false c118) ?_
            refine so_gno rfl (decide_eq_false c118) ?_
            refine so_gno rfl (decide_eq_false c118) ?_
            refine so_gno rfl (decide_eq_false c118) ?_
            refine so_gno rfl (decide_eq_false c118) ?_
            refine so_gno rfl (decide_eq_false c118) ?_
            refine so_gno rfl (decide_eq_false c118) ?_
            refine so_gno rfl (decide_eq_false c118) ?_
            refine so_gund rfl ?_
            refine so_gund rfl ?_
            refine so_gund rfl ?_
            refine so_gund rfl ?_
            refine so_gund rfl ?_
            refine so_gund rfl ?_
            refine so_gund rfl ?_
            refine so_gund rfl ?_
            refine so_gund rfl ?_
            refine so_gno rfl (decide_eq_false c118) ?_
            refine so_pick_f (v := (.v (.bool false))) rfl (decide_eq_false c118) rfl ?_
            refine so_nil ?_
            refine fi_false rfl rfl ?_
            refine fi_skip ?_
            refine fi_inBlock ?_
            refine fi_region ?_
            refine so_bin rfl rfl ab_add ?_
            refine so_move (v := (.v (.int .i64 (IntKind.i64.wrap (x105 + (1 : Int)))))) rfl ?_
            refine so_nil ?_
            exact fi_at [(0, (.v v0)), (9, (.v v0)), (10, (.v (.int .i64 (l0.length : Int)))), (11, (.v (.int .i64 (IntKind.i64.wrap (x105 + (1 : Int))))))] ⟨rfl, rfl, rfl, rfl, trivial⟩ (h _ _  (Sep.del 0 hs))
        · refine fi_true rfl (not_t c117) ?_
          refine fi_seq ?_
          refine fi_region ?_
          refine so_assign (v := (.v (.bool false))) rfl ?_
          refine so_nil ?_
          exact by_ret rfl ⟨_, h, rfl, (Sep.del 0 hs)⟩
      · refine so_gno rfl (not_t c114) ?_
        refine so_gno rfl (not_t c114) ?_
        refine so_gno rfl (not_t c114) ?_
        refine so_gno rfl (not_t c114) ?_
        refine so_pick_t (v := (.v (.bool true))) rfl (not_t c114) rfl ?_
        refine so_nil ?_
        refine fi_true rfl rfl ?_
        refine fi_seq ?_
        refine fi_region ?_
        refine so_assign (v := (.v (.bool false))) rfl ?_
        refine so_nil ?_
        exact by_ret rfl ⟨_, h, rfl, (Sep.del 0 hs)⟩
    · refine fi_false rfl (decide_eq_false c106) ?_
      refine fi_exit rfl ?_
      refine fi_seq ?_
      refine fi_region ?_
      refine so_assign (v := (.v (.bool true))) rfl ?_
      refine so_nil ?_
      exact by_ret rfl ⟨_, h, rfl, hs⟩
  · refine fi_true rfl (not_t c103) ?_
    refine fi_seq ?_
    refine fi_region ?_
    refine so_assign (v := (.v (.bool false))) rfl ?_
    refine so_nil ?_
    exact by_ret rfl ⟨_, h, rfl, hs⟩
theorem impl_AreCosts_okS {fr : List Pc} {H : Heap} (v0 : AV) (l0 : List ((Int) × (Nat))) (hs : Sep H fr) (g0 : ∀ H, Sep H fr → Shows H v0 2 (enc (ePair (eInt .i64) (eFlt .f32)) l0)) (K : Bool → Prop) (h : impl_AreCosts.wp l0 K) : OkQ Try.prog 28 [(.v v0)] H (fun r H2 => ∃ (y0 : Bool), K y0 ∧ r = (.v (.bool y0)) ∧ H = H2) := by
  obtain ⟨r, H2, h1, y0, hK, hr, hsep⟩ := impl_AreCosts_ok (fr := came H) (H := H) v0 l0 (came_sep H) (came_shows (g0 H hs)) K h
  have hk : H.n ≤ H2.n ∧ ∀ i, i < H.n → H2.f i = H.f i := hsep.1.2.1
  exact ⟨r, H, h1.forget hk.1 hk.2 (by subst hr; rfl), y0, hK, hr, rfl⟩

end Go.Proofs.Ytecdkjnomkdbkaa.G

namespace Go.Proofs.Ytecdkjnomkdbkaa.G
open Go Go.Ab Go.Proofs Go.Proofs.Ytecdkjnomkdbkaa
set_option maxRecDepth 100000
set_option linter.unusedVariables false
set_option linter.unusedSimpArgs false
set_option maxHeartbeats 1000000
attribute [local irreducible] wops wopf Go.Ab.Fin
theorem F46.ag47 : tagg Try.prog 47 = some false := by kernel_rfl
theorem F46.ti35 : (telem Try.prog 35).isSome = true := by kernel_rfl
theorem F46.tl35 : (telem Try.prog 35).bind (tsz Try.prog) = some 1 := by kernel_rfl
theorem impl_areBlocks_ok {fr : List Pc} {H : Heap} (v0 : AV) (w0 : List (List AV)) (l0 : List (List ((Int) × (Nat)))) (hs : Sep H (fr)) (g0 : ∀ H, Sep H fr → DSh H v0 1 R_LePair_eInt_i64_eFlt_f32_o l0 w0) (K : Bool → Prop) (h : impl_areBlocks.wp l0 K) : OkQ Try.prog 46 [(.v v0)] H (fun r H2 => ∃ (y0 : Bool), K y0 ∧ r = (.v (.bool y0)) ∧ H = H2) := by
  unfold impl_areBlocks.wp at h
  refine of_body Try.f46 F.hm Try.func46 rfl Try.call46 (by kernel_rfl) (by simp) ?_
  refine fi_seq ?_
  refine fi_region ?_
  refine so_assign (v := (.v (.bool false))) rfl ?_
  refine so_nil ?_
  refine fi_seq ?_
  refine fi_seq ?_
  refine fi_region ?_
  refine so_move (v := (.v v0)) rfl ?_
  refine sd_len ((g0 _ hs) : DSh _ _ 1 R_LePair_eInt_i64_eFlt_f32_o l0 w0) (by decide) rfl F46.ti35 ?_
  refine sv_callS (impl_within_ok (l0.length : Int) (1 : Int) (8 : Int) hs  _ h) (fun _ _ ⟨_, _, _, e⟩ => e) rfl rfl ?_
  clear h
  rintro _ _ ⟨y101, h, rfl, rfl⟩
  refine so_un rfl au_not ?_
  refine so_nil ?_
  replace h := ofT h; rcases h with ⟨c103, h⟩ | ⟨c103, h⟩
  · refine fi_false rfl (not_f c103) ?_
    refine fi_skip ?_
    refine fi_seq ?_
    refine fi_seq ?_
    refine fi_region ?_
    refine so_move (v := (.v v0)) rfl ?_
    refine sd_len ((g0 _ hs) : DSh _ _ 1 R_LePair_eInt_i64_eFlt_f32_o l0 w0) (by decide) rfl F46.ti35 ?_
    refine so_move (v := (.v (.int .i64 (0 : Int)))) rfl ?_
    refine so_nil ?_
    refine fi_block ?_
    refine fi_loop ?_
    refine fi_at [(9, (.v v0)), (10, (.v (.int .i64 (l0.length : Int)))), (11, (.v (.int .i64 (0 : Int))))] ⟨rfl, rfl, rfl, trivial⟩ ?_
    refine h (fun (x105 : Int) => ∀ (s : Nat → TV), Fin _ _ (updL s [(9, (.v v0)), (10, (.v (.int .i64 (l0.length : Int)))), (11, (.v (.int .i64 x105)))]) _ _) ?_ _
    intro x105 h s111
    refine fi_inLoop ?_
    refine fi_seq ?_
    refine fi_region ?_
    refine so_bin rfl rfl ab_lss ?_
    refine so_nil ?_
    refine fi_seq ?_
    replace h := ofP h; rcases h with ⟨c106, h⟩ | ⟨c106, h⟩
    · refine fi_true rfl (decide_eq_true c106) ?_
      refine fi_skip ?_
      refine fi_seq ?_
      refine fi_block ?_
      refine fi_seq ?_
      refine fi_region ?_
      obtain ⟨c107, h⟩ := h
      refine sd_idx ((g0 _ hs) : DSh _ _ 1 R_LePair_eInt_i64_eFlt_f32_o l0 w0) c107 ([] : List ((Int) × (Nat))) (by decide) rfl rfl F46.tl35 ?_
      refine su_ld ((((g0 _ hs) : DSh _ _ 1 R_LePair_eInt_i64_eFlt_f32_o l0 w0)).at (by decide) c107 ([] : List ((Int) × (Nat)))).2.2 0 (congrArg (fun c => c[0]?) ((((g0 _ hs) : DSh _ _ 1 R_LePair_eInt_i64_eFlt_f32_o l0 w0)).at (by decide) c107 ([] : List ((Int) × (Nat)))).2.1.1) rfl F46.ag47 ?_
      refine so_assign (v := (.v ((w0.getD (x105).toNat []).getD 0 .und))) rfl ?_
      refine so_nil ?_
      refine fi_seq ?_
      refine fi_region ?_
      refine so_move (v := (.v ((w0.getD (x105).toNat []).getD 0 .und))) rfl ?_
      refine sv_callS (impl_AreCosts_okS ((w0.getD (x105).toNat []).getD 0 .und) (l0.getD (x105).toNat ([] : List ((Int) × (Nat)))) hs (fun _ hs => ((((g0 _ hs) : DSh _ _ 1 R_LePair_eInt_i64_eFlt_f32_o l0 w0)).at (by decide) c107 ([] : List ((Int) × (Nat)))).2.1.2) _ h) (fun _ _ ⟨_, _, _, e⟩ => e) rfl rfl ?_
      clear h
      rintro _ _ ⟨y108, h, rfl, rfl⟩
      refine so_un rfl au_not ?_
      refine so_nil ?_
      replace h := ofT h; rcases h with ⟨c110, h⟩ | ⟨c110, h⟩
      · refine fi_false rfl (not_f c110) ?_
        refine fi_skip ?_
        refine fi_inBlock ?_
        refine fi_region ?_
        refine so_bin rfl rfl ab_add ?_
        refine so_move (v := (.v (.int .i64 (IntKind.i64.wrap (x105 + (1 : Int)))))) rfl ?_
        refine so_nil ?_
        exact fi_at [(9, (.v v0)), (10, (.v (.int .i64 (l0.length : Int)))), (11, (.v (.int .i64 (IntKind.i64.wrap (x105 + (1 : Int))))))] ⟨rfl, rfl, rfl, trivial⟩ (h _)
      · refine fi_true rfl (not_t c110) ?_
        refine fi_seq ?_
        refine fi_region ?_
        refine so_assign (v := (.v (.bool false))) rfl ?_
        refine so_nil ?_
        exact by_ret rfl ⟨_, h, rfl, rfl⟩
    · refine fi_false rfl (decide_eq_false c106) ?_
      refine fi_exit rfl ?_
      refine fi_seq ?_
      refine fi_region ?_
      refine so_assign (v := (.v (.bool true))) rfl ?_
      refine so_nil ?_
      exact by_ret rfl ⟨_, h, rfl, rfl⟩
  · refine fi_true rfl (not_t c103) ?_
    refine fi_seq ?_
    refine fi_region ?_
    refine so_assign (v := (.v (.bool false))) rfl ?_
    refine so_nil ?_
    exact by_ret rfl ⟨_, h, rfl, rfl⟩

end Go.Proofs.Ytecdkjnomkdbkaa.G

namespace Go.Proofs.Ytecdkjnomkdbkaa.G
open Go Go.Ab Go.Proofs Go.Proofs.Ytecdkjnomkdbkaa
set_option maxRecDepth 100000
set_option linter.unusedVariables false
set_option linter.unusedSimpArgs false
set_option maxHeartbeats 1000000
attribute [local irreducible] wops wopf Go.Ab.Fin
theorem F15.ag2 : tagg Try.prog 2 = some false := by kernel_rfl
theorem F15.ag23 : tagg Try.prog 23 = some false := by kernel_rfl
theorem F15.ag3 : tagg Try.prog 3 = some false := by kernel_rfl
theorem F15.ag4 : tagg Try.prog 4 = some false := by kernel_rfl
theorem F15.ag47 : tagg Try.prog 47 = some false := by kernel_rfl
theorem F15.ag49 : tagg Try.prog 49 = some true := by kernel_rfl
theorem F15.ag75 : tagg Try.prog 75 = some false := by kernel_rfl
theorem F15.bp77 : bplan Try.prog 77 = some ([(.bool false), (.flt .f32 (0 : Nat)), (.int .i64 (0 : Int))], [(0, 1), (1, 1), (2, 1)]) := by kernel_rfl
theorem F15.by2 : tbytes Try.prog 2 = some 8 := by kernel_rfl
theorem F15.by77 : tbytes Try.prog 77 = some 16 := by kernel_rfl
theorem F15.fd49_0 : tfield Try.prog 49 0 = some (0, 1, false) := by kernel_rfl
theorem F15.fd49_1 : tfield Try.prog 49 1 = some (1, 1, false) := by kernel_rfl
theorem F15.fd77_0 : tfield Try.prog 77 0 = some (0, 1, false) := by kernel_rfl
theorem F15.fd77_1 : tfield Try.prog 77 1 = some (1, 1, false) := by kernel_rfl
theorem F15.fd77_2 : tfield Try.prog 77 2 = some (2, 1, false) := by kernel_rfl
theorem F15.sz2 : tsz Try.prog 2 = some 1 := by kernel_rfl
theorem F15.sz4 : tsz Try.prog 4 = some 1 := by kernel_rfl
theorem F15.sz49 : tsz Try.prog 49 = some 2 := by kernel_rfl
theorem F15.sz75 : tsz Try.prog 75 = some 1 := by kernel_rfl
theorem F15.sz77 : tsz Try.prog 77 = some 3 := by kernel_rfl
theorem F15.ta78_78 : tapp Try.prog 78 78 = some (1, 24) := by kernel_rfl
theorem F15.te22 : telem Try.prog 22 = some 2 := by kernel_rfl
theorem F15.te75 : telem Try.prog 75 = some 77 := by kernel_rfl
theorem F15.te78 : telem Try.prog 78 = some 75 := by kernel_rfl
theorem F15.ti35 : (telem Try.prog 35).isSome = true := by kernel_rfl
theorem F15.ti47 : (telem Try.prog 47).isSome = true := by kernel_rfl
theorem F15.ti75 : (telem Try.prog 75).isSome = true := by kernel_rfl
theorem F15.tl22 : (telem Try.prog 22).bind (tsz Try.prog) = some 1 := by kernel_rfl
theorem F15.tl35 : (telem Try.prog 35).bind (tsz Try.prog) = some 1 := by kernel_rfl
theorem F15.tl47 : (telem Try.prog 47).bind (tsz Try.prog) = some 2 := by kernel_rfl
theorem F15.tl75 : (telem Try.prog 75).bind (tsz Try.prog) = some 3 := by kernel_rfl
theorem F15.tl78 : (telem Try.prog 78).bind (tsz Try.prog) = some 1 := by kernel_rfl
theorem F15.ze2 : tzero Try.prog 2 = some [(.int .i64 (0 : Int))] := by kernel_rfl
theorem F15.ze49 : tzero Try.prog 49 = some [(.int .i64 (0 : Int)), (.flt .f32 (0 : Nat))] := by kernel_rfl
theorem F15.ze75 : tzero Try.prog 75 = some [.nilsl] := by kernel_rfl
theorem F15.ze77 : tzero Try.prog 77 = some [(.bool false), (.flt .f32 (0 : Nat)), (.int .i64 (0 : Int))] := by kernel_rfl
theorem impl_BestCuts_ok {fr : List Pc} {H : Heap} (v0 : AV) (w0 : List (List AV)) (l0 : List (List ((Int) × (Nat)))) (a1 : Int) (hs : Sep H (fr)) (g0 : ∀ H, Sep H fr → DSh H v0 1 R_LePair_eInt_i64_eFlt_f32_o l0 w0) (K : (List (Int)) → Nat → Bool → Prop) (h : impl_BestCuts.wp l0 a1 K) : OkQ Try.prog 15 [(.v v0), (.v (.int .i64 a1))] H (fun r H2 => ∃ (y0 : List (Int)) (y1 : Nat) (y2 : Bool), K y0 y1 y2 ∧ ∃ (w0_ : AV), r = (.t [(.v w0_), (.v (.flt .f32 y1)), (.v (.bool y2))]) ∧ Sep H2 (Pc.osl w0_ 1 (enc (eInt .i64) y0) :: fr)) := by
  unfold impl_BestCuts.wp at h
  refine of_body Try.f15 F.hm Try.func15 rfl Try.call15 (by kernel_rfl) (by simp) ?_
  refine fi_seq ?_
  refine fi_region ?_
  refine so_assign (v := (.v .nilsl)) rfl ?_
  refine so_assign (v := (.v (.flt .f32 (cz .f32 0)))) rfl ?_
  refine so_assign (v := (.v (.bool false))) rfl ?_
  refine so_nil ?_
  refine fi_seq ?_
  refine fi_seq ?_
  refine fi_region ?_
  refine so_move (v := (.v v0)) rfl ?_
  refine sv_callS (impl_areBlocks_ok v0 w0 l0 hs (fun _ hs => (g0 _ hs)) _ h) (fun _ _ ⟨_, _, _, e⟩ => e) rfl rfl ?_
  clear h
  rintro _ _ ⟨y101, h, rfl, rfl⟩
  refine so_un rfl au_not ?_
  refine so_move (v := (.v (.bool (!y101)))) rfl ?_
  replace h := ofT h; rcases h with ⟨c103, h⟩ | ⟨c103, h⟩
  · refine so_gyes rfl (not_f c103) ?_
    refine so_move (v := (.v (.int .i64 a1))) rfl ?_
    refine so_gyes rfl (not_f c103) ?_
    refine sv_callS (impl_within_ok a1 (0 : Int) (512 : Int) hs  _ h) (fun _ _ ⟨_, _, _, e⟩ => e) rfl rfl ?_
    clear h
    rintro _ _ ⟨y104, h, rfl, rfl⟩
    refine so_gyes rfl (not_f c103) ?_
    refine so_un rfl au_not ?_
    refine so_pick_f (v := (.v (.bool (!y104)))) rfl (not_f c103) rfl ?_
    refine so_nil ?_
    replace h := ofT h; rcases h with ⟨c106, h⟩ | ⟨c106, h⟩
    · refine fi_false rfl (not_f c106) ?_
      refine fi_skip ?_
      refine fi_seq ?_
      refine fi_region ?_
      refine so_move (v := (.v (.int .i64 a1))) rfl ?_
      refine so_bin rfl rfl ab_add ?_
      obtain ⟨c107, h⟩ := h
      refine sv_make hs (ePair eBool (ePair (eFlt .f32) (eInt .i64))) (false, (0 : Nat), (0 : Int)) c107 (fun _ => rfl) rfl rfl F15.te75 F15.sz77 F15.by77 F15.ze77 rfl rfl nofun (fun v108 H109 nv108 hs => ?_)
      refine so_assign (v := (.v v108)) rfl ?_
      refine so_nil ?_
      refine fi_seq ?_
      refine fi_seq ?_
      refine fi_region ?_
      refine so_move (v := (.v v108)) rfl ?_
      refine sv_len (hs.shows 0 rfl) (fun _ => rfl) (by decide) rfl F15.ti75 ?_
      refine so_move (v := (.v (.int .i64 (0 : Int)))) rfl ?_
      refine so_nil ?_
      refine fi_block ?_
      refine fi_loop ?_
      refine fi_at [(0, (.v v0)), (1, (.v (.int .i64 a1))), (7, (.v v108)), (33, (.v (.int .i64 ((List.replicate ((IntKind.i64.wrap (a1 + (1 : Int)))).toNat (false, (0 : Nat), (0 : Int))).length : Int)))), (34, (.v (.int .i64 (0 : Int))))] ⟨rfl, rfl, rfl, rfl, rfl, trivial⟩ ?_
      refine h (fun (before452 : List ((Bool) × (Nat) × (Int))) (x453 : Int) => ∀ (s : Nat → TV) (H : Heap), Sep H (Pc.osl v108 3 (enc (ePair eBool (ePair (eFlt .f32) (eInt .i64))) before452) :: fr) → Fin _ _ (updL s [(0, (.v v0)), (1, (.v (.int .i64 a1))), (7, (.v v108)), (33, (.v (.int .i64 ((List.replicate ((IntKind.i64.wrap (a1 + (1 : Int)))).toNat (false, (0 : Nat), (0 : Int))).length : Int)))), (34, (.v (.int .i64 x453)))]) H _) ?_ _ _ hs
      intro before452 x453 h s792 H793 hs
      refine fi_inLoop ?_
      refine fi_seq ?_
      refine fi_region ?_
      refine so_bin rfl rfl ab_lss ?_
      refine so_nil ?_
      refine fi_seq ?_
      replace h := ofP h; rcases h with ⟨c454, h⟩ | ⟨c454, h⟩
      · refine fi_true rfl (decide_eq_true c454) ?_
        refine fi_skip ?_
        refine fi_seq ?_
        refine fi_block ?_
        refine fi_seq ?_
        refine fi_region ?_
        refine so_move (v := (.v (.int .i64 x453))) rfl ?_
        refine so_assign (v := (.v (.int .i64 x453))) rfl ?_
        refine so_nil ?_
        refine fi_region ?_
        refine so_move (v := (.v v108)) rfl ?_
        refine so_move (v := (.v (.int .i64 x453))) rfl ?_
        obtain ⟨c455, h⟩ := h
        refine sv_idx (hs.shows 0 rfl) c455 (fun _ => rfl) (by decide) rfl rfl F15.tl75 ?_
        refine so_fieldAddr rfl F15.fd77_0 ?_
        refine sv_setf hs 0 rfl c455 (false, (0 : Nat), (0 : Int)) (true, (before452.getD (x453).toNat (false, (0 : Nat), (0 : Int))).2.1, (before452.getD (x453).toNat (false, (0 : Nat), (0 : Int))).2.2) 0 (fun _ => rfl) (by decide) rfl rfl rfl rfl F15.sz4 nofun (fun H456 hs => ?_)
        refine so_nil ?_
        refine fi_inBlock ?_
        refine fi_region ?_
        refine so_bin rfl rfl ab_add ?_
        refine so_move (v := (.v (.int .i64 (IntKind.i64.wrap (x453 + (1 : Int)))))) rfl ?_
        refine so_nil ?_
        exact fi_at [(0, (.v v0)), (1, (.v (.int .i64 a1))), (7, (.v v108)), (33, (.v (.int .i64 ((List.replicate ((IntKind.i64.wrap (a1 + (1 : Int)))).toNat (false, (0 : Nat), (0 : Int))).length : Int)))), (34, (.v (.int .i64 (IntKind.i64.wrap (x453 + (1 : Int))))))] ⟨rfl, rfl, rfl, rfl, rfl, trivial⟩ (h _ _  hs)
      · refine fi_false rfl (decide_eq_false c454) ?_
        refine fi_exit rfl ?_
        refine fi_seq ?_
        refine fi_region ?_
        refine sv_bslice hs sg ([] : List AV) [] F15.te78 F15.sz75 F15.ze75 rfl rfl rfl rfl (fun _ => rfl) rfl (by decide) nofun (fun v457 H458 _ hs => ?_)
        replace hs := Sep.kdnil hs R_LePair_eBool_ePair_eFlt_f32_eInt_i64_o
        refine so_assign (v := (.v v457)) rfl ?_
        refine so_nil ?_
        refine fi_seq ?_
        refine fi_seq ?_
        refine fi_region ?_
        refine so_move (v := (.v v0)) rfl ?_
        refine sd_len ((g0 _ hs.tl.tl.tl) : DSh _ _ 1 R_LePair_eInt_i64_eFlt_f32_o l0 w0) (by decide) rfl F15.ti35 ?_
        refine so_move (v := (.v (.int .i64 (0 : Int)))) rfl ?_
        refine so_nil ?_
        refine fi_block ?_
        refine fi_loop ?_
        replace hs := Sep.freeze hs 2 rfl
        refine fi_at [(0, (.v v0)), (1, (.v (.int .i64 a1))), (7, (.v v108)), (9, (.v v457)), (43, (.v v0)), (44, (.v (.int .i64 (l0.length : Int)))), (45, (.v (.int .i64 (0 : Int))))] ⟨rfl, rfl, rfl, rfl, rfl, rfl, rfl, trivial⟩ ?_
        refine h (fun (table655 : List (List ((Bool) × (Nat) × (Int)))) (before658 : List ((Bool) × (Nat) × (Int))) (x661 : Int) => ∀ (s : Nat → TV) (H : Heap) (v656 : AV) (vs657 : List AV) (v659 : AV) (S660 : Nat → Prop), Sep H (kdp R_LePair_eBool_ePair_eFlt_f32_eInt_i64_o table655 vs657 S660 :: Pc.osl v656 1 (enc sg vs657) :: rdp v659 3 (enc (ePair eBool (ePair (eFlt .f32) (eInt .i64))) before658) :: fr) → Fin _ _ (updL s [(0, (.v v0)), (1, (.v (.int .i64 a1))), (7, (.v v659)), (9, (.v v656)), (43, (.v v0)), (44, (.v (.int .i64 (l0.length : Int)))), (45, (.v (.int .i64 x661)))]) H _) ?_ _ _ _ _ _ _ hs
        intro table655 before658 x661 h s790 H791 v656 vs657 v659 S660 hs
        refine fi_inLoop ?_
        refine fi_seq ?_
        refine fi_region ?_
        refine so_bin rfl rfl ab_lss ?_
        refine so_nil ?_
        refine fi_seq ?_
        replace h := ofP h; rcases h with ⟨c662, h⟩ | ⟨c662, h⟩
        · refine fi_true rfl (decide_eq_true c662) ?_
          refine fi_skip ?_
          refine fi_seq ?_
          refine fi_block ?_
          refine fi_seq ?_
          refine fi_region ?_
          obtain ⟨c663, h⟩ := h
          refine sd_idx ((g0 _ hs.tl.tl.tl) : DSh _ _ 1 R_LePair_eInt_i64_eFlt_f32_o l0 w0) c663 ([] : List ((Int) × (Nat))) (by decide) rfl rfl F15.tl35 ?_
          refine su_ld ((((g0 _ hs.tl.tl.tl) : DSh _ _ 1 R_LePair_eInt_i64_eFlt_f32_o l0 w0)).at (by decide) c663 ([] : List ((Int) × (Nat)))).2.2 0 (congrArg (fun c => c[0]?) ((((g0 _ hs.tl.tl.tl) : DSh _ _ 1 R_LePair_eInt_i64_eFlt_f32_o l0 w0)).at (by decide) c663 ([] : List ((Int) × (Nat)))).2.1.1) rfl F15.ag47 ?_
          refine so_assign (v := (.v ((w0.getD (x661).toNat []).getD 0 .und))) rfl ?_
          refine so_nil ?_
          refine fi_seq ?_
          refine fi_region ?_
          refine so_move (v := (.v (.int .i64 a1))) rfl ?_
          refine so_bin rfl rfl ab_add ?_
          refine sv_make hs (ePair eBool (ePair (eFlt .f32) (eInt .i64))) (false, (0 : Nat), (0 : Int)) c107 (fun _ => rfl) rfl rfl F15.te75 F15.sz77 F15.by77 F15.ze77 rfl rfl nofun (fun v664 H665 nv664 hs => ?_)
          refine so_assign (v := (.v v664)) rfl ?_
          refine so_nil ?_
          refine fi_seq ?_
          refine fi_seq ?_
          refine fi_region ?_
          refine so_move (v := (.v v664)) rfl ?_
          refine sv_len (hs.shows 0 rfl) (fun _ => rfl) (by decide) rfl F15.ti75 ?_
          refine so_move (v := (.v (.int .i64 (0 : Int)))) rfl ?_
          refine so_nil ?_
          refine fi_block ?_
          refine fi_loop ?_
          refine fi_at [(0, (.v v0)), (1, (.v (.int .i64 a1))), (7, (.v v659)), (9, (.v v656)), (11, (.v ((w0.getD (x661).toNat []).getD 0 .und))), (12, (.v v664)), (43, (.v v0)), (44, (.v (.int .i64 (l0.length : Int)))), (45, (.v (.int .i64 x661))), (53, (.v (.int .i64 ((List.replicate ((IntKind.i64.wrap (a1 + (1 : Int)))).toNat (false, (0 : Nat), (0 : Int))).length : Int)))), (54, (.v (.int .i64 (0 : Int))))] ⟨rfl, rfl, rfl, rfl, rfl, rfl, rfl, rfl, rfl, rfl, rfl, trivial⟩ ?_
          refine h (fun (row712 : List ((Bool) × (Nat) × (Int))) (x713 : Int) => ∀ (s : Nat → TV) (H : Heap), Sep H (Pc.osl v664 3 (enc (ePair eBool (ePair (eFlt .f32) (eInt .i64))) row712) :: kdp R_LePair_eBool_ePair_eFlt_f32_eInt_i64_o table655 vs657 S660 :: Pc.osl v656 1 (enc sg vs657) :: rdp v659 3 (enc (ePair eBool (ePair (eFlt .f32) (eInt .i64))) before658) :: fr) → Fin _ _ (updL s [(0, (.v v0)), (1, (.v (.int .i64 a1))), (7, (.v v659)), (9, (.v v656)), (11, (.v ((w0.getD (x661).toNat []).getD 0 .und))), (12, (.v v664)), (43, (.v v0)), (44, (.v (.int .i64 (l0.length : Int)))), (45, (.v (.int .i64 x661))), (53, (.v (.int .i64 ((List.replicate ((IntKind.i64.wrap (a1 + (1 : Int)))).toNat (false, (0 : Nat), (0 : Int))).length : Int)))), (54, (.v (.int .i64 x713)))]) H _) ?_ _ _ hs
          intro row712 x713 h s756 H757 hs
          refine fi_inLoop ?_
          refine fi_seq ?_
          refine fi_region ?_
          refine so_bin rfl rfl ab_lss ?_
          refine so_nil ?_
          refine fi_seq ?_
          replace h := ofP h; rcases h with ⟨c714, h⟩ | ⟨c714, h⟩
          · refine fi_true rfl (decide_eq_true c714) ?_
            refine fi_skip ?_
            refine fi_seq ?_
            refine fi_block ?_
            refine fi_seq ?_
            refine fi_region ?_
            refine so_move (v := (.v (.int .i64 x713))) rfl ?_
            refine so_assign (v := (.v (.int .i64 x713))) rfl ?_
            refine so_nil ?_
            refine fi_seq ?_
            refine fi_region ?_
            refine so_move (v := (.v ((w0.getD (x661).toNat []).getD 0 .und))) rfl ?_
            refine sv_len ((((g0 _ hs.tl.tl.tl.tl) : DSh _ _ 1 R_LePair_eInt_i64_eFlt_f32_o l0 w0)).at (by decide) c663 ([] : List ((Int) × (Nat)))).2.1.2 (fun _ => rfl) (by decide) rfl F15.ti47 ?_
            refine so_move (v := (.v (.int .i64 (0 : Int)))) rfl ?_
            refine so_nil ?_
            refine fi_block ?_
            refine fi_loop ?_
            refine fi_at [(0, (.v v0)), (1, (.v (.int .i64 a1))), (7, (.v v659)), (9, (.v v656)), (11, (.v ((w0.getD (x661).toNat []).getD 0 .und))), (12, (.v v664)), (13, (.v (.int .i64 x713))), (43, (.v v0)), (44, (.v (.int .i64 (l0.length : Int)))), (45, (.v (.int .i64 x661))), (53, (.v (.int .i64 ((List.replicate ((IntKind.i64.wrap (a1 + (1 : Int)))).toNat (false, (0 : Nat), (0 : Int))).length : Int)))), (54, (.v (.int .i64 x713))), (57, (.v ((w0.getD (x661).toNat []).getD 0 .und))), (58, (.v (.int .i64 ((l0.getD (x661).toNat ([] : List ((Int) × (Nat)))).length : Int)))), (59, (.v (.int .i64 (0 : Int))))] ⟨rfl, rfl, rfl, rfl, rfl, rfl, rfl, rfl, rfl, rfl, rfl, rfl, rfl, rfl, rfl, trivial⟩ ?_
            refine h (fun (row732 : List ((Bool) × (Nat) × (Int))) (x733 : Int) => ∀ (s : Nat → TV) (H : Heap), Sep H (Pc.osl v664 3 (enc (ePair eBool (ePair (eFlt .f32) (eInt .i64))) row732) :: kdp R_LePair_eBool_ePair_eFlt_f32_eInt_i64_o table655 vs657 S660 :: Pc.osl v656 1 (enc sg vs657) :: rdp v659 3 (enc (ePair eBool (ePair (eFlt .f32) (eInt .i64))) before658) :: fr) → Fin _ _ (updL s [(0, (.v v0)), (1, (.v (.int .i64 a1))), (7, (.v v659)), (9, (.v v656)), (11, (.v ((w0.getD (x661).toNat []).getD 0 .und))), (12, (.v v664)), (13, (.v (.int .i64 x713))), (43, (.v v0)), (44, (.v (.int .i64 (l0.length : Int)))), (45, (.v (.int .i64 x661))), (53, (.v (.int .i64 ((List.replicate ((IntKind.i64.wrap (a1 + (1 : Int)))).toNat (false, (0 : Nat), (0 : Int))).length : Int)))), (54, (.v (.int .i64 x713))), (57, (.v ((w0.getD (x661).toNat []).getD 0 .und))), (58, (.v (.int .i64 ((l0.getD (x661).toNat ([] : List ((Int) × (Nat)))).length : Int)))), (59, (.v (.int .i64 x733)))]) H _) ?_ _ _ hs
            intro row732 x733 h s748 H749 hs
            refine fi_inLoop ?_
            refine fi_seq ?_
            refine fi_region ?_
            refine so_bin rfl rfl ab_lss ?_
            refine so_nil ?_
            refine fi_seq ?_
            replace h := ofP h; rcases h with ⟨c734, h⟩ | ⟨c734, h⟩
            · refine fi_true rfl (decide_eq_true c734) ?_
              refine fi_skip ?_
              refine fi_seq ?_
              refine fi_block ?_
              refine fi_seq ?_
              refine fi_region ?_
              refine so_move (v := (.v (.int .i64 x733))) rfl ?_
              obtain ⟨c735, h⟩ := h
              refine sv_idx ((((g0 _ hs.tl.tl.tl.tl) : DSh _ _ 1 R_LePair_eInt_i64_eFlt_f32_o l0 w0)).at (by decide) c663 ([] : List ((Int) × (Nat)))).2.1.2 c735 (fun _ => rfl) (by decide) rfl rfl F15.tl47 ?_
              refine sv_elem ((((g0 _ hs.tl.tl.tl.tl) : DSh _ _ 1 R_LePair_eInt_i64_eFlt_f32_o l0 w0)).at (by decide) c663 ([] : List ((Int) × (Nat)))).2.1.2 c735 ((0 : Int), (0 : Nat)) (fun _ => rfl) (by decide) rfl F15.ag49 F15.sz49 ?_
              refine sv_alloc hs F15.ze49 rfl nofun (fun id736 H737 hs => ?_)
              refine so_assign (v := (.v (.int .i64 x733))) rfl ?_
              refine sv_st hs 0 rfl rfl rfl (c := [(.int .i64 ((l0.getD (x661).toNat ([] : List ((Int) × (Nat)))).getD (x733).toNat ((0 : Int), (0 : Nat))).1), (.flt .f32 ((l0.getD (x661).toNat ([] : List ((Int) × (Nat)))).getD (x733).toNat ((0 : Int), (0 : Nat))).2)]) rfl F15.sz49 rfl (stc rfl (stc rfl stn)) (leb rfl) (cs' := [(.int .i64 ((l0.getD (x661).toNat ([] : List ((Int) × (Nat)))).getD (x733).toNat ((0 : Int), (0 : Nat))).1), (.flt .f32 ((l0.getD (x661).toNat ([] : List ((Int) × (Nat)))).getD (x733).toNat ((0 : Int), (0 : Nat))).2)]) rfl nofun (fun H739 hs => ?_)
              refine so_nil ?_
              refine fi_seq ?_
              refine fi_seq ?_
              refine fi_region ?_
              refine so_fieldAddr rfl F15.fd49_0 ?_
              refine sv_ld hs 0 rfl rfl rfl F15.ag2 ?_
              refine so_move (v := (.v (.int .i64 x713))) rfl ?_
              refine so_bin rfl rfl ab_gtr ?_
              refine so_move (v := (.v (.bool (decide (x713 < ((l0.getD (x661).toNat ([] : List ((Int) × (Nat)))).getD (x733).toNat ((0 : Int), (0 : Nat))).1))))) rfl ?_
              replace h := ofP h; rcases h with ⟨c740, h⟩ | ⟨c740, h⟩
              · refine so_gno rfl (decide_eq_true c740) ?_
                refine so_gno rfl (decide_eq_true c740) ?_
                refine so_gno rfl (decide_eq_true c740) ?_
                refine so_gno rfl (decide_eq_true c740) ?_
                refine so_gno rfl (decide_eq_true c740) ?_
                refine so_gno rfl (decide_eq_true c740) ?_
                refine so_gno rfl (decide_eq_true c740) ?_
                refine so_gno rfl (decide_eq_true c740) ?_
                refine so_gno rfl (decide_eq_true c740) ?_
                refine so_pick_t (v := (.v (.bool true))) rfl (decide_eq_true c740) rfl ?_
                refine so_nil ?_
                refine fi_true rfl rfl ?_
                refine fi_exit rfl ?_
                refine fi_region ?_
                refine so_bin rfl rfl ab_add ?_
                refine so_move (v := (.v (.int .i64 (IntKind.i64.wrap (x733 + (1 : Int)))))) rfl ?_
                refine so_nil ?_
                exact fi_at [(0, (.v v0)), (1, (.v (.int .i64 a1))), (7, (.v v659)), (9, (.v v656)), (11, (.v ((w0.getD (x661).toNat []).getD 0 .und))), (12, (.v v664)), (13, (.v (.int .i64 x713))), (43, (.v v0)), (44, (.v (.int .i64 (l0.length : Int)))), (45, (.v (.int .i64 x661))), (53, (.v (.int .i64 ((List.replicate ((IntKind.i64.wrap (a1 + (1 : Int)))).toNat (false, (0 : Nat), (0 : Int))).length : Int)))), (54, (.v (.int .i64 x713))), (57, (.v ((w0.getD (x661).toNat []).getD 0 .und))), (58, (.v (.int .i64 ((l0.getD (x661).toNat ([] : List ((Int) × (Nat)))).length : Int)))), (59, (.v (.int .i64 (IntKind.i64.wrap (x733 + (1 : Int))))))] ⟨rfl, rfl, rfl, rfl, rfl, rfl, rfl, rfl, rfl, rfl, rfl, rfl, rfl, rfl, rfl, trivial⟩ (h _ _  (Sep.del 0 hs))
              · refine so_gyes rfl (decide_eq_false c740) ?_
                refine so_move (v := (.v v659)) rfl ?_
                refine so_gyes rfl (decide_eq_false c740) ?_
                refine so_move (v := (.v (.int .i64 x713))) rfl ?_
                refine so_gyes rfl (decide_eq_false c740) ?_
                refine so_fieldAddr rfl F15.fd49_0 ?_
                refine so_gyes rfl (decide_eq_false c740) ?_
                refine sv_ld hs 0 rfl rfl rfl F15.ag2 ?_
                refine so_gyes rfl (decide_eq_false c740) ?_
                refine so_bin rfl rfl ab_sub ?_
                refine so_gyes rfl (decide_eq_false c740) ?_
                obtain ⟨c741, h⟩ := h
                refine sv_idx (hs.rshows 4 rfl) c741 (fun _ => rfl) (by decide) rfl rfl F15.tl75 ?_
                refine so_gyes rfl (decide_eq_false c740) ?_
                refine so_fieldAddr rfl F15.fd77_0 ?_
                refine so_gyes rfl (decide_eq_false c740) ?_
                refine sv_cell (hs.rshows 4 rfl) c741 (false, (0 : Nat), (0 : Int)) 0 (fun x => (AV.bool x.1)) (fun _ => rfl) (fun _ => rfl) rfl F15.ag4 ?_
                refine so_gyes rfl (decide_eq_false c740) ?_
                refine so_un rfl au_not ?_
                refine so_pick_f (v := (.v (.bool (!(before658.getD ((IntKind.i64.wrap (x713 - ((l0.getD (x661).toNat ([] : List ((Int) × (Nat)))).getD (x733).toNat ((0 : Int), (0 : Nat))).1))).toNat (false, (0 : Nat), (0 : Int))).1)))) rfl (decide_eq_false c740) rfl ?_
                refine so_nil ?_
                replace h := ofT h; rcases h with ⟨c742, h⟩ | ⟨c742, h⟩
                · refine fi_false rfl (not_f c742) ?_
                  refine fi_skip ?_
                  refine fi_seq ?_
                  refine fi_region ?_
                  refine so_move (v := (.v v659)) rfl ?_
                  refine so_move (v := (.v (.int .i64 x713))) rfl ?_
                  refine so_fieldAddr rfl F15.fd49_0 ?_
                  refine sv_ld hs 0 rfl rfl rfl F15.ag2 ?_
                  refine so_bin rfl rfl ab_sub ?_
                  refine sv_idx (hs.rshows 4 rfl) c741 (fun _ => rfl) (by decide) rfl rfl F15.tl75 ?_
                  refine so_fieldAddr rfl F15.fd77_1 ?_
                  refine sv_cell (hs.rshows 4 rfl) c741 (false, (0 : Nat), (0 : Int)) 1 (fun x => (AV.flt .f32 x.2.1)) (fun _ => rfl) (fun _ => rfl) rfl F15.ag23 ?_
                  refine so_fieldAddr rfl F15.fd49_1 ?_
                  refine sv_ld hs 0 rfl rfl rfl F15.ag23 ?_
                  refine so_bin rfl rfl ab_fadd ?_
                  refine so_assign (v := (.v (.flt .f32 (fop .add .f32 (before658.getD ((IntKind.i64.wrap (x713 - ((l0.getD (x661).toNat ([] : List ((Int) × (Nat)))).getD (x733).toNat ((0 : Int), (0 : Nat))).1))).toNat (false, (0 : Nat), (0 : Int))).2.1 ((l0.getD (x661).toNat ([] : List ((Int) × (Nat)))).getD (x733).toNat ((0 : Int), (0 : Nat))).2)))) rfl ?_
                  refine so_nil ?_
                  refine fi_seq ?_
                  refine fi_region ?_
                  refine so_move (v := (.v v664)) rfl ?_
                  refine so_move (v := (.v (.int .i64 x713))) rfl ?_
                  obtain ⟨c743, h⟩ := h
                  refine sv_idx (hs.shows 1 rfl) c743 (fun _ => rfl) (by decide) rfl rfl F15.tl75 ?_
                  refine so_fieldAddr rfl F15.fd77_0 ?_
                  refine sv_cell (hs.shows 1 rfl) c743 (false, (0 : Nat), (0 : Int)) 0 (fun x => (AV.bool x.1)) (fun _ => rfl) (fun _ => rfl) rfl F15.ag4 ?_
                  refine so_un rfl au_not ?_
                  refine so_move (v := (.v (.bool (!(row732.getD (x713).toNat (false, (0 : Nat), (0 : Int))).1)))) rfl ?_
                  replace h := ofT h; rcases h with ⟨c744, h⟩ | ⟨c744, h⟩
                  · refine so_gyes rfl (not_f c744) ?_
                    refine so_move (v := (.v (.flt .f32 (fop .add .f32 (before658.getD ((IntKind.i64.wrap (x713 - ((l0.getD (x661).toNat ([] : List ((Int) × (Nat)))).getD (x733).toNat ((0 : Int), (0 : Nat))).1))).toNat (false, (0 : Nat), (0 : Int))).2.1 ((l0.getD (x661).toNat ([] : List ((Int) × (Nat)))).getD (x733).toNat ((0 : Int), (0 : Nat))).2)))) rfl ?_
                    refine so_gyes rfl (not_f c744) ?_
                    refine so_move (v := (.v v664)) rfl ?_
                    refine so_gyes rfl (not_f c744) ?_
                    refine so_move (v := (.v (.int .i64 x713))) rfl ?_
                    refine so_gyes rfl (not_f c744) ?_
                    refine sv_idx (hs.shows 1 rfl) c743 (fun _ => rfl) (by decide) rfl rfl F15.tl75 ?_
                    refine so_gyes rfl (not_f c744) ?_
                    refine so_fieldAddr rfl F15.fd77_1 ?_
                    refine so_gyes rfl (not_f c744) ?_
                    refine sv_cell (hs.shows 1 rfl) c743 (false, (0 : Nat), (0 : Int)) 1 (fun x => (AV.flt .f32 x.2.1)) (fun _ => rfl) (fun _ => rfl) rfl F15.ag23 ?_
                    refine so_gyes rfl (not_f c744) ?_
                    refine so_bin rfl rfl ab_flss ?_
                    refine so_pick_f (v := (.v (.bool (fcmp .lss .f32 (fop .add .f32 (before658.getD ((IntKind.i64.wrap (x713 - ((l0.getD (x661).toNat ([] : List ((Int) × (Nat)))).getD (x733).toNat ((0 : Int), (0 : Nat))).1))).toNat (false, (0 : Nat), (0 : Int))).2.1 ((l0.getD (x661).toNat ([] : List ((Int) × (Nat)))).getD (x733).toNat ((0 : Int), (0 : Nat))).2) (row732.getD (x713).toNat (false, (0 : Nat), (0 : Int))).2.1)))) rfl (not_f c744) rfl ?_
                    refine so_nil ?_
                    replace h := ofT h; rcases h with ⟨c745, h⟩ | ⟨c745, h⟩
                    · refine fi_true rfl c745 ?_
                      refine fi_region ?_
                      refine so_move (v := (.v v664)) rfl ?_
                      refine so_move (v := (.v (.int .i64 x713))) rfl ?_
                      refine so_move (v := (.v (.flt .f32 (fop .add .f32 (before658.getD ((IntKind.i64.wrap (x713 - ((l0.getD (x661).toNat ([] : List ((Int) × (Nat)))).getD (x733).toNat ((0 : Int), (0 : Nat))).1))).toNat (false, (0 : Nat), (0 : Int))).2.1 ((l0.getD (x661).toNat ([] : List ((Int) × (Nat)))).getD (x733).toNat ((0 : Int), (0 : Nat))).2)))) rfl ?_
                      refine so_move (v := (.v (.int .i64 x733))) rfl ?_
                      refine so_build F15.bp77 (cps := [(0, [(.bool true)]), (1, [(.flt .f32 (fop .add .f32 (before658.getD ((IntKind.i64.wrap (x713 - ((l0.getD (x661).toNat ([] : List ((Int) × (Nat)))).getD (x733).toNat ((0 : Int), (0 : Nat))).1))).toNat (false, (0 : Nat), (0 : Int))).2.1 ((l0.getD (x661).toNat ([] : List ((Int) × (Nat)))).getD (x733).toNat ((0 : Int), (0 : Nat))).2))]), (2, [(.int .i64 x733)])]) rfl (fac (stc rfl stn) (fac (stc rfl stn) (fac (stc rfl stn) fan))) rfl ?_
                      refine sv_idx (hs.shows 1 rfl) c743 (fun _ => rfl) (by decide) rfl rfl F15.tl75 ?_
                      refine sv_set hs 1 rfl c743 (true, (fop .add .f32 (before658.getD ((IntKind.i64.wrap (x713 - ((l0.getD (x661).toNat ([] : List ((Int) × (Nat)))).getD (x733).toNat ((0 : Int), (0 : Nat))).1))).toNat (false, (0 : Nat), (0 : Int))).2.1 ((l0.getD (x661).toNat ([] : List ((Int) × (Nat)))).getD (x733).toNat ((0 : Int), (0 : Nat))).2), x733) (fun _ => rfl) (by decide) rfl rfl rfl rfl F15.sz77 nofun (fun H746 hs => ?_)
                      refine so_nil ?_
                      refine fi_inBlock ?_
                      refine fi_region ?_
                      refine so_bin rfl rfl ab_add ?_
                      refine so_move (v := (.v (.int .i64 (IntKind.i64.wrap (x733 + (1 : Int)))))) rfl ?_
                      refine so_nil ?_
                      exact fi_at [(0, (.v v0)), (1, (.v (.int .i64 a1))), (7, (.v v659)), (9, (.v v656)), (11, (.v ((w0.getD (x661).toNat []).getD 0 .und))), (12, (.v v664)), (13, (.v (.int .i64 x713))), (43, (.v v0)), (44, (.v (.int .i64 (l0.length : Int)))), (45, (.v (.int .i64 x661))), (53, (.v (.int .i64 ((List.replicate ((IntKind.i64.wrap (a1 + (1 : Int)))).toNat (false, (0 : Nat), (0 : Int))).length : Int)))), (54, (.v (.int .i64 x713))), (57, (.v ((w0.getD (x661).toNat []).getD 0 .und))), (58, (.v (.int .i64 ((l0.getD (x661).toNat ([] : List ((Int) × (Nat)))).length : Int)))), (59, (.v (.int .i64 (IntKind.i64.wrap (x733 + (1 : Int))))))] ⟨rfl, rfl, rfl, rfl, rfl, rfl, rfl, rfl, rfl, rfl, rfl, rfl, rfl, rfl, rfl, trivial⟩ (h _ _  (Sep.del 0 hs))
                    · refine fi_false rfl c745 ?_
                      refine fi_skip ?_
                      refine fi_inBlock ?_
                      refine fi_region ?_
                      refine so_bin rfl rfl ab_add ?_
                      refine so_move (v := (.v (.int .i64 (IntKind.i64.wrap (x733 + (1 : Int)))))) rfl ?_
                      refine so_nil ?_
                      exact fi_at [(0, (.v v0)), (1, (.v (.int .i64 a1))), (7, (.v v659)), (9, (.v v656)), (11, (.v ((w0.getD (x661).toNat []).getD 0 .und))), (12, (.v v664)), (13, (.v (.int .i64 x713))), (43, (.v v0)), (44, (.v (.int .i64 (l0.length : Int)))), (45, (.v (.int .i64 x661))), (53, (.v (.int .i64 ((List.replicate ((IntKind.i64.wrap (a1 + (1 : Int)))).toNat (false, (0 : Nat), (0 : Int))).length : Int)))), (54, (.v (.int .i64 x713))), (57, (.v ((w0.getD (x661).toNat []).getD 0 .und))), (58, (.v (.int .i64 ((l0.getD (x661).toNat ([] : List ((Int) × (Nat)))).length : Int)))), (59, (.v (.int .i64 (IntKind.i64.wrap (x733 + (1 : Int))))))] ⟨rfl, rfl, rfl, rfl, rfl, rfl, rfl, rfl, rfl, rfl, rfl, rfl, rfl, rfl, rfl, trivial⟩ (h _ _  (Sep.del 0 hs))
                  · refine so_gno rfl (not_t c744) ?_
                    refine so_gno rfl (not_t c744) ?_
                    refine so_gno rfl (not_t c744) ?_
                    refine so_gno rfl (not_t c744) ?_
                    refine so_gno rfl (not_t c744) ?_
                    refine so_gno rfl (not_t c744) ?_
                    refine so_gno rfl (not_t c744) ?_
                    refine so_pick_t (v := (.v (.bool true))) rfl (not_t c744) rfl ?_
                    refine so_nil ?_
                    refine fi_true rfl rfl ?_
                    refine fi_region ?_
                    refine so_move (v := (.v v664)) rfl ?_
                    refine so_move (v := (.v (.int .i64 x713))) rfl ?_
                    refine so_move (v := (.v (.flt .f32 (fop .add .f32 (before658.getD ((IntKind.i64.wrap (x713 - ((l0.getD (x661).toNat ([] : List ((Int) × (Nat)))).getD (x733).toNat ((0 : Int), (0 : Nat))).1))).toNat (false, (0 : Nat), (0 : Int))).2.1 ((l0.getD (x661).toNat ([] : List ((Int) × (Nat)))).getD (x733).toNat ((0 : Int), (0 : Nat))).2)))) rfl ?_
                    refine so_move (v := (.v (.int .i64 x733))) rfl ?_
                    refine so_build F15.bp77 (cps := [(0, [(.bool true)]), (1, [(.flt .f32 (fop .add .f32 (before658.getD ((IntKind.i64.wrap (x713 - ((l0.getD (x661).toNat ([] : List ((Int) × (Nat)))).getD (x733).toNat ((0 : Int), (0 : Nat))).1))).toNat (false, (0 : Nat), (0 : Int))).2.1 ((l0.getD (x661).toNat ([] : List ((Int) × (Nat)))).getD (x733).toNat ((0 : Int), (0 : Nat))).2))]), (2, [(.int .i64 x733)])]) rfl (fac (stc rfl stn) (fac (stc rfl stn) (fac (stc rfl stn) fan))) rfl ?_
                    refine sv_idx (hs.shows 1 rfl) c743 (fun _ => rfl) (by decide) rfl rfl F15.tl75 ?_
                    refine sv_set hs 1 rfl c743 (true, (fop .add .f32 (before658.getD ((IntKind.i64.wrap (x713 - ((l0.getD (x661).toNat ([] : List ((Int) × (Nat)))).getD (x733).toNat ((0 : Int), (0 : Nat))).1))).toNat (false, (0 : Nat), (0 : Int))).2.1 ((l0.getD (x661).toNat ([] : List ((Int) × (Nat)))).getD (x733).toNat ((0 : Int), (0 : Nat))).2), x733) (fun _ => rfl) (by decide) rfl rfl rfl rfl F15.sz77 nofun (fun H747 hs => ?_)
                    refine so_nil ?_
                    refine fi_inBlock ?_
                    refine fi_region ?_
                    refine so_bin rfl rfl ab_add ?_
                    refine so_move (v := (.v (.int .i64 (IntKind.i64.wrap (x733 + (1 : Int)))))) rfl ?_
                    refine so_nil ?_
                    exact fi_at [(0, (.v v0)), (1, (.v (.int .i64 a1))), (7, (.v v659)), (9, (.v v656)), (11, (.v ((w0.getD (x661).toNat []).getD 0 .und))), (12, (.v v664)), (13, (.v (.int .i64 x713))), (43, (.v v0)), (44, (.v (.int .i64 (l0.length : Int)))), (45, (.v (.int .i64 x661))), (53, (.v (.int .i64 ((List.replicate ((IntKind.i64.wrap (a1 + (1 : Int)))).toNat (false, (0 : Nat), (0 : Int))).length : Int)))), (54, (.v (.int .i64 x713))), (57, (.v ((w0.getD (x661).toNat []).getD 0 .und))), (58, (.v (.int .i64 ((l0.getD (x661).toNat ([] : List ((Int) × (Nat)))).length : Int)))), (59, (.v (.int .i64 (IntKind.i64.wrap (x733 + (1 : Int))))))] ⟨rfl, rfl, rfl, rfl, rfl, rfl, rfl, rfl, rfl, rfl, rfl, rfl, rfl, rfl, rfl, trivial⟩ (h _ _  (Sep.del 0 hs))
                · refine fi_true rfl (not_t c742) ?_
                  refine fi_exit rfl ?_
                  refine fi_region ?_
                  refine so_bin rfl rfl ab_add ?_
                  refine so_move (v := (.v (.int .i64 (IntKind.i64.wrap (x733 + (1 : Int)))))) rfl ?_
                  refine so_nil ?_
                  exact fi_at [(0, (.v v0)), (1, (.v (.int .i64 a1))), (7, (.v v659)), (9, (.v v656)), (11, (.v ((w0.getD (x661).toNat []).getD 0 .und))), (12, (.v v664)), (13, (.v (.int .i64 x713))), (43, (.v v0)), (44, (.v (.int .i64 (l0.length : Int)))), (45, (.v (.int .i64 x661))), (53, (.v (.int .i64 ((List.replicate ((IntKind.i64.wrap (a1 + (1 : Int)))).toNat (false, (0 : Nat), (0 : Int))).length : Int)))), (54, (.v (.int .i64 x713))), (57, (.v ((w0.getD (x661).toNat []).getD 0 .und))), (58, (.v (.int .i64 ((l0.getD (x661).toNat ([] : List ((Int) × (Nat)))).length : Int)))), (59, (.v (.int .i64 (IntKind.i64.wrap (x733 + (1 : Int))))))] ⟨rfl, rfl, rfl, rfl, rfl, rfl, rfl, rfl, rfl, rfl, rfl, rfl, rfl, rfl, rfl, trivial⟩ (h _ _  (Sep.del 0 hs))
            · refine fi_false rfl (decide_eq_false c734) ?_
              refine fi_exit rfl ?_
              refine fi_inBlock ?_
              refine fi_region ?_
              refine so_bin rfl rfl ab_add ?_
              refine so_move (v := (.v (.int .i64 (IntKind.i64.wrap (x713 + (1 : Int)))))) rfl ?_
              refine so_nil ?_
              exact fi_at [(0, (.v v0)), (1, (.v (.int .i64 a1))), (7, (.v v659)), (9, (.v v656)), (11, (.v ((w0.getD (x661).toNat []).getD 0 .und))), (12, (.v v664)), (43, (.v v0)), (44, (.v (.int .i64 (l0.length : Int)))), (45, (.v (.int .i64 x661))), (53, (.v (.int .i64 ((List.replicate ((IntKind.i64.wrap (a1 + (1 : Int)))).toNat (false, (0 : Nat), (0 : Int))).length : Int)))), (54, (.v (.int .i64 (IntKind.i64.wrap (x713 + (1 : Int))))))] ⟨rfl, rfl, rfl, rfl, rfl, rfl, rfl, rfl, rfl, rfl, rfl, trivial⟩ (h _ _  hs)
          · refine fi_false rfl (decide_eq_false c714) ?_
            refine fi_exit rfl ?_
            refine fi_seq ?_
            refine fi_region ?_
            refine so_move (v := (.v v656)) rfl ?_
            refine so_move (v := (.v v664)) rfl ?_
            refine sd_bslice hs [[v664]] F15.te78 F15.sz75 F15.ze75 rfl rfl rfl (by simp) (fac (stc (hs.shows 0 rfl).stor stn) fan) (by decide) rfl nofun (fun v750 H751 _ hs => ?_)
            obtain ⟨c753, h⟩ := h
            replace hs := Sep.freeze hs 1 rfl
            refine sv_app hs 3 rfl (show Shows _ _ 1 (enc sg [v664]) from hs.shows 0 rfl) (fun _ => rfl) (by decide) F15.ta78_78 (by decide) (flen_le (ys := ([row712] : List (List ((Bool) × (Nat) × (Int))))) ((hs.fshows 3 2 rfl rfl) : DSh _ _ 1 R_LePair_eBool_ePair_eFlt_f32_eInt_i64_o table655 (vs657.map sg)) rfl c753) rfl rfl nofun (fun v754 H755 kv754 hs => ?_)
            replace hs := Sep.kdapp hs 2 1 row712 rfl rfl (fun _ hh => ⟨rfl, hh⟩)
            replace hs := hs.del 0
            refine so_assign (v := (.v v754)) rfl ?_
            refine so_nil ?_
            refine fi_region ?_
            refine so_move (v := (.v v664)) rfl ?_
            refine so_assign (v := (.v v664)) rfl ?_
            refine so_nil ?_
            refine fi_inBlock ?_
            refine fi_region ?_
            refine so_bin rfl rfl ab_add ?_
            refine so_move (v := (.v (.int .i64 (IntKind.i64.wrap (x661 + (1 : Int)))))) rfl ?_
            refine so_nil ?_
            exact fi_at [(0, (.v v0)), (1, (.v (.int .i64 a1))), (7, (.v v664)), (9, (.v v754)), (43, (.v v0)), (44, (.v (.int .i64 (l0.length : Int)))), (45, (.v (.int .i64 (IntKind.i64.wrap (x661 + (1 : Int))))))] ⟨rfl, rfl, rfl, rfl, rfl, rfl, rfl, trivial⟩ (h _ _ _ _ _ _ (Sep.front 2 (Sep.front 2 (Sep.front 0 (Sep.del 3 hs) rfl) rfl) rfl))
        · refine fi_false rfl (decide_eq_false c662) ?_
          refine fi_exit rfl ?_
          refine fi_seq ?_
          refine fi_seq ?_
          refine fi_region ?_
          refine so_move (v := (.v v659)) rfl ?_
          refine so_move (v := (.v (.int .i64 a1))) rfl ?_
          obtain ⟨c758, h⟩ := h
          refine sv_idx (hs.rshows 2 rfl) c758 (fun _ => rfl) (by decide) rfl rfl F15.tl75 ?_
          refine so_fieldAddr rfl F15.fd77_0 ?_
          refine sv_cell (hs.rshows 2 rfl) c758 (false, (0 : Nat), (0 : Int)) 0 (fun x => (AV.bool x.1)) (fun _ => rfl) (fun _ => rfl) rfl F15.ag4 ?_
          refine so_un rfl au_not ?_
          refine so_move (v := (.v (.bool (!(before658.getD (a1).toNat (false, (0 : Nat), (0 : Int))).1)))) rfl ?_
          replace h := ofT h; rcases h with ⟨c759, h⟩ | ⟨c759, h⟩
          · refine so_gyes rfl (not_f c759) ?_
            refine so_move (v := (.v v659)) rfl ?_
            refine so_gyes rfl (not_f c759) ?_
            refine so_move (v := (.v (.int .i64 a1))) rfl ?_
            refine so_gyes rfl (not_f c759) ?_
            refine sv_idx (hs.rshows 2 rfl) c758 (fun _ => rfl) (by decide) rfl rfl F15.tl75 ?_
            refine so_gyes rfl (not_f c759) ?_
            refine so_fieldAddr rfl F15.fd77_1 ?_
            refine so_gyes rfl (not_f c759) ?_
            refine sv_cell (hs.rshows 2 rfl) c758 (false, (0 : Nat), (0 : Int)) 1 (fun x => (AV.flt .f32 x.2.1)) (fun _ => rfl) (fun _ => rfl) rfl F15.ag23 ?_
            refine so_gyes rfl (not_f c759) ?_
            refine sv_callS (impl_IsFinite_ok (before658.getD (a1).toNat (false, (0 : Nat), (0 : Int))).2.1 hs  _ h) (fun _ _ ⟨_, _, _, e⟩ => e) rfl rfl ?_
            clear h
            rintro _ _ ⟨y760, h, rfl, rfl⟩
            refine so_gyes rfl (not_f c759) ?_
            refine so_un rfl au_not ?_
            refine so_pick_f (v := (.v (.bool (!y760)))) rfl (not_f c759) rfl ?_
            refine so_nil ?_
            replace h := ofT h; rcases h with ⟨c762, h⟩ | ⟨c762, h⟩
            · refine fi_false rfl (not_f c762) ?_
              refine fi_skip ?_
              refine fi_seq ?_
              refine fi_region ?_
              refine so_move (v := (.v v0)) rfl ?_
              refine sd_len ((g0 _ hs.tl.tl.tl) : DSh _ _ 1 R_LePair_eInt_i64_eFlt_f32_o l0 w0) (by decide) rfl F15.ti35 ?_
              obtain ⟨c763, h⟩ := h
              refine sv_make hs (eInt .i64) (0 : Int) c763 (fun _ => rfl) rfl rfl F15.te22 F15.sz2 F15.by2 F15.ze2 rfl rfl nofun (fun v764 H765 nv764 hs => ?_)
              refine so_move (v := (.v (.int .i64 a1))) rfl ?_
              refine so_assign (v := (.v v764)) rfl ?_
              refine so_assign (v := (.v (.int .i64 a1))) rfl ?_
              refine so_nil ?_
              refine fi_seq ?_
              refine fi_seq ?_
              refine fi_region ?_
              refine so_move (v := (.v v0)) rfl ?_
              refine sd_len ((g0 _ hs.tl.tl.tl.tl) : DSh _ _ 1 R_LePair_eInt_i64_eFlt_f32_o l0 w0) (by decide) rfl F15.ti35 ?_
              refine so_bin rfl rfl ab_sub ?_
              refine so_assign (v := (.v (.int .i64 (IntKind.i64.wrap ((l0.length : Int) - (1 : Int)))))) rfl ?_
              refine so_nil ?_
              refine fi_block ?_
              refine fi_loop ?_
              refine fi_at [(0, (.v v0)), (1, (.v (.int .i64 a1))), (7, (.v v659)), (9, (.v v656)), (17, (.v v764)), (18, (.v (.int .i64 a1))), (19, (.v (.int .i64 (IntKind.i64.wrap ((l0.length : Int) - (1 : Int))))))] ⟨rfl, rfl, rfl, rfl, rfl, rfl, rfl, trivial⟩ ?_
              refine h (fun (out778 : List (Int)) (left779 : Int) (k780 : Int) => ∀ (s : Nat → TV) (H : Heap), Sep H (Pc.osl v764 1 (enc (eInt .i64) out778) :: kdp R_LePair_eBool_ePair_eFlt_f32_eInt_i64_o table655 vs657 S660 :: Pc.osl v656 1 (enc sg vs657) :: rdp v659 3 (enc (ePair eBool (ePair (eFlt .f32) (eInt .i64))) before658) :: fr) → Fin _ _ (updL s [(0, (.v v0)), (1, (.v (.int .i64 a1))), (7, (.v v659)), (9, (.v v656)), (17, (.v v764)), (18, (.v (.int .i64 left779))), (19, (.v (.int .i64 k780)))]) H _) ?_ _ _ hs
              intro out778 left779 k780 h s788 H789 hs
              refine fi_inLoop ?_
              refine fi_seq ?_
              refine fi_seq ?_
              refine fi_region ?_
              refine so_move (v := (.v (.int .i64 k780))) rfl ?_
              refine so_bin rfl rfl ab_geq ?_
              refine so_nil ?_
              replace h := ofP h; rcases h with ⟨c781, h⟩ | ⟨c781, h⟩
              · refine fi_true rfl (decide_eq_true c781) ?_
                refine fi_skip ?_
                refine fi_seq ?_
                refine fi_block ?_
                refine fi_seq ?_
                refine fi_region ?_
                refine so_move (v := (.v v656)) rfl ?_
                refine so_move (v := (.v (.int .i64 k780))) rfl ?_
                obtain ⟨c782, h⟩ := h
                refine sd_idx ((hs.fshows 2 1 rfl rfl) : DSh _ _ 1 R_LePair_eBool_ePair_eFlt_f32_eInt_i64_o table655 (vs657.map sg)) c782 ([] : List ((Bool) × (Nat) × (Int))) (by decide) rfl rfl F15.tl78 ?_
                refine su_ld ((((hs.fshows 2 1 rfl rfl) : DSh _ _ 1 R_LePair_eBool_ePair_eFlt_f32_eInt_i64_o table655 (vs657.map sg))).at (by decide) c782 ([] : List ((Bool) × (Nat) × (Int)))).2.2 0 (congrArg (fun c => c[0]?) ((((hs.fshows 2 1 rfl rfl) : DSh _ _ 1 R_LePair_eBool_ePair_eFlt_f32_eInt_i64_o table655 (vs657.map sg))).at (by decide) c782 ([] : List ((Bool) × (Nat) × (Int)))).2.1.1) rfl F15.ag75 ?_
                refine so_move (v := (.v (.int .i64 left779))) rfl ?_
                obtain ⟨c783, h⟩ := h
                refine sv_idx ((((hs.fshows 2 1 rfl rfl) : DSh _ _ 1 R_LePair_eBool_ePair_eFlt_f32_eInt_i64_o table655 (vs657.map sg))).at (by decide) c782 ([] : List ((Bool) × (Nat) × (Int)))).2.1.2 c783 (fun _ => rfl) (by decide) rfl rfl F15.tl75 ?_
                refine so_fieldAddr rfl F15.fd77_2 ?_
                refine sv_cell ((((hs.fshows 2 1 rfl rfl) : DSh _ _ 1 R_LePair_eBool_ePair_eFlt_f32_eInt_i64_o table655 (vs657.map sg))).at (by decide) c782 ([] : List ((Bool) × (Nat) × (Int)))).2.1.2 c783 (false, (0 : Nat), (0 : Int)) 2 (fun x => (AV.int .i64 x.2.2)) (fun _ => rfl) (fun _ => rfl) rfl F15.ag3 ?_
                refine so_assign (v := (.v (.int .i64 ((table655.getD (k780).toNat ([] : List ((Bool) × (Nat) × (Int)))).getD (left779).toNat (false, (0 : Nat), (0 : Int))).2.2))) rfl ?_
                refine so_nil ?_
                refine fi_seq ?_
                refine fi_region ?_
                refine so_move (v := (.v v764)) rfl ?_
                refine so_move (v := (.v (.int .i64 k780))) rfl ?_
                refine so_move (v := (.v (.int .i64 ((table655.getD (k780).toNat ([] : List ((Bool) × (Nat) × (Int)))).getD (left779).toNat (false, (0 : Nat), (0 : Int))).2.2))) rfl ?_
                obtain ⟨c784, h⟩ := h
                refine sv_idx (hs.shows 0 rfl) c784 (fun _ => rfl) (by decide) rfl rfl F15.tl22 ?_
                refine sv_set hs 0 rfl c784 ((table655.getD (k780).toNat ([] : List ((Bool) × (Nat) × (Int)))).getD (left779).toNat (false, (0 : Nat), (0 : Int))).2.2 (fun _ => rfl) (by decide) rfl rfl rfl rfl F15.sz2 nofun (fun H785 hs => ?_)
                refine so_nil ?_
                refine fi_region ?_
                refine so_move (v := (.v (.int .i64 left779))) rfl ?_
                refine so_move (v := (.v v0)) rfl ?_
                refine so_move (v := (.v (.int .i64 k780))) rfl ?_
                obtain ⟨c786, h⟩ := h
                refine sd_idx ((g0 _ hs.tl.tl.tl.tl) : DSh _ _ 1 R_LePair_eInt_i64_eFlt_f32_o l0 w0) c786 ([] : List ((Int) × (Nat))) (by decide) rfl rfl F15.tl35 ?_
                refine su_ld ((((g0 _ hs.tl.tl.tl.tl) : DSh _ _ 1 R_LePair_eInt_i64_eFlt_f32_o l0 w0)).at (by decide) c786 ([] : List ((Int) × (Nat)))).2.2 0 (congrArg (fun c => c[0]?) ((((g0 _ hs.tl.tl.tl.tl) : DSh _ _ 1 R_LePair_eInt_i64_eFlt_f32_o l0 w0)).at (by decide) c786 ([] : List ((Int) × (Nat)))).2.1.1) rfl F15.ag47 ?_
                refine so_move (v := (.v (.int .i64 ((table655.getD (k780).toNat ([] : List ((Bool) × (Nat) × (Int)))).getD (left779).toNat (false, (0 : Nat), (0 : Int))).2.2))) rfl ?_
                obtain ⟨c787, h⟩ := h
                refine sv_idx ((((g0 _ hs.tl.tl.tl.tl) : DSh _ _ 1 R_LePair_eInt_i64_eFlt_f32_o l0 w0)).at (by decide) c786 ([] : List ((Int) × (Nat)))).2.1.2 c787 (fun _ => rfl) (by decide) rfl rfl F15.tl47 ?_
                refine so_fieldAddr rfl F15.fd49_0 ?_
                refine sv_cell ((((g0 _ hs.tl.tl.tl.tl) : DSh _ _ 1 R_LePair_eInt_i64_eFlt_f32_o l0 w0)).at (by decide) c786 ([] : List ((Int) × (Nat)))).2.1.2 c787 ((0 : Int), (0 : Nat)) 0 (fun x => (AV.int .i64 x.1)) (fun _ => rfl) (fun _ => rfl) rfl F15.ag2 ?_
                refine so_bin rfl rfl ab_sub ?_
                refine so_assign (v := (.v (.int .i64 (IntKind.i64.wrap (left779 - ((l0.getD (k780).toNat ([] : List ((Int) × (Nat)))).getD (((table655.getD (k780).toNat ([] : List ((Bool) × (Nat) × (Int)))).getD (left779).toNat (false, (0 : Nat), (0 : Int))).2.2).toNat ((0 : Int), (0 : Nat))).1))))) rfl ?_
                refine so_nil ?_
                refine fi_inBlock ?_
                refine fi_region ?_
                refine so_move (v := (.v (.int .i64 k780))) rfl ?_
                refine so_bin rfl rfl ab_sub ?_
                refine so_assign (v := (.v (.int .i64 (IntKind.i64.wrap (k780 - (1 : Int)))))) rfl ?_
                refine so_nil ?_
                exact fi_at [(0, (.v v0)), (1, (.v (.int .i64 a1))), (7, (.v v659)), (9, (.v v656)), (17, (.v v764)), (18, (.v (.int .i64 (IntKind.i64.wrap (left779 - ((l0.getD (k780).toNat ([] : List ((Int) × (Nat)))).getD (((table655.getD (k780).toNat ([] : List ((Bool) × (Nat) × (Int)))).getD (left779).toNat (false, (0 : Nat), (0 : Int))).2.2).toNat ((0 : Int), (0 : Nat))).1))))), (19, (.v (.int .i64 (IntKind.i64.wrap (k780 - (1 : Int))))))] ⟨rfl, rfl, rfl, rfl, rfl, rfl, rfl, trivial⟩ (h _ _  hs)
              · refine fi_false rfl (decide_eq_false c781) ?_
                refine fi_exit rfl ?_
                refine fi_seq ?_
                refine fi_region ?_
                refine so_move (v := (.v v764)) rfl ?_
                refine so_move (v := (.v v659)) rfl ?_
                refine so_move (v := (.v (.int .i64 a1))) rfl ?_
                refine sv_idx (hs.rshows 3 rfl) c758 (fun _ => rfl) (by decide) rfl rfl F15.tl75 ?_
                refine so_fieldAddr rfl F15.fd77_1 ?_
                refine sv_cell (hs.rshows 3 rfl) c758 (false, (0 : Nat), (0 : Int)) 1 (fun x => (AV.flt .f32 x.2.1)) (fun _ => rfl) (fun _ => rfl) rfl F15.ag23 ?_
                refine so_assign (v := (.v v764)) rfl ?_
                refine so_assign (v := (.v (.flt .f32 (before658.getD (a1).toNat (false, (0 : Nat), (0 : Int))).2.1))) rfl ?_
                refine so_assign (v := (.v (.bool true))) rfl ?_
                refine so_nil ?_
                exact by_ret rfl ⟨_, _, _, h, _, rfl, (Sep.del 1 (Sep.del 1 (Sep.del 1 hs)))⟩
            · refine fi_true rfl (not_t c762) ?_
              refine fi_seq ?_
              refine fi_region ?_
              refine so_assign (v := (.v .nilsl)) rfl ?_
              refine so_assign (v := (.v (.flt .f32 (cz .f32 0)))) rfl ?_
              refine so_assign (v := (.v (.bool false))) rfl ?_
              refine so_nil ?_
              exact by_ret rfl ⟨_, _, _, h, _, rfl, (Sep.nil (Sep.del 0 (Sep.del 0 (Sep.del 0 hs))) 1)⟩
          · refine so_gno rfl (not_t c759) ?_
            refine so_gno rfl (not_t c759) ?_
            refine so_gno rfl (not_t c759) ?_
            refine so_gno rfl (not_t c759) ?_
            refine so_gno rfl (not_t c759) ?_
            refine so_gno rfl (not_t c759) ?_
            refine so_gno rfl (not_t c759) ?_
            refine so_pick_t (v := (.v (.bool true))) rfl (not_t c759) rfl ?_
            refine so_nil ?_
            refine fi_true rfl rfl ?_
            refine fi_seq ?_
            refine fi_region ?_
            refine so_assign (v := (.v .nilsl)) rfl ?_
            refine so_assign (v := (.v (.flt .f32 (cz .f32 0)))) rfl ?_
            refine so_assign (v := (.v (.bool false))) rfl ?_
            refine so_nil ?_
            exact by_ret rfl ⟨_, _, _, h, _, rfl, (Sep.nil (Sep.del 0 (Sep.del 0 (Sep.del 0 hs))) 1)⟩
    · refine fi_true rfl (not_t c106) ?_
      refine fi_seq ?_
      refine fi_region ?_
      refine so_assign (v := (.v .nilsl)) rfl ?_
      refine so_assign (v := (.v (.flt .f32 (cz .f32 0)))) rfl ?_
      refine so_assign (v := (.v (.bool false))) rfl ?_
      refine so_nil ?_
      exact by_ret rfl ⟨_, _, _, h, _, rfl, (Sep.nil hs 1)⟩
  · refine so_gno rfl (not_t c103) ?_
    refine so_gno rfl (not_t c103) ?_
    refine so_gno rfl (not_t c103) ?_
    refine so_pick_t (v := (.v (.bool true))) rfl (not_t c103) rfl ?_
    refine so_nil ?_
    refine fi_true rfl rfl ?_
    refine fi_seq ?_
    refine fi_region ?_
    refine so_assign (v := (.v .nilsl)) rfl ?_
    refine so_assign (v := (.v (.flt .f32 (cz .f32 0)))) rfl ?_
    refine so_assign (v := (.v (.bool false))) rfl ?_
    refine so_nil ?_
    exact by_ret rfl ⟨_, _, _, h, _, rfl, (Sep.nil hs 1)⟩

end Go.Proofs.Ytecdkjnomkdbkaa.G

namespace Go.Proofs.Ytecdkjnomkdbkaa.G
open Go Go.Ab Go.Proofs Go.Proofs.Ytecdkjnomkdbkaa
set_option maxRecDepth 100000
set_option linter.unusedVariables false
set_option linter.unusedSimpArgs false
set_option maxHeartbeats 1000000
attribute [local irreducible] wops wopf Go.Ab.Fin
theorem F83.ag2 : tagg Try.prog 2 = some false := by kernel_rfl
theorem F83.ag23 : tagg Try.prog 23 = some false := by kernel_rfl
theorem F83.fd49_0 : tfield Try.prog 49 0 = some (0, 1, false) := by kernel_rfl
theorem F83.fd49_1 : tfield Try.prog 49 1 = some (1, 1, false) := by kernel_rfl
theorem F83.fl28 : tflt Try.prog 28 = some .f64 := by kernel_rfl
theorem F83.in28 : tint Try.prog 28 = none := by kernel_rfl
theorem F83.inf49 : (Try.prog.info? 49).isSome = true := by kernel_rfl
theorem F83.us23 : (Try.prog.underlying 23).isSome = true := by kernel_rfl
theorem laws_eqCost_ok {fr : List Pc} {H : Heap} (a0 : Int) (a1 : Nat) (a2 : Int) (a3 : Nat) (hs : Sep H (fr))  (K : Bool → Prop) (h : laws_eqCost.wp a0 a1 a2 a3 K) : OkQ Try.prog 83 [(.g [(.int .i64 a0), (.flt .f32 a1)]), (.g [(.int .i64 a2), (.flt .f32 a3)])] H (fun r H2 => ∃ (y0 : Bool), K y0 ∧ r = (.v (.bool y0)) ∧ Sep H2 (fr)) := by
  unfold laws_eqCost.wp at h
  refine of_body Try.f83 F.hm Try.func83 rfl Try.call83 (by kernel_rfl) (by simp) ?_
  refine fi_seq ?_
  refine fi_region ?_
  refine sv_box hs rfl (c := [(.int .i64 a0), (.flt .f32 a1)]) rfl F83.inf49 (stc rfl (stc rfl stn)) nofun (fun id101 H102 hs => ?_)
  refine sv_box hs rfl (c := [(.int .i64 a2), (.flt .f32 a3)]) rfl F83.inf49 (stc rfl (stc rfl stn)) nofun (fun id104 H105 hs => ?_)
  refine so_assign (v := (.v (.bool false))) rfl ?_
  refine so_nil ?_
  refine fi_seq ?_
  refine fi_seq ?_
  refine fi_region ?_
  refine so_fieldAddr rfl F83.fd49_0 ?_
  refine sv_ld hs 1 rfl rfl rfl F83.ag2 ?_
  refine so_fieldAddr rfl F83.fd49_0 ?_
  refine sv_ld hs 0 rfl rfl rfl F83.ag2 ?_
  refine so_bin rfl rfl ab_neq ?_
  refine so_nil ?_
  replace h := ofP h; rcases h with ⟨c107, h⟩ | ⟨c107, h⟩
  · refine fi_false rfl (not_f (decide_eq_true c107)) ?_
    refine fi_skip ?_
    refine fi_seq ?_
    refine fi_seq ?_
    refine fi_region ?_
    refine so_fieldAddr rfl F83.fd49_1 ?_
    refine sv_ld hs 1 rfl rfl rfl F83.ag23 ?_
    refine sv_ffw rfl F83.us23 F83.in28 F83.fl28 ?_
    refine so_fieldAddr rfl F83.fd49_1 ?_
    refine sv_ld hs 0 rfl rfl rfl F83.ag23 ?_
    refine sv_ffw rfl F83.us23 F83.in28 F83.fl28 ?_
    refine sv_callS (laws_sameFloat_ok (widen a1) (widen a3) hs  _ h) (fun _ _ ⟨_, _, _, e⟩ => e) rfl rfl ?_
    clear h
    rintro _ _ ⟨y108, h, rfl, rfl⟩
    refine so_un rfl au_not ?_
    refine so_nil ?_
    replace h := ofT h; rcases h with ⟨c110, h⟩ | ⟨c110, h⟩
    · refine fi_false rfl (not_f c110) ?_
      refine fi_skip ?_
      refine fi_seq ?_
      refine fi_region ?_
      refine so_assign (v := (.v (.bool true))) rfl ?_
      refine so_nil ?_
      exact by_ret rfl ⟨_, h, rfl, (Sep.del 0 (Sep.del 0 hs))⟩
    · refine fi_true rfl (not_t c110) ?_
      refine fi_seq ?_
      refine fi_region ?_
      refine so_assign (v := (.v (.bool false))) rfl ?_
      refine so_nil ?_
      exact by_ret rfl ⟨_, h, rfl, (Sep.del 0 (Sep.del 0 hs))⟩
  · refine fi_true rfl (not_t (decide_eq_false c107)) ?_
    refine fi_seq ?_
    refine fi_region ?_
    refine so_assign (v := (.v (.bool false))) rfl ?_
    refine so_nil ?_
    exact by_ret rfl ⟨_, h, rfl, (Sep.del 0 (Sep.del 0 hs))⟩
theorem laws_eqCost_okS {fr : List Pc} {H : Heap} (a0 : Int) (a1 : Nat) (a2 : Int) (a3 : Nat) (hs : Sep H fr)  (K : Bool → Prop) (h : laws_eqCost.wp a0 a1 a2 a3 K) : OkQ Try.prog 83 [(.g [(.int .i64 a0), (.flt .f32 a1)]), (.g [(.int .i64 a2), (.flt .f32 a3)])] H (fun r H2 => ∃ (y0 : Bool), K y0 ∧ r = (.v (.bool y0)) ∧ H = H2) := by
  obtain ⟨r, H2, h1, y0, hK, hr, hsep⟩ := laws_eqCost_ok (fr := came H) (H := H) a0 a1 a2 a3 (came_sep H)  K h
  have hk : H.n ≤ H2.n ∧ ∀ i, i < H.n → H2.f i = H.f i := hsep.1.2.1
  exact ⟨r, H, h1.forget hk.1 hk.2 (by subst hr; rfl), y0, hK, hr, rfl⟩

end Go.Proofs.Ytecdkjnomkdbkaa.G

namespace Go.Proofs.Ytecdkjnomkdbkaa.G
open Go Go.Ab Go.Proofs Go.Proofs.Ytecdkjnomkdbkaa
set_option maxRecDepth 100000
set_option linter.unusedVariables false
set_option linter.unusedSimpArgs false
set_option maxHeartbeats 1000000
attribute [local irreducible] wops wopf Go.Ab.Fin
theorem F49.ag49 : tagg Try.prog 49 = some true := by kernel_rfl
theorem F49.sz49 : tsz Try.prog 49 = some 2 := by kernel_rfl
theorem F49.ti47 : (telem Try.prog 47).isSome = true := by kernel_rfl
theorem F49.tl47 : (telem Try.prog 47).bind (tsz Try.prog) = some 2 := by kernel_rfl
theorem laws_eqCostS_ok {fr : List Pc} {H : Heap} (v0 : AV) (l0 : List ((Int) × (Nat))) (v1 : AV) (l1 : List ((Int) × (Nat))) (hs : Sep H (fr)) (g0 : ∀ H, Sep H fr → Shows H v0 2 (enc (ePair (eInt .i64) (eFlt .f32)) l0)) (g1 : ∀ H, Sep H fr → Shows H v1 2 (enc (ePair (eInt .i64) (eFlt .f32)) l1)) (K : Bool → Prop) (h : laws_eqCostS.wp l0 l1 K) : OkQ Try.prog 49 [(.v v0), (.v v1)] H (fun r H2 => ∃ (y0 : Bool), K y0 ∧ r = (.v (.bool y0)) ∧ H = H2) := by
  unfold laws_eqCostS.wp at h
  refine of_body Try.f49 F.hm Try.func49 rfl Try.call49 (by kernel_rfl) (by simp) ?_
  refine fi_seq ?_
  refine fi_region ?_
  refine so_assign (v := (.v (.bool false))) rfl ?_
  refine so_nil ?_
  refine fi_seq ?_
  refine fi_seq ?_
  refine fi_region ?_
  refine so_move (v := (.v v0)) rfl ?_
  refine sv_len (g0 _ hs) (fun _ => rfl) (by decide) rfl F49.ti47 ?_
  refine so_move (v := (.v v1)) rfl ?_
  refine sv_len (g1 _ hs) (fun _ => rfl) (by decide) rfl F49.ti47 ?_
  refine so_bin rfl rfl ab_neq ?_
  refine so_nil ?_
  replace h := ofP h; rcases h with ⟨c101, h⟩ | ⟨c101, h⟩
  · refine fi_false rfl (not_f (decide_eq_true c101)) ?_
    refine fi_skip ?_
    refine fi_seq ?_
    refine fi_seq ?_
    refine fi_region ?_
    refine so_assign (v := (.v (.int .i64 (0 : Int)))) rfl ?_
    refine so_nil ?_
    refine fi_block ?_
    refine fi_loop ?_
    refine fi_at [(0, (.v v0)), (1, (.v v1)), (5, (.v (.int .i64 (0 : Int))))] ⟨rfl, rfl, rfl, trivial⟩ ?_
    refine h (fun (i103 : Int) => ∀ (s : Nat → TV), Fin _ _ (updL s [(0, (.v v0)), (1, (.v v1)), (5, (.v (.int .i64 i103)))]) _ _) ?_ _
    intro i103 h s110
    refine fi_inLoop ?_
    refine fi_seq ?_
    refine fi_seq ?_
    refine fi_region ?_
    refine so_move (v := (.v (.int .i64 i103))) rfl ?_
    refine so_move (v := (.v v0)) rfl ?_
    refine sv_len (g0 _ hs) (fun _ => rfl) (by decide) rfl F49.ti47 ?_
    refine so_bin rfl rfl ab_lss ?_
    refine so_nil ?_
    replace h := ofP h; rcases h with ⟨c104, h⟩ | ⟨c104, h⟩
    · refine fi_true rfl (decide_eq_true c104) ?_
      refine fi_skip ?_
      refine fi_seq ?_
      refine fi_block ?_
      refine fi_seq ?_
      refine fi_region ?_
      refine so_move (v := (.v v0)) rfl ?_
      refine so_move (v := (.v (.int .i64 i103))) rfl ?_
      obtain ⟨c105, h⟩ := h
      refine sv_idx (g0 _ hs) c105 (fun _ => rfl) (by decide) rfl rfl F49.tl47 ?_
      refine sv_elem (g0 _ hs) c105 ((0 : Int), (0 : Nat)) (fun _ => rfl) (by decide) rfl F49.ag49 F49.sz49 ?_
      refine so_move (v := (.v v1)) rfl ?_
      refine so_move (v := (.v (.int .i64 i103))) rfl ?_
      obtain ⟨c106, h⟩ := h
      refine sv_idx (g1 _ hs) c106 (fun _ => rfl) (by decide) rfl rfl F49.tl47 ?_
      refine sv_elem (g1 _ hs) c106 ((0 : Int), (0 : Nat)) (fun _ => rfl) (by decide) rfl F49.ag49 F49.sz49 ?_
      refine sv_callS (laws_eqCost_okS (l0.getD (i103).toNat ((0 : Int), (0 : Nat))).1 (l0.getD (i103).toNat ((0 : Int), (0 : Nat))).2 (l1.getD (i103).toNat ((0 : Int), (0 : Nat))).1 (l1.getD (i103).toNat ((0 : Int), (0 : Nat))).2 hs  _ h) (fun _ _ ⟨_, _, _, e⟩ => e) rfl rfl ?_
      clear h
      rintro _ _ ⟨y107, h, rfl, rfl⟩
      refine so_un rfl au_not ?_
      refine so_nil ?_
      replace h := ofT h; rcases h with ⟨c109, h⟩ | ⟨c109, h⟩
      · refine fi_false rfl (not_f c109) ?_
        refine fi_skip ?_
        refine fi_inBlock ?_
        refine fi_region ?_
        refine so_move (v := (.v (.int .i64 i103))) rfl ?_
        refine so_bin rfl rfl ab_add ?_
        refine so_assign (v := (.v (.int .i64 (IntKind.i64.wrap (i103 + (1 : Int)))))) rfl ?_
        refine so_nil ?_
        exact fi_at [(0, (.v v0)), (1, (.v v1)), (5, (.v (.int .i64 (IntKind.i64.wrap (i103 + (1 : Int))))))] ⟨rfl, rfl, rfl, trivial⟩ (h _)
      · refine fi_true rfl (not_t c109) ?_
        refine fi_seq ?_
        refine fi_region ?_
        refine so_assign (v := (.v (.bool false))) rfl ?_
        refine so_nil ?_
        exact by_ret rfl ⟨_, h, rfl, rfl⟩
    · refine fi_false rfl (decide_eq_false c104) ?_
      refine fi_exit rfl ?_
      refine fi_seq ?_
      refine fi_region ?_
      refine so_assign (v := (.v (.bool true))) rfl ?_
      refine so_nil ?_
      exact by_ret rfl ⟨_, h, rfl, rfl⟩
  · refine fi_true rfl (not_t (decide_eq_false c101)) ?_
    refine fi_seq ?_
    refine fi_region ?_
    refine so_assign (v := (.v (.bool false))) rfl ?_
    refine so_nil ?_
    exact by_ret rfl ⟨_, h, rfl, rfl⟩

end Go.Proofs.Ytecdkjnomkdbkaa.G

namespace Go.Proofs.Ytecdkjnomkdbkaa.G
open Go Go.Ab Go.Proofs Go.Proofs.Ytecdkjnomkdbkaa
set_option maxRecDepth 100000
set_option linter.unusedVariables false
set_option linter.unusedSimpArgs false
set_option maxHeartbeats 1000000
attribute [local irreducible] wops wopf Go.Ab.Fin
theorem F16.ag47 : tagg Try.prog 47 = some false := by kernel_rfl
theorem F16.ti35 : (telem Try.prog 35).isSome = true := by kernel_rfl
theorem F16.tl35 : (telem Try.prog 35).bind (tsz Try.prog) = some 1 := by kernel_rfl
theorem laws_eqCostSS_ok {fr : List Pc} {H : Heap} (v0 : AV) (w0 : List (List AV)) (l0 : List (List ((Int) × (Nat)))) (v1 : AV) (w1 : List (List AV)) (l1 : List (List ((Int) × (Nat)))) (hs : Sep H (fr)) (g0 : ∀ H, Sep H fr → DSh H v0 1 R_LePair_eInt_i64_eFlt_f32_o l0 w0) (g1 : ∀ H, Sep H fr → DSh H v1 1 R_LePair_eInt_i64_eFlt_f32_o l1 w1) (K : Bool → Prop) (h : laws_eqCostSS.wp l0 l1 K) : OkQ Try.prog 16 [(.v v0), (.v v1)] H (fun r H2 => ∃ (y0 : Bool), K y0 ∧ r = (.v (.bool y0)) ∧ H = H2) := by
  unfold laws_eqCostSS.wp at h
  refine of_body Try.f16 F.hm Try.func16 rfl Try.call16 (by kernel_rfl) (by simp) ?_
  refine fi_seq ?_
  refine fi_region ?_
  refine so_assign (v := (.v (.bool false))) rfl ?_
  refine so_nil ?_
  refine fi_seq ?_
  refine fi_seq ?_
  refine fi_region ?_
  refine so_move (v := (.v v0)) rfl ?_
  refine sd_len ((g0 _ hs) : DSh _ _ 1 R_LePair_eInt_i64_eFlt_f32_o l0 w0) (by decide) rfl F16.ti35 ?_
  refine so_move (v := (.v v1)) rfl ?_
  refine sd_len ((g1 _ hs) : DSh _ _ 1 R_LePair_eInt_i64_eFlt_f32_o l1 w1) (by decide) rfl F16.ti35 ?_
  refine so_bin rfl rfl ab_neq ?_
  refine so_nil ?_
  replace h := ofP h; rcases h with ⟨c101, h⟩ | ⟨c101, h⟩
  · refine fi_false rfl (not_f (decide_eq_true c101)) ?_
    refine fi_skip ?_
    refine fi_seq ?_
    refine fi_seq ?_
    refine fi_region ?_
    refine so_assign (v := (.v (.int .i64 (0 : Int)))) rfl ?_
    refine so_nil ?_
    refine fi_block ?_
    refine fi_loop ?_
    refine fi_at [(0, (.v v0)), (1, (.v v1)), (5, (.v (.int .i64 (0 : Int))))] ⟨rfl, rfl, rfl, trivial⟩ ?_
    refine h (fun (i103 : Int) => ∀ (s : Nat → TV), Fin _ _ (updL s [(0, (.v v0)), (1, (.v v1)), (5, (.v (.int .i64 i103)))]) _ _) ?_ _
    intro i103 h s110
    refine fi_inLoop ?_
    refine fi_seq ?_
    refine fi_seq ?_
    refine fi_region ?_
    refine so_move (v := (.v (.int .i64 i103))) rfl ?_
    refine so_move (v := (.v v0)) rfl ?_
    refine sd_len ((g0 _ hs) : DSh _ _ 1 R_LePair_eInt_i64_eFlt_f32_o l0 w0) (by decide) rfl F16.ti35 ?_
    refine so_bin rfl rfl ab_lss ?_
    refine so_nil ?_
    replace h := ofP h; rcases h with ⟨c104, h⟩ | ⟨c104, h⟩
    · refine fi_true rfl (decide_eq_true c104) ?_
      refine fi_skip ?_
      refine fi_seq ?_
      refine fi_block ?_
      refine fi_seq ?_
      refine fi_region ?_
      refine so_move (v := (.v v0)) rfl ?_
      refine so_move (v := (.v (.int .i64 i103))) rfl ?_
      obtain ⟨c105, h⟩ := h
      refine sd_idx ((g0 _ hs) : DSh _ _ 1 R_LePair_eInt_i64_eFlt_f32_o l0 w0) c105 ([] : List ((Int) × (Nat))) (by decide) rfl rfl F16.tl35 ?_
      refine su_ld ((((g0 _ hs) : DSh _ _ 1 R_LePair_eInt_i64_eFlt_f32_o l0 w0)).at (by decide) c105 ([] : List ((Int) × (Nat)))).2.2 0 (congrArg (fun c => c[0]?) ((((g0 _ hs) : DSh _ _ 1 R_LePair_eInt_i64_eFlt_f32_o l0 w0)).at (by decide) c105 ([] : List ((Int) × (Nat)))).2.1.1) rfl F16.ag47 ?_
      refine so_move (v := (.v v1)) rfl ?_
      refine so_move (v := (.v (.int .i64 i103))) rfl ?_
      obtain ⟨c106, h⟩ := h
      refine sd_idx ((g1 _ hs) : DSh _ _ 1 R_LePair_eInt_i64_eFlt_f32_o l1 w1) c106 ([] : List ((Int) × (Nat))) (by decide) rfl rfl F16.tl35 ?_
      refine su_ld ((((g1 _ hs) : DSh _ _ 1 R_LePair_eInt_i64_eFlt_f32_o l1 w1)).at (by decide) c106 ([] : List ((Int) × (Nat)))).2.2 0 (congrArg (fun c => c[0]?) ((((g1 _ hs) : DSh _ _ 1 R_LePair_eInt_i64_eFlt_f32_o l1 w1)).at (by decide) c106 ([] : List ((Int) × (Nat)))).2.1.1) rfl F16.ag47 ?_
      refine sv_callS (laws_eqCostS_ok ((w0.getD (i103).toNat []).getD 0 .und) (l0.getD (i103).toNat ([] : List ((Int) × (Nat)))) ((w1.getD (i103).toNat []).getD 0 .und) (l1.getD (i103).toNat ([] : List ((Int) × (Nat)))) hs (fun _ hs => ((((g0 _ hs) : DSh _ _ 1 R_LePair_eInt_i64_eFlt_f32_o l0 w0)).at (by decide) c105 ([] : List ((Int) × (Nat)))).2.1.2) (fun _ hs => ((((g1 _ hs) : DSh _ _ 1 R_LePair_eInt_i64_eFlt_f32_o l1 w1)).at (by decide) c106 ([] : List ((Int) × (Nat)))).2.1.2) _ h) (fun _ _ ⟨_, _, _, e⟩ => e) rfl rfl ?_
      clear h
      rintro _ _ ⟨y107, h, rfl, rfl⟩
      refine so_un rfl au_not ?_
      refine so_nil ?_
      replace h := ofT h; rcases h with ⟨c109, h⟩ | ⟨c109, h⟩
      · refine fi_false rfl (not_f c109) ?_
        refine fi_skip ?_
        refine fi_inBlock ?_
        refine fi_region ?_
        refine so_move (v := (.v (.int .i64 i103))) rfl ?_
        refine so_bin rfl rfl ab_add ?_
        refine so_assign (v := (.v (.int .i64 (IntKind.i64.wrap (i103 + (1 : Int)))))) rfl ?_
        refine so_nil ?_
        exact fi_at [(0, (.v v0)), (1, (.v v1)), (5, (.v (.int .i64 (IntKind.i64.wrap (i103 + (1 : Int))))))] ⟨rfl, rfl, rfl, trivial⟩ (h _)
      · refine fi_true rfl (not_t c109) ?_
        refine fi_seq ?_
        refine fi_region ?_
        refine so_assign (v := (.v (.bool false))) rfl ?_
        refine so_nil ?_
        exact by_ret rfl ⟨_, h, rfl, rfl⟩
    · refine fi_false rfl (decide_eq_false c104) ?_
      refine fi_exit rfl ?_
      refine fi_seq ?_
      refine fi_region ?_
      refine so_assign (v := (.v (.bool true))) rfl ?_
      refine so_nil ?_
      exact by_ret rfl ⟨_, h, rfl, rfl⟩
  · refine fi_true rfl (not_t (decide_eq_false c101)) ?_
    refine fi_seq ?_
    refine fi_region ?_
    refine so_assign (v := (.v (.bool false))) rfl ?_
    refine so_nil ?_
    exact by_ret rfl ⟨_, h, rfl, rfl⟩

end Go.Proofs.Ytecdkjnomkdbkaa.G

namespace Go.Proofs.Ytecdkjnomkdbkaa.G
open Go Go.Ab Go.Proofs Go.Proofs.Ytecdkjnomkdbkaa
set_option maxRecDepth 100000
set_option linter.unusedVariables false
set_option linter.unusedSimpArgs false
set_option maxHeartbeats 1000000
attribute [local irreducible] wops wopf Go.Ab.Fin
theorem F50.fd49_0 : tfield Try.prog 49 0 = some (0, 1, false) := by kernel_rfl
theorem F50.fd49_1 : tfield Try.prog 49 1 = some (1, 1, false) := by kernel_rfl
theorem F50.fl23 : tflt Try.prog 23 = some .f32 := by kernel_rfl
theorem F50.in23 : tint Try.prog 23 = none := by kernel_rfl
theorem F50.sz2 : tsz Try.prog 2 = some 1 := by kernel_rfl
theorem F50.sz23 : tsz Try.prog 23 = some 1 := by kernel_rfl
theorem F50.ti47 : (telem Try.prog 47).isSome = true := by kernel_rfl
theorem F50.tl47 : (telem Try.prog 47).bind (tsz Try.prog) = some 2 := by kernel_rfl
theorem F50.us3 : (Try.prog.underlying 3).isSome = true := by kernel_rfl
theorem laws_markCostS_ok {fr : List Pc} {H : Heap} (v0 : AV) (l0 : List ((Int) × (Nat))) (a1 : Int) (hs : Sep H (Pc.osl v0 2 (enc (ePair (eInt .i64) (eFlt .f32)) l0) :: fr))  (K : Int → (List ((Int) × (Nat))) → Prop) (h : laws_markCostS.wp l0 a1 K) : OkQ Try.prog 50 [(.v v0), (.v (.int .i64 a1))] H (fun r H2 => ∃ (y0 : Int) (y1 : List ((Int) × (Nat))), K y0 y1 ∧ r = (.v (.int .i64 y0)) ∧ Sep H2 (Pc.osl v0 2 (enc (ePair (eInt .i64) (eFlt .f32)) y1) :: fr)) := by
  unfold laws_markCostS.wp at h
  refine of_body Try.f50 F.hm Try.func50 rfl Try.call50 (by kernel_rfl) (by simp) ?_
  refine fi_seq ?_
  refine fi_region ?_
  refine so_assign (v := (.v (.int .i64 (0 : Int)))) rfl ?_
  refine so_nil ?_
  refine fi_seq ?_
  refine fi_seq ?_
  refine fi_region ?_
  refine so_assign (v := (.v (.int .i64 (0 : Int)))) rfl ?_
  refine so_nil ?_
  refine fi_block ?_
  refine fi_loop ?_
  refine fi_at [(0, (.v v0)), (1, (.v (.int .i64 a1))), (5, (.v (.int .i64 (0 : Int))))] ⟨rfl, rfl, rfl, trivial⟩ ?_
  refine h (fun (a111 : List ((Int) × (Nat))) (k112 : Int) (i113 : Int) => ∀ (s : Nat → TV) (H : Heap), Sep H (Pc.osl v0 2 (enc (ePair (eInt .i64) (eFlt .f32)) a111) :: fr) → Fin _ _ (updL s [(0, (.v v0)), (1, (.v (.int .i64 k112))), (5, (.v (.int .i64 i113)))]) H _) ?_ _ _ hs
  intro a111 k112 i113 h s119 H120 hs
  refine fi_inLoop ?_
  refine fi_seq ?_
  refine fi_seq ?_
  refine fi_region ?_
  refine so_move (v := (.v (.int .i64 i113))) rfl ?_
  refine so_move (v := (.v v0)) rfl ?_
  refine sv_len (hs.shows 0 rfl) (fun _ => rfl) (by decide) rfl F50.ti47 ?_
  refine so_bin rfl rfl ab_lss ?_
  refine so_nil ?_
  replace h := ofP h; rcases h with ⟨c114, h⟩ | ⟨c114, h⟩
  · refine fi_true rfl (decide_eq_true c114) ?_
    refine fi_skip ?_
    refine fi_seq ?_
    refine fi_block ?_
    refine fi_seq ?_
    refine fi_region ?_
    refine so_move (v := (.v v0)) rfl ?_
    refine so_move (v := (.v (.int .i64 i113))) rfl ?_
    refine so_move (v := (.v (.int .i64 k112))) rfl ?_
    obtain ⟨c115, h⟩ := h
    refine sv_idx (hs.shows 0 rfl) c115 (fun _ => rfl) (by decide) rfl rfl F50.tl47 ?_
    refine so_fieldAddr rfl F50.fd49_0 ?_
    refine sv_setf hs 0 rfl c115 ((0 : Int), (0 : Nat)) (k112, (a111.getD (i113).toNat ((0 : Int), (0 : Nat))).2) 0 (fun _ => rfl) (by decide) rfl rfl rfl rfl F50.sz2 nofun (fun H116 hs => ?_)
    refine so_nil ?_
    refine fi_seq ?_
    refine fi_region ?_
    refine so_move (v := (.v (.int .i64 k112))) rfl ?_
    refine so_bin rfl rfl ab_add ?_
    refine so_assign (v := (.v (.int .i64 (IntKind.i64.wrap (k112 + (1 : Int)))))) rfl ?_
    refine so_nil ?_
    refine fi_seq ?_
    refine fi_region ?_
    refine so_move (v := (.v v0)) rfl ?_
    refine so_move (v := (.v (.int .i64 i113))) rfl ?_
    refine so_move (v := (.v (.int .i64 (IntKind.i64.wrap (k112 + (1 : Int)))))) rfl ?_
    refine sv_if rfl F50.us3 F50.in23 F50.fl23 ?_
    obtain ⟨c117, h⟩ := h
    refine sv_idx (hs.shows 0 rfl) c117 (fun _ => rfl) (by decide) rfl rfl F50.tl47 ?_
    refine so_fieldAddr rfl F50.fd49_1 ?_
    refine sv_setf hs 0 rfl c117 ((0 : Int), (0 : Nat)) (((a111.set (i113).toNat (k112, (a111.getD (i113).toNat ((0 : Int), (0 : Nat))).2)).getD (i113).toNat ((0 : Int), (0 : Nat))).1, (itof .f32 (IntKind.i64.wrap (k112 + (1 : Int))))) 1 (fun _ => rfl) (by decide) rfl rfl rfl rfl F50.sz23 nofun (fun H118 hs => ?_)
    refine so_nil ?_
    refine fi_region ?_
    refine so_move (v := (.v (.int .i64 (IntKind.i64.wrap (k112 + (1 : Int)))))) rfl ?_
    refine so_bin rfl rfl ab_add ?_
    refine so_assign (v := (.v (.int .i64 (IntKind.i64.wrap ((IntKind.i64.wrap (k112 + (1 : Int))) + (1 : Int)))))) rfl ?_
    refine so_nil ?_
    refine fi_inBlock ?_
    refine fi_region ?_
    refine so_move (v := (.v (.int .i64 i113))) rfl ?_
    refine so_bin rfl rfl ab_add ?_
    refine so_assign (v := (.v (.int .i64 (IntKind.i64.wrap (i113 + (1 : Int)))))) rfl ?_
    refine so_nil ?_
    exact fi_at [(0, (.v v0)), (1, (.v (.int .i64 (IntKind.i64.wrap ((IntKind.i64.wrap (k112 + (1 : Int))) + (1 : Int)))))), (5, (.v (.int .i64 (IntKind.i64.wrap (i113 + (1 : Int))))))] ⟨rfl, rfl, rfl, trivial⟩ (h _ _  hs)
  · refine fi_false rfl (decide_eq_false c114) ?_
    refine fi_exit rfl ?_
    refine fi_seq ?_
    refine fi_region ?_
    refine so_move (v := (.v (.int .i64 k112))) rfl ?_
    refine so_assign (v := (.v (.int .i64 k112))) rfl ?_
    refine so_nil ?_
    exact by_ret rfl ⟨_, _, h, rfl, hs⟩

end Go.Proofs.Ytecdkjnomkdbkaa.G

namespace Go.Proofs.Ytecdkjnomkdbkaa.G
open Go Go.Ab Go.Proofs Go.Proofs.Ytecdkjnomkdbkaa
set_option maxRecDepth 100000
set_option linter.unusedVariables false
set_option linter.unusedSimpArgs false
set_option maxHeartbeats 1000000
attribute [local irreducible] wops wopf Go.Ab.Fin
theorem F17.ag47 : tagg Try.prog 47 = some false := by kernel_rfl
theorem F17.ti35 : (telem Try.prog 35).isSome = true := by kernel_rfl
theorem F17.tl35 : (telem Try.prog 35).bind (tsz Try.prog) = some 1 := by kernel_rfl
theorem laws_markCostSS_ok {fr : List Pc} {H : Heap} (v0 : AV) (w0 : List (List AV)) (S0 : Nat → Prop) (l0 : List (List ((Int) × (Nat)))) (a1 : Int) (hs : Sep H (dpc v0 1 R_LePair_eInt_i64_eFlt_f32_o IR_LePair_eInt_i64_eFlt_f32_o l0 w0 S0 :: fr))  (K : Int → (List (List ((Int) × (Nat)))) → Prop) (h : laws_markCostSS.wp l0 a1 K) : OkQ Try.prog 17 [(.v v0), (.v (.int .i64 a1))] H (fun r H2 => ∃ (y0 : Int) (y1 : List (List ((Int) × (Nat)))), K y0 y1 ∧ ∃ (wm0 : List (List AV)) (Sm0 : Nat → Prop), r = (.v (.int .i64 y0)) ∧ Sep H2 (dpc v0 1 R_LePair_eInt_i64_eFlt_f32_o IR_LePair_eInt_i64_eFlt_f32_o y1 wm0 Sm0 :: fr)) := by
  unfold laws_markCostSS.wp at h
  refine of_body Try.f17 F.hm Try.func17 rfl Try.call17 (by kernel_rfl) (by simp) ?_
  refine fi_seq ?_
  refine fi_region ?_
  refine so_assign (v := (.v (.int .i64 (0 : Int)))) rfl ?_
  refine so_nil ?_
  refine fi_seq ?_
  refine fi_seq ?_
  refine fi_region ?_
  refine so_assign (v := (.v (.int .i64 (0 : Int)))) rfl ?_
  refine so_nil ?_
  refine fi_block ?_
  refine fi_loop ?_
  refine fi_at [(0, (.v v0)), (1, (.v (.int .i64 a1))), (5, (.v (.int .i64 (0 : Int))))] ⟨rfl, rfl, rfl, trivial⟩ ?_
  refine h (fun (a113 : List (List ((Int) × (Nat)))) (k116 : Int) (i117 : Int) => ∀ (s : Nat → TV) (H : Heap) (ws114 : List (List AV)) (S115 : Nat → Prop), Sep H (dpc v0 1 R_LePair_eInt_i64_eFlt_f32_o IR_LePair_eInt_i64_eFlt_f32_o a113 ws114 S115 :: fr) → Fin _ _ (updL s [(0, (.v v0)), (1, (.v (.int .i64 k116))), (5, (.v (.int .i64 i117)))]) H _) ?_ _ _ _ _ hs
  intro a113 k116 i117 h s125 H126 ws114 S115 hs
  refine fi_inLoop ?_
  refine fi_seq ?_
  refine fi_seq ?_
  refine fi_region ?_
  refine so_move (v := (.v (.int .i64 i117))) rfl ?_
  refine so_move (v := (.v v0)) rfl ?_
  refine sd_len ((hs.dshows 0 rfl) : DSh _ _ 1 R_LePair_eInt_i64_eFlt_f32_o a113 ws114) (by decide) rfl F17.ti35 ?_
  refine so_bin rfl rfl ab_lss ?_
  refine so_nil ?_
  replace h := ofP h; rcases h with ⟨c118, h⟩ | ⟨c118, h⟩
  · refine fi_true rfl (decide_eq_true c118) ?_
    refine fi_skip ?_
    refine fi_seq ?_
    refine fi_block ?_
    refine fi_region ?_
    refine so_move (v := (.v v0)) rfl ?_
    refine so_move (v := (.v (.int .i64 i117))) rfl ?_
    obtain ⟨c119, h⟩ := h
    refine sd_idx ((hs.dshows 0 rfl) : DSh _ _ 1 R_LePair_eInt_i64_eFlt_f32_o a113 ws114) c119 ([] : List ((Int) × (Nat))) (by decide) rfl rfl F17.tl35 ?_
    refine su_ld ((((hs.dshows 0 rfl) : DSh _ _ 1 R_LePair_eInt_i64_eFlt_f32_o a113 ws114)).at (by decide) c119 ([] : List ((Int) × (Nat)))).2.2 0 (congrArg (fun c => c[0]?) ((((hs.dshows 0 rfl) : DSh _ _ 1 R_LePair_eInt_i64_eFlt_f32_o a113 ws114)).at (by decide) c119 ([] : List ((Int) × (Nat)))).2.1.1) rfl F17.ag47 ?_
    refine so_move (v := (.v (.int .i64 k116))) rfl ?_
    have e120 := ((((hs.dshows 0 rfl) : DSh _ _ 1 R_LePair_eInt_i64_eFlt_f32_o a113 ws114)).at (by decide) c119 ([] : List ((Int) × (Nat)))).2.1.1
    replace hs := hs.lend 0 rfl c119 ([] : List ((Int) × (Nat))) (w := ((ws114.getD (i117).toNat []).getD 0 .und)) (m := 2) (cs := enc (ePair (eInt .i64) (eFlt .f32)) (a113.getD (i117).toNat ([] : List ((Int) × (Nat))))) rfl
    refine sv_call (laws_markCostS_ok ((ws114.getD (i117).toNat []).getD 0 .und) (a113.getD (i117).toNat ([] : List ((Int) × (Nat)))) k116 hs  _ h) rfl rfl nofun ?_
    clear h hs
    rintro _ H124 ⟨y122, y123, h, rfl, hs⟩
    replace hs := hs.give 0 rfl y123 rfl (fun _ hh => ⟨e120, hh⟩)
    refine so_assign (v := (.v (.int .i64 y122))) rfl ?_
    refine so_nil ?_
    refine fi_inBlock ?_
    refine fi_region ?_
    refine so_move (v := (.v (.int .i64 i117))) rfl ?_
    refine so_bin rfl rfl ab_add ?_
    refine so_assign (v := (.v (.int .i64 (IntKind.i64.wrap (i117 + (1 : Int)))))) rfl ?_
    refine so_nil ?_
    exact fi_at [(0, (.v v0)), (1, (.v (.int .i64 y122))), (5, (.v (.int .i64 (IntKind.i64.wrap (i117 + (1 : Int))))))] ⟨rfl, rfl, rfl, trivial⟩ (h _ _ _ _ hs)
  · refine fi_false rfl (decide_eq_false c118) ?_
    refine fi_exit rfl ?_
    refine fi_seq ?_
    refine fi_region ?_
    refine so_move (v := (.v (.int .i64 k116))) rfl ?_
    refine so_assign (v := (.v (.int .i64 k116))) rfl ?_
    refine so_nil ?_
    exact by_ret rfl ⟨_, _, h, _, _, rfl, hs⟩

end Go.Proofs.Ytecdkjnomkdbkaa.G

namespace Go.Proofs.Ytecdkjnomkdbkaa.G
open Go Go.Ab Go.Proofs Go.Proofs.Ytecdkjnomkdbkaa
set_option maxRecDepth 100000
set_option linter.unusedVariables false
set_option linter.unusedSimpArgs false
set_option maxHeartbeats 1000000
attribute [local irreducible] wops wopf Go.Ab.Fin
theorem F18.sz2 : tsz Try.prog 2 = some 1 := by kernel_rfl
theorem F18.ti22 : (telem Try.prog 22).isSome = true := by kernel_rfl
theorem F18.tl22 : (telem Try.prog 22).bind (tsz Try.prog) = some 1 := by kernel_rfl
theorem laws_markInt64S_ok {fr : List Pc} {H : Heap} (v0 : AV) (l0 : List (Int)) (a1 : Int) (hs : Sep H (Pc.osl v0 1 (enc (eInt .i64) l0) :: fr))  (K : Int → (List (Int)) → Prop) (h : laws_markInt64S.wp l0 a1 K) : OkQ Try.prog 18 [(.v v0), (.v (.int .i64 a1))] H (fun r H2 => ∃ (y0 : Int) (y1 : List (Int)), K y0 y1 ∧ r = (.v (.int .i64 y0)) ∧ Sep H2 (Pc.osl v0 1 (enc (eInt .i64) y1) :: fr)) := by
  unfold laws_markInt64S.wp at h
  refine of_body Try.f18 F.hm Try.func18 rfl Try.call18 (by kernel_rfl) (by simp) ?_
  refine fi_seq ?_
  refine fi_region ?_
  refine so_assign (v := (.v (.int .i64 (0 : Int)))) rfl ?_
  refine so_nil ?_
  refine fi_seq ?_
  refine fi_seq ?_
  refine fi_region ?_
  refine so_assign (v := (.v (.int .i64 (0 : Int)))) rfl ?_
  refine so_nil ?_
  refine fi_block ?_
  refine fi_loop ?_
  refine fi_at [(0, (.v v0)), (1, (.v (.int .i64 a1))), (5, (.v (.int .i64 (0 : Int))))] ⟨rfl, rfl, rfl, trivial⟩ ?_
  refine h (fun (a109 : List (Int)) (k110 : Int) (i111 : Int) => ∀ (s : Nat → TV) (H : Heap), Sep H (Pc.osl v0 1 (enc (eInt .i64) a109) :: fr) → Fin _ _ (updL s [(0, (.v v0)), (1, (.v (.int .i64 k110))), (5, (.v (.int .i64 i111)))]) H _) ?_ _ _ hs
  intro a109 k110 i111 h s115 H116 hs
  refine fi_inLoop ?_
  refine fi_seq ?_
  refine fi_seq ?_
  refine fi_region ?_
  refine so_move (v := (.v (.int .i64 i111))) rfl ?_
  refine so_move (v := (.v v0)) rfl ?_
  refine sv_len (hs.shows 0 rfl) (fun _ => rfl) (by decide) rfl F18.ti22 ?_
  refine so_bin rfl rfl ab_lss ?_
  refine so_nil ?_
  replace h := ofP h; rcases h with ⟨c112, h⟩ | ⟨c112, h⟩
  · refine fi_true rfl (decide_eq_true c112) ?_
    refine fi_skip ?_
    refine fi_seq ?_
    refine fi_block ?_
    refine fi_seq ?_
    refine fi_region ?_
    refine so_move (v := (.v v0)) rfl ?_
    refine so_move (v := (.v (.int .i64 i111))) rfl ?_
    refine so_move (v := (.v (.int .i64 k110))) rfl ?_
    obtain ⟨c113, h⟩ := h
    refine sv_idx (hs.shows 0 rfl) c113 (fun _ => rfl) (by decide) rfl rfl F18.tl22 ?_
    refine sv_set hs 0 rfl c113 k110 (fun _ => rfl) (by decide) rfl rfl rfl rfl F18.sz2 nofun (fun H114 hs => ?_)
    refine so_nil ?_
    refine fi_region ?_
    refine so_move (v := (.v (.int .i64 k110))) rfl ?_
    refine so_bin rfl rfl ab_add ?_
    refine so_assign (v := (.v (.int .i64 (IntKind.i64.wrap (k110 + (1 : Int)))))) rfl ?_
    refine so_nil ?_
    refine fi_inBlock ?_
    refine fi_region ?_
    refine so_move (v := (.v (.int .i64 i111))) rfl ?_
    refine so_bin rfl rfl ab_add ?_
    refine so_assign (v := (.v (.int .i64 (IntKind.i64.wrap (i111 + (1 : Int)))))) rfl ?_
    refine so_nil ?_
    exact fi_at [(0, (.v v0)), (1, (.v (.int .i64 (IntKind.i64.wrap (k110 + (1 : Int)))))), (5, (.v (.int .i64 (IntKind.i64.wrap (i111 + (1 : Int))))))] ⟨rfl, rfl, rfl, trivial⟩ (h _ _  hs)
  · refine fi_false rfl (decide_eq_false c112) ?_
    refine fi_exit rfl ?_
    refine fi_seq ?_
    refine fi_region ?_
    refine so_move (v := (.v (.int .i64 k110))) rfl ?_
    refine so_assign (v := (.v (.int .i64 k110))) rfl ?_
    refine so_nil ?_
    exact by_ret rfl ⟨_, _, h, rfl, hs⟩

end Go.Proofs.Ytecdkjnomkdbkaa.G

namespace Go.Proofs.Ytecdkjnomkdbkaa.G
open Go Go.Ab Go.Proofs Go.Proofs.Ytecdkjnomkdbkaa
set_option maxRecDepth 100000
set_option linter.unusedVariables false
set_option linter.unusedSimpArgs false
set_option maxHeartbeats 1000000
attribute [local irreducible] wops wopf Go.Ab.Fin
theorem F19.ag2 : tagg Try.prog 2 = some false := by kernel_rfl
theorem F19.ti22 : (telem Try.prog 22).isSome = true := by kernel_rfl
theorem F19.tl22 : (telem Try.prog 22).bind (tsz Try.prog) = some 1 := by kernel_rfl
theorem laws_heldInt64S_ok {fr : List Pc} {H : Heap} (v0 : AV) (l0 : List (Int)) (a1 : Int) (hs : Sep H (fr)) (g0 : ∀ H, Sep H fr → Shows H v0 1 (enc (eInt .i64) l0)) (K : Int → Prop) (h : laws_heldInt64S.wp l0 a1 K) : OkQ Try.prog 19 [(.v v0), (.v (.int .i64 a1))] H (fun r H2 => ∃ (y0 : Int), K y0 ∧ r = (.v (.int .i64 y0)) ∧ H = H2) := by
  unfold laws_heldInt64S.wp at h
  refine of_body Try.f19 F.hm Try.func19 rfl Try.call19 (by kernel_rfl) (by simp) ?_
  refine fi_seq ?_
  refine fi_region ?_
  refine so_assign (v := (.v (.int .i64 (0 : Int)))) rfl ?_
  refine so_nil ?_
  refine fi_seq ?_
  refine fi_seq ?_
  refine fi_region ?_
  refine so_assign (v := (.v (.int .i64 (0 : Int)))) rfl ?_
  refine so_nil ?_
  refine fi_block ?_
  refine fi_loop ?_
  refine fi_at [(0, (.v v0)), (1, (.v (.int .i64 a1))), (5, (.v (.int .i64 (0 : Int))))] ⟨rfl, rfl, rfl, trivial⟩ ?_
  refine h (fun (k102 : Int) (i103 : Int) => ∀ (s : Nat → TV), Fin _ _ (updL s [(0, (.v v0)), (1, (.v (.int .i64 k102))), (5, (.v (.int .i64 i103)))]) _ _) ?_ _
  intro k102 i103 h s107
  refine fi_inLoop ?_
  refine fi_seq ?_
  refine fi_seq ?_
  refine fi_region ?_
  refine so_move (v := (.v (.int .i64 i103))) rfl ?_
  refine so_move (v := (.v v0)) rfl ?_
  refine sv_len (g0 _ hs) (fun _ => rfl) (by decide) rfl F19.ti22 ?_
  refine so_bin rfl rfl ab_lss ?_
  refine so_nil ?_
  replace h := ofP h; rcases h with ⟨c104, h⟩ | ⟨c104, h⟩
  · refine fi_true rfl (decide_eq_true c104) ?_
    refine fi_skip ?_
    refine fi_seq ?_
    refine fi_block ?_
    refine fi_seq ?_
    refine fi_seq ?_
    refine fi_region ?_
    refine so_move (v := (.v v0)) rfl ?_
    refine so_move (v := (.v (.int .i64 i103))) rfl ?_
    obtain ⟨c105, h⟩ := h
    refine sv_idx (g0 _ hs) c105 (fun _ => rfl) (by decide) rfl rfl F19.tl22 ?_
    refine sv_cell (g0 _ hs) c105 (0 : Int) 0 (fun x => (AV.int .i64 x)) (fun _ => rfl) (fun _ => rfl) rfl F19.ag2 ?_
    refine so_move (v := (.v (.int .i64 k102))) rfl ?_
    refine so_bin rfl rfl ab_neq ?_
    refine so_nil ?_
    replace h := ofP h; rcases h with ⟨c106, h⟩ | ⟨c106, h⟩
    · refine fi_false rfl (not_f (decide_eq_true c106)) ?_
      refine fi_skip ?_
      refine fi_region ?_
      refine so_move (v := (.v (.int .i64 k102))) rfl ?_
      refine so_bin rfl rfl ab_add ?_
      refine so_assign (v := (.v (.int .i64 (IntKind.i64.wrap (k102 + (1 : Int)))))) rfl ?_
      refine so_nil ?_
      refine fi_inBlock ?_
      refine fi_region ?_
      refine so_move (v := (.v (.int .i64 i103))) rfl ?_
      refine so_bin rfl rfl ab_add ?_
      refine so_assign (v := (.v (.int .i64 (IntKind.i64.wrap (i103 + (1 : Int)))))) rfl ?_
      refine so_nil ?_
      exact fi_at [(0, (.v v0)), (1, (.v (.int .i64 (IntKind.i64.wrap (k102 + (1 : Int)))))), (5, (.v (.int .i64 (IntKind.i64.wrap (i103 + (1 : Int))))))] ⟨rfl, rfl, rfl, trivial⟩ (h _)
    · refine fi_true rfl (not_t (decide_eq_false c106)) ?_
      refine fi_seq ?_
      refine fi_region ?_
      refine so_assign (v := (.v (.int .i64 (-1 : Int)))) rfl ?_
      refine so_nil ?_
      exact by_ret rfl ⟨_, h, rfl, rfl⟩
  · refine fi_false rfl (decide_eq_false c104) ?_
    refine fi_exit rfl ?_
    refine fi_seq ?_
    refine fi_region ?_
    refine so_move (v := (.v (.int .i64 k102))) rfl ?_
    refine so_assign (v := (.v (.int .i64 k102))) rfl ?_
    refine so_nil ?_
    exact by_ret rfl ⟨_, h, rfl, rfl⟩

end Go.Proofs.Ytecdkjnomkdbkaa.G

namespace Go.Proofs.Ytecdkjnomkdbkaa.G
open Go Go.Ab Go.Proofs Go.Proofs.Ytecdkjnomkdbkaa
set_option maxRecDepth 100000
set_option linter.unusedVariables false
set_option linter.unusedSimpArgs false
set_option maxHeartbeats 1000000
attribute [local irreducible] wops wopf Go.Ab.Fin
theorem F4.fl28 : tflt Try.prog 28 = some .f64 := by kernel_rfl
theorem F4.in28 : tint Try.prog 28 = none := by kernel_rfl
theorem F4.tb4 : tbool Try.prog 4 = true := by kernel_rfl
theorem F4.us23 : (Try.prog.underlying 23).isSome = true := by kernel_rfl
theorem laws_FnExactBestCuts_ok {fr : List Pc} {H : Heap} (v0 : AV) (w0 : List (List AV)) (l0 : List (List ((Int) × (Nat)))) (a1 : Int) (hs : Sep H (fr)) (g0 : ∀ H, Sep H fr → DSh H v0 1 R_LePair_eInt_i64_eFlt_f32_o l0 w0) (K : Bool → Prop) (h : laws_FnExactBestCuts.wp l0 a1 K) : OkQ Try.prog 4 [(.v v0), (.v (.int .i64 a1))] H (fun r H2 => ∃ (y0 : Bool), K y0 ∧ r = (.v (.bool y0)) ∧ Sep H2 (fr)) := by
  unfold laws_FnExactBestCuts.wp at h
  refine of_body Try.f4 F.hm Try.func4 rfl Try.call4 (by kernel_rfl) (by simp) ?_
  refine fi_seq ?_
  refine fi_region ?_
  refine so_assign (v := (.v (.bool false))) rfl ?_
  refine so_nil ?_
  refine fi_seq ?_
  refine fi_region ?_
  refine so_assign (v := (.v (.int .i64 (1048576 : Int)))) rfl ?_
  refine so_nil ?_
  refine fi_seq ?_
  refine fi_region ?_
  refine so_move (v := (.v v0)) rfl ?_
  refine so_move (v := (.v (.int .i64 (1048576 : Int)))) rfl ?_
  refine sv_callS (laws_szCostSS_ok v0 w0 l0 (1048576 : Int) hs (fun _ hs => (g0 _ hs)) _ h) (fun _ _ ⟨_, _, _, e⟩ => e) rfl rfl ?_
  clear h
  rintro _ _ ⟨y101, h, rfl, rfl⟩
  refine so_assign (v := (.v (.int .i64 y101))) rfl ?_
  refine so_nil ?_
  refine fi_seq ?_
  refine fi_seq ?_
  refine fi_region ?_
  refine so_move (v := (.v (.int .i64 y101))) rfl ?_
  refine so_bin rfl rfl ab_lss ?_
  refine so_nil ?_
  replace h := ofP h; rcases h with ⟨c103, h⟩ | ⟨c103, h⟩
  · refine fi_true rfl (decide_eq_true c103) ?_
    refine fi_seq ?_
    refine fi_region ?_
    refine so_assign (v := (.v (.bool true))) rfl ?_
    refine so_nil ?_
    exact by_ret rfl ⟨_, h, rfl, hs⟩
  · refine fi_false rfl (decide_eq_false c103) ?_
    refine fi_skip ?_
    refine fi_seq ?_
    refine fi_region ?_
    refine so_move (v := (.v v0)) rfl ?_
    refine sv_call (laws_toCostSS_ok v0 w0 l0 hs (fun _ hs => (g0 _ hs)) _ h) rfl rfl nofun ?_
    clear h hs
    rintro _ H109 ⟨y104, h, v105, ws107, S108, rfl, hs⟩
    refine so_move (v := (.v (.int .i64 a1))) rfl ?_
    refine sv_call (spec_BestCuts_ok v105 ws107 y104 a1 hs (fun _ hs => (hs.dshows 0 rfl)) _ h) rfl rfl nofun ?_
    clear h hs
    rintro _ H115 ⟨y110, y113, y114, h, v111, rfl, hs⟩
    refine so_move (v := (.t [(.v v111), (.v (.flt .f32 y113)), (.v (.bool y114))])) rfl ?_
    refine so_extract rfl rfl rfl ?_
    refine so_extract rfl rfl rfl ?_
    refine so_extract rfl rfl rfl ?_
    refine so_assign (v := (.v v111)) rfl ?_
    refine so_assign (v := (.v (.flt .f32 y113))) rfl ?_
    refine so_assign (v := (.v (.bool y114))) rfl ?_
    refine so_nil ?_
    refine fi_seq ?_
    refine fi_region ?_
    refine so_move (v := (.v v0)) rfl ?_
    refine sv_call (laws_toCostSS_ok v0 w0 l0 hs (fun _ hs => (g0 _ hs.tl.tl)) _ h) rfl rfl nofun ?_
    clear h hs
    rintro _ H121 ⟨y116, h, v117, ws119, S120, rfl, hs⟩
    refine so_assign (v := (.v v117)) rfl ?_
    refine so_nil ?_
    refine fi_seq ?_
    refine fi_region ?_
    refine so_move (v := (.v v117)) rfl ?_
    refine so_move (v := (.v (.int .i64 a1))) rfl ?_
    refine sv_call (impl_BestCuts_ok v117 ws119 y116 a1 hs (fun _ hs => (hs.dshows 0 rfl)) _ h) rfl rfl nofun ?_
    clear h hs
    rintro _ H127 ⟨y122, y125, y126, h, v123, rfl, hs⟩
    refine so_move (v := (.t [(.v v123), (.v (.flt .f32 y125)), (.v (.bool y126))])) rfl ?_
    refine so_extract rfl rfl rfl ?_
    refine so_extract rfl rfl rfl ?_
    refine so_extract rfl rfl rfl ?_
    refine so_assign (v := (.v v123)) rfl ?_
    refine so_assign (v := (.v (.flt .f32 y125))) rfl ?_
    refine so_assign (v := (.v (.bool y126))) rfl ?_
    refine so_nil ?_
    refine fi_seq ?_
    refine fi_seq ?_
    refine fi_region ?_
    refine so_move (v := (.v v123)) rfl ?_
    refine so_move (v := (.v v111)) rfl ?_
    refine sv_callS (laws_eqInt64S_ok v123 y122 v111 y110 hs (fun _ hs => (hs.shows 0 rfl)) (fun _ hs => (hs.shows 2 rfl)) _ h) (fun _ _ ⟨_, _, _, e⟩ => e) rfl rfl ?_
    clear h
    rintro _ _ ⟨y128, h, rfl, rfl⟩
    refine so_un rfl au_not ?_
    refine so_move (v := (.v (.bool (!y128)))) rfl ?_
    replace h := ofT h; rcases h with ⟨c130, h⟩ | ⟨c130, h⟩
    · refine so_gyes rfl (not_f c130) ?_
      refine so_move (v := (.v (.flt .f32 y125))) rfl ?_
      refine so_gyes rfl (not_f c130) ?_
      refine sv_ffw rfl F4.us23 F4.in28 F4.fl28 ?_
      refine so_gyes rfl (not_f c130) ?_
      refine so_move (v := (.v (.flt .f32 y113))) rfl ?_
      refine so_gyes rfl (not_f c130) ?_
      refine sv_ffw rfl F4.us23 F4.in28 F4.fl28 ?_
      refine so_gyes rfl (not_f c130) ?_
      refine sv_callS (laws_sameFloat_ok (widen y125) (widen y113) hs  _ h) (fun _ _ ⟨_, _, _, e⟩ => e) rfl rfl ?_
      clear h
      rintro _ _ ⟨y131, h, rfl, rfl⟩
      refine so_gyes rfl (not_f c130) ?_
      refine so_un rfl au_not ?_
      refine so_pick_f (v := (.v (.bool (!y131)))) rfl (not_f c130) rfl ?_
      refine so_move (v := (.v (.bool (!y131)))) rfl ?_
      replace h := ofT h; rcases h with ⟨c133, h⟩ | ⟨c133, h⟩
      · refine so_gyes rfl (not_f c133) ?_
        refine so_move (v := (.v (.bool y126))) rfl ?_
        refine so_gyes rfl (not_f c133) ?_
        refine so_move (v := (.v (.bool y114))) rfl ?_
        refine so_gyes rfl (not_f c133) ?_
        refine so_bin rfl rfl (ab_bneq F4.tb4) ?_
        refine so_pick_f (v := (.v (.bool (!(y126 == y114))))) rfl (not_f c133) rfl ?_
        refine so_nil ?_
        replace h := ofT h; rcases h with ⟨c134, h⟩ | ⟨c134, h⟩
        · refine fi_false rfl (not_f c134) ?_
          refine fi_skip ?_
          refine fi_seq ?_
          refine fi_seq ?_
          refine fi_region ?_
          refine so_move (v := (.v v117)) rfl ?_
          refine so_move (v := (.v v0)) rfl ?_
          refine sv_call (laws_toCostSS_ok v0 w0 l0 hs (fun _ hs => (g0 _ hs.tl.tl.tl.tl)) _ h) rfl rfl nofun ?_
          clear h hs
          rintro _ H140 ⟨y135, h, v136, ws138, S139, rfl, hs⟩
          refine sv_callS (laws_eqCostSS_ok v117 ws119 y116 v136 ws138 y135 hs (fun _ hs => (hs.dshows 2 rfl)) (fun _ hs => (hs.dshows 0 rfl)) _ h) (fun _ _ ⟨_, _, _, e⟩ => e) rfl rfl ?_
          clear h
          rintro _ _ ⟨y141, h, rfl, rfl⟩
          refine so_un rfl au_not ?_
          refine so_nil ?_
          replace h := ofT h; rcases h with ⟨c143, h⟩ | ⟨c143, h⟩
          · refine fi_false rfl (not_f c143) ?_
            refine fi_skip ?_
            refine fi_seq ?_
            refine fi_region ?_
            refine so_assign (v := (.v (.int .i64 (1 : Int)))) rfl ?_
            refine so_nil ?_
            refine fi_seq ?_
            refine fi_region ?_
            refine so_move (v := (.v v117)) rfl ?_
            refine so_move (v := (.v (.int .i64 (1 : Int)))) rfl ?_
            replace hs := (Sep.front 2 hs rfl)
            refine sv_call (laws_markCostSS_ok v117 ws119 S120 y116 (1 : Int) hs  _ h) rfl rfl nofun ?_
            clear h hs
            rintro _ H148 ⟨y144, y145, h, ws146, S147, rfl, hs⟩
            refine so_assign (v := (.v (.int .i64 y144))) rfl ?_
            refine so_nil ?_
            refine fi_seq ?_
            refine fi_seq ?_
            refine fi_region ?_
            refine so_move (v := (.v (.int .i64 y144))) rfl ?_
            refine so_bin rfl rfl ab_lss ?_
            refine so_move (v := (.v (.bool (decide (y144 < (0 : Int)))))) rfl ?_
            replace h := ofP h; rcases h with ⟨c149, h⟩ | ⟨c149, h⟩
            · refine so_gno rfl (decide_eq_true c149) ?_
              refine so_gno rfl (decide_eq_true c149) ?_
              refine so_gno rfl (decide_eq_true c149) ?_
              refine so_gno rfl (decide_eq_true c149) ?_
              refine so_pick_t (v := (.v (.bool true))) rfl (decide_eq_true c149) rfl ?_
              refine so_move (v := (.v (.bool true))) rfl ?_
              refine so_gno rfl rfl ?_
              refine so_gno rfl rfl ?_
              refine so_gno rfl rfl ?_
              refine so_gno rfl rfl ?_
              refine so_gno rfl rfl ?_
              refine so_gno rfl rfl ?_
              refine so_pick_t (v := (.v (.bool true))) rfl rfl rfl ?_
              refine so_move (v := (.v (.bool true))) rfl ?_
              refine so_gno rfl rfl ?_
              refine so_gno rfl rfl ?_
              refine so_gno rfl rfl ?_
              refine so_pick_t (v := (.v (.bool true))) rfl rfl rfl ?_
              refine so_nil ?_
              refine fi_true rfl rfl ?_
              refine fi_seq ?_
              refine fi_region ?_
              refine so_assign (v := (.v (.bool false))) rfl ?_
              refine so_nil ?_
              exact by_ret rfl ⟨_, h, rfl, (Sep.dropn 5 hs)⟩
            · refine so_gyes rfl (decide_eq_false c149) ?_
              refine so_move (v := (.v v123)) rfl ?_
              refine so_gyes rfl (decide_eq_false c149) ?_
              refine so_move (v := (.v v111)) rfl ?_
              refine so_gyes rfl (decide_eq_false c149) ?_
              refine sv_callS (laws_eqInt64S_ok v123 y122 v111 y110 hs (fun _ hs => (hs.shows 2 rfl)) (fun _ hs => (hs.shows 3 rfl)) _ h) (fun _ _ ⟨_, _, _, e⟩ => e) rfl rfl ?_
              clear h
              rintro _ _ ⟨y150, h, rfl, rfl⟩
              refine so_gyes rfl (decide_eq_false c149) ?_
              refine so_un rfl au_not ?_
              refine so_pick_f (v := (.v (.bool (!y150)))) rfl (decide_eq_false c149) rfl ?_
              refine so_move (v := (.v (.bool (!y150)))) rfl ?_
              replace h := ofT h; rcases h with ⟨c152, h⟩ | ⟨c152, h⟩
              · refine so_gyes rfl (not_f c152) ?_
                refine so_move (v := (.v (.flt .f32 y125))) rfl ?_
                refine so_gyes rfl (not_f c152) ?_
                refine sv_ffw rfl F4.us23 F4.in28 F4.fl28 ?_
                refine so_gyes rfl (not_f c152) ?_
                refine so_move (v := (.v (.flt .f32 y113))) rfl ?_
                refine so_gyes rfl (not_f c152) ?_
                refine sv_ffw rfl F4.us23 F4.in28 F4.fl28 ?_
                refine so_gyes rfl (not_f c152) ?_
                refine sv_callS (laws_sameFloat_ok (widen y125) (widen y113) hs  _ h) (fun _ _ ⟨_, _, _, e⟩ => e) rfl rfl ?_
                clear h
                rintro _ _ ⟨y153, h, rfl, rfl⟩
                refine so_gyes rfl (not_f c152) ?_
                refine so_un rfl au_not ?_
                refine so_pick_f (v := (.v (.bool (!y153)))) rfl (not_f c152) rfl ?_
                refine so_move (v := (.v (.bool (!y153)))) rfl ?_
                replace h := ofT h; rcases h with ⟨c155, h⟩ | ⟨c155, h⟩
                · refine so_gyes rfl (not_f c155) ?_
                  refine so_move (v := (.v (.bool y126))) rfl ?_
                  refine so_gyes rfl (not_f c155) ?_
                  refine so_move (v := (.v (.bool y114))) rfl ?_
                  refine so_gyes rfl (not_f c155) ?_
                  refine so_bin rfl rfl (ab_bneq F4.tb4) ?_
                  refine so_pick_f (v := (.v (.bool (!(y126 == y114))))) rfl (not_f c155) rfl ?_
                  refine so_nil ?_
                  refine fi_false rfl (not_f c134) ?_
                  refine fi_skip ?_
                  refine fi_seq ?_
                  refine fi_region ?_
                  refine so_assign (v := (.v (.int .i64 (1 : Int)))) rfl ?_
                  refine so_nil ?_
                  refine fi_seq ?_
                  refine fi_region ?_
                  refine so_move (v := (.v v123)) rfl ?_
                  refine so_move (v := (.v (.int .i64 (1 : Int)))) rfl ?_
                  replace hs := (Sep.front 2 hs rfl)
                  refine sv_call (laws_markInt64S_ok v123 y122 (1 : Int) hs  _ h) rfl rfl nofun ?_
                  clear h hs
                  rintro _ H158 ⟨y156, y157, h, rfl, hs⟩
                  refine so_assign (v := (.v (.int .i64 y156))) rfl ?_
                  refine so_nil ?_
                  refine fi_seq ?_
                  refine fi_region ?_
                  refine so_assign (v := (.v (.int .i64 (1 : Int)))) rfl ?_
                  refine so_nil ?_
                  refine fi_seq ?_
                  refine fi_region ?_
                  refine so_move (v := (.v v123)) rfl ?_
                  refine so_move (v := (.v (.int .i64 (1 : Int)))) rfl ?_
                  refine sv_callS (laws_heldInt64S_ok v123 y157 (1 : Int) hs (fun _ hs => (hs.shows 0 rfl)) _ h) (fun _ _ ⟨_, _, _, e⟩ => e) rfl rfl ?_
                  clear h
                  rintro _ _ ⟨y159, h, rfl, rfl⟩
                  refine so_assign (v := (.v (.int .i64 y159))) rfl ?_
                  refine so_nil ?_
                  refine fi_seq ?_
                  refine fi_seq ?_
                  refine fi_region ?_
                  refine so_move (v := (.v (.int .i64 y159))) rfl ?_
                  refine so_bin rfl rfl ab_lss ?_
                  refine so_nil ?_
                  replace h := ofP h; rcases h with ⟨c161, h⟩ | ⟨c161, h⟩
                  · refine fi_true rfl (decide_eq_true c161) ?_
                    refine fi_seq ?_
                    refine fi_region ?_
                    refine so_assign (v := (.v (.bool false))) rfl ?_
                    refine so_nil ?_
                    exact by_ret rfl ⟨_, h, rfl, (Sep.dropn 5 hs)⟩
                  · refine fi_false rfl (decide_eq_false c161) ?_
                    refine fi_skip ?_
                    refine fi_seq ?_
                    refine fi_seq ?_
                    refine fi_region ?_
                    refine so_move (v := (.v (.int .i64 y159))) rfl ?_
                    refine so_move (v := (.v (.int .i64 y156))) rfl ?_
                    refine so_bin rfl rfl ab_neq ?_
                    refine so_nil ?_
                    replace h := ofP h; rcases h with ⟨c162, h⟩ | ⟨c162, h⟩
                    · refine fi_false rfl (not_f (decide_eq_true c162)) ?_
                      refine fi_skip ?_
                      refine fi_seq ?_
                      refine fi_region ?_
                      refine so_move (v := (.v v0)) rfl ?_
                      refine sv_call (laws_toCostSS_ok v0 w0 l0 hs (fun _ hs => (g0 _ hs.tl.tl.tl.tl.tl)) _ h) rfl rfl nofun ?_
                      clear h hs
                      rintro _ H168 ⟨y163, h, v164, ws166, S167, rfl, hs⟩
                      refine so_move (v := (.v (.int .i64 a1))) rfl ?_
                      refine sv_call (impl_BestCuts_ok v164 ws166 y163 a1 hs (fun _ hs => (hs.dshows 0 rfl)) _ h) rfl rfl nofun ?_
                      clear h hs
                      rintro _ H174 ⟨y169, y172, y173, h, v170, rfl, hs⟩
                      refine so_move (v := (.t [(.v v170), (.v (.flt .f32 y172)), (.v (.bool y173))])) rfl ?_
                      refine so_extract rfl rfl rfl ?_
                      refine so_extract rfl rfl rfl ?_
                      refine so_extract rfl rfl rfl ?_
                      refine so_assign (v := (.v v170)) rfl ?_
                      refine so_assign (v := (.v (.flt .f32 y172))) rfl ?_
                      refine so_assign (v := (.v (.bool y173))) rfl ?_
                      refine so_nil ?_
                      refine fi_seq ?_
                      refine fi_seq ?_
                      refine fi_region ?_
                      refine so_move (v := (.v v170)) rfl ?_
                      refine so_move (v := (.v v111)) rfl ?_
                      refine sv_callS (laws_eqInt64S_ok v170 y169 v111 y110 hs (fun _ hs => (hs.shows 0 rfl)) (fun _ hs => (hs.shows 5 rfl)) _ h) (fun _ _ ⟨_, _, _, e⟩ => e) rfl rfl ?_
                      clear h
                      rintro _ _ ⟨y175, h, rfl, rfl⟩
                      refine so_un rfl au_not ?_
                      refine so_move (v := (.v (.bool (!y175)))) rfl ?_
                      replace h := ofT h; rcases h with ⟨c177, h⟩ | ⟨c177, h⟩
                      · refine so_gyes rfl (not_f c177) ?_
                        refine so_move (v := (.v (.flt .f32 y172))) rfl ?_
                        refine so_gyes rfl (not_f c177) ?_
                        refine sv_ffw rfl F4.us23 F4.in28 F4.fl28 ?_
                        refine so_gyes rfl (not_f c177) ?_
                        refine so_move (v := (.v (.flt .f32 y113))) rfl ?_
                        refine so_gyes rfl (not_f c177) ?_
                        refine sv_ffw rfl F4.us23 F4.in28 F4.fl28 ?_
                        refine so_gyes rfl (not_f c177) ?_
                        refine sv_callS (laws_sameFloat_ok (widen y172) (widen y113) hs  _ h) (fun _ _ ⟨_, _, _, e⟩ => e) rfl rfl ?_
                        clear h
                        rintro _ _ ⟨y178, h, rfl, rfl⟩
                        refine so_gyes rfl (not_f c177) ?_
                        refine so_un rfl au_not ?_
                        refine so_pick_f (v := (.v (.bool (!y178)))) rfl (not_f c177) rfl ?_
                        refine so_move (v := (.v (.bool (!y178)))) rfl ?_
                        replace h := ofT h; rcases h with ⟨c180, h⟩ | ⟨c180, h⟩
                        · refine so_gyes rfl (not_f c180) ?_
                          refine so_move (v := (.v (.bool y173))) rfl ?_
                          refine so_gyes rfl (not_f c180) ?_
                          refine so_move (v := (.v (.bool y114))) rfl ?_
                          refine so_gyes rfl (not_f c180) ?_
                          refine so_bin rfl rfl (ab_bneq F4.tb4) ?_
                          refine so_pick_f (v := (.v (.bool (!(y173 == y114))))) rfl (not_f c180) rfl ?_
                          refine so_nil ?_
                          replace h := ofT h; rcases h with ⟨c181, h⟩ | ⟨c181, h⟩
                          · refine fi_false rfl (not_f c181) ?_
                            refine fi_skip ?_
                            refine fi_seq ?_
                            refine fi_region ?_
                            refine so_assign (v := (.v (.int .i64 (1 : Int)))) rfl ?_
                            refine so_nil ?_
                            refine fi_seq ?_
                            refine fi_region ?_
                            refine so_move (v := (.v v123)) rfl ?_
                            refine so_move (v := (.v (.int .i64 (1 : Int)))) rfl ?_
                            refine sv_callS (laws_heldInt64S_ok v123 y157 (1 : Int) hs (fun _ hs => (hs.shows 2 rfl)) _ h) (fun _ _ ⟨_, _, _, e⟩ => e) rfl rfl ?_
                            clear h
                            rintro _ _ ⟨y182, h, rfl, rfl⟩
                            refine so_assign (v := (.v (.int .i64 y182))) rfl ?_
                            refine so_nil ?_
                            refine fi_seq ?_
                            refine fi_seq ?_
                            refine fi_region ?_
                            refine so_move (v := (.v (.int .i64 y182))) rfl ?_
                            refine so_bin rfl rfl ab_lss ?_
                            refine so_nil ?_
                            replace h := ofP h; rcases h with ⟨c184, h⟩ | ⟨c184, h⟩
                            · refine fi_true rfl (decide_eq_true c184) ?_
                              refine fi_seq ?_
                              refine fi_region ?_
                              refine so_assign (v := (.v (.bool false))) rfl ?_
                              refine so_nil ?_
                              exact by_ret rfl ⟨_, h, rfl, (Sep.dropn 7 hs)⟩
                            · refine fi_false rfl (decide_eq_false c184) ?_
                              refine fi_skip ?_
                              refine fi_seq ?_
                              refine fi_seq ?_
                              refine fi_region ?_
                              refine so_move (v := (.v (.int .i64 y182))) rfl ?_
                              refine so_move (v := (.v (.int .i64 y156))) rfl ?_
                              refine so_bin rfl rfl ab_neq ?_
                              refine so_nil ?_
                              replace h := ofP h; rcases h with ⟨c185, h⟩ | ⟨c185, h⟩
                              · refine fi_false rfl (not_f (decide_eq_true c185)) ?_
                                refine fi_skip ?_
                                refine fi_seq ?_
                                refine fi_region ?_
                                refine so_assign (v := (.v (.bool true))) rfl ?_
                                refine so_nil ?_
                                exact by_ret rfl ⟨_, h, rfl, (Sep.dropn 7 hs)⟩
                              · refine fi_true rfl (not_t (decide_eq_false c185)) ?_
                                refine fi_seq ?_
                                refine fi_region ?_
                                refine so_assign (v := (.v (.bool false))) rfl ?_
                                refine so_nil ?_
                                exact by_ret rfl ⟨_, h, rfl, (Sep.dropn 7 hs)⟩
                          · refine fi_true rfl (not_t c181) ?_
                            refine fi_seq ?_
                            refine fi_region ?_
                            refine so_assign (v := (.v (.bool false))) rfl ?_
                            refine so_nil ?_
                            exact by_ret rfl ⟨_, h, rfl, (Sep.dropn 7 hs)⟩
                        · refine so_gno rfl (not_t c180) ?_
                          refine so_gno rfl (not_t c180) ?_
                          refine so_gno rfl (not_t c180) ?_
                          refine so_pick_t (v := (.v (.bool true))) rfl (not_t c180) rfl ?_
                          refine so_nil ?_
                          refine fi_true rfl rfl ?_
                          refine fi_seq ?_
                          refine fi_region ?_
                          refine so_assign (v := (.v (.bool false))) rfl ?_
                          refine so_nil ?_
                          exact by_ret rfl ⟨_, h, rfl, (Sep.dropn 7 hs)⟩
                      · refine so_gno rfl (not_t c177) ?_
                        refine so_gno rfl (not_t c177) ?_
                        refine so_gno rfl (not_t c177) ?_
                        refine so_gno rfl (not_t c177) ?_
                        refine so_gno rfl (not_t c177) ?_
                        refine so_gno rfl (not_t c177) ?_
                        refine so_pick_t (v := (.v (.bool true))) rfl (not_t c177) rfl ?_
                        refine so_move (v := (.v (.bool true))) rfl ?_
                        refine so_gno rfl rfl ?_
                        refine so_gno rfl rfl ?_
                        refine so_gno rfl rfl ?_
                        refine so_pick_t (v := (.v (.bool true))) rfl rfl rfl ?_
                        refine so_nil ?_
                        refine fi_true rfl rfl ?_
                        refine fi_seq ?_
                        refine fi_region ?_
                        refine so_assign (v := (.v (.bool false))) rfl ?_
                        refine so_nil ?_
                        exact by_ret rfl ⟨_, h, rfl, (Sep.dropn 7 hs)⟩
                    · refine fi_true rfl (not_t (decide_eq_false c162)) ?_
                      refine fi_seq ?_
                      refine fi_region ?_
                      refine so_assign (v := (.v (.bool false))) rfl ?_
                      refine so_nil ?_
                      exact by_ret rfl ⟨_, h, rfl, (Sep.dropn 5 hs)⟩
                · refine so_gno rfl (not_t c155) ?_
                  refine so_gno rfl (not_t c155) ?_
                  refine so_gno rfl (not_t c155) ?_
                  refine so_pick_t (v := (.v (.bool true))) rfl (not_t c155) rfl ?_
                  refine so_nil ?_
                  refine fi_true rfl rfl ?_
                  refine fi_seq ?_
                  refine fi_region ?_
                  refine so_assign (v := (.v (.bool false))) rfl ?_
                  refine so_nil ?_
                  exact by_ret rfl ⟨_, h, rfl, (Sep.dropn 5 hs)⟩
              · refine so_gno rfl (not_t c152) ?_
                refine so_gno rfl (not_t c152) ?_
                refine so_gno rfl (not_t c152) ?_
                refine so_gno rfl (not_t c152) ?_
                refine so_gno rfl (not_t c152) ?_
                refine so_gno rfl (not_t c152) ?_
                refine so_pick_t (v := (.v (.bool true))) rfl (not_t c152) rfl ?_
                refine so_move (v := (.v (.bool true))) rfl ?_
                refine so_gno rfl rfl ?_
                refine so_gno rfl rfl ?_
                refine so_gno rfl rfl ?_
                refine so_pick_t (v := (.v (.bool true))) rfl rfl rfl ?_
                refine so_nil ?_
                refine fi_true rfl rfl ?_
                refine fi_seq ?_
                refine fi_region ?_
                refine so_assign (v := (.v (.bool false))) rfl ?_
                refine so_nil ?_
                exact by_ret rfl ⟨_, h, rfl, (Sep.dropn 5 hs)⟩
          · refine fi_true rfl (not_t c143) ?_
            refine fi_seq ?_
            refine fi_region ?_
            refine so_assign (v := (.v (.bool false))) rfl ?_
            refine so_nil ?_
            exact by_ret rfl ⟨_, h, rfl, (Sep.dropn 5 hs)⟩
        · refine fi_true rfl (not_t c134) ?_
          refine fi_seq ?_
          refine fi_region ?_
          refine so_assign (v := (.v (.bool false))) rfl ?_
          refine so_nil ?_
          exact by_ret rfl ⟨_, h, rfl, (Sep.dropn 4 hs)⟩
      · refine so_gno rfl (not_t c133) ?_
        refine so_gno rfl (not_t c133) ?_
        refine so_gno rfl (not_t c133) ?_
        refine so_pick_t (v := (.v (.bool true))) rfl (not_t c133) rfl ?_
        refine so_nil ?_
        refine fi_true rfl rfl ?_
        refine fi_seq ?_
        refine fi_region ?_
        refine so_assign (v := (.v (.bool false))) rfl ?_
        refine so_nil ?_
        exact by_ret rfl ⟨_, h, rfl, (Sep.dropn 4 hs)⟩
    · refine so_gno rfl (not_t c130) ?_
      refine so_gno rfl (not_t c130) ?_
      refine so_gno rfl (not_t c130) ?_
      refine so_gno rfl (not_t c130) ?_
      refine so_gno rfl (not_t c130) ?_
      refine so_gno rfl (not_t c130) ?_
      refine so_pick_t (v := (.v (.bool true))) rfl (not_t c130) rfl ?_
      refine so_move (v := (.v (.bool true))) rfl ?_
      refine so_gno rfl rfl ?_
      refine so_gno rfl rfl ?_
      refine so_gno rfl rfl ?_
      refine so_pick_t (v := (.v (.bool true))) rfl rfl rfl ?_
      refine so_nil ?_
      refine fi_true rfl rfl ?_
      refine fi_seq ?_
      refine fi_region ?_
      refine so_assign (v := (.v (.bool false))) rfl ?_
      refine so_nil ?_
      exact by_ret rfl ⟨_, h, rfl, (Sep.dropn 4 hs)⟩

end Go.Proofs.Ytecdkjnomkdbkaa.G

