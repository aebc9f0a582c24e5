/-
  The model ends so. Printed by a program of the session; nothing here is trusted.
-/
import Derived.Test.YtochgocgmeeppaaProg
import Derived.KernelRfl
import Derived.Test.YtochgocgmeeppaaMExactLinesSharedWa
namespace Go.Proofs.Ytochgocgmeeppaa.F
open Go Go.Ab Go.Proofs
set_option maxRecDepth 100000
set_option linter.unusedVariables false
set_option linter.unusedSimpArgs false
set_option maxHeartbeats 1000000
theorem hm : Try.prog.follows .mixedOrders = true := by kernel_rfl
end Go.Proofs.Ytochgocgmeeppaa.F
namespace Go.Proofs.Ytochgocgmeeppaa.G
open Go Go.Ab Go.Proofs Go.Proofs.Ytochgocgmeeppaa
set_option maxRecDepth 100000
set_option linter.unusedVariables false
set_option linter.unusedSimpArgs false
set_option maxHeartbeats 1000000
attribute [local irreducible] wops wopf Go.Ab.Fin
theorem F50.ti25 : (telem Try.prog 25).isSome = true := by kernel_rfl
variable [Cls Try.prog]
theorem laws_szFloat32S_ok {fr : List Pc} {H : Heap} (v0 : AV) (l0 : List (Nat)) (a1 : Int) (hs : Sep H (fr)) (g0 : ∀ H, Sep H fr → Shows H v0 1 (enc (eFlt .f32) l0)) (K : Int → Prop) (h : laws_szFloat32S.wp l0 a1 K) : OkQ Try.prog 50 [(.v v0), (.v (.int .i64 a1))] H (fun r H2 => ∃ (y0 : Int), K y0 ∧ r = (.v (.int .i64 y0)) ∧ H = H2) := by
  unfold laws_szFloat32S.wp at h
  refine of_body Try.f50 F.hm Try.func50 rfl Try.call50 (by kernel_rfl) (by simp) ?_
  refine fi_seq ?_
  refine fi_region ?_
  refine so_assign (v := (.v (.int .i64 (0 : Int)))) rfl ?_
  refine so_nil ?_
  refine fi_seq ?_
  refine fi_region ?_
  refine so_move (v := (.v (.int .i64 a1))) rfl ?_
  refine so_move (v := (.v v0)) rfl ?_
  refine sv_len (g0 _ hs) (fun _ => rfl) (by decide) rfl F50.ti25 ?_
  refine so_bin rfl rfl ab_sub ?_
  refine so_assign (v := (.v (.int .i64 (IntKind.i64.wrap (a1 - (l0.length : Int)))))) rfl ?_
  refine so_nil ?_
  refine fi_seq ?_
  refine fi_seq ?_
  refine fi_region ?_
  refine so_move (v := (.v (.int .i64 (IntKind.i64.wrap (a1 - (l0.length : Int)))))) rfl ?_
  refine so_bin rfl rfl ab_lss ?_
  refine so_nil ?_
  replace h := ofP h; rcases h with ⟨c101, h⟩ | ⟨c101, h⟩
  · refine fi_true rfl (decide_eq_true c101) ?_
    refine fi_seq ?_
    refine fi_region ?_
    refine so_assign (v := (.v (.int .i64 (-1 : Int)))) rfl ?_
    refine so_nil ?_
    exact by_ret rfl ⟨_, h, rfl, rfl⟩
  · refine fi_false rfl (decide_eq_false c101) ?_
    refine fi_skip ?_
    refine fi_seq ?_
    refine fi_region ?_
    refine so_move (v := (.v (.int .i64 (IntKind.i64.wrap (a1 - (l0.length : Int)))))) rfl ?_
    refine so_assign (v := (.v (.int .i64 (IntKind.i64.wrap (a1 - (l0.length : Int)))))) rfl ?_
    refine so_nil ?_
    exact by_ret rfl ⟨_, h, rfl, rfl⟩

end Go.Proofs.Ytochgocgmeeppaa.G

namespace Go.Proofs.Ytochgocgmeeppaa.G
open Go Go.Ab Go.Proofs Go.Proofs.Ytochgocgmeeppaa
set_option maxRecDepth 100000
set_option linter.unusedVariables false
set_option linter.unusedSimpArgs false
set_option maxHeartbeats 1000000
attribute [local irreducible] wops wopf Go.Ab.Fin
theorem F20.ag25 : tagg Try.prog 25 = some false := by kernel_rfl
theorem F20.ti31 : (telem Try.prog 31).isSome = true := by kernel_rfl
theorem F20.tl31 : (telem Try.prog 31).bind (tsz Try.prog) = some 1 := by kernel_rfl
variable [Cls Try.prog]
theorem laws_szFloat32SS_ok {fr : List Pc} {H : Heap} (v0 : AV) (w0 : List (List AV)) (l0 : List (List (Nat))) (a1 : Int) (hs : Sep H (fr)) (g0 : ∀ H, Sep H fr → DSh H v0 1 R_LeFlt_f32_o l0 w0) (K : Int → Prop) (h : laws_szFloat32SS.wp l0 a1 K) : OkQ Try.prog 20 [(.v v0), (.v (.int .i64 a1))] H (fun r H2 => ∃ (y0 : Int), K y0 ∧ r = (.v (.int .i64 y0)) ∧ H = H2) := by
  unfold laws_szFloat32SS.wp at h
  refine of_body Try.f20 F.hm Try.func20 rfl Try.call20 (by kernel_rfl) (by simp) ?_
  refine fi_seq ?_
  refine fi_region ?_
  refine so_assign (v := (.v (.int .i64 (0 : Int)))) rfl ?_
  refine so_nil ?_
  refine fi_seq ?_
  refine fi_region ?_
  refine so_move (v := (.v (.int .i64 a1))) rfl ?_
  refine so_move (v := (.v v0)) rfl ?_
  refine sd_len ((g0 _ hs) : DSh _ _ 1 R_LeFlt_f32_o l0 w0) (by decide) rfl F20.ti31 ?_
  refine so_bin rfl rfl ab_sub ?_
  refine so_assign (v := (.v (.int .i64 (IntKind.i64.wrap (a1 - (l0.length : Int)))))) rfl ?_
  refine so_nil ?_
  refine fi_seq ?_
  refine fi_seq ?_
  refine fi_region ?_
  refine so_move (v := (.v (.int .i64 (IntKind.i64.wrap (a1 - (l0.length : Int)))))) rfl ?_
  refine so_bin rfl rfl ab_lss ?_
  refine so_nil ?_
  replace h := ofP h; rcases h with ⟨c101, h⟩ | ⟨c101, h⟩
  · refine fi_true rfl (decide_eq_true c101) ?_
    refine fi_seq ?_
    refine fi_region ?_
    refine so_assign (v := (.v (.int .i64 (-1 : Int)))) rfl ?_
    refine so_nil ?_
    exact by_ret rfl ⟨_, h, rfl, rfl⟩
  · refine fi_false rfl (decide_eq_false c101) ?_
    refine fi_skip ?_
    refine fi_seq ?_
    refine fi_seq ?_
    refine fi_region ?_
    refine so_assign (v := (.v (.int .i64 (0 : Int)))) rfl ?_
    refine so_nil ?_
    refine fi_block ?_
    refine fi_loop ?_
    refine fi_at [(0, (.v v0)), (1, (.v (.int .i64 (IntKind.i64.wrap (a1 - (l0.length : Int)))))), (5, (.v (.int .i64 (0 : Int))))] ⟨rfl, rfl, rfl, trivial⟩ ?_
    refine h (fun (left103 : Int) (i104 : Int) => ∀ (s : Nat → TV), Fin _ _ (updL s [(0, (.v v0)), (1, (.v (.int .i64 left103))), (5, (.v (.int .i64 i104)))]) _ _) ?_ _
    intro left103 i104 h s110
    refine fi_inLoop ?_
    refine fi_seq ?_
    refine fi_seq ?_
    refine fi_region ?_
    refine so_move (v := (.v (.int .i64 i104))) rfl ?_
    refine so_move (v := (.v v0)) rfl ?_
    refine sd_len ((g0 _ hs) : DSh _ _ 1 R_LeFlt_f32_o l0 w0) (by decide) rfl F20.ti31 ?_
    refine so_bin rfl rfl ab_lss ?_
    refine so_nil ?_
    replace h := ofP h; rcases h with ⟨c105, h⟩ | ⟨c105, h⟩
    · refine fi_true rfl (decide_eq_true c105) ?_
      refine fi_skip ?_
      refine fi_seq ?_
      refine fi_block ?_
      refine fi_seq ?_
      refine fi_region ?_
      refine so_move (v := (.v v0)) rfl ?_
      refine so_move (v := (.v (.int .i64 i104))) rfl ?_
      obtain ⟨c106, h⟩ := h
      refine sd_idx ((g0 _ hs) : DSh _ _ 1 R_LeFlt_f32_o l0 w0) c106 ([] : List (Nat)) (by decide) rfl rfl F20.tl31 ?_
      refine su_ld ((((g0 _ hs) : DSh _ _ 1 R_LeFlt_f32_o l0 w0)).at (by decide) c106 ([] : List (Nat))).2.2 0 (congrArg (fun c => c[0]?) ((((g0 _ hs) : DSh _ _ 1 R_LeFlt_f32_o l0 w0)).at (by decide) c106 ([] : List (Nat))).2.1.1) rfl F20.ag25 ?_
      refine so_move (v := (.v (.int .i64 left103))) rfl ?_
      refine sv_callS (laws_szFloat32S_ok ((w0.getD (i104).toNat []).getD 0 .und) (l0.getD (i104).toNat ([] : List (Nat))) left103 hs (fun _ hs => ((((g0 _ hs) : DSh _ _ 1 R_LeFlt_f32_o l0 w0)).at (by decide) c106 ([] : List (Nat))).2.1.2) _ h) (fun _ _ ⟨_, _, _, e⟩ => e) rfl rfl ?_
      clear h
      rintro _ _ ⟨y107, h, rfl, rfl⟩
      refine so_assign (v := (.v (.int .i64 y107))) rfl ?_
      refine so_nil ?_
      refine fi_seq ?_
      refine fi_region ?_
      refine so_move (v := (.v (.int .i64 y107))) rfl ?_
      refine so_bin rfl rfl ab_lss ?_
      refine so_nil ?_
      replace h := ofP h; rcases h with ⟨c109, h⟩ | ⟨c109, h⟩
      · refine fi_true rfl (decide_eq_true c109) ?_
        refine fi_seq ?_
        refine fi_region ?_
        refine so_assign (v := (.v (.int .i64 (-1 : Int)))) rfl ?_
        refine so_nil ?_
        exact by_ret rfl ⟨_, h, rfl, rfl⟩
      · refine fi_false rfl (decide_eq_false c109) ?_
        refine fi_skip ?_
        refine fi_inBlock ?_
        refine fi_region ?_
        refine so_move (v := (.v (.int .i64 i104))) rfl ?_
        refine so_bin rfl rfl ab_add ?_
        refine so_assign (v := (.v (.int .i64 (IntKind.i64.wrap (i104 + (1 : Int)))))) rfl ?_
        refine so_nil ?_
        exact fi_at [(0, (.v v0)), (1, (.v (.int .i64 y107))), (5, (.v (.int .i64 (IntKind.i64.wrap (i104 + (1 : Int))))))] ⟨rfl, rfl, rfl, trivial⟩ (h _)
    · refine fi_false rfl (decide_eq_false c105) ?_
      refine fi_exit rfl ?_
      refine fi_seq ?_
      refine fi_region ?_
      refine so_move (v := (.v (.int .i64 left103))) rfl ?_
      refine so_assign (v := (.v (.int .i64 left103))) rfl ?_
      refine so_nil ?_
      exact by_ret rfl ⟨_, h, rfl, rfl⟩

end Go.Proofs.Ytochgocgmeeppaa.G

namespace Go.Proofs.Ytochgocgmeeppaa.G
open Go Go.Ab Go.Proofs Go.Proofs.Ytochgocgmeeppaa
set_option maxRecDepth 100000
set_option linter.unusedVariables false
set_option linter.unusedSimpArgs false
set_option maxHeartbeats 1000000
attribute [local irreducible] wops wopf Go.Ab.Fin
variable [Cls Try.prog]
theorem spec_l01Finite_ok {fr : List Pc} {H : Heap} (a0 : Nat) (hs : Sep H (fr))  (K : Bool → Prop) (h : spec_l01Finite.wp a0 K) : OkQ Try.prog 75 [(.v (.flt .f32 a0))] H (fun r H2 => ∃ (y0 : Bool), K y0 ∧ r = (.v (.bool y0)) ∧ H = H2) := by
  unfold spec_l01Finite.wp at h
  refine of_body Try.f75 F.hm Try.func75 rfl Try.call75 (by kernel_rfl) (by simp) ?_
  refine fi_seq ?_
  refine fi_region ?_
  refine so_assign (v := (.v (.bool false))) rfl ?_
  refine so_nil ?_
  refine fi_seq ?_
  refine fi_region ?_
  refine so_move (v := (.v (.flt .f32 a0))) rfl ?_
  refine so_move (v := (.v (.flt .f32 a0))) rfl ?_
  refine so_bin rfl rfl ab_fsub ?_
  refine so_bin rfl rfl ab_feql ?_
  refine so_assign (v := (.v (.bool (fcmp .eql .f32 (fop .sub .f32 a0 a0) (cz .f32 0))))) rfl ?_
  refine so_nil ?_
  exact by_ret rfl ⟨_, h, rfl, rfl⟩

end Go.Proofs.Ytochgocgmeeppaa.G

namespace Go.Proofs.Ytochgocgmeeppaa.G
open Go Go.Ab Go.Proofs Go.Proofs.Ytochgocgmeeppaa
set_option maxRecDepth 100000
set_option linter.unusedVariables false
set_option linter.unusedSimpArgs false
set_option maxHeartbeats 1000000
attribute [local irreducible] wops wopf Go.Ab.Fin
variable [Cls Try.prog]
theorem spec_l02Above_ok {fr : List Pc} {H : Heap} (a0 : Nat) (hs : Sep H (fr))  (K : Bool → Prop) (h : spec_l02Above.wp a0 K) : OkQ Try.prog 42 [(.v (.flt .f32 a0))] H (fun r H2 => ∃ (y0 : Bool), K y0 ∧ r = (.v (.bool y0)) ∧ H = H2) := by
  unfold spec_l02Above.wp at h
  refine of_body Try.f42 F.hm Try.func42 rfl Try.call42 (by kernel_rfl) (by simp) ?_
  refine fi_seq ?_
  refine fi_region ?_
  refine so_assign (v := (.v (.bool false))) rfl ?_
  refine so_nil ?_
  refine fi_seq ?_
  refine fi_region ?_
  refine so_move (v := (.v (.flt .f32 a0))) rfl ?_
  refine sv_callS (spec_l01Finite_ok a0 hs  _ h) (fun _ _ ⟨_, _, _, e⟩ => e) rfl rfl ?_
  clear h
  rintro _ _ ⟨y101, h, rfl, rfl⟩
  refine so_move (v := (.v (.bool y101))) rfl ?_
  replace h := ofT h; rcases h with ⟨c103, h⟩ | ⟨c103, h⟩
  · refine so_gyes rfl c103 ?_
    refine so_move (v := (.v (.flt .f32 a0))) rfl ?_
    refine so_gyes rfl c103 ?_
    refine so_bin rfl rfl ab_fgtr ?_
    refine so_pick_t (v := (.v (.bool (fcmp .gtr .f32 a0 (cz .f32 0))))) rfl c103 rfl ?_
    refine so_assign (v := (.v (.bool (fcmp .gtr .f32 a0 (cz .f32 0))))) rfl ?_
    refine so_nil ?_
    exact by_ret rfl ⟨_, h, rfl, rfl⟩
  · refine so_gno rfl c103 ?_
    refine so_gno rfl c103 ?_
    refine so_pick_f (v := (.v (.bool false))) rfl c103 rfl ?_
    refine so_assign (v := (.v (.bool false))) rfl ?_
    refine so_nil ?_
    exact by_ret rfl ⟨_, h, rfl, rfl⟩

end Go.Proofs.Ytochgocgmeeppaa.G

namespace Go.Proofs.Ytochgocgmeeppaa.G
open Go Go.Ab Go.Proofs Go.Proofs.Ytochgocgmeeppaa
set_option maxRecDepth 100000
set_option linter.unusedVariables false
set_option linter.unusedSimpArgs false
set_option maxHeartbeats 1000000
attribute [local irreducible] wops wopf Go.Ab.Fin
variable [Cls Try.prog]
theorem spec_l00In_ok {fr : List Pc} {H : Heap} (a0 : Int) (a1 : Int) (a2 : Int) (hs : Sep H (fr))  (K : Bool → Prop) (h : spec_l00In.wp a0 a1 a2 K) : OkQ Try.prog 44 [(.v (.int .i64 a0)), (.v (.int .i64 a1)), (.v (.int .i64 a2))] H (fun r H2 => ∃ (y0 : Bool), K y0 ∧ r = (.v (.bool y0)) ∧ H = H2) := by
  unfold spec_l00In.wp at h
  refine of_body Try.f44 F.hm Try.func44 rfl Try.call44 (by kernel_rfl) (by simp) ?_
  refine fi_seq ?_
  refine fi_region ?_
  refine so_assign (v := (.v (.bool false))) rfl ?_
  refine so_nil ?_
  refine fi_seq ?_
  refine fi_region ?_
  refine so_move (v := (.v (.int .i64 a0))) rfl ?_
  refine so_move (v := (.v (.int .i64 a1))) rfl ?_
  refine so_bin rfl rfl ab_geq ?_
  refine so_move (v := (.v (.bool (decide (a1 ≤ a0))))) rfl ?_
  replace h := ofP h; rcases h with ⟨c101, h⟩ | ⟨c101, h⟩
  · refine so_gyes rfl (decide_eq_true c101) ?_
    refine so_move (v := (.v (.int .i64 a0))) rfl ?_
    refine so_gyes rfl (decide_eq_true c101) ?_
    refine so_move (v := (.v (.int .i64 a2))) rfl ?_
    refine so_gyes rfl (decide_eq_true c101) ?_
    refine so_bin rfl rfl ab_leq ?_
    refine so_pick_t (v := (.v (.bool (decide (a0 ≤ a2))))) rfl (decide_eq_true c101) rfl ?_
    refine so_assign (v := (.v (.bool (decide (a0 ≤ a2))))) rfl ?_
    refine so_nil ?_
    exact by_ret rfl ⟨_, h, rfl, rfl⟩
  · refine so_gno rfl (decide_eq_false c101) ?_
    refine so_gno rfl (decide_eq_false c101) ?_
    refine so_gno rfl (decide_eq_false c101) ?_
    refine so_pick_f (v := (.v (.bool false))) rfl (decide_eq_false c101) rfl ?_
    refine so_assign (v := (.v (.bool false))) rfl ?_
    refine so_nil ?_
    exact by_ret rfl ⟨_, h, rfl, rfl⟩

end Go.Proofs.Ytochgocgmeeppaa.G

namespace Go.Proofs.Ytochgocgmeeppaa.G
open Go Go.Ab Go.Proofs Go.Proofs.Ytochgocgmeeppaa
set_option maxRecDepth 100000
set_option linter.unusedVariables false
set_option linter.unusedSimpArgs false
set_option maxHeartbeats 1000000
attribute [local irreducible] wops wopf Go.Ab.Fin
theorem F47.ag30 : tagg Try.prog 30 = some false := by kernel_rfl
theorem F47.ti25 : (telem Try.prog 25).isSome = true := by kernel_rfl
theorem F47.tl25 : (telem Try.prog 25).bind (tsz Try.prog) = some 1 := by kernel_rfl
variable [Cls Try.prog]
theorem spec_l02Finite_ok {fr : List Pc} {H : Heap} (v0 : AV) (l0 : List (Nat)) (hs : Sep H (fr)) (g0 : ∀ H, Sep H fr → Shows H v0 1 (enc (eFlt .f32) l0)) (K : Bool → Prop) (h : spec_l02Finite.wp l0 K) : OkQ Try.prog 47 [(.v v0)] H (fun r H2 => ∃ (y0 : Bool), K y0 ∧ r = (.v (.bool y0)) ∧ H = H2) := by
  unfold spec_l02Finite.wp at h
  refine of_body Try.f47 F.hm Try.func47 rfl Try.call47 (by kernel_rfl) (by simp) ?_
  refine fi_seq ?_
  refine fi_region ?_
  refine so_assign (v := (.v (.bool false))) rfl ?_
  refine so_nil ?_
  refine fi_seq ?_
  refine fi_seq ?_
  refine fi_region ?_
  refine so_assign (v := (.v (.int .i64 (0 : Int)))) rfl ?_
  refine so_nil ?_
  refine fi_block ?_
  refine fi_loop ?_
  refine fi_at [(0, (.v v0)), (3, (.v (.int .i64 (0 : Int))))] ⟨rfl, rfl, trivial⟩ ?_
  refine h (fun (i102 : Int) => ∀ (s : Nat → TV), Fin _ _ (updL s [(0, (.v v0)), (3, (.v (.int .i64 i102)))]) _ _) ?_ _
  intro i102 h s108
  refine fi_inLoop ?_
  refine fi_seq ?_
  refine fi_seq ?_
  refine fi_region ?_
  refine so_move (v := (.v (.int .i64 i102))) rfl ?_
  refine so_move (v := (.v v0)) rfl ?_
  refine sv_len (g0 _ hs) (fun _ => rfl) (by decide) rfl F47.ti25 ?_
  refine so_bin rfl rfl ab_lss ?_
  refine so_nil ?_
  replace h := ofP h; rcases h with ⟨c103, h⟩ | ⟨c103, h⟩
  · refine fi_true rfl (decide_eq_true c103) ?_
    refine fi_skip ?_
    refine fi_seq ?_
    refine fi_block ?_
    refine fi_seq ?_
    refine fi_region ?_
    refine so_move (v := (.v v0)) rfl ?_
    refine so_move (v := (.v (.int .i64 i102))) rfl ?_
    obtain ⟨c104, h⟩ := h
    refine sv_idx (g0 _ hs) c104 (fun _ => rfl) (by decide) rfl rfl F47.tl25 ?_
    refine sv_cell (g0 _ hs) c104 (0 : Nat) 0 (fun x => (AV.flt .f32 x)) (fun _ => rfl) (fun _ => rfl) rfl F47.ag30 ?_
    refine sv_callS (spec_l01Finite_ok (l0.getD (i102).toNat (0 : Nat)) hs  _ h) (fun _ _ ⟨_, _, _, e⟩ => e) rfl rfl ?_
    clear h
    rintro _ _ ⟨y105, h, rfl, rfl⟩
    refine so_un rfl au_not ?_
    refine so_nil ?_
    replace h := ofT h; rcases h with ⟨c107, h⟩ | ⟨c107, h⟩
    · refine fi_false rfl (not_f c107) ?_
      refine fi_skip ?_
      refine fi_inBlock ?_
      refine fi_region ?_
      refine so_move (v := (.v (.int .i64 i102))) rfl ?_
      refine so_bin rfl rfl ab_add ?_
      refine so_assign (v := (.v (.int .i64 (IntKind.i64.wrap (i102 + (1 : Int)))))) rfl ?_
      refine so_nil ?_
      exact fi_at [(0, (.v v0)), (3, (.v (.int .i64 (IntKind.i64.wrap (i102 + (1 : Int))))))] ⟨rfl, rfl, trivial⟩ (h _)
    · refine fi_true rfl (not_t c107) ?_
      refine fi_seq ?_
      refine fi_region ?_
      refine so_assign (v := (.v (.bool false))) rfl ?_
      refine so_nil ?_
      exact by_ret rfl ⟨_, h, rfl, rfl⟩
  · refine fi_false rfl (decide_eq_false c103) ?_
    refine fi_exit rfl ?_
    refine fi_seq ?_
    refine fi_region ?_
    refine so_assign (v := (.v (.bool true))) rfl ?_
    refine so_nil ?_
    exact by_ret rfl ⟨_, h, rfl, rfl⟩

end Go.Proofs.Ytochgocgmeeppaa.G

namespace Go.Proofs.Ytochgocgmeeppaa.G
open Go Go.Ab Go.Proofs Go.Proofs.Ytochgocgmeeppaa
set_option maxRecDepth 100000
set_option linter.unusedVariables false
set_option linter.unusedSimpArgs false
set_option maxHeartbeats 1000000
attribute [local irreducible] wops wopf Go.Ab.Fin
theorem F41.ti25 : (telem Try.prog 25).isSome = true := by kernel_rfl
variable [Cls Try.prog]
theorem spec_l07Line_ok {fr : List Pc} {H : Heap} (v0 : AV) (l0 : List (Nat)) (hs : Sep H (fr)) (g0 : ∀ H, Sep H fr → Shows H v0 1 (enc (eFlt .f32) l0)) (K : Bool → Prop) (h : spec_l07Line.wp l0 K) : OkQ Try.prog 41 [(.v v0)] H (fun r H2 => ∃ (y0 : Bool), K y0 ∧ r = (.v (.bool y0)) ∧ H = H2) := by
  unfold spec_l07Line.wp at h
  refine of_body Try.f41 F.hm Try.func41 rfl Try.call41 (by kernel_rfl) (by simp) ?_
  refine fi_seq ?_
  refine fi_region ?_
  refine so_assign (v := (.v (.bool false))) rfl ?_
  refine so_nil ?_
  refine fi_seq ?_
  refine fi_region ?_
  refine so_move (v := (.v v0)) rfl ?_
  refine sv_len (g0 _ hs) (fun _ => rfl) (by decide) rfl F41.ti25 ?_
  refine so_assign (v := (.v (.int .i64 (l0.length : Int)))) rfl ?_
  refine so_nil ?_
  refine fi_seq ?_
  refine fi_region ?_
  refine so_move (v := (.v (.int .i64 (l0.length : Int)))) rfl ?_
  refine so_bin rfl rfl ab_eql ?_
  refine so_move (v := (.v (.bool (decide ((l0.length : Int) = (1 : Int)))))) rfl ?_
  replace h := ofP h; rcases h with ⟨c101, h⟩ | ⟨c101, h⟩
  · refine so_gno rfl (decide_eq_true c101) ?_
    refine so_gno rfl (decide_eq_true c101) ?_
    refine so_pick_t (v := (.v (.bool true))) rfl (decide_eq_true c101) rfl ?_
    refine so_move (v := (.v (.bool true))) rfl ?_
    refine so_gno rfl rfl ?_
    refine so_gno rfl rfl ?_
    refine so_pick_t (v := (.v (.bool true))) rfl rfl rfl ?_
    refine so_move (v := (.v (.bool true))) rfl ?_
    refine so_gno rfl rfl ?_
    refine so_gno rfl rfl ?_
    refine so_pick_t (v := (.v (.bool true))) rfl rfl rfl ?_
    refine so_move (v := (.v (.bool true))) rfl ?_
    refine so_gno rfl rfl ?_
    refine so_gno rfl rfl ?_
    refine so_pick_t (v := (.v (.bool true))) rfl rfl rfl ?_
    refine so_move (v := (.v (.bool true))) rfl ?_
    refine so_gno rfl rfl ?_
    refine so_gno rfl rfl ?_
    refine so_pick_t (v := (.v (.bool true))) rfl rfl rfl ?_
    refine so_move (v := (.v (.bool true))) rfl ?_
    refine so_gyes rfl rfl ?_
    refine so_move (v := (.v v0)) rfl ?_
    refine so_gyes rfl rfl ?_
    refine sv_callS (spec_l02Finite_ok v0 l0 hs (fun _ hs => (g0 _ hs)) _ h) (fun _ _ ⟨_, _, _, e⟩ => e) rfl rfl ?_
    clear h
    rintro _ _ ⟨y102, h, rfl, rfl⟩
    refine so_pick_t (v := (.v (.bool y102))) rfl rfl rfl ?_
    refine so_assign (v := (.v (.bool y102))) rfl ?_
    refine so_nil ?_
    exact by_ret rfl ⟨_, h, rfl, rfl⟩
  · refine so_gyes rfl (decide_eq_false c101) ?_
    refine so_move (v := (.v (.int .i64 (l0.length : Int)))) rfl ?_
    refine so_gyes rfl (decide_eq_false c101) ?_
    refine so_bin rfl rfl ab_eql ?_
    refine so_pick_f (v := (.v (.bool (decide ((l0.length : Int) = (3 : Int)))))) rfl (decide_eq_false c101) rfl ?_
    refine so_move (v := (.v (.bool (decide ((l0.length : Int) = (3 : Int)))))) rfl ?_
    replace h := ofP h; rcases h with ⟨c104, h⟩ | ⟨c104, h⟩
    · refine so_gno rfl (decide_eq_true c104) ?_
      refine so_gno rfl (decide_eq_true c104) ?_
      refine so_pick_t (v := (.v (.bool true))) rfl (decide_eq_true c104) rfl ?_
      refine so_move (v := (.v (.bool true))) rfl ?_
      refine so_gno rfl rfl ?_
      refine so_gno rfl rfl ?_
      refine so_pick_t (v := (.v (.bool true))) rfl rfl rfl ?_
      refine so_move (v := (.v (.bool true))) rfl ?_
      refine so_gno rfl rfl ?_
      refine so_gno rfl rfl ?_
      refine so_pick_t (v := (.v (.bool true))) rfl rfl rfl ?_
      refine so_move (v := (.v (.bool true))) rfl ?_
      refine so_gno rfl rfl ?_
      refine so_gno rfl rfl ?_
      refine so_pick_t (v := (.v (.bool true))) rfl rfl rfl ?_
      refine so_move (v := (.v (.bool true))) rfl ?_
      refine so_gyes rfl rfl ?_
      refine so_move (v := (.v v0)) rfl ?_
      refine so_gyes rfl rfl ?_
      refine sv_callS (spec_l02Finite_ok v0 l0 hs (fun _ hs => (g0 _ hs)) _ h) (fun _ _ ⟨_, _, _, e⟩ => e) rfl rfl ?_
      clear h
      rintro _ _ ⟨y105, h, rfl, rfl⟩
      refine so_pick_t (v := (.v (.bool y105))) rfl rfl rfl ?_
      refine so_assign (v := (.v (.bool y105))) rfl ?_
      refine so_nil ?_
      exact by_ret rfl ⟨_, h, rfl, rfl⟩
    · refine so_gyes rfl (decide_eq_false c104) ?_
      refine so_move (v := (.v (.int .i64 (l0.length : Int)))) rfl ?_
      refine so_gyes rfl (decide_eq_false c104) ?_
      refine so_bin rfl rfl ab_eql ?_
      refine so_pick_f (v := (.v (.bool (decide ((l0.length : Int) = (7 : Int)))))) rfl (decide_eq_false c104) rfl ?_
      refine so_move (v := (.v (.bool (decide ((l0.length : Int) = (7 : Int)))))) rfl ?_
      replace h := ofP h; rcases h with ⟨c107, h⟩ | ⟨c107, h⟩
      · refine so_gno rfl (decide_eq_true c107) ?_
        refine so_gno rfl (decide_eq_true c107) ?_
        refine so_pick_t (v := (.v (.bool true))) rfl (decide_eq_true c107) rfl ?_
        refine so_move (v := (.v (.bool true))) rfl ?_
        refine so_gno rfl rfl ?_
        refine so_gno rfl rfl ?_
        refine so_pick_t (v := (.v (.bool true))) rfl rfl rfl ?_
        refine so_move (v := (.v (.bool true))) rfl ?_
        refine so_gno rfl rfl ?_
        refine so_gno rfl rfl ?_
        refine so_pick_t (v := (.v (.bool true))) rfl rfl rfl ?_
        refine so_move (v := (.v (.bool true))) rfl ?_
        refine so_gyes rfl rfl ?_
        refine so_move (v := (.v v0)) rfl ?_
        refine so_gyes rfl rfl ?_
        refine sv_callS (spec_l02Finite_ok v0 l0 hs (fun _ hs => (g0 _ hs)) _ h) (fun _ _ ⟨_, _, _, e⟩ => e) rfl rfl ?_
        clear h
        rintro _ _ ⟨y108, h, rfl, rfl⟩
        refine so_pick_t (v := (.v (.bool y108))) rfl rfl rfl ?_
        refine so_assign (v := (.v (.bool y108))) rfl ?_
        refine so_nil ?_
        exact by_ret rfl ⟨_, h, rfl, rfl⟩
      · refine so_gyes rfl (decide_eq_false c107) ?_
        refine so_move (v := (.v (.int .i64 (l0.length : Int)))) rfl ?_
        refine so_gyes rfl (decide_eq_false c107) ?_
        refine so_bin rfl rfl ab_eql ?_
        refine so_pick_f (v := (.v (.bool (decide ((l0.length : Int) = (15 : Int)))))) rfl (decide_eq_false c107) rfl ?_
        refine so_move (v := (.v (.bool (decide ((l0.length : Int) = (15 : Int)))))) rfl ?_
        replace h := ofP h; rcases h with ⟨c110, h⟩ | ⟨c110, h⟩
        · refine so_gno rfl (decide_eq_true c110) ?_
          refine so_gno rfl (decide_eq_true c110) ?_
          refine so_pick_t (v := (.v (.bool true))) rfl (decide_eq_true c110) rfl ?_
          refine so_move (v := (.v (.bool true))) rfl ?_
          refine so_gno rfl rfl ?_
          refine so_gno rfl rfl ?_
          refine so_pick_t (v := (.v (.bool true))) rfl rfl rfl ?_
          refine so_move (v := (.v (.bool true))) rfl ?_
          refine so_gyes rfl rfl ?_
          refine so_move (v := (.v v0)) rfl ?_
          refine so_gyes rfl rfl ?_
          refine sv_callS (spec_l02Finite_ok v0 l0 hs (fun _ hs => (g0 _ hs)) _ h) (fun _ _ ⟨_, _, _, e⟩ => e) rfl rfl ?_
          clear h
          rintro _ _ ⟨y111, h, rfl, rfl⟩
          refine so_pick_t (v := (.v (.bool y111))) rfl rfl rfl ?_
          refine so_assign (v := (.v (.bool y111))) rfl ?_
          refine so_nil ?_
          exact by_ret rfl ⟨_, h, rfl, rfl⟩
        · refine so_gyes rfl (decide_eq_false c110) ?_
          refine so_move (v := (.v (.int .i64 (l0.length : Int)))) rfl ?_
          refine so_gyes rfl (decide_eq_false c110) ?_
          refine so_bin rfl rfl ab_eql ?_
          refine so_pick_f (v := (.v (.bool (decide ((l0.length : Int) = (31 : Int)))))) rfl (decide_eq_false c110) rfl ?_
          refine so_move (v := (.v (.bool (decide ((l0.length : Int) = (31 : Int)))))) rfl ?_
          replace h := ofP h; rcases h with ⟨c113, h⟩ | ⟨c113, h⟩
          · refine so_gno rfl (decide_eq_true c113) ?_
            refine so_gno rfl (decide_eq_true c113) ?_
            refine so_pick_t (v := (.v (.bool true))) rfl (decide_eq_true c113) rfl ?_
            refine so_move (v := (.v (.bool true))) rfl ?_
            refine so_gyes rfl rfl ?_
            refine so_move (v := (.v v0)) rfl ?_
            refine so_gyes rfl rfl ?_
            refine sv_callS (spec_l02Finite_ok v0 l0 hs (fun _ hs => (g0 _ hs)) _ h) (fun _ _ ⟨_, _, _, e⟩ => e) rfl rfl ?_
            clear h
            rintro _ _ ⟨y114, h, rfl, rfl⟩
            refine so_pick_t (v := (.v (.bool y114))) rfl rfl rfl ?_
            refine so_assign (v := (.v (.bool y114))) rfl ?_
            refine so_nil ?_
            exact by_ret rfl ⟨_, h, rfl, rfl⟩
          · refine so_gyes rfl (decide_eq_false c113) ?_
            refine so_move (v := (.v (.int .i64 (l0.length : Int)))) rfl ?_
            refine so_gyes rfl (decide_eq_false c113) ?_
            refine so_bin rfl rfl ab_eql ?_
            refine so_pick_f (v := (.v (.bool (decide ((l0.length : Int) = (63 : Int)))))) rfl (decide_eq_false c113) rfl ?_
            refine so_move (v := (.v (.bool (decide ((l0.length : Int) = (63 : Int)))))) rfl ?_
            replace h := ofP h; rcases h with ⟨c116, h⟩ | ⟨c116, h⟩
            · refine so_gyes rfl (decide_eq_true c116) ?_
              refine so_move (v := (.v v0)) rfl ?_
              refine so_gyes rfl (decide_eq_true c116) ?_
              refine sv_callS (spec_l02Finite_ok v0 l0 hs (fun _ hs => (g0 _ hs)) _ h) (fun _ _ ⟨_, _, _, e⟩ => e) rfl rfl ?_
              clear h
              rintro _ _ ⟨y117, h, rfl, rfl⟩
              refine so_pick_t (v := (.v (.bool y117))) rfl (decide_eq_true c116) rfl ?_
              refine so_assign (v := (.v (.bool y117))) rfl ?_
              refine so_nil ?_
              exact by_ret rfl ⟨_, h, rfl, rfl⟩
            · refine so_gno rfl (decide_eq_false c116) ?_
              refine so_gno rfl (decide_eq_false c116) ?_
              refine so_pick_f (v := (.v (.bool false))) rfl (decide_eq_false c116) rfl ?_
              refine so_assign (v := (.v (.bool false))) rfl ?_
              refine so_nil ?_
              exact by_ret rfl ⟨_, h, rfl, rfl⟩

end Go.Proofs.Ytochgocgmeeppaa.G

namespace Go.Proofs.Ytochgocgmeeppaa.G
open Go Go.Ab Go.Proofs Go.Proofs.Ytochgocgmeeppaa
set_option maxRecDepth 100000
set_option linter.unusedVariables false
set_option linter.unusedSimpArgs false
set_option maxHeartbeats 1000000
attribute [local irreducible] wops wopf Go.Ab.Fin
theorem F80.ag30 : tagg Try.prog 30 = some false := by kernel_rfl
theorem F80.by30 : tbytes Try.prog 30 = some 4 := by kernel_rfl
theorem F80.sz30 : tsz Try.prog 30 = some 1 := by kernel_rfl
theorem F80.ta25_25 : tapp Try.prog 25 25 = some (1, 4) := by kernel_rfl
theorem F80.te25 : telem Try.prog 25 = some 30 := by kernel_rfl
theorem F80.ti25 : (telem Try.prog 25).isSome = true := by kernel_rfl
theorem F80.tl25 : (telem Try.prog 25).bind (tsz Try.prog) = some 1 := by kernel_rfl
theorem F80.ze30 : tzero Try.prog 30 = some [(.flt .f32 (0 : Nat))] := by kernel_rfl
variable [Cls Try.prog]
theorem spec_l07Solve_ok {fr : List Pc} {H : Heap} (v0 : AV) (l0 : List (Nat)) (a1 : Nat) (hs : Sep H (fr)) (g0 : ∀ H, Sep H fr → Shows H v0 1 (enc (eFlt .f32) l0)) (K : (List (Nat)) → Prop) (h : spec_l07Solve.wp l0 a1 K) : OkQ Try.prog 80 [(.v v0), (.v (.flt .f32 a1))] H (fun r H2 => ∃ (y0 : List (Nat)), K y0 ∧ ∃ (w0_ : AV), r = (.v w0_) ∧ Sep H2 (Pc.osl w0_ 1 (enc (eFlt .f32) y0) :: fr)) := by
  unfold spec_l07Solve.wp at h
  refine of_body Try.f80 F.hm Try.func80 rfl Try.call80 (by kernel_rfl) (by simp) ?_
  refine fi_seq ?_
  refine fi_region ?_
  refine so_assign (v := (.v .nilsl)) rfl ?_
  refine so_nil ?_
  refine fi_seq ?_
  refine fi_region ?_
  refine so_move (v := (.v v0)) rfl ?_
  refine sv_len (g0 _ hs) (fun _ => rfl) (by decide) rfl F80.ti25 ?_
  refine so_assign (v := (.v (.int .i64 (l0.length : Int)))) rfl ?_
  refine so_nil ?_
  refine fi_seq ?_
  refine fi_region ?_
  refine sv_bslice hs (eFlt .f32) ([(cz .f32 1073741824)] : List (Nat)) [[(.flt .f32 (cz .f32 1073741824))]] F80.te25 F80.sz30 F80.ze30 rfl rfl rfl rfl (fun _ => rfl) rfl (by decide) nofun (fun v101 H102 nv101 hs => ?_)
  refine so_assign (v := (.v v101)) rfl ?_
  refine so_nil ?_
  refine fi_seq ?_
  refine fi_region ?_
  refine so_move (v := (.v (.flt .f32 a1))) rfl ?_
  refine so_move (v := (.v (.flt .f32 a1))) rfl ?_
  refine so_bin rfl rfl ab_fmul ?_
  refine so_move (v := (.v v0)) rfl ?_
  obtain ⟨c104, h⟩ := h
  refine sv_idx (g0 _ hs.tl) c104 (fun _ => rfl) (by decide) rfl rfl F80.tl25 ?_
  refine sv_cell (g0 _ hs.tl) c104 (0 : Nat) 0 (fun x => (AV.flt .f32 x)) (fun _ => rfl) (fun _ => rfl) rfl F80.ag30 ?_
  refine so_bin rfl rfl ab_fmul ?_
  refine sv_bslice hs (eFlt .f32) ([(fop .mul .f32 (fop .mul .f32 a1 a1) (l0.getD ((0 : Int)).toNat (0 : Nat)))] : List (Nat)) [[(.flt .f32 (fop .mul .f32 (fop .mul .f32 a1 a1) (l0.getD ((0 : Int)).toNat (0 : Nat))))]] F80.te25 F80.sz30 F80.ze30 rfl rfl rfl rfl (fun _ => rfl) rfl (by decide) nofun (fun v105 H106 nv105 hs => ?_)
  refine so_assign (v := (.v v105)) rfl ?_
  refine so_nil ?_
  refine fi_seq ?_
  refine fi_seq ?_
  refine fi_region ?_
  refine so_assign (v := (.v (.int .i64 (1 : Int)))) rfl ?_
  refine so_nil ?_
  refine fi_block ?_
  refine fi_loop ?_
  refine fi_at [(0, (.v v0)), (1, (.v (.flt .f32 a1))), (5, (.v (.int .i64 (l0.length : Int)))), (6, (.v v101)), (7, (.v v105)), (8, (.v (.int .i64 (1 : Int))))] ⟨rfl, rfl, rfl, rfl, rfl, rfl, trivial⟩ ?_
  refine h (fun (g162 : List (Nat)) (d164 : List (Nat)) (i166 : Int) => ∀ (s : Nat → TV) (H : Heap) (v163 : AV) (nv163 : v163 ≠ .nilsl) (v165 : AV) (nv165 : v165 ≠ .nilsl), Sep H (Pc.osl v163 1 (enc (eFlt .f32) g162) :: Pc.osl v165 1 (enc (eFlt .f32) d164) :: fr) → Fin _ _ (updL s [(0, (.v v0)), (1, (.v (.flt .f32 a1))), (5, (.v (.int .i64 (l0.length : Int)))), (6, (.v v165)), (7, (.v v163)), (8, (.v (.int .i64 i166)))]) H _) ?_ _ _ _ nv105 _ nv101 hs
  intro g162 d164 i166 h s214 H215 v163 nv163 v165 nv165 hs
  refine fi_inLoop ?_
  refine fi_seq ?_
  refine fi_seq ?_
  refine fi_region ?_
  refine so_move (v := (.v (.int .i64 i166))) rfl ?_
  refine so_move (v := (.v (.int .i64 (l0.length : Int)))) rfl ?_
  refine so_bin rfl rfl ab_lss ?_
  refine so_nil ?_
  replace h := ofP h; rcases h with ⟨c167, h⟩ | ⟨c167, h⟩
  · refine fi_true rfl (decide_eq_true c167) ?_
    refine fi_skip ?_
    refine fi_seq ?_
    refine fi_block ?_
    refine fi_seq ?_
    refine fi_region ?_
    refine so_move (v := (.v v165)) rfl ?_
    refine so_move (v := (.v (.int .i64 i166))) rfl ?_
    refine so_bin rfl rfl ab_sub ?_
    obtain ⟨c168, h⟩ := h
    refine sv_idx (hs.shows 1 rfl) c168 (fun _ => rfl) (by decide) rfl rfl F80.tl25 ?_
    refine sv_cell (hs.shows 1 rfl) c168 (0 : Nat) 0 (fun x => (AV.flt .f32 x)) (fun _ => rfl) (fun _ => rfl) rfl F80.ag30 ?_
    refine so_bin rfl rfl ab_fquo ?_
    refine so_assign (v := (.v (.flt .f32 (fop .quo .f32 (cz .f32 3212836864) (d164.getD ((IntKind.i64.wrap (i166 - (1 : Int)))).toNat (0 : Nat)))))) rfl ?_
    refine so_nil ?_
    refine fi_seq ?_
    refine fi_region ?_
    refine so_move (v := (.v v165)) rfl ?_
    refine so_move (v := (.v (.flt .f32 (fop .quo .f32 (cz .f32 3212836864) (d164.getD ((IntKind.i64.wrap (i166 - (1 : Int)))).toNat (0 : Nat)))))) rfl ?_
    refine so_bin rfl rfl ab_fadd ?_
    refine sv_bslice hs (eFlt .f32) ([(fop .add .f32 (cz .f32 1073741824) (fop .quo .f32 (cz .f32 3212836864) (d164.getD ((IntKind.i64.wrap (i166 - (1 : Int)))).toNat (0 : Nat))))] : List (Nat)) [[(.flt .f32 (fop .add .f32 (cz .f32 1073741824) (fop .quo .f32 (cz .f32 3212836864) (d164.getD ((IntKind.i64.wrap (i166 - (1 : Int)))).toNat (0 : Nat)))))]] F80.te25 F80.sz30 F80.ze30 rfl rfl rfl rfl (fun _ => rfl) rfl (by decide) nofun (fun v169 H170 nv169 hs => ?_)
    obtain ⟨c174, h⟩ := h
    refine sv_app hs 2 rfl (hs.shows 0 rfl) (fun _ => rfl) (by decide) F80.ta25_25 (by decide) c174 rfl rfl nofun (fun v172 H173 kv172 hs => ?_)
    replace hs := hs.del 0
    have nv172 := kv172 nv165
    refine so_assign (v := (.v v172)) rfl ?_
    refine so_nil ?_
    refine fi_region ?_
    refine so_move (v := (.v v163)) rfl ?_
    refine so_move (v := (.v (.flt .f32 a1))) rfl ?_
    refine so_move (v := (.v (.flt .f32 a1))) rfl ?_
    refine so_bin rfl rfl ab_fmul ?_
    refine so_move (v := (.v v0)) rfl ?_
    refine so_move (v := (.v (.int .i64 i166))) rfl ?_
    obtain ⟨c175, h⟩ := h
    refine sv_idx (g0 _ hs.tl.tl) c175 (fun _ => rfl) (by decide) rfl rfl F80.tl25 ?_
    refine sv_cell (g0 _ hs.tl.tl) c175 (0 : Nat) 0 (fun x => (AV.flt .f32 x)) (fun _ => rfl) (fun _ => rfl) rfl F80.ag30 ?_
    refine so_bin rfl rfl ab_fmul ?_
    refine so_move (v := (.v (.flt .f32 (fop .quo .f32 (cz .f32 3212836864) (d164.getD ((IntKind.i64.wrap (i166 - (1 : Int)))).toNat (0 : Nat)))))) rfl ?_
    refine so_move (v := (.v v163)) rfl ?_
    refine so_move (v := (.v (.int .i64 i166))) rfl ?_
    refine so_bin rfl rfl ab_sub ?_
    obtain ⟨c176, h⟩ := h
    refine sv_idx (hs.shows 0 rfl) c176 (fun _ => rfl) (by decide) rfl rfl F80.tl25 ?_
    refine sv_cell (hs.shows 0 rfl) c176 (0 : Nat) 0 (fun x => (AV.flt .f32 x)) (fun _ => rfl) (fun _ => rfl) rfl F80.ag30 ?_
    refine so_bin rfl rfl ab_fmul ?_
    refine so_bin rfl rfl ab_fsub ?_
    refine sv_bslice hs (eFlt .f32) ([(fop .sub .f32 (fop .mul .f32 (fop .mul .f32 a1 a1) (l0.getD (i166).toNat (0 : Nat))) (fop .mul .f32 (fop .quo .f32 (cz .f32 3212836864) (d164.getD ((IntKind.i64.wrap (i166 - (1 : Int)))).toNat (0 : Nat))) (g162.getD ((IntKind.i64.wrap (i166 - (1 : Int)))).toNat (0 : Nat))))] : List (Nat)) [[(.flt .f32 (fop .sub .f32 (fop .mul .f32 (fop .mul .f32 a1 a1) (l0.getD (i166).toNat (0 : Nat))) (fop .mul .f32 (fop .quo .f32 (cz .f32 3212836864) (d164.getD ((IntKind.i64.wrap (i166 - (1 : Int)))).toNat (0 : Nat))) (g162.getD ((IntKind.i64.wrap (i166 - (1 : Int)))).toNat (0 : Nat)))))]] F80.te25 F80.sz30 F80.ze30 rfl rfl rfl rfl (fun _ => rfl) rfl (by decide) (fun _ => by kernel_rfl) (fun v177 H178 nv177 hs => ?_)
    obtain ⟨c182, h⟩ := h
    refine sv_app hs 1 rfl (hs.shows 0 rfl) (fun _ => rfl) (by decide) F80.ta25_25 (by decide) c182 rfl rfl (fun _ => by kernel_rfl) (fun v180 H181 kv180 hs => ?_)
    replace hs := hs.del 0
    have nv180 := kv180 nv163
    refine so_assign (v := (.v v180)) rfl ?_
    refine so_nil ?_
    refine fi_inBlock ?_
    refine fi_region ?_
    refine so_move (v := (.v (.int .i64 i166))) rfl ?_
    refine so_bin rfl rfl ab_add ?_
    refine so_assign (v := (.v (.int .i64 (IntKind.i64.wrap (i166 + (1 : Int)))))) rfl ?_
    refine so_nil ?_
    exact fi_at [(0, (.v v0)), (1, (.v (.flt .f32 a1))), (5, (.v (.int .i64 (l0.length : Int)))), (6, (.v v172)), (7, (.v v180)), (8, (.v (.int .i64 (IntKind.i64.wrap (i166 + (1 : Int))))))] ⟨rfl, rfl, rfl, rfl, rfl, rfl, trivial⟩ (h _ _ _ nv180 _ nv172 hs)
  · refine fi_false rfl (decide_eq_false c167) ?_
    refine fi_exit rfl ?_
    refine fi_seq ?_
    refine fi_region ?_
    refine so_move (v := (.v (.int .i64 (l0.length : Int)))) rfl ?_
    obtain ⟨c183, h⟩ := h
    refine sv_make hs (eFlt .f32) (0 : Nat) c183 (fun _ => rfl) rfl rfl F80.te25 F80.sz30 F80.by30 F80.ze30 rfl rfl nofun (fun v184 H185 nv184 hs => ?_)
    refine so_assign (v := (.v v184)) rfl ?_
    refine so_nil ?_
    refine fi_seq ?_
    refine fi_seq ?_
    refine fi_region ?_
    refine so_move (v := (.v (.int .i64 (l0.length : Int)))) rfl ?_
    refine so_bin rfl rfl ab_sub ?_
    refine so_assign (v := (.v (.int .i64 (IntKind.i64.wrap ((l0.length : Int) - (1 : Int)))))) rfl ?_
    refine so_nil ?_
    refine fi_block ?_
    refine fi_loop ?_
    refine fi_at [(5, (.v (.int .i64 (l0.length : Int)))), (6, (.v v165)), (7, (.v v163)), (10, (.v v184)), (11, (.v (.int .i64 (IntKind.i64.wrap ((l0.length : Int) - (1 : Int))))))] ⟨rfl, rfl, rfl, rfl, rfl, trivial⟩ ?_
    refine h (fun (u200 : List (Nat)) (i201 : Int) => ∀ (s : Nat → TV) (H : Heap), Sep H (Pc.osl v184 1 (enc (eFlt .f32) u200) :: Pc.osl v163 1 (enc (eFlt .f32) g162) :: Pc.osl v165 1 (enc (eFlt .f32) d164) :: fr) → Fin _ _ (updL s [(5, (.v (.int .i64 (l0.length : Int)))), (6, (.v v165)), (7, (.v v163)), (10, (.v v184)), (11, (.v (.int .i64 i201)))]) H _) ?_ _ _ hs
    intro u200 i201 h s212 H213 hs
    refine fi_inLoop ?_
    refine fi_seq ?_
    refine fi_seq ?_
    refine fi_region ?_
    refine so_move (v := (.v (.int .i64 i201))) rfl ?_
    refine so_bin rfl rfl ab_geq ?_
    refine so_nil ?_
    replace h := ofP h; rcases h with ⟨c202, h⟩ | ⟨c202, h⟩
    · refine fi_true rfl (decide_eq_true c202) ?_
      refine fi_skip ?_
      refine fi_seq ?_
      refine fi_block ?_
      refine fi_seq ?_
      refine fi_region ?_
      refine so_move (v := (.v v163)) rfl ?_
      refine so_move (v := (.v (.int .i64 i201))) rfl ?_
      obtain ⟨c203, h⟩ := h
      refine sv_idx (hs.shows 1 rfl) c203 (fun _ => rfl) (by decide) rfl rfl F80.tl25 ?_
      refine sv_cell (hs.shows 1 rfl) c203 (0 : Nat) 0 (fun x => (AV.flt .f32 x)) (fun _ => rfl) (fun _ => rfl) rfl F80.ag30 ?_
      refine so_assign (v := (.v (.flt .f32 (g162.getD (i201).toNat (0 : Nat))))) rfl ?_
      refine so_nil ?_
      refine fi_seq ?_
      refine fi_seq ?_
      refine fi_region ?_
      refine so_move (v := (.v (.int .i64 i201))) rfl ?_
      refine so_bin rfl rfl ab_add ?_
      refine so_move (v := (.v (.int .i64 (l0.length : Int)))) rfl ?_
      refine so_bin rfl rfl ab_lss ?_
      refine so_nil ?_
      replace h := ofP h; rcases h with ⟨c204, h⟩ | ⟨c204, h⟩
      · refine fi_true rfl (decide_eq_true c204) ?_
        refine fi_region ?_
        refine so_move (v := (.v (.flt .f32 (g162.getD (i201).toNat (0 : Nat))))) rfl ?_
        refine so_move (v := (.v v184)) rfl ?_
        refine so_move (v := (.v (.int .i64 i201))) rfl ?_
        refine so_bin rfl rfl ab_add ?_
        obtain ⟨c205, h⟩ := h
        refine sv_idx (hs.shows 0 rfl) c205 (fun _ => rfl) (by decide) rfl rfl F80.tl25 ?_
        refine sv_cell (hs.shows 0 rfl) c205 (0 : Nat) 0 (fun x => (AV.flt .f32 x)) (fun _ => rfl) (fun _ => rfl) rfl F80.ag30 ?_
        refine so_bin rfl rfl ab_fadd ?_
        refine so_assign (v := (.v (.flt .f32 (fop .add .f32 (g162.getD (i201).toNat (0 : Nat)) (u200.getD ((IntKind.i64.wrap (i201 + (1 : Int)))).toNat (0 : Nat)))))) rfl ?_
        refine so_nil ?_
        refine fi_region ?_
        refine so_move (v := (.v v184)) rfl ?_
        refine so_move (v := (.v (.int .i64 i201))) rfl ?_
        refine so_move (v := (.v (.flt .f32 (fop .add .f32 (g162.getD (i201).toNat (0 : Nat)) (u200.getD ((IntKind.i64.wrap (i201 + (1 : Int)))).toNat (0 : Nat)))))) rfl ?_
        refine so_move (v := (.v v165)) rfl ?_
        refine so_move (v := (.v (.int .i64 i201))) rfl ?_
        obtain ⟨c206, h⟩ := h
        refine sv_idx (hs.shows 2 rfl) c206 (fun _ => rfl) (by decide) rfl rfl F80.tl25 ?_
        refine sv_cell (hs.shows 2 rfl) c206 (0 : Nat) 0 (fun x => (AV.flt .f32 x)) (fun _ => rfl) (fun _ => rfl) rfl F80.ag30 ?_
        refine so_bin rfl rfl ab_fquo ?_
        obtain ⟨c207, h⟩ := h
        refine sv_idx (hs.shows 0 rfl) c207 (fun _ => rfl) (by decide) rfl rfl F80.tl25 ?_
        refine sv_set hs 0 rfl c207 (fop .quo .f32 (fop .add .f32 (g162.getD (i201).toNat (0 : Nat)) (u200.getD ((IntKind.i64.wrap (i201 + (1 : Int)))).toNat (0 : Nat))) (d164.getD (i201).toNat (0 : Nat))) (fun _ => rfl) (by decide) rfl rfl rfl rfl F80.sz30 nofun (fun H208 hs => ?_)
        refine so_nil ?_
        refine fi_inBlock ?_
        refine fi_region ?_
        refine so_move (v := (.v (.int .i64 i201))) rfl ?_
        refine so_bin rfl rfl ab_sub ?_
        refine so_assign (v := (.v (.int .i64 (IntKind.i64.wrap (i201 - (1 : Int)))))) rfl ?_
        refine so_nil ?_
        exact fi_at [(5, (.v (.int .i64 (l0.length : Int)))), (6, (.v v165)), (7, (.v v163)), (10, (.v v184)), (11, (.v (.int .i64 (IntKind.i64.wrap (i201 - (1 : Int))))))] ⟨rfl, rfl, rfl, rfl, rfl, trivial⟩ (h _ _  hs)
      · refine fi_false rfl (decide_eq_false c204) ?_
        refine fi_skip ?_
        refine fi_region ?_
        refine so_move (v := (.v v184)) rfl ?_
        refine so_move (v := (.v (.int .i64 i201))) rfl ?_
        refine so_move (v := (.v (.flt .f32 (g162.getD (i201).toNat (0 : Nat))))) rfl ?_
        refine so_move (v := (.v v165)) rfl ?_
        refine so_move (v := (.v (.int .i64 i201))) rfl ?_
        obtain ⟨c209, h⟩ := h
        refine sv_idx (hs.shows 2 rfl) c209 (fun _ => rfl) (by decide) rfl rfl F80.tl25 ?_
        refine sv_cell (hs.shows 2 rfl) c209 (0 : Nat) 0 (fun x => (AV.flt .f32 x)) (fun _ => rfl) (fun _ => rfl) rfl F80.ag30 ?_
        refine so_bin rfl rfl ab_fquo ?_
        obtain ⟨c210, h⟩ := h
        refine sv_idx (hs.shows 0 rfl) c210 (fun _ => rfl) (by decide) rfl rfl F80.tl25 ?_
        refine sv_set hs 0 rfl c210 (fop .quo .f32 (g162.getD (i201).toNat (0 : Nat)) (d164.getD (i201).toNat (0 : Nat))) (fun _ => rfl) (by decide) rfl rfl rfl rfl F80.sz30 nofun (fun H211 hs => ?_)
        refine so_nil ?_
        refine fi_inBlock ?_
        refine fi_region ?_
        refine so_move (v := (.v (.int .i64 i201))) rfl ?_
        refine so_bin rfl rfl ab_sub ?_
        refine so_assign (v := (.v (.int .i64 (IntKind.i64.wrap (i201 - (1 : Int)))))) rfl ?_
        refine so_nil ?_
        exact fi_at [(5, (.v (.int .i64 (l0.length : Int)))), (6, (.v v165)), (7, (.v v163)), (10, (.v v184)), (11, (.v (.int .i64 (IntKind.i64.wrap (i201 - (1 : Int))))))] ⟨rfl, rfl, rfl, rfl, rfl, trivial⟩ (h _ _  hs)
    · refine fi_false rfl (decide_eq_false c202) ?_
      refine fi_exit rfl ?_
      refine fi_seq ?_
      refine fi_region ?_
      refine so_move (v := (.v v184)) rfl ?_
      refine so_assign (v := (.v v184)) rfl ?_
      refine so_nil ?_
      exact by_ret rfl ⟨_, h, _, rfl, (Sep.del 1 (Sep.del 1 hs))⟩

end Go.Proofs.Ytochgocgmeeppaa.G

namespace Go.Proofs.Ytochgocgmeeppaa.G
open Go Go.Ab Go.Proofs Go.Proofs.Ytochgocgmeeppaa
set_option maxRecDepth 100000
set_option linter.unusedVariables false
set_option linter.unusedSimpArgs false
set_option maxHeartbeats 1000000
attribute [local irreducible] wops wopf Go.Ab.Fin
variable [Cls Try.prog]
theorem spec_SolveLine_ok {fr : List Pc} {H : Heap} (v0 : AV) (l0 : List (Nat)) (a1 : Nat) (hs : Sep H (fr)) (g0 : ∀ H, Sep H fr → Shows H v0 1 (enc (eFlt .f32) l0)) (K : (List (Nat)) → Bool → Prop) (h : spec_SolveLine.wp l0 a1 K) : OkQ Try.prog 51 [(.v v0), (.v (.flt .f32 a1))] H (fun r H2 => ∃ (y0 : List (Nat)) (y1 : Bool), K y0 y1 ∧ ∃ (w0_ : AV), r = (.t [(.v w0_), (.v (.bool y1))]) ∧ Sep H2 (Pc.osl w0_ 1 (enc (eFlt .f32) y0) :: fr)) := by
  unfold spec_SolveLine.wp at h
  refine of_body Try.f51 F.hm Try.func51 rfl Try.call51 (by kernel_rfl) (by simp) ?_
  refine fi_seq ?_
  refine fi_region ?_
  refine so_assign (v := (.v .nilsl)) rfl ?_
  refine so_assign (v := (.v (.bool false))) rfl ?_
  refine so_nil ?_
  refine fi_seq ?_
  refine fi_seq ?_
  refine fi_region ?_
  refine so_move (v := (.v v0)) rfl ?_
  refine sv_callS (spec_l07Line_ok v0 l0 hs (fun _ hs => (g0 _ hs)) _ h) (fun _ _ ⟨_, _, _, e⟩ => e) rfl rfl ?_
  clear h
  rintro _ _ ⟨y101, h, rfl, rfl⟩
  refine so_un rfl au_not ?_
  refine so_move (v := (.v (.bool (!y101)))) rfl ?_
  replace h := ofT h; rcases h with ⟨c103, h⟩ | ⟨c103, h⟩
  · refine so_gyes rfl (not_f c103) ?_
    refine so_move (v := (.v (.flt .f32 a1))) rfl ?_
    refine so_gyes rfl (not_f c103) ?_
    refine sv_callS (spec_l02Above_ok a1 hs  _ h) (fun _ _ ⟨_, _, _, e⟩ => e) rfl rfl ?_
    clear h
    rintro _ _ ⟨y104, h, rfl, rfl⟩
    refine so_gyes rfl (not_f c103) ?_
    refine so_un rfl au_not ?_
    refine so_pick_f (v := (.v (.bool (!y104)))) rfl (not_f c103) rfl ?_
    refine so_nil ?_
    replace h := ofT h; rcases h with ⟨c106, h⟩ | ⟨c106, h⟩
    · refine fi_false rfl (not_f c106) ?_
      refine fi_skip ?_
      refine fi_seq ?_
      refine fi_region ?_
      refine so_move (v := (.v v0)) rfl ?_
      refine so_move (v := (.v (.flt .f32 a1))) rfl ?_
      refine sv_call (spec_l07Solve_ok v0 l0 a1 hs (fun _ hs => (g0 _ hs)) _ h) rfl rfl nofun ?_
      clear h hs
      rintro _ H110 ⟨y107, h, v108, rfl, hs⟩
      refine so_assign (v := (.v v108)) rfl ?_
      refine so_nil ?_
      refine fi_seq ?_
      refine fi_seq ?_
      refine fi_region ?_
      refine so_move (v := (.v v108)) rfl ?_
      refine sv_callS (spec_l02Finite_ok v108 y107 hs (fun _ hs => (hs.shows 0 rfl)) _ h) (fun _ _ ⟨_, _, _, e⟩ => e) rfl rfl ?_
      clear h
      rintro _ _ ⟨y111, h, rfl, rfl⟩
      refine so_un rfl au_not ?_
      refine so_nil ?_
      replace h := ofT h; rcases h with ⟨c113, h⟩ | ⟨c113, h⟩
      · refine fi_false rfl (not_f c113) ?_
        refine fi_skip ?_
        refine fi_seq ?_
        refine fi_region ?_
        refine so_move (v := (.v v108)) rfl ?_
        refine so_assign (v := (.v v108)) rfl ?_
        refine so_assign (v := (.v (.bool true))) rfl ?_
        refine so_nil ?_
        exact by_ret rfl ⟨_, _, h, _, rfl, hs⟩
      · refine fi_true rfl (not_t c113) ?_
        refine fi_seq ?_
        refine fi_region ?_
        refine so_assign (v := (.v .nilsl)) rfl ?_
        refine so_assign (v := (.v (.bool false))) rfl ?_
        refine so_nil ?_
        exact by_ret rfl ⟨_, _, h, _, rfl, (Sep.nil (Sep.del 0 hs) 1)⟩
    · refine fi_true rfl (not_t c106) ?_
      refine fi_seq ?_
      refine fi_region ?_
      refine so_assign (v := (.v .nilsl)) rfl ?_
      refine so_assign (v := (.v (.bool false))) rfl ?_
      refine so_nil ?_
      exact by_ret rfl ⟨_, _, h, _, rfl, (Sep.nil hs 1)⟩
  · refine so_gno rfl (not_t c103) ?_
    refine so_gno rfl (not_t c103) ?_
    refine so_gno rfl (not_t c103) ?_
    refine so_pick_t (v := (.v (.bool true))) rfl (not_t c103) rfl ?_
    refine so_nil ?_
    refine fi_true rfl rfl ?_
    refine fi_seq ?_
    refine fi_region ?_
    refine so_assign (v := (.v .nilsl)) rfl ?_
    refine so_assign (v := (.v (.bool false))) rfl ?_
    refine so_nil ?_
    exact by_ret rfl ⟨_, _, h, _, rfl, (Sep.nil hs 1)⟩

end Go.Proofs.Ytochgocgmeeppaa.G

namespace Go.Proofs.Ytochgocgmeeppaa.G
open Go Go.Ab Go.Proofs Go.Proofs.Ytochgocgmeeppaa
set_option maxRecDepth 100000
set_option linter.unusedVariables false
set_option linter.unusedSimpArgs false
set_option maxHeartbeats 1000000
attribute [local irreducible] wops wopf Go.Ab.Fin
theorem F21.ag25 : tagg Try.prog 25 = some false := by kernel_rfl
theorem F21.sz25 : tsz Try.prog 25 = some 1 := by kernel_rfl
theorem F21.ta31_31 : tapp Try.prog 31 31 = some (1, 24) := by kernel_rfl
theorem F21.te31 : telem Try.prog 31 = some 25 := by kernel_rfl
theorem F21.ti31 : (telem Try.prog 31).isSome = true := by kernel_rfl
theorem F21.tl31 : (telem Try.prog 31).bind (tsz Try.prog) = some 1 := by kernel_rfl
theorem F21.ze25 : tzero Try.prog 25 = some [.nilsl] := by kernel_rfl
variable [Cls Try.prog]
theorem spec_LinesShared_ok {fr : List Pc} {H : Heap} (v0 : AV) (w0 : List (List AV)) (l0 : List (List (Nat))) (a1 : Nat) (a2 : Int) (hs : Sep H (fr)) (g0 : ∀ H, Sep H fr → DSh H v0 1 R_LeFlt_f32_o l0 w0) (K : (List (List (Nat))) → Bool → Prop) (h : spec_LinesShared.wp l0 a1 a2 K) : OkQ Try.prog 21 [(.v v0), (.v (.flt .f32 a1)), (.v (.int .i64 a2))] H (fun r H2 => ∃ (y0 : List (List (Nat))) (y1 : Bool), K y0 y1 ∧ ∃ (w0_ : AV) (wsw0_ : List (List AV)) (Sw0_ : Nat → Prop), r = (.t [(.v w0_), (.v (.bool y1))]) ∧ Sep H2 (dpc w0_ 1 R_LeFlt_f32_o IR_LeFlt_f32_o y0 wsw0_ Sw0_ :: fr)) := by
  unfold spec_LinesShared.wp at h
  refine of_body Try.f21 F.hm Try.func21 rfl Try.call21 (by kernel_rfl) (by simp) ?_
  refine fi_seq ?_
  refine fi_region ?_
  refine so_assign (v := (.v .nilsl)) rfl ?_
  refine so_assign (v := (.v (.bool false))) rfl ?_
  refine so_nil ?_
  refine fi_seq ?_
  refine fi_seq ?_
  refine fi_region ?_
  refine so_move (v := (.v v0)) rfl ?_
  refine sd_len ((g0 _ hs) : DSh _ _ 1 R_LeFlt_f32_o l0 w0) (by decide) rfl F21.ti31 ?_
  refine so_bin rfl rfl ab_gtr ?_
  refine so_move (v := (.v (.bool (decide ((8 : Int) < (l0.length : Int)))))) rfl ?_
  replace h := ofP h; rcases h with ⟨c101, h⟩ | ⟨c101, h⟩
  · refine so_gno rfl (decide_eq_true c101) ?_
    refine so_gno rfl (decide_eq_true c101) ?_
    refine so_gno rfl (decide_eq_true c101) ?_
    refine so_pick_t (v := (.v (.bool true))) rfl (decide_eq_true c101) rfl ?_
    refine so_move (v := (.v (.bool true))) rfl ?_
    refine so_gno rfl rfl ?_
    refine so_gno rfl rfl ?_
    refine so_gno rfl rfl ?_
    refine so_pick_t (v := (.v (.bool true))) rfl rfl rfl ?_
    refine so_nil ?_
    refine fi_true rfl rfl ?_
    refine fi_seq ?_
    refine fi_region ?_
    refine so_assign (v := (.v .nilsl)) rfl ?_
    refine so_assign (v := (.v (.bool false))) rfl ?_
    refine so_nil ?_
    exact by_ret rfl ⟨_, _, h, _, _, _, rfl, (Sep.dnil hs 1 R_LeFlt_f32_o IR_LeFlt_f32_o)⟩
  · refine so_gyes rfl (decide_eq_false c101) ?_
    refine so_move (v := (.v (.flt .f32 a1))) rfl ?_
    refine so_gyes rfl (decide_eq_false c101) ?_
    refine sv_callS (spec_l02Above_ok a1 hs  _ h) (fun _ _ ⟨_, _, _, e⟩ => e) rfl rfl ?_
    clear h
    rintro _ _ ⟨y102, h, rfl, rfl⟩
    refine so_gyes rfl (decide_eq_false c101) ?_
    refine so_un rfl au_not ?_
    refine so_pick_f (v := (.v (.bool (!y102)))) rfl (decide_eq_false c101) rfl ?_
    refine so_move (v := (.v (.bool (!y102)))) rfl ?_
    replace h := ofT h; rcases h with ⟨c104, h⟩ | ⟨c104, h⟩
    · refine so_gyes rfl (not_f c104) ?_
      refine so_move (v := (.v (.int .i64 a2))) rfl ?_
      refine so_gyes rfl (not_f c104) ?_
      refine sv_callS (spec_l00In_ok a2 (1 : Int) (8 : Int) hs  _ h) (fun _ _ ⟨_, _, _, e⟩ => e) rfl rfl ?_
      clear h
      rintro _ _ ⟨y105, h, rfl, rfl⟩
      refine so_gyes rfl (not_f c104) ?_
      refine so_un rfl au_not ?_
      refine so_pick_f (v := (.v (.bool (!y105)))) rfl (not_f c104) rfl ?_
      refine so_nil ?_
      replace h := ofT h; rcases h with ⟨c107, h⟩ | ⟨c107, h⟩
      · refine fi_false rfl (not_f c107) ?_
        refine fi_skip ?_
        refine fi_seq ?_
        refine fi_region ?_
        refine sk_empty hs R_LeFlt_f32_o IR_LeFlt_f32_o F21.te31 F21.sz25 F21.ze25 rfl nofun (fun v108 ws109 S110 H111 _ hs => ?_)
        refine so_assign (v := (.v v108)) rfl ?_
        refine so_nil ?_
        refine fi_seq ?_
        refine fi_seq ?_
        refine fi_region ?_
        refine so_move (v := (.v v0)) rfl ?_
        refine sd_len ((g0 _ hs.tl) : DSh _ _ 1 R_LeFlt_f32_o l0 w0) (by decide) rfl F21.ti31 ?_
        refine so_move (v := (.v (.int .i64 (0 : Int)))) rfl ?_
        refine so_nil ?_
        refine fi_block ?_
        refine fi_loop ?_
        refine fi_at [(0, (.v v0)), (1, (.v (.flt .f32 a1))), (8, (.v v108)), (27, (.v (.int .i64 (l0.length : Int)))), (28, (.v (.int .i64 (0 : Int))))] ⟨rfl, rfl, rfl, rfl, rfl, trivial⟩ ?_
        refine h (fun (out136 : List (List (Nat))) (x140 : Int) => ∀ (s : Nat → TV) (H : Heap) (v137 : AV) (ws138 : List (List AV)) (S139 : Nat → Prop), Sep H (dpc v137 1 R_LeFlt_f32_o IR_LeFlt_f32_o out136 ws138 S139 :: fr) → Fin _ _ (updL s [(0, (.v v0)), (1, (.v (.flt .f32 a1))), (8, (.v v137)), (27, (.v (.int .i64 (l0.length : Int)))), (28, (.v (.int .i64 x140)))]) H _) ?_ _ _ _ _ _ hs
        intro out136 x140 h s157 H158 v137 ws138 S139 hs
        refine fi_inLoop ?_
        refine fi_seq ?_
        refine fi_region ?_
        refine so_bin rfl rfl ab_lss ?_
        refine so_nil ?_
        refine fi_seq ?_
        replace h := ofP h; rcases h with ⟨c141, h⟩ | ⟨c141, h⟩
        · refine fi_true rfl (decide_eq_true c141) ?_
          refine fi_skip ?_
          refine fi_seq ?_
          refine fi_block ?_
          refine fi_seq ?_
          refine fi_region ?_
          refine so_move (v := (.v (.int .i64 x140))) rfl ?_
          refine so_assign (v := (.v (.int .i64 x140))) rfl ?_
          refine so_nil ?_
          refine fi_seq ?_
          refine fi_region ?_
          refine so_move (v := (.v v0)) rfl ?_
          refine so_move (v := (.v (.int .i64 x140))) rfl ?_
          obtain ⟨c142, h⟩ := h
          refine sd_idx ((g0 _ hs.tl) : DSh _ _ 1 R_LeFlt_f32_o l0 w0) c142 ([] : List (Nat)) (by decide) rfl rfl F21.tl31 ?_
          refine su_ld ((((g0 _ hs.tl) : DSh _ _ 1 R_LeFlt_f32_o l0 w0)).at (by decide) c142 ([] : List (Nat))).2.2 0 (congrArg (fun c => c[0]?) ((((g0 _ hs.tl) : DSh _ _ 1 R_LeFlt_f32_o l0 w0)).at (by decide) c142 ([] : List (Nat))).2.1.1) rfl F21.ag25 ?_
          refine so_move (v := (.v (.flt .f32 a1))) rfl ?_
          refine sv_call (spec_SolveLine_ok ((w0.getD (x140).toNat []).getD 0 .und) (l0.getD (x140).toNat ([] : List (Nat))) a1 hs (fun _ hs => ((((g0 _ hs.tl) : DSh _ _ 1 R_LeFlt_f32_o l0 w0)).at (by decide) c142 ([] : List (Nat))).2.1.2) _ h) rfl rfl nofun ?_
          clear h hs
          rintro _ H147 ⟨y143, y146, h, v144, rfl, hs⟩
          refine so_move (v := (.t [(.v v144), (.v (.bool y146))])) rfl ?_
          refine so_extract rfl rfl rfl ?_
          refine so_extract rfl rfl rfl ?_
          refine so_assign (v := (.v v144)) rfl ?_
          refine so_assign (v := (.v (.bool y146))) rfl ?_
          refine so_nil ?_
          refine fi_seq ?_
          refine fi_seq ?_
          refine fi_region ?_
          refine so_move (v := (.v (.bool y146))) rfl ?_
          refine so_un rfl au_not ?_
          refine so_nil ?_
          replace h := ofT h; rcases h with ⟨c148, h⟩ | ⟨c148, h⟩
          · refine fi_false rfl (not_f c148) ?_
            refine fi_skip ?_
            refine fi_region ?_
            refine so_move (v := (.v v137)) rfl ?_
            refine so_move (v := (.v v144)) rfl ?_
            refine sd_bslice hs [[v144]] F21.te31 F21.sz25 F21.ze25 rfl rfl rfl (by simp) (fac (stc (hs.shows 0 rfl).stor stn) fan) (by decide) rfl nofun (fun v149 H150 _ hs => ?_)
            obtain ⟨c152, h⟩ := h
            replace hs := Sep.front 1 hs rfl
            refine sk_app hs 1 rfl y143 [v144] (hs.tl.shows 0 rfl) (fun _ hh => ⟨rfl, hh⟩) rfl rfl (by decide) F21.ta31_31 (by decide) c152 rfl rfl nofun (fun v153 ws154 S155 H156 hs => ?_)
            replace hs := hs.del 0
            refine so_assign (v := (.v v153)) rfl ?_
            refine so_nil ?_
            refine fi_inBlock ?_
            refine fi_region ?_
            refine so_bin rfl rfl ab_add ?_
            refine so_move (v := (.v (.int .i64 (IntKind.i64.wrap (x140 + (1 : Int)))))) rfl ?_
            refine so_nil ?_
            exact fi_at [(0, (.v v0)), (1, (.v (.flt .f32 a1))), (8, (.v v153)), (27, (.v (.int .i64 (l0.length : Int)))), (28, (.v (.int .i64 (IntKind.i64.wrap (x140 + (1 : Int))))))] ⟨rfl, rfl, rfl, rfl, rfl, trivial⟩ (h _ _ _ _ _ hs)
          · refine fi_true rfl (not_t c148) ?_
            refine fi_seq ?_
            refine fi_region ?_
            refine so_assign (v := (.v .nilsl)) rfl ?_
            refine so_assign (v := (.v (.bool false))) rfl ?_
            refine so_nil ?_
            exact by_ret rfl ⟨_, _, h, _, _, _, rfl, (Sep.dnil (Sep.del 0 (Sep.del 0 hs)) 1 R_LeFlt_f32_o IR_LeFlt_f32_o)⟩
        · refine fi_false rfl (decide_eq_false c141) ?_
          refine fi_exit rfl ?_
          refine fi_seq ?_
          refine fi_region ?_
          refine so_move (v := (.v v137)) rfl ?_
          refine so_assign (v := (.v v137)) rfl ?_
          refine so_assign (v := (.v (.bool true))) rfl ?_
          refine so_nil ?_
          exact by_ret rfl ⟨_, _, h, _, _, _, rfl, hs⟩
      · refine fi_true rfl (not_t c107) ?_
        refine fi_seq ?_
        refine fi_region ?_
        refine so_assign (v := (.v .nilsl)) rfl ?_
        refine so_assign (v := (.v (.bool false))) rfl ?_
        refine so_nil ?_
        exact by_ret rfl ⟨_, _, h, _, _, _, rfl, (Sep.dnil hs 1 R_LeFlt_f32_o IR_LeFlt_f32_o)⟩
    · refine so_gno rfl (not_t c104) ?_
      refine so_gno rfl (not_t c104) ?_
      refine so_gno rfl (not_t c104) ?_
      refine so_pick_t (v := (.v (.bool true))) rfl (not_t c104) rfl ?_
      refine so_nil ?_
      refine fi_true rfl rfl ?_
      refine fi_seq ?_
      refine fi_region ?_
      refine so_assign (v := (.v .nilsl)) rfl ?_
      refine so_assign (v := (.v (.bool false))) rfl ?_
      refine so_nil ?_
      exact by_ret rfl ⟨_, _, h, _, _, _, rfl, (Sep.dnil hs 1 R_LeFlt_f32_o IR_LeFlt_f32_o)⟩

end Go.Proofs.Ytochgocgmeeppaa.G

namespace Go.Proofs.Ytochgocgmeeppaa.G
open Go Go.Ab Go.Proofs Go.Proofs.Ytochgocgmeeppaa
set_option maxRecDepth 100000
set_option linter.unusedVariables false
set_option linter.unusedSimpArgs false
set_option maxHeartbeats 1000000
attribute [local irreducible] wops wopf Go.Ab.Fin
theorem F52.ag30 : tagg Try.prog 30 = some false := by kernel_rfl
theorem F52.by30 : tbytes Try.prog 30 = some 4 := by kernel_rfl
theorem F52.sz30 : tsz Try.prog 30 = some 1 := by kernel_rfl
theorem F52.te25 : telem Try.prog 25 = some 30 := by kernel_rfl
theorem F52.ti25 : (telem Try.prog 25).isSome = true := by kernel_rfl
theorem F52.tl25 : (telem Try.prog 25).bind (tsz Try.prog) = some 1 := by kernel_rfl
theorem F52.ze30 : tzero Try.prog 30 = some [(.flt .f32 (0 : Nat))] := by kernel_rfl
variable [Cls Try.prog]
theorem laws_toFloat32S_ok {fr : List Pc} {H : Heap} (v0 : AV) (l0 : List (Nat)) (hs : Sep H (fr)) (g0 : ∀ H, Sep H fr → Shows H v0 1 (enc (eFlt .f32) l0)) (K : (List (Nat)) → Prop) (h : laws_toFloat32S.wp l0 K) : OkQ Try.prog 52 [(.v v0)] H (fun r H2 => ∃ (y0 : List (Nat)), K y0 ∧ ∃ (w0_ : AV), r = (.v w0_) ∧ Sep H2 (Pc.osl w0_ 1 (enc (eFlt .f32) y0) :: fr)) := by
  unfold laws_toFloat32S.wp at h
  refine of_body Try.f52 F.hm Try.func52 rfl Try.call52 (by kernel_rfl) (by simp) ?_
  refine fi_seq ?_
  refine fi_region ?_
  refine so_assign (v := (.v .nilsl)) rfl ?_
  refine so_nil ?_
  refine fi_seq ?_
  refine fi_region ?_
  refine so_move (v := (.v v0)) rfl ?_
  refine sv_len (g0 _ hs) (fun _ => rfl) (by decide) rfl F52.ti25 ?_
  obtain ⟨c101, h⟩ := h
  refine sv_make hs (eFlt .f32) (0 : Nat) c101 (fun _ => rfl) rfl rfl F52.te25 F52.sz30 F52.by30 F52.ze30 rfl rfl nofun (fun v102 H103 nv102 hs => ?_)
  refine so_assign (v := (.v v102)) rfl ?_
  refine so_nil ?_
  refine fi_seq ?_
  refine fi_seq ?_
  refine fi_region ?_
  refine so_assign (v := (.v (.int .i64 (0 : Int)))) rfl ?_
  refine so_nil ?_
  refine fi_block ?_
  refine fi_loop ?_
  refine fi_at [(0, (.v v0)), (3, (.v v102)), (4, (.v (.int .i64 (0 : Int))))] ⟨rfl, rfl, rfl, trivial⟩ ?_
  refine h (fun (out112 : List (Nat)) (i113 : Int) => ∀ (s : Nat → TV) (H : Heap), Sep H (Pc.osl v102 1 (enc (eFlt .f32) out112) :: fr) → Fin _ _ (updL s [(0, (.v v0)), (3, (.v v102)), (4, (.v (.int .i64 i113)))]) H _) ?_ _ _ hs
  intro out112 i113 h s118 H119 hs
  refine fi_inLoop ?_
  refine fi_seq ?_
  refine fi_seq ?_
  refine fi_region ?_
  refine so_move (v := (.v (.int .i64 i113))) rfl ?_
  refine so_move (v := (.v v0)) rfl ?_
  refine sv_len (g0 _ hs.tl) (fun _ => rfl) (by decide) rfl F52.ti25 ?_
  refine so_bin rfl rfl ab_lss ?_
  refine so_nil ?_
  replace h := ofP h; rcases h with ⟨c114, h⟩ | ⟨c114, h⟩
  · refine fi_true rfl (decide_eq_true c114) ?_
    refine fi_skip ?_
    refine fi_seq ?_
    refine fi_block ?_
    refine fi_region ?_
    refine so_move (v := (.v v102)) rfl ?_
    refine so_move (v := (.v (.int .i64 i113))) rfl ?_
    refine so_move (v := (.v v0)) rfl ?_
    refine so_move (v := (.v (.int .i64 i113))) rfl ?_
    obtain ⟨c115, h⟩ := h
    refine sv_idx (g0 _ hs.tl) c115 (fun _ => rfl) (by decide) rfl rfl F52.tl25 ?_
    refine sv_cell (g0 _ hs.tl) c115 (0 : Nat) 0 (fun x => (AV.flt .f32 x)) (fun _ => rfl) (fun _ => rfl) rfl F52.ag30 ?_
    obtain ⟨c116, h⟩ := h
    refine sv_idx (hs.shows 0 rfl) c116 (fun _ => rfl) (by decide) rfl rfl F52.tl25 ?_
    refine sv_set hs 0 rfl c116 (l0.getD (i113).toNat (0 : Nat)) (fun _ => rfl) (by decide) rfl rfl rfl rfl F52.sz30 nofun (fun H117 hs => ?_)
    refine so_nil ?_
    refine fi_inBlock ?_
    refine fi_region ?_
    refine so_move (v := (.v (.int .i64 i113))) rfl ?_
    refine so_bin rfl rfl ab_add ?_
    refine so_assign (v := (.v (.int .i64 (IntKind.i64.wrap (i113 + (1 : Int)))))) rfl ?_
    refine so_nil ?_
    exact fi_at [(0, (.v v0)), (3, (.v v102)), (4, (.v (.int .i64 (IntKind.i64.wrap (i113 + (1 : Int))))))] ⟨rfl, rfl, rfl, trivial⟩ (h _ _  hs)
  · refine fi_false rfl (decide_eq_false c114) ?_
    refine fi_exit rfl ?_
    refine fi_seq ?_
    refine fi_region ?_
    refine so_move (v := (.v v102)) rfl ?_
    refine so_assign (v := (.v v102)) rfl ?_
    refine so_nil ?_
    exact by_ret rfl ⟨_, h, _, rfl, hs⟩

end Go.Proofs.Ytochgocgmeeppaa.G

namespace Go.Proofs.Ytochgocgmeeppaa.G
open Go Go.Ab Go.Proofs Go.Proofs.Ytochgocgmeeppaa
set_option maxRecDepth 100000
set_option linter.unusedVariables false
set_option linter.unusedSimpArgs false
set_option maxHeartbeats 1000000
attribute [local irreducible] wops wopf Go.Ab.Fin
theorem F22.ag25 : tagg Try.prog 25 = some false := by kernel_rfl
theorem F22.by25 : tbytes Try.prog 25 = some 24 := by kernel_rfl
theorem F22.sz25 : tsz Try.prog 25 = some 1 := by kernel_rfl
theorem F22.te31 : telem Try.prog 31 = some 25 := by kernel_rfl
theorem F22.ti31 : (telem Try.prog 31).isSome = true := by kernel_rfl
theorem F22.tl31 : (telem Try.prog 31).bind (tsz Try.prog) = some 1 := by kernel_rfl
theorem F22.ze25 : tzero Try.prog 25 = some [.nilsl] := by kernel_rfl
variable [Cls Try.prog]
theorem laws_toFloat32SS_ok {fr : List Pc} {H : Heap} (v0 : AV) (w0 : List (List AV)) (l0 : List (List (Nat))) (hs : Sep H (fr)) (g0 : ∀ H, Sep H fr → DSh H v0 1 R_LeFlt_f32_o l0 w0) (K : (List (List (Nat))) → Prop) (h : laws_toFloat32SS.wp l0 K) : OkQ Try.prog 22 [(.v v0)] H (fun r H2 => ∃ (y0 : List (List (Nat))), K y0 ∧ ∃ (w0_ : AV) (wsw0_ : List (List AV)) (Sw0_ : Nat → Prop), r = (.v w0_) ∧ Sep H2 (dpc w0_ 1 R_LeFlt_f32_o IR_LeFlt_f32_o y0 wsw0_ Sw0_ :: fr)) := by
  unfold laws_toFloat32SS.wp at h
  refine of_body Try.f22 F.hm Try.func22 rfl Try.call22 (by kernel_rfl) (by simp) ?_
  refine fi_seq ?_
  refine fi_region ?_
  refine so_assign (v := (.v .nilsl)) rfl ?_
  refine so_nil ?_
  refine fi_seq ?_
  refine fi_region ?_
  refine so_move (v := (.v v0)) rfl ?_
  refine sd_len ((g0 _ hs) : DSh _ _ 1 R_LeFlt_f32_o l0 w0) (by decide) rfl F22.ti31 ?_
  obtain ⟨c101, h⟩ := h
  refine sk_make hs ([] : List (Nat)) [.nilsl] R_LeFlt_f32_o IR_LeFlt_f32_o c101 (fun _ => ⟨rfl, .inl ⟨rfl, rfl⟩⟩) ⟨_, rfl⟩ rfl rfl F22.te31 F22.sz25 F22.by25 F22.ze25 rfl rfl nofun (fun v102 ws104 S105 H103 _ hs => ?_)
  refine so_assign (v := (.v v102)) rfl ?_
  refine so_nil ?_
  refine fi_seq ?_
  refine fi_seq ?_
  refine fi_region ?_
  refine so_assign (v := (.v (.int .i64 (0 : Int)))) rfl ?_
  refine so_nil ?_
  refine fi_block ?_
  refine fi_loop ?_
  refine fi_at [(0, (.v v0)), (3, (.v v102)), (4, (.v (.int .i64 (0 : Int))))] ⟨rfl, rfl, rfl, trivial⟩ ?_
  refine h (fun (out120 : List (List (Nat))) (i123 : Int) => ∀ (s : Nat → TV) (H : Heap) (ws121 : List (List AV)) (S122 : Nat → Prop), Sep H (dpc v102 1 R_LeFlt_f32_o IR_LeFlt_f32_o out120 ws121 S122 :: fr) → Fin _ _ (updL s [(0, (.v v0)), (3, (.v v102)), (4, (.v (.int .i64 i123)))]) H _) ?_ _ _ _ _ hs
  intro out120 i123 h s134 H135 ws121 S122 hs
  refine fi_inLoop ?_
  refine fi_seq ?_
  refine fi_seq ?_
  refine fi_region ?_
  refine so_move (v := (.v (.int .i64 i123))) rfl ?_
  refine so_move (v := (.v v0)) rfl ?_
  refine sd_len ((g0 _ hs.tl) : DSh _ _ 1 R_LeFlt_f32_o l0 w0) (by decide) rfl F22.ti31 ?_
  refine so_bin rfl rfl ab_lss ?_
  refine so_nil ?_
  replace h := ofP h; rcases h with ⟨c124, h⟩ | ⟨c124, h⟩
  · refine fi_true rfl (decide_eq_true c124) ?_
    refine fi_skip ?_
    refine fi_seq ?_
    refine fi_block ?_
    refine fi_region ?_
    refine so_move (v := (.v v102)) rfl ?_
    refine so_move (v := (.v (.int .i64 i123))) rfl ?_
    refine so_move (v := (.v v0)) rfl ?_
    refine so_move (v := (.v (.int .i64 i123))) rfl ?_
    obtain ⟨c125, h⟩ := h
    refine sd_idx ((g0 _ hs.tl) : DSh _ _ 1 R_LeFlt_f32_o l0 w0) c125 ([] : List (Nat)) (by decide) rfl rfl F22.tl31 ?_
    refine su_ld ((((g0 _ hs.tl) : DSh _ _ 1 R_LeFlt_f32_o l0 w0)).at (by decide) c125 ([] : List (Nat))).2.2 0 (congrArg (fun c => c[0]?) ((((g0 _ hs.tl) : DSh _ _ 1 R_LeFlt_f32_o l0 w0)).at (by decide) c125 ([] : List (Nat))).2.1.1) rfl F22.ag25 ?_
    refine sv_call (laws_toFloat32S_ok ((w0.getD (i123).toNat []).getD 0 .und) (l0.getD (i123).toNat ([] : List (Nat))) hs (fun _ hs => ((((g0 _ hs.tl) : DSh _ _ 1 R_LeFlt_f32_o l0 w0)).at (by decide) c125 ([] : List (Nat))).2.1.2) _ h) rfl rfl nofun ?_
    clear h hs
    rintro _ H129 ⟨y126, h, v127, rfl, hs⟩
    obtain ⟨c130, h⟩ := h
    refine sd_idx ((hs.dshows 1 rfl) : DSh _ _ 1 R_LeFlt_f32_o out120 ws121) c130 ([] : List (Nat)) (by decide) rfl rfl F22.tl31 ?_
    have so_ : ([v127] : List AV).all AV.stor = true := (stc (hs.shows 0 rfl).stor stn)
    refine sk_set hs 0 rfl c130 y126 [v127] (fun _ hh => ⟨rfl, hh⟩) rfl rfl (by decide) so_ rfl rfl rfl F22.sz25 nofun (fun ws132 S133 H131 hs => ?_)
    refine so_nil ?_
    refine fi_inBlock ?_
    refine fi_region ?_
    refine so_move (v := (.v (.int .i64 i123))) rfl ?_
    refine so_bin rfl rfl ab_add ?_
    refine so_assign (v := (.v (.int .i64 (IntKind.i64.wrap (i123 + (1 : Int)))))) rfl ?_
    refine so_nil ?_
    exact fi_at [(0, (.v v0)), (3, (.v v102)), (4, (.v (.int .i64 (IntKind.i64.wrap (i123 + (1 : Int))))))] ⟨rfl, rfl, rfl, trivial⟩ (h _ _ _ _ hs)
  · refine fi_false rfl (decide_eq_false c124) ?_
    refine fi_exit rfl ?_
    refine fi_seq ?_
    refine fi_region ?_
    refine so_move (v := (.v v102)) rfl ?_
    refine so_assign (v := (.v v102)) rfl ?_
    refine so_nil ?_
    exact by_ret rfl ⟨_, h, _, _, _, rfl, hs⟩

end Go.Proofs.Ytochgocgmeeppaa.G

namespace Go.Proofs.Ytochgocgmeeppaa.G
open Go Go.Ab Go.Proofs Go.Proofs.Ytochgocgmeeppaa
set_option maxRecDepth 100000
set_option linter.unusedVariables false
set_option linter.unusedSimpArgs false
set_option maxHeartbeats 1000000
attribute [local irreducible] wops wopf Go.Ab.Fin
theorem F81.tb4 : tbool Try.prog 4 = true := by kernel_rfl
variable [Cls Try.prog]
theorem laws_sameFloat_ok {fr : List Pc} {H : Heap} (a0 : Nat) (a1 : Nat) (hs : Sep H (fr))  (K : Bool → Prop) (h : laws_sameFloat.wp a0 a1 K) : OkQ Try.prog 81 [(.v (.flt .f64 a0)), (.v (.flt .f64 a1))] H (fun r H2 => ∃ (y0 : Bool), K y0 ∧ r = (.v (.bool y0)) ∧ H = H2) := by
  unfold laws_sameFloat.wp at h
  refine of_body Try.f81 F.hm Try.func81 rfl Try.call81 (by kernel_rfl) (by simp) ?_
  refine fi_seq ?_
  refine fi_region ?_
  refine so_assign (v := (.v (.bool false))) rfl ?_
  refine so_nil ?_
  refine fi_seq ?_
  refine fi_seq ?_
  refine fi_region ?_
  refine so_move (v := (.v (.flt .f64 a0))) rfl ?_
  refine so_move (v := (.v (.flt .f64 a0))) rfl ?_
  refine so_bin rfl rfl ab_fneq ?_
  refine so_move (v := (.v (.bool (fcmp .neq .f64 a0 a0)))) rfl ?_
  replace h := ofT h; rcases h with ⟨c101, h⟩ | ⟨c101, h⟩
  · refine so_gno rfl c101 ?_
    refine so_gno rfl c101 ?_
    refine so_gno rfl c101 ?_
    refine so_pick_t (v := (.v (.bool true))) rfl c101 rfl ?_
    refine so_nil ?_
    refine fi_true rfl rfl ?_
    refine fi_seq ?_
    refine fi_region ?_
    refine so_move (v := (.v (.flt .f64 a0))) rfl ?_
    refine so_move (v := (.v (.flt .f64 a0))) rfl ?_
    refine so_bin rfl rfl ab_fneq ?_
    refine so_move (v := (.v (.bool (fcmp .neq .f64 a0 a0)))) rfl ?_
    refine so_gyes rfl c101 ?_
    refine so_move (v := (.v (.flt .f64 a1))) rfl ?_
    refine so_gyes rfl c101 ?_
    refine so_move (v := (.v (.flt .f64 a1))) rfl ?_
    refine so_gyes rfl c101 ?_
    refine so_bin rfl rfl ab_fneq ?_
    refine so_pick_t (v := (.v (.bool (fcmp .neq .f64 a1 a1)))) rfl c101 rfl ?_
    refine so_assign (v := (.v (.bool (fcmp .neq .f64 a1 a1)))) rfl ?_
    refine so_nil ?_
    exact by_ret rfl ⟨_, h, rfl, rfl⟩
  · refine so_gyes rfl c101 ?_
    refine so_move (v := (.v (.flt .f64 a1))) rfl ?_
    refine so_gyes rfl c101 ?_
    refine so_move (v := (.v (.flt .f64 a1))) rfl ?_
    refine so_gyes rfl c101 ?_
    refine so_bin rfl rfl ab_fneq ?_
    refine so_pick_f (v := (.v (.bool (fcmp .neq .f64 a1 a1)))) rfl c101 rfl ?_
    refine so_nil ?_
    replace h := ofT h; rcases h with ⟨c102, h⟩ | ⟨c102, h⟩
    · refine fi_true rfl c102 ?_
      refine fi_seq ?_
      refine fi_region ?_
      refine so_move (v := (.v (.flt .f64 a0))) rfl ?_
      refine so_move (v := (.v (.flt .f64 a0))) rfl ?_
      refine so_bin rfl rfl ab_fneq ?_
      refine so_move (v := (.v (.bool (fcmp .neq .f64 a0 a0)))) rfl ?_
      refine so_gno rfl c101 ?_
      refine so_gno rfl c101 ?_
      refine so_gno rfl c101 ?_
      refine so_pick_f (v := (.v (.bool false))) rfl c101 rfl ?_
      refine so_assign (v := (.v (.bool false))) rfl ?_
      refine so_nil ?_
      exact by_ret rfl ⟨_, h, rfl, rfl⟩
    · refine fi_false rfl c102 ?_
      refine fi_skip ?_
      refine fi_seq ?_
      refine fi_seq ?_
      refine fi_region ?_
      refine so_move (v := (.v (.flt .f64 a0))) rfl ?_
      refine so_bin rfl rfl ab_feql ?_
      refine so_move (v := (.v (.bool (fcmp .eql .f64 a0 (cz .f64 0))))) rfl ?_
      replace h := ofT h; rcases h with ⟨c103, h⟩ | ⟨c103, h⟩
      · refine so_gyes rfl c103 ?_
        refine so_move (v := (.v (.flt .f64 a1))) rfl ?_
        refine so_gyes rfl c103 ?_
        refine so_bin rfl rfl ab_feql ?_
        refine so_pick_t (v := (.v (.bool (fcmp .eql .f64 a1 (cz .f64 0))))) rfl c103 rfl ?_
        refine so_nil ?_
        replace h := ofT h; rcases h with ⟨c104, h⟩ | ⟨c104, h⟩
        · refine fi_true rfl c104 ?_
          refine fi_seq ?_
          refine fi_region ?_
          refine so_move (v := (.v (.flt .f64 a0))) rfl ?_
          refine so_bin rfl rfl ab_fquo ?_
          refine so_bin rfl rfl ab_fgtr ?_
          refine so_move (v := (.v (.flt .f64 a1))) rfl ?_
          refine so_bin rfl rfl ab_fquo ?_
          refine so_bin rfl rfl ab_fgtr ?_
          refine so_bin rfl rfl (ab_beql F81.tb4) ?_
          refine so_assign (v := (.v (.bool ((fcmp .gtr .f64 (fop .quo .f64 (cz .f64 4607182418800017408) a0) (cz .f64 0)) == (fcmp .gtr .f64 (fop .quo .f64 (cz .f64 4607182418800017408) a1) (cz .f64 0)))))) rfl ?_
          refine so_nil ?_
          exact by_ret rfl ⟨_, h, rfl, rfl⟩
        · refine fi_false rfl c104 ?_
          refine fi_skip ?_
          refine fi_seq ?_
          refine fi_region ?_
          refine so_move (v := (.v (.flt .f64 a0))) rfl ?_
          refine so_move (v := (.v (.flt .f64 a1))) rfl ?_
          refine so_bin rfl rfl ab_feql ?_
          refine so_assign (v := (.v (.bool (fcmp .eql .f64 a0 a1)))) rfl ?_
          refine so_nil ?_
          exact by_ret rfl ⟨_, h, rfl, rfl⟩
      · refine so_gno rfl c103 ?_
        refine so_gno rfl c103 ?_
        refine so_pick_f (v := (.v (.bool false))) rfl c103 rfl ?_
        refine so_nil ?_
        refine fi_false rfl rfl ?_
        refine fi_skip ?_
        refine fi_seq ?_
        refine fi_region ?_
        refine so_move (v := (.v (.flt .f64 a0))) rfl ?_
        refine so_move (v := (.v (.flt .f64 a1))) rfl ?_
        refine so_bin rfl rfl ab_feql ?_
        refine so_assign (v := (.v (.bool (fcmp .eql .f64 a0 a1)))) rfl ?_
        refine so_nil ?_
        exact by_ret rfl ⟨_, h, rfl, rfl⟩

end Go.Proofs.Ytochgocgmeeppaa.G

namespace Go.Proofs.Ytochgocgmeeppaa.G
open Go Go.Ab Go.Proofs Go.Proofs.Ytochgocgmeeppaa
set_option maxRecDepth 100000
set_option linter.unusedVariables false
set_option linter.unusedSimpArgs false
set_option maxHeartbeats 1000000
attribute [local irreducible] wops wopf Go.Ab.Fin
theorem F53.ag30 : tagg Try.prog 30 = some false := by kernel_rfl
theorem F53.fl37 : tflt Try.prog 37 = some .f64 := by kernel_rfl
theorem F53.in37 : tint Try.prog 37 = none := by kernel_rfl
theorem F53.ti25 : (telem Try.prog 25).isSome = true := by kernel_rfl
theorem F53.tl25 : (telem Try.prog 25).bind (tsz Try.prog) = some 1 := by kernel_rfl
theorem F53.us30 : (Try.prog.underlying 30).isSome = true := by kernel_rfl
variable [Cls Try.prog]
theorem laws_eqFloat32S_ok {fr : List Pc} {H : Heap} (v0 : AV) (l0 : List (Nat)) (v1 : AV) (l1 : List (Nat)) (hs : Sep H (fr)) (g0 : ∀ H, Sep H fr → Shows H v0 1 (enc (eFlt .f32) l0)) (g1 : ∀ H, Sep H fr → Shows H v1 1 (enc (eFlt .f32) l1)) (K : Bool → Prop) (h : laws_eqFloat32S.wp l0 l1 K) : OkQ Try.prog 53 [(.v v0), (.v v1)] H (fun r H2 => ∃ (y0 : Bool), K y0 ∧ r = (.v (.bool y0)) ∧ H = H2) := by
  unfold laws_eqFloat32S.wp at h
  refine of_body Try.f53 F.hm Try.func53 rfl Try.call53 (by kernel_rfl) (by simp) ?_
  refine fi_seq ?_
  refine fi_region ?_
  refine so_assign (v := (.v (.bool false))) rfl ?_
  refine so_nil ?_
  refine fi_seq ?_
  refine fi_seq ?_
  refine fi_region ?_
  refine so_move (v := (.v v0)) rfl ?_
  refine sv_len (g0 _ hs) (fun _ => rfl) (by decide) rfl F53.ti25 ?_
  refine so_move (v := (.v v1)) rfl ?_
  refine sv_len (g1 _ hs) (fun _ => rfl) (by decide) rfl F53.ti25 ?_
  refine so_bin rfl rfl ab_neq ?_
  refine so_nil ?_
  replace h := ofP h; rcases h with ⟨c101, h⟩ | ⟨c101, h⟩
  · refine fi_false rfl (not_f (decide_eq_true c101)) ?_
    refine fi_skip ?_
    refine fi_seq ?_
    refine fi_seq ?_
    refine fi_region ?_
    refine so_assign (v := (.v (.int .i64 (0 : Int)))) rfl ?_
    refine so_nil ?_
    refine fi_block ?_
    refine fi_loop ?_
    refine fi_at [(0, (.v v0)), (1, (.v v1)), (5, (.v (.int .i64 (0 : Int))))] ⟨rfl, rfl, rfl, trivial⟩ ?_
    refine h (fun (i103 : Int) => ∀ (s : Nat → TV), Fin _ _ (updL s [(0, (.v v0)), (1, (.v v1)), (5, (.v (.int .i64 i103)))]) _ _) ?_ _
    intro i103 h s110
    refine fi_inLoop ?_
    refine fi_seq ?_
    refine fi_seq ?_
    refine fi_region ?_
    refine so_move (v := (.v (.int .i64 i103))) rfl ?_
    refine so_move (v := (.v v0)) rfl ?_
    refine sv_len (g0 _ hs) (fun _ => rfl) (by decide) rfl F53.ti25 ?_
    refine so_bin rfl rfl ab_lss ?_
    refine so_nil ?_
    replace h := ofP h; rcases h with ⟨c104, h⟩ | ⟨c104, h⟩
    · refine fi_true rfl (decide_eq_true c104) ?_
      refine fi_skip ?_
      refine fi_seq ?_
      refine fi_block ?_
      refine fi_seq ?_
      refine fi_region ?_
      refine so_move (v := (.v v0)) rfl ?_
      refine so_move (v := (.v (.int .i64 i103))) rfl ?_
      obtain ⟨c105, h⟩ := h
      refine sv_idx (g0 _ hs) c105 (fun _ => rfl) (by decide) rfl rfl F53.tl25 ?_
      refine sv_cell (g0 _ hs) c105 (0 : Nat) 0 (fun x => (AV.flt .f32 x)) (fun _ => rfl) (fun _ => rfl) rfl F53.ag30 ?_
      refine sv_ffw rfl F53.us30 F53.in37 F53.fl37 ?_
      refine so_move (v := (.v v1)) rfl ?_
      refine so_move (v := (.v (.int .i64 i103))) rfl ?_
      obtain ⟨c106, h⟩ := h
      refine sv_idx (g1 _ hs) c106 (fun _ => rfl) (by decide) rfl rfl F53.tl25 ?_
      refine sv_cell (g1 _ hs) c106 (0 : Nat) 0 (fun x => (AV.flt .f32 x)) (fun _ => rfl) (fun _ => rfl) rfl F53.ag30 ?_
      refine sv_ffw rfl F53.us30 F53.in37 F53.fl37 ?_
      refine sv_callS (laws_sameFloat_ok (widen (l0.getD (i103).toNat (0 : Nat))) (widen (l1.getD (i103).toNat (0 : Nat))) hs  _ h) (fun _ _ ⟨_, _, _, e⟩ => e) rfl rfl ?_
      clear h
      rintro _ _ ⟨y107, h, rfl, rfl⟩
      refine so_un rfl au_not ?_
      refine so_nil ?_
      replace h := ofT h; rcases h with ⟨c109, h⟩ | ⟨c109, h⟩
      · refine fi_false rfl (not_f c109) ?_
        refine fi_skip ?_
        refine fi_inBlock ?_
        refine fi_region ?_
        refine so_move (v := (.v (.int .i64 i103))) rfl ?_
        refine so_bin rfl rfl ab_add ?_
        refine so_assign (v := (.v (.int .i64 (IntKind.i64.wrap (i103 + (1 : Int)))))) rfl ?_
        refine so_nil ?_
        exact fi_at [(0, (.v v0)), (1, (.v v1)), (5, (.v (.int .i64 (IntKind.i64.wrap (i103 + (1 : Int))))))] ⟨rfl, rfl, rfl, trivial⟩ (h _)
      · refine fi_true rfl (not_t c109) ?_
        refine fi_seq ?_
        refine fi_region ?_
        refine so_assign (v := (.v (.bool false))) rfl ?_
        refine so_nil ?_
        exact by_ret rfl ⟨_, h, rfl, rfl⟩
    · refine fi_false rfl (decide_eq_false c104) ?_
      refine fi_exit rfl ?_
      refine fi_seq ?_
      refine fi_region ?_
      refine so_assign (v := (.v (.bool true))) rfl ?_
      refine so_nil ?_
      exact by_ret rfl ⟨_, h, rfl, rfl⟩
  · refine fi_true rfl (not_t (decide_eq_false c101)) ?_
    refine fi_seq ?_
    refine fi_region ?_
    refine so_assign (v := (.v (.bool false))) rfl ?_
    refine so_nil ?_
    exact by_ret rfl ⟨_, h, rfl, rfl⟩

end Go.Proofs.Ytochgocgmeeppaa.G

namespace Go.Proofs.Ytochgocgmeeppaa.G
open Go Go.Ab Go.Proofs Go.Proofs.Ytochgocgmeeppaa
set_option maxRecDepth 100000
set_option linter.unusedVariables false
set_option linter.unusedSimpArgs false
set_option maxHeartbeats 1000000
attribute [local irreducible] wops wopf Go.Ab.Fin
theorem F23.ag25 : tagg Try.prog 25 = some false := by kernel_rfl
theorem F23.ti31 : (telem Try.prog 31).isSome = true := by kernel_rfl
theorem F23.tl31 : (telem Try.prog 31).bind (tsz Try.prog) = some 1 := by kernel_rfl
variable [Cls Try.prog]
theorem laws_eqFloat32SS_ok {fr : List Pc} {H : Heap} (v0 : AV) (w0 : List (List AV)) (l0 : List (List (Nat))) (v1 : AV) (w1 : List (List AV)) (l1 : List (List (Nat))) (hs : Sep H (fr)) (g0 : ∀ H, Sep H fr → DSh H v0 1 R_LeFlt_f32_o l0 w0) (g1 : ∀ H, Sep H fr → DSh H v1 1 R_LeFlt_f32_o l1 w1) (K : Bool → Prop) (h : laws_eqFloat32SS.wp l0 l1 K) : OkQ Try.prog 23 [(.v v0), (.v v1)] H (fun r H2 => ∃ (y0 : Bool), K y0 ∧ r = (.v (.bool y0)) ∧ H = H2) := by
  unfold laws_eqFloat32SS.wp at h
  refine of_body Try.f23 F.hm Try.func23 rfl Try.call23 (by kernel_rfl) (by simp) ?_
  refine fi_seq ?_
  refine fi_region ?_
  refine so_assign (v := (.v (.bool false))) rfl ?_
  refine so_nil ?_
  refine fi_seq ?_
  refine fi_seq ?_
  refine fi_region ?_
  refine so_move (v := (.v v0)) rfl ?_
  refine sd_len ((g0 _ hs) : DSh _ _ 1 R_LeFlt_f32_o l0 w0) (by decide) rfl F23.ti31 ?_
  refine so_move (v := (.v v1)) rfl ?_
  refine sd_len ((g1 _ hs) : DSh _ _ 1 R_LeFlt_f32_o l1 w1) (by decide) rfl F23.ti31 ?_
  refine so_bin rfl rfl ab_neq ?_
  refine so_nil ?_
  replace h := ofP h; rcases h with ⟨c101, h⟩ | ⟨c101, h⟩
  · refine fi_false rfl (not_f (decide_eq_true c101)) ?_
    refine fi_skip ?_
    refine fi_seq ?_
    refine fi_seq ?_
    refine fi_region ?_
    refine so_assign (v := (.v (.int .i64 (0 : Int)))) rfl ?_
    refine so_nil ?_
    refine fi_block ?_
    refine fi_loop ?_
    refine fi_at [(0, (.v v0)), (1, (.v v1)), (5, (.v (.int .i64 (0 : Int))))] ⟨rfl, rfl, rfl, trivial⟩ ?_
    refine h (fun (i103 : Int) => ∀ (s : Nat → TV), Fin _ _ (updL s [(0, (.v v0)), (1, (.v v1)), (5, (.v (.int .i64 i103)))]) _ _) ?_ _
    intro i103 h s110
    refine fi_inLoop ?_
    refine fi_seq ?_
    refine fi_seq ?_
    refine fi_region ?_
    refine so_move (v := (.v (.int .i64 i103))) rfl ?_
    refine so_move (v := (.v v0)) rfl ?_
    refine sd_len ((g0 _ hs) : DSh _ _ 1 R_LeFlt_f32_o l0 w0) (by decide) rfl F23.ti31 ?_
    refine so_bin rfl rfl ab_lss ?_
    refine so_nil ?_
    replace h := ofP h; rcases h with ⟨c104, h⟩ | ⟨c104, h⟩
    · refine fi_true rfl (decide_eq_true c104) ?_
      refine fi_skip ?_
      refine fi_seq ?_
      refine fi_block ?_
      refine fi_seq ?_
      refine fi_region ?_
      refine so_move (v := (.v v0)) rfl ?_
      refine so_move (v := (.v (.int .i64 i103))) rfl ?_
      obtain ⟨c105, h⟩ := h
      refine sd_idx ((g0 _ hs) : DSh _ _ 1 R_LeFlt_f32_o l0 w0) c105 ([] : List (Nat)) (by decide) rfl rfl F23.tl31 ?_
      refine su_ld ((((g0 _ hs) : DSh _ _ 1 R_LeFlt_f32_o l0 w0)).at (by decide) c105 ([] : List (Nat))).2.2 0 (congrArg (fun c => c[0]?) ((((g0 _ hs) : DSh _ _ 1 R_LeFlt_f32_o l0 w0)).at (by decide) c105 ([] : List (Nat))).2.1.1) rfl F23.ag25 ?_
      refine so_move (v := (.v v1)) rfl ?_
      refine so_move (v := (.v (.int .i64 i103))) rfl ?_
      obtain ⟨c106, h⟩ := h
      refine sd_idx ((g1 _ hs) : DSh _ _ 1 R_LeFlt_f32_o l1 w1) c106 ([] : List (Nat)) (by decide) rfl rfl F23.tl31 ?_
      refine su_ld ((((g1 _ hs) : DSh _ _ 1 R_LeFlt_f32_o l1 w1)).at (by decide) c106 ([] : List (Nat))).2.2 0 (congrArg (fun c => c[0]?) ((((g1 _ hs) : DSh _ _ 1 R_LeFlt_f32_o l1 w1)).at (by decide) c106 ([] : List (Nat))).2.1.1) rfl F23.ag25 ?_
      refine sv_callS (laws_eqFloat32S_ok ((w0.getD (i103).toNat []).getD 0 .und) (l0.getD (i103).toNat ([] : List (Nat))) ((w1.getD (i103).toNat []).getD 0 .und) (l1.getD (i103).toNat ([] : List (Nat))) hs (fun _ hs => ((((g0 _ hs) : DSh _ _ 1 R_LeFlt_f32_o l0 w0)).at (by decide) c105 ([] : List (Nat))).2.1.2) (fun _ hs => ((((g1 _ hs) : DSh _ _ 1 R_LeFlt_f32_o l1 w1)).at (by decide) c106 ([] : List (Nat))).2.1.2) _ h) (fun _ _ ⟨_, _, _, e⟩ => e) rfl rfl ?_
      clear h
      rintro _ _ ⟨y107, h, rfl, rfl⟩
      refine so_un rfl au_not ?_
      refine so_nil ?_
      replace h := ofT h; rcases h with ⟨c109, h⟩ | ⟨c109, h⟩
      · refine fi_false rfl (not_f c109) ?_
        refine fi_skip ?_
        refine fi_inBlock ?_
        refine fi_region ?_
        refine so_move (v := (.v (.int .i64 i103))) rfl ?_
        refine so_bin rfl rfl ab_add ?_
        refine so_assign (v := (.v (.int .i64 (IntKind.i64.wrap (i103 + (1 : Int)))))) rfl ?_
        refine so_nil ?_
        exact fi_at [(0, (.v v0)), (1, (.v v1)), (5, (.v (.int .i64 (IntKind.i64.wrap (i103 + (1 : Int))))))] ⟨rfl, rfl, rfl, trivial⟩ (h _)
      · refine fi_true rfl (not_t c109) ?_
        refine fi_seq ?_
        refine fi_region ?_
        refine so_assign (v := (.v (.bool false))) rfl ?_
        refine so_nil ?_
        exact by_ret rfl ⟨_, h, rfl, rfl⟩
    · refine fi_false rfl (decide_eq_false c104) ?_
      refine fi_exit rfl ?_
      refine fi_seq ?_
      refine fi_region ?_
      refine so_assign (v := (.v (.bool true))) rfl ?_
      refine so_nil ?_
      exact by_ret rfl ⟨_, h, rfl, rfl⟩
  · refine fi_true rfl (not_t (decide_eq_false c101)) ?_
    refine fi_seq ?_
    refine fi_region ?_
    refine so_assign (v := (.v (.bool false))) rfl ?_
    refine so_nil ?_
    exact by_ret rfl ⟨_, h, rfl, rfl⟩

end Go.Proofs.Ytochgocgmeeppaa.G

namespace Go.Proofs.Ytochgocgmeeppaa.G
open Go Go.Ab Go.Proofs Go.Proofs.Ytochgocgmeeppaa
set_option maxRecDepth 100000
set_option linter.unusedVariables false
set_option linter.unusedSimpArgs false
set_option maxHeartbeats 1000000
attribute [local irreducible] wops wopf Go.Ab.Fin
theorem F54.fl30 : tflt Try.prog 30 = some .f32 := by kernel_rfl
theorem F54.in30 : tint Try.prog 30 = none := by kernel_rfl
theorem F54.sz30 : tsz Try.prog 30 = some 1 := by kernel_rfl
theorem F54.ti25 : (telem Try.prog 25).isSome = true := by kernel_rfl
theorem F54.tl25 : (telem Try.prog 25).bind (tsz Try.prog) = some 1 := by kernel_rfl
theorem F54.us3 : (Try.prog.underlying 3).isSome = true := by kernel_rfl
variable [Cls Try.prog]
theorem laws_markFloat32S_ok {fr : List Pc} {H : Heap} (v0 : AV) (l0 : List (Nat)) (a1 : Int) (hs : Sep H (Pc.osl v0 1 (enc (eFlt .f32) l0) :: fr))  (K : Int → (List (Nat)) → Prop) (h : laws_markFloat32S.wp l0 a1 K) : OkQ Try.prog 54 [(.v v0), (.v (.int .i64 a1))] H (fun r H2 => ∃ (y0 : Int) (y1 : List (Nat)), K y0 y1 ∧ r = (.v (.int .i64 y0)) ∧ Sep H2 (Pc.osl v0 1 (enc (eFlt .f32) y1) :: fr)) := by
  unfold laws_markFloat32S.wp at h
  refine of_body Try.f54 F.hm Try.func54 rfl Try.call54 (by kernel_rfl) (by simp) ?_
  refine fi_seq ?_
  refine fi_region ?_
  refine so_assign (v := (.v (.int .i64 (0 : Int)))) rfl ?_
  refine so_nil ?_
  refine fi_seq ?_
  refine fi_seq ?_
  refine fi_region ?_
  refine so_assign (v := (.v (.int .i64 (0 : Int)))) rfl ?_
  refine so_nil ?_
  refine fi_block ?_
  refine fi_loop ?_
  refine fi_at [(0, (.v v0)), (1, (.v (.int .i64 a1))), (5, (.v (.int .i64 (0 : Int))))] ⟨rfl, rfl, rfl, trivial⟩ ?_
  refine h (fun (a109 : List (Nat)) (k110 : Int) (i111 : Int) => ∀ (s : Nat → TV) (H : Heap), Sep H (Pc.osl v0 1 (enc (eFlt .f32) a109) :: fr) → Fin _ _ (updL s [(0, (.v v0)), (1, (.v (.int .i64 k110))), (5, (.v (.int .i64 i111)))]) H _) ?_ _ _ hs
  intro a109 k110 i111 h s115 H116 hs
  refine fi_inLoop ?_
  refine fi_seq ?_
  refine fi_seq ?_
  refine fi_region ?_
  refine so_move (v := (.v (.int .i64 i111))) rfl ?_
  refine so_move (v := (.v v0)) rfl ?_
  refine sv_len (hs.shows 0 rfl) (fun _ => rfl) (by decide) rfl F54.ti25 ?_
  refine so_bin rfl rfl ab_lss ?_
  refine so_nil ?_
  replace h := ofP h; rcases h with ⟨c112, h⟩ | ⟨c112, h⟩
  · refine fi_true rfl (decide_eq_true c112) ?_
    refine fi_skip ?_
    refine fi_seq ?_
    refine fi_block ?_
    refine fi_seq ?_
    refine fi_region ?_
    refine so_move (v := (.v v0)) rfl ?_
    refine so_move (v := (.v (.int .i64 i111))) rfl ?_
    refine so_move (v := (.v (.int .i64 k110))) rfl ?_
    refine sv_if rfl F54.us3 F54.in30 F54.fl30 ?_
    obtain ⟨c113, h⟩ := h
    refine sv_idx (hs.shows 0 rfl) c113 (fun _ => rfl) (by decide) rfl rfl F54.tl25 ?_
    refine sv_set hs 0 rfl c113 (itof .f32 k110) (fun _ => rfl) (by decide) rfl rfl rfl rfl F54.sz30 nofun (fun H114 hs => ?_)
    refine so_nil ?_
    refine fi_region ?_
    refine so_move (v := (.v (.int .i64 k110))) rfl ?_
    refine so_bin rfl rfl ab_add ?_
    refine so_assign (v := (.v (.int .i64 (IntKind.i64.wrap (k110 + (1 : Int)))))) rfl ?_
    refine so_nil ?_
    refine fi_inBlock ?_
    refine fi_region ?_
    refine so_move (v := (.v (.int .i64 i111))) rfl ?_
    refine so_bin rfl rfl ab_add ?_
    refine so_assign (v := (.v (.int .i64 (IntKind.i64.wrap (i111 + (1 : Int)))))) rfl ?_
    refine so_nil ?_
    exact fi_at [(0, (.v v0)), (1, (.v (.int .i64 (IntKind.i64.wrap (k110 + (1 : Int)))))), (5, (.v (.int .i64 (IntKind.i64.wrap (i111 + (1 : Int))))))] ⟨rfl, rfl, rfl, trivial⟩ (h _ _  hs)
  · refine fi_false rfl (decide_eq_false c112) ?_
    refine fi_exit rfl ?_
    refine fi_seq ?_
    refine fi_region ?_
    refine so_move (v := (.v (.int .i64 k110))) rfl ?_
    refine so_assign (v := (.v (.int .i64 k110))) rfl ?_
    refine so_nil ?_
    exact by_ret rfl ⟨_, _, h, rfl, hs⟩

end Go.Proofs.Ytochgocgmeeppaa.G

namespace Go.Proofs.Ytochgocgmeeppaa.G
open Go Go.Ab Go.Proofs Go.Proofs.Ytochgocgmeeppaa
set_option maxRecDepth 100000
set_option linter.unusedVariables false
set_option linter.unusedSimpArgs false
set_option maxHeartbeats 1000000
attribute [local irreducible] wops wopf Go.Ab.Fin
theorem F24.ag25 : tagg Try.prog 25 = some false := by kernel_rfl
theorem F24.ti31 : (telem Try.prog 31).isSome = true := by kernel_rfl
theorem F24.tl31 : (telem Try.prog 31).bind (tsz Try.prog) = some 1 := by kernel_rfl
variable [Cls Try.prog]
theorem laws_markFloat32SS_ok {fr : List Pc} {H : Heap} (v0 : AV) (w0 : List (List AV)) (S0 : Nat → Prop) (l0 : List (List (Nat))) (a1 : Int) (hs : Sep H (dpc v0 1 R_LeFlt_f32_o IR_LeFlt_f32_o l0 w0 S0 :: fr))  (K : Int → (List (List (Nat))) → Prop) (h : laws_markFloat32SS.wp l0 a1 K) : OkQ Try.prog 24 [(.v v0), (.v (.int .i64 a1))] H (fun r H2 => ∃ (y0 : Int) (y1 : List (List (Nat))), K y0 y1 ∧ ∃ (wm0 : List (List AV)) (Sm0 : Nat → Prop), r = (.v (.int .i64 y0)) ∧ Sep H2 (dpc v0 1 R_LeFlt_f32_o IR_LeFlt_f32_o y1 wm0 Sm0 :: fr)) := by
  unfold laws_markFloat32SS.wp at h
  refine of_body Try.f24 F.hm Try.func24 rfl Try.call24 (by kernel_rfl) (by simp) ?_
  refine fi_seq ?_
  refine fi_region ?_
  refine so_assign (v := (.v (.int .i64 (0 : Int)))) rfl ?_
  refine so_nil ?_
  refine fi_seq ?_
  refine fi_seq ?_
  refine fi_region ?_
  refine so_assign (v := (.v (.int .i64 (0 : Int)))) rfl ?_
  refine so_nil ?_
  refine fi_block ?_
  refine fi_loop ?_
  refine fi_at [(0, (.v v0)), (1, (.v (.int .i64 a1))), (5, (.v (.int .i64 (0 : Int))))] ⟨rfl, rfl, rfl, trivial⟩ ?_
  refine h (fun (a113 : List (List (Nat))) (k116 : Int) (i117 : Int) => ∀ (s : Nat → TV) (H : Heap) (ws114 : List (List AV)) (S115 : Nat → Prop), Sep H (dpc v0 1 R_LeFlt_f32_o IR_LeFlt_f32_o a113 ws114 S115 :: fr) → Fin _ _ (updL s [(0, (.v v0)), (1, (.v (.int .i64 k116))), (5, (.v (.int .i64 i117)))]) H _) ?_ _ _ _ _ hs
  intro a113 k116 i117 h s125 H126 ws114 S115 hs
  refine fi_inLoop ?_
  refine fi_seq ?_
  refine fi_seq ?_
  refine fi_region ?_
  refine so_move (v := (.v (.int .i64 i117))) rfl ?_
  refine so_move (v := (.v v0)) rfl ?_
  refine sd_len ((hs.dshows 0 rfl) : DSh _ _ 1 R_LeFlt_f32_o a113 ws114) (by decide) rfl F24.ti31 ?_
  refine so_bin rfl rfl ab_lss ?_
  refine so_nil ?_
  replace h := ofP h; rcases h with ⟨c118, h⟩ | ⟨c118, h⟩
  · refine fi_true rfl (decide_eq_true c118) ?_
    refine fi_skip ?_
    refine fi_seq ?_
    refine fi_block ?_
    refine fi_region ?_
    refine so_move (v := (.v v0)) rfl ?_
    refine so_move (v := (.v (.int .i64 i117))) rfl ?_
    obtain ⟨c119, h⟩ := h
    refine sd_idx ((hs.dshows 0 rfl) : DSh _ _ 1 R_LeFlt_f32_o a113 ws114) c119 ([] : List (Nat)) (by decide) rfl rfl F24.tl31 ?_
    refine su_ld ((((hs.dshows 0 rfl) : DSh _ _ 1 R_LeFlt_f32_o a113 ws114)).at (by decide) c119 ([] : List (Nat))).2.2 0 (congrArg (fun c => c[0]?) ((((hs.dshows 0 rfl) : DSh _ _ 1 R_LeFlt_f32_o a113 ws114)).at (by decide) c119 ([] : List (Nat))).2.1.1) rfl F24.ag25 ?_
    refine so_move (v := (.v (.int .i64 k116))) rfl ?_
    have e120 := ((((hs.dshows 0 rfl) : DSh _ _ 1 R_LeFlt_f32_o a113 ws114)).at (by decide) c119 ([] : List (Nat))).2.1.1
    replace hs := hs.lend 0 rfl c119 ([] : List (Nat)) (w := ((ws114.getD (i117).toNat []).getD 0 .und)) (m := 1) (cs := enc (eFlt .f32) (a113.getD (i117).toNat ([] : List (Nat)))) rfl
    refine sv_call (laws_markFloat32S_ok ((ws114.getD (i117).toNat []).getD 0 .und) (a113.getD (i117).toNat ([] : List (Nat))) k116 hs  _ h) rfl rfl nofun ?_
    clear h hs
    rintro _ H124 ⟨y122, y123, h, rfl, hs⟩
    replace hs := hs.give 0 rfl y123 rfl (fun _ hh => ⟨e120, hh⟩)
    refine so_assign (v := (.v (.int .i64 y122))) rfl ?_
    refine so_nil ?_
    refine fi_inBlock ?_
    refine fi_region ?_
    refine so_move (v := (.v (.int .i64 i117))) rfl ?_
    refine so_bin rfl rfl ab_add ?_
    refine so_assign (v := (.v (.int .i64 (IntKind.i64.wrap (i117 + (1 : Int)))))) rfl ?_
    refine so_nil ?_
    exact fi_at [(0, (.v v0)), (1, (.v (.int .i64 y122))), (5, (.v (.int .i64 (IntKind.i64.wrap (i117 + (1 : Int))))))] ⟨rfl, rfl, rfl, trivial⟩ (h _ _ _ _ hs)
  · refine fi_false rfl (decide_eq_false c118) ?_
    refine fi_exit rfl ?_
    refine fi_seq ?_
    refine fi_region ?_
    refine so_move (v := (.v (.int .i64 k116))) rfl ?_
    refine so_assign (v := (.v (.int .i64 k116))) rfl ?_
    refine so_nil ?_
    exact by_ret rfl ⟨_, _, h, _, _, rfl, hs⟩

end Go.Proofs.Ytochgocgmeeppaa.G

namespace Go.Proofs.Ytochgocgmeeppaa.G
open Go Go.Ab Go.Proofs Go.Proofs.Ytochgocgmeeppaa
set_option maxRecDepth 100000
set_option linter.unusedVariables false
set_option linter.unusedSimpArgs false
set_option maxHeartbeats 1000000
attribute [local irreducible] wops wopf Go.Ab.Fin
theorem F55.ag30 : tagg Try.prog 30 = some false := by kernel_rfl
theorem F55.fl30 : tflt Try.prog 30 = some .f32 := by kernel_rfl
theorem F55.in30 : tint Try.prog 30 = none := by kernel_rfl
theorem F55.ti25 : (telem Try.prog 25).isSome = true := by kernel_rfl
theorem F55.tl25 : (telem Try.prog 25).bind (tsz Try.prog) = some 1 := by kernel_rfl
theorem F55.us3 : (Try.prog.underlying 3).isSome = true := by kernel_rfl
variable [Cls Try.prog]
theorem laws_heldFloat32S_ok {fr : List Pc} {H : Heap} (v0 : AV) (l0 : List (Nat)) (a1 : Int) (hs : Sep H (fr)) (g0 : ∀ H, Sep H fr → Shows H v0 1 (enc (eFlt .f32) l0)) (K : Int → Prop) (h : laws_heldFloat32S.wp l0 a1 K) : OkQ Try.prog 55 [(.v v0), (.v (.int .i64 a1))] H (fun r H2 => ∃ (y0 : Int), K y0 ∧ r = (.v (.int .i64 y0)) ∧ H = H2) := by
  unfold laws_heldFloat32S.wp at h
  refine of_body Try.f55 F.hm Try.func55 rfl Try.call55 (by kernel_rfl) (by simp) ?_
  refine fi_seq ?_
  refine fi_region ?_
  refine so_assign (v := (.v (.int .i64 (0 : Int)))) rfl ?_
  refine so_nil ?_
  refine fi_seq ?_
  refine fi_seq ?_
  refine fi_region ?_
  refine so_assign (v := (.v (.int .i64 (0 : Int)))) rfl ?_
  refine so_nil ?_
  refine fi_block ?_
  refine fi_loop ?_
  refine fi_at [(0, (.v v0)), (1, (.v (.int .i64 a1))), (5, (.v (.int .i64 (0 : Int))))] ⟨rfl, rfl, rfl, trivial⟩ ?_
  refine h (fun (k102 : Int) (i103 : Int) => ∀ (s : Nat → TV), Fin _ _ (updL s [(0, (.v v0)), (1, (.v (.int .i64 k102))), (5, (.v (.int .i64 i103)))]) _ _) ?_ _
  intro k102 i103 h s107
  refine fi_inLoop ?_
  refine fi_seq ?_
  refine fi_seq ?_
  refine fi_region ?_
  refine so_move (v := (.v (.int .i64 i103))) rfl ?_
  refine so_move (v := (.v v0)) rfl ?_
  refine sv_len (g0 _ hs) (fun _ => rfl) (by decide) rfl F55.ti25 ?_
  refine so_bin rfl rfl ab_lss ?_
  refine so_nil ?_
  replace h := ofP h; rcases h with ⟨c104, h⟩ | ⟨c104, h⟩
  · refine fi_true rfl (decide_eq_true c104) ?_
    refine fi_skip ?_
    refine fi_seq ?_
    refine fi_block ?_
    refine fi_seq ?_
    refine fi_seq ?_
    refine fi_region ?_
    refine so_move (v := (.v v0)) rfl ?_
    refine so_move (v := (.v (.int .i64 i103))) rfl ?_
    obtain ⟨c105, h⟩ := h
    refine sv_idx (g0 _ hs) c105 (fun _ => rfl) (by decide) rfl rfl F55.tl25 ?_
    refine sv_cell (g0 _ hs) c105 (0 : Nat) 0 (fun x => (AV.flt .f32 x)) (fun _ => rfl) (fun _ => rfl) rfl F55.ag30 ?_
    refine so_move (v := (.v (.int .i64 k102))) rfl ?_
    refine sv_if rfl F55.us3 F55.in30 F55.fl30 ?_
    refine so_bin rfl rfl ab_fneq ?_
    refine so_nil ?_
    replace h := ofT h; rcases h with ⟨c106, h⟩ | ⟨c106, h⟩
    · refine fi_true rfl c106 ?_
      refine fi_seq ?_
      refine fi_region ?_
      refine so_assign (v := (.v (.int .i64 (-1 : Int)))) rfl ?_
      refine so_nil ?_
      exact by_ret rfl ⟨_, h, rfl, rfl⟩
    · refine fi_false rfl c106 ?_
      refine fi_skip ?_
      refine fi_region ?_
      refine so_move (v := (.v (.int .i64 k102))) rfl ?_
      refine so_bin rfl rfl ab_add ?_
      refine so_assign (v := (.v (.int .i64 (IntKind.i64.wrap (k102 + (1 : Int)))))) rfl ?_
      refine so_nil ?_
      refine fi_inBlock ?_
      refine fi_region ?_
      refine so_move (v := (.v (.int .i64 i103))) rfl ?_
      refine so_bin rfl rfl ab_add ?_
      refine so_assign (v := (.v (.int .i64 (IntKind.i64.wrap (i103 + (1 : Int)))))) rfl ?_
      refine so_nil ?_
      exact fi_at [(0, (.v v0)), (1, (.v (.int .i64 (IntKind.i64.wrap (k102 + (1 : Int)))))), (5, (.v (.int .i64 (IntKind.i64.wrap (i103 + (1 : Int))))))] ⟨rfl, rfl, rfl, trivial⟩ (h _)
  · refine fi_false rfl (decide_eq_false c104) ?_
    refine fi_exit rfl ?_
    refine fi_seq ?_
    refine fi_region ?_
    refine so_move (v := (.v (.int .i64 k102))) rfl ?_
    refine so_assign (v := (.v (.int .i64 k102))) rfl ?_
    refine so_nil ?_
    exact by_ret rfl ⟨_, h, rfl, rfl⟩

end Go.Proofs.Ytochgocgmeeppaa.G

namespace Go.Proofs.Ytochgocgmeeppaa.G
open Go Go.Ab Go.Proofs Go.Proofs.Ytochgocgmeeppaa
set_option maxRecDepth 100000
set_option linter.unusedVariables false
set_option linter.unusedSimpArgs false
set_option maxHeartbeats 1000000
attribute [local irreducible] wops wopf Go.Ab.Fin
theorem F25.ag25 : tagg Try.prog 25 = some false := by kernel_rfl
theorem F25.ti31 : (telem Try.prog 31).isSome = true := by kernel_rfl
theorem F25.tl31 : (telem Try.prog 31).bind (tsz Try.prog) = some 1 := by kernel_rfl
variable [Cls Try.prog]
theorem laws_heldFloat32SS_ok {fr : List Pc} {H : Heap} (v0 : AV) (w0 : List (List AV)) (l0 : List (List (Nat))) (a1 : Int) (hs : Sep H (fr)) (g0 : ∀ H, Sep H fr → DSh H v0 1 R_LeFlt_f32_o l0 w0) (K : Int → Prop) (h : laws_heldFloat32SS.wp l0 a1 K) : OkQ Try.prog 25 [(.v v0), (.v (.int .i64 a1))] H (fun r H2 => ∃ (y0 : Int), K y0 ∧ r = (.v (.int .i64 y0)) ∧ H = H2) := by
  unfold laws_heldFloat32SS.wp at h
  refine of_body Try.f25 F.hm Try.func25 rfl Try.call25 (by kernel_rfl) (by simp) ?_
  refine fi_seq ?_
  refine fi_region ?_
  refine so_assign (v := (.v (.int .i64 (0 : Int)))) rfl ?_
  refine so_nil ?_
  refine fi_seq ?_
  refine fi_seq ?_
  refine fi_region ?_
  refine so_assign (v := (.v (.int .i64 (0 : Int)))) rfl ?_
  refine so_nil ?_
  refine fi_block ?_
  refine fi_loop ?_
  refine fi_at [(0, (.v v0)), (1, (.v (.int .i64 a1))), (5, (.v (.int .i64 (0 : Int))))] ⟨rfl, rfl, rfl, trivial⟩ ?_
  refine h (fun (k102 : Int) (i103 : Int) => ∀ (s : Nat → TV), Fin _ _ (updL s [(0, (.v v0)), (1, (.v (.int .i64 k102))), (5, (.v (.int .i64 i103)))]) _ _) ?_ _
  intro k102 i103 h s109
  refine fi_inLoop ?_
  refine fi_seq ?_
  refine fi_seq ?_
  refine fi_region ?_
  refine so_move (v := (.v (.int .i64 i103))) rfl ?_
  refine so_move (v := (.v v0)) rfl ?_
  refine sd_len ((g0 _ hs) : DSh _ _ 1 R_LeFlt_f32_o l0 w0) (by decide) rfl F25.ti31 ?_
  refine so_bin rfl rfl ab_lss ?_
  refine so_nil ?_
  replace h := ofP h; rcases h with ⟨c104, h⟩ | ⟨c104, h⟩
  · refine fi_true rfl (decide_eq_true c104) ?_
    refine fi_skip ?_
    refine fi_seq ?_
    refine fi_block ?_
    refine fi_seq ?_
    refine fi_region ?_
    refine so_move (v := (.v v0)) rfl ?_
    refine so_move (v := (.v (.int .i64 i103))) rfl ?_
    obtain ⟨c105, h⟩ := h
    refine sd_idx ((g0 _ hs) : DSh _ _ 1 R_LeFlt_f32_o l0 w0) c105 ([] : List (Nat)) (by decide) rfl rfl F25.tl31 ?_
    refine su_ld ((((g0 _ hs) : DSh _ _ 1 R_LeFlt_f32_o l0 w0)).at (by decide) c105 ([] : List (Nat))).2.2 0 (congrArg (fun c => c[0]?) ((((g0 _ hs) : DSh _ _ 1 R_LeFlt_f32_o l0 w0)).at (by decide) c105 ([] : List (Nat))).2.1.1) rfl F25.ag25 ?_
    refine so_move (v := (.v (.int .i64 k102))) rfl ?_
    refine sv_callS (laws_heldFloat32S_ok ((w0.getD (i103).toNat []).getD 0 .und) (l0.getD (i103).toNat ([] : List (Nat))) k102 hs (fun _ hs => ((((g0 _ hs) : DSh _ _ 1 R_LeFlt_f32_o l0 w0)).at (by decide) c105 ([] : List (Nat))).2.1.2) _ h) (fun _ _ ⟨_, _, _, e⟩ => e) rfl rfl ?_
    clear h
    rintro _ _ ⟨y106, h, rfl, rfl⟩
    refine so_assign (v := (.v (.int .i64 y106))) rfl ?_
    refine so_nil ?_
    refine fi_seq ?_
    refine fi_region ?_
    refine so_move (v := (.v (.int .i64 y106))) rfl ?_
    refine so_bin rfl rfl ab_lss ?_
    refine so_nil ?_
    replace h := ofP h; rcases h with ⟨c108, h⟩ | ⟨c108, h⟩
    · refine fi_true rfl (decide_eq_true c108) ?_
      refine fi_seq ?_
      refine fi_region ?_
      refine so_assign (v := (.v (.int .i64 (-1 : Int)))) rfl ?_
      refine so_nil ?_
      exact by_ret rfl ⟨_, h, rfl, rfl⟩
    · refine fi_false rfl (decide_eq_false c108) ?_
      refine fi_skip ?_
      refine fi_inBlock ?_
      refine fi_region ?_
      refine so_move (v := (.v (.int .i64 i103))) rfl ?_
      refine so_bin rfl rfl ab_add ?_
      refine so_assign (v := (.v (.int .i64 (IntKind.i64.wrap (i103 + (1 : Int)))))) rfl ?_
      refine so_nil ?_
      exact fi_at [(0, (.v v0)), (1, (.v (.int .i64 y106))), (5, (.v (.int .i64 (IntKind.i64.wrap (i103 + (1 : Int))))))] ⟨rfl, rfl, rfl, trivial⟩ (h _)
  · refine fi_false rfl (decide_eq_false c104) ?_
    refine fi_exit rfl ?_
    refine fi_seq ?_
    refine fi_region ?_
    refine so_move (v := (.v (.int .i64 k102))) rfl ?_
    refine so_assign (v := (.v (.int .i64 k102))) rfl ?_
    refine so_nil ?_
    exact by_ret rfl ⟨_, h, rfl, rfl⟩

end Go.Proofs.Ytochgocgmeeppaa.G

namespace Go.Proofs.Ytochgocgmeeppaa.G
open Go Go.Ab Go.Proofs Go.Proofs.Ytochgocgmeeppaa
set_option maxRecDepth 100000
set_option linter.unusedVariables false
set_option linter.unusedSimpArgs false
set_option maxHeartbeats 1000000
attribute [local irreducible] wops wopf Go.Ab.Fin
variable [Cls Try.prog]
theorem impl_IsFinite_ok {fr : List Pc} {H : Heap} (a0 : Nat) (hs : Sep H (fr))  (K : Bool → Prop) (h : impl_IsFinite.wp a0 K) : OkQ Try.prog 58 [(.v (.flt .f32 a0))] H (fun r H2 => ∃ (y0 : Bool), K y0 ∧ r = (.v (.bool y0)) ∧ H = H2) := by
  unfold impl_IsFinite.wp at h
  refine of_body Try.f58 F.hm Try.func58 rfl Try.call58 (by kernel_rfl) (by simp) ?_
  refine fi_seq ?_
  refine fi_region ?_
  refine so_assign (v := (.v (.bool false))) rfl ?_
  refine so_nil ?_
  refine fi_seq ?_
  refine fi_region ?_
  refine so_move (v := (.v (.flt .f32 a0))) rfl ?_
  refine so_move (v := (.v (.flt .f32 a0))) rfl ?_
  refine so_bin rfl rfl ab_fsub ?_
  refine so_bin rfl rfl ab_feql ?_
  refine so_assign (v := (.v (.bool (fcmp .eql .f32 (fop .sub .f32 a0 a0) (cz .f32 0))))) rfl ?_
  refine so_nil ?_
  exact by_ret rfl ⟨_, h, rfl, rfl⟩

end Go.Proofs.Ytochgocgmeeppaa.G

namespace Go.Proofs.Ytochgocgmeeppaa.G
open Go Go.Ab Go.Proofs Go.Proofs.Ytochgocgmeeppaa
set_option maxRecDepth 100000
set_option linter.unusedVariables false
set_option linter.unusedSimpArgs false
set_option maxHeartbeats 1000000
attribute [local irreducible] wops wopf Go.Ab.Fin
variable [Cls Try.prog]
theorem impl_isOver_ok {fr : List Pc} {H : Heap} (a0 : Nat) (hs : Sep H (fr))  (K : Bool → Prop) (h : impl_isOver.wp a0 K) : OkQ Try.prog 29 [(.v (.flt .f32 a0))] H (fun r H2 => ∃ (y0 : Bool), K y0 ∧ r = (.v (.bool y0)) ∧ H = H2) := by
  unfold impl_isOver.wp at h
  refine of_body Try.f29 F.hm Try.func29 rfl Try.call29 (by kernel_rfl) (by simp) ?_
  refine fi_seq ?_
  refine fi_region ?_
  refine so_assign (v := (.v (.bool false))) rfl ?_
  refine so_nil ?_
  refine fi_seq ?_
  refine fi_region ?_
  refine so_move (v := (.v (.flt .f32 a0))) rfl ?_
  refine sv_callS (impl_IsFinite_ok a0 hs  _ h) (fun _ _ ⟨_, _, _, e⟩ => e) rfl rfl ?_
  clear h
  rintro _ _ ⟨y101, h, rfl, rfl⟩
  refine so_move (v := (.v (.bool y101))) rfl ?_
  replace h := ofT h; rcases h with ⟨c103, h⟩ | ⟨c103, h⟩
  · refine so_gyes rfl c103 ?_
    refine so_move (v := (.v (.flt .f32 a0))) rfl ?_
    refine so_gyes rfl c103 ?_
    refine so_bin rfl rfl ab_fgtr ?_
    refine so_pick_t (v := (.v (.bool (fcmp .gtr .f32 a0 (cz .f32 0))))) rfl c103 rfl ?_
    refine so_assign (v := (.v (.bool (fcmp .gtr .f32 a0 (cz .f32 0))))) rfl ?_
    refine so_nil ?_
    exact by_ret rfl ⟨_, h, rfl, rfl⟩
  · refine so_gno rfl c103 ?_
    refine so_gno rfl c103 ?_
    refine so_pick_f (v := (.v (.bool false))) rfl c103 rfl ?_
    refine so_assign (v := (.v (.bool false))) rfl ?_
    refine so_nil ?_
    exact by_ret rfl ⟨_, h, rfl, rfl⟩

end Go.Proofs.Ytochgocgmeeppaa.G

namespace Go.Proofs.Ytochgocgmeeppaa.G
open Go Go.Ab Go.Proofs Go.Proofs.Ytochgocgmeeppaa
set_option maxRecDepth 100000
set_option linter.unusedVariables false
set_option linter.unusedSimpArgs false
set_option maxHeartbeats 1000000
attribute [local irreducible] wops wopf Go.Ab.Fin
variable [Cls Try.prog]
theorem impl_within_ok {fr : List Pc} {H : Heap} (a0 : Int) (a1 : Int) (a2 : Int) (hs : Sep H (fr))  (K : Bool → Prop) (h : impl_within.wp a0 a1 a2 K) : OkQ Try.prog 31 [(.v (.int .i64 a0)), (.v (.int .i64 a1)), (.v (.int .i64 a2))] H (fun r H2 => ∃ (y0 : Bool), K y0 ∧ r = (.v (.bool y0)) ∧ H = H2) := by
  unfold impl_within.wp at h
  refine of_body Try.f31 F.hm Try.func31 rfl Try.call31 (by kernel_rfl) (by simp) ?_
  refine fi_seq ?_
  refine fi_region ?_
  refine so_assign (v := (.v (.bool false))) rfl ?_
  refine so_nil ?_
  refine fi_seq ?_
  refine fi_region ?_
  refine so_move (v := (.v (.int .i64 a0))) rfl ?_
  refine so_move (v := (.v (.int .i64 a1))) rfl ?_
  refine so_bin rfl rfl ab_geq ?_
  refine so_move (v := (.v (.bool (decide (a1 ≤ a0))))) rfl ?_
  replace h := ofP h; rcases h with ⟨c101, h⟩ | ⟨c101, h⟩
  · refine so_gyes rfl (decide_eq_true c101) ?_
    refine so_move (v := (.v (.int .i64 a0))) rfl ?_
    refine so_gyes rfl (decide_eq_true c101) ?_
    refine so_move (v := (.v (.int .i64 a2))) rfl ?_
    refine so_gyes rfl (decide_eq_true c101) ?_
    refine so_bin rfl rfl ab_leq ?_
    refine so_pick_t (v := (.v (.bool (decide (a0 ≤ a2))))) rfl (decide_eq_true c101) rfl ?_
    refine so_assign (v := (.v (.bool (decide (a0 ≤ a2))))) rfl ?_
    refine so_nil ?_
    exact by_ret rfl ⟨_, h, rfl, rfl⟩
  · refine so_gno rfl (decide_eq_false c101) ?_
    refine so_gno rfl (decide_eq_false c101) ?_
    refine so_gno rfl (decide_eq_false c101) ?_
    refine so_pick_f (v := (.v (.bool false))) rfl (decide_eq_false c101) rfl ?_
    refine so_assign (v := (.v (.bool false))) rfl ?_
    refine so_nil ?_
    exact by_ret rfl ⟨_, h, rfl, rfl⟩

end Go.Proofs.Ytochgocgmeeppaa.G

namespace Go.Proofs.Ytochgocgmeeppaa.G
open Go Go.Ab Go.Proofs Go.Proofs.Ytochgocgmeeppaa
set_option maxRecDepth 100000
set_option linter.unusedVariables false
set_option linter.unusedSimpArgs false
set_option maxHeartbeats 1000000
attribute [local irreducible] wops wopf Go.Ab.Fin
theorem F73.ag4 : tagg Try.prog 4 = some false := by kernel_rfl
theorem F73.tb4 : tbool Try.prog 4 = true := by kernel_rfl
theorem F73.ti54 : (telem Try.prog 54).isSome = true := by kernel_rfl
theorem F73.tl54 : (telem Try.prog 54).bind (tsz Try.prog) = some 1 := by kernel_rfl
variable [Cls Try.prog]
theorem slices_Index_bool_bool_ok {fr : List Pc} {H : Heap} (v0 : AV) (l0 : List (Bool)) (a1 : Bool) (hs : Sep H (fr)) (g0 : ∀ H, Sep H fr → Shows H v0 1 (enc eBool l0)) (K : Int → Prop) (h : slices_Index_bool_bool.wp l0 a1 K) : OkQ Try.prog 73 [(.v v0), (.v (.bool a1))] H (fun r H2 => ∃ (y0 : Int), K y0 ∧ r = (.v (.int .i64 y0)) ∧ H = H2) := by
  unfold slices_Index_bool_bool.wp at h
  refine of_body Try.f73 F.hm Try.func73 rfl Try.call73 (by kernel_rfl) (by simp) ?_
  refine fi_seq ?_
  refine fi_region ?_
  refine so_assign (v := (.v (.int .i64 (0 : Int)))) rfl ?_
  refine so_nil ?_
  refine fi_seq ?_
  refine fi_seq ?_
  refine fi_region ?_
  refine so_move (v := (.v v0)) rfl ?_
  refine sv_len (g0 _ hs) (fun _ => rfl) (by decide) rfl F73.ti54 ?_
  refine so_move (v := (.v (.int .i64 (0 : Int)))) rfl ?_
  refine so_nil ?_
  refine fi_block ?_
  refine fi_loop ?_
  refine fi_at [(0, (.v v0)), (1, (.v (.bool a1))), (7, (.v (.int .i64 (l0.length : Int)))), (8, (.v (.int .i64 (0 : Int))))] ⟨rfl, rfl, rfl, rfl, trivial⟩ ?_
  refine h (fun (x102 : Int) => ∀ (s : Nat → TV), Fin _ _ (updL s [(0, (.v v0)), (1, (.v (.bool a1))), (7, (.v (.int .i64 (l0.length : Int)))), (8, (.v (.int .i64 x102)))]) _ _) ?_ _
  intro x102 h s106
  refine fi_inLoop ?_
  refine fi_seq ?_
  refine fi_region ?_
  refine so_bin rfl rfl ab_lss ?_
  refine so_nil ?_
  refine fi_seq ?_
  replace h := ofP h; rcases h with ⟨c103, h⟩ | ⟨c103, h⟩
  · refine fi_true rfl (decide_eq_true c103) ?_
    refine fi_skip ?_
    refine fi_seq ?_
    refine fi_block ?_
    refine fi_seq ?_
    refine fi_region ?_
    refine so_move (v := (.v (.int .i64 x102))) rfl ?_
    refine so_assign (v := (.v (.int .i64 x102))) rfl ?_
    refine so_nil ?_
    refine fi_seq ?_
    refine fi_region ?_
    refine so_move (v := (.v (.bool a1))) rfl ?_
    refine so_move (v := (.v v0)) rfl ?_
    refine so_move (v := (.v (.int .i64 x102))) rfl ?_
    obtain ⟨c104, h⟩ := h
    refine sv_idx (g0 _ hs) c104 (fun _ => rfl) (by decide) rfl rfl F73.tl54 ?_
    refine sv_cell (g0 _ hs) c104 false 0 (fun x => (AV.bool x)) (fun _ => rfl) (fun _ => rfl) rfl F73.ag4 ?_
    refine so_bin rfl rfl (ab_beql F73.tb4) ?_
    refine so_nil ?_
    replace h := ofT h; rcases h with ⟨c105, h⟩ | ⟨c105, h⟩
    · refine fi_true rfl c105 ?_
      refine fi_seq ?_
      refine fi_region ?_
      refine so_move (v := (.v (.int .i64 x102))) rfl ?_
      refine so_assign (v := (.v (.int .i64 x102))) rfl ?_
      refine so_nil ?_
      exact by_ret rfl ⟨_, h, rfl, rfl⟩
    · refine fi_false rfl c105 ?_
      refine fi_skip ?_
      refine fi_inBlock ?_
      refine fi_region ?_
      refine so_bin rfl rfl ab_add ?_
      refine so_move (v := (.v (.int .i64 (IntKind.i64.wrap (x102 + (1 : Int)))))) rfl ?_
      refine so_nil ?_
      exact fi_at [(0, (.v v0)), (1, (.v (.bool a1))), (7, (.v (.int .i64 (l0.length : Int)))), (8, (.v (.int .i64 (IntKind.i64.wrap (x102 + (1 : Int))))))] ⟨rfl, rfl, rfl, rfl, trivial⟩ (h _)
  · refine fi_false rfl (decide_eq_false c103) ?_
    refine fi_exit rfl ?_
    refine fi_seq ?_
    refine fi_region ?_
    refine so_assign (v := (.v (.int .i64 (-1 : Int)))) rfl ?_
    refine so_nil ?_
    exact by_ret rfl ⟨_, h, rfl, rfl⟩

end Go.Proofs.Ytochgocgmeeppaa.G

namespace Go.Proofs.Ytochgocgmeeppaa.G
open Go Go.Ab Go.Proofs Go.Proofs.Ytochgocgmeeppaa
set_option maxRecDepth 100000
set_option linter.unusedVariables false
set_option linter.unusedSimpArgs false
set_option maxHeartbeats 1000000
attribute [local irreducible] wops wopf Go.Ab.Fin
variable [Cls Try.prog]
theorem slices_Contains_bool_bool_ok {fr : List Pc} {H : Heap} (v0 : AV) (l0 : List (Bool)) (a1 : Bool) (hs : Sep H (fr)) (g0 : ∀ H, Sep H fr → Shows H v0 1 (enc eBool l0)) (K : Bool → Prop) (h : slices_Contains_bool_bool.wp l0 a1 K) : OkQ Try.prog 35 [(.v v0), (.v (.bool a1))] H (fun r H2 => ∃ (y0 : Bool), K y0 ∧ r = (.v (.bool y0)) ∧ H = H2) := by
  unfold slices_Contains_bool_bool.wp at h
  refine of_body Try.f35 F.hm Try.func35 rfl Try.call35 (by kernel_rfl) (by simp) ?_
  refine fi_seq ?_
  refine fi_region ?_
  refine so_assign (v := (.v (.bool false))) rfl ?_
  refine so_nil ?_
  refine fi_seq ?_
  refine fi_region ?_
  refine so_move (v := (.v v0)) rfl ?_
  refine so_move (v := (.v (.bool a1))) rfl ?_
  refine sv_callS (slices_Index_bool_bool_ok v0 l0 a1 hs (fun _ hs => (g0 _ hs)) _ h) (fun _ _ ⟨_, _, _, e⟩ => e) rfl rfl ?_
  clear h
  rintro _ _ ⟨y101, h, rfl, rfl⟩
  refine so_bin rfl rfl ab_geq ?_
  refine so_assign (v := (.v (.bool (decide ((0 : Int) ≤ y101))))) rfl ?_
  refine so_nil ?_
  exact by_ret rfl ⟨_, h, rfl, rfl⟩

end Go.Proofs.Ytochgocgmeeppaa.G

namespace Go.Proofs.Ytochgocgmeeppaa.G
open Go Go.Ab Go.Proofs Go.Proofs.Ytochgocgmeeppaa
set_option maxRecDepth 100000
set_option linter.unusedVariables false
set_option linter.unusedSimpArgs false
set_option maxHeartbeats 1000000
attribute [local irreducible] wops wopf Go.Ab.Fin
theorem F57.ag25 : tagg Try.prog 25 = some false := by kernel_rfl
theorem F57.ag30 : tagg Try.prog 30 = some false := by kernel_rfl
theorem F57.ti25 : (telem Try.prog 25).isSome = true := by kernel_rfl
theorem F57.ti31 : (telem Try.prog 31).isSome = true := by kernel_rfl
theorem F57.tl25 : (telem Try.prog 25).bind (tsz Try.prog) = some 1 := by kernel_rfl
theorem F57.tl31 : (telem Try.prog 31).bind (tsz Try.prog) = some 1 := by kernel_rfl
variable [Cls Try.prog]
theorem impl_areFinite_ok {fr : List Pc} {H : Heap} (v0 : AV) (w0 : List (List AV)) (l0 : List (List (Nat))) (hs : Sep H (fr)) (g0 : ∀ H, Sep H fr → DSh H v0 1 R_LeFlt_f32_o l0 w0) (K : Bool → Prop) (h : impl_areFinite.wp l0 K) : OkQ Try.prog 57 [(.v v0)] H (fun r H2 => ∃ (y0 : Bool), K y0 ∧ r = (.v (.bool y0)) ∧ H = H2) := by
  unfold impl_areFinite.wp at h
  refine of_body Try.f57 F.hm Try.func57 rfl Try.call57 (by kernel_rfl) (by simp) ?_
  refine fi_seq ?_
  refine fi_region ?_
  refine so_assign (v := (.v (.bool false))) rfl ?_
  refine so_nil ?_
  refine fi_seq ?_
  refine fi_seq ?_
  refine fi_region ?_
  refine so_move (v := (.v v0)) rfl ?_
  refine sd_len ((g0 _ hs) : DSh _ _ 1 R_LeFlt_f32_o l0 w0) (by decide) rfl F57.ti31 ?_
  refine so_move (v := (.v (.int .i64 (0 : Int)))) rfl ?_
  refine so_nil ?_
  refine fi_block ?_
  refine fi_loop ?_
  refine fi_at [(7, (.v v0)), (8, (.v (.int .i64 (l0.length : Int)))), (9, (.v (.int .i64 (0 : Int))))] ⟨rfl, rfl, rfl, trivial⟩ ?_
  refine h (fun (x102 : Int) => ∀ (s : Nat → TV), Fin _ _ (updL s [(7, (.v v0)), (8, (.v (.int .i64 (l0.length : Int)))), (9, (.v (.int .i64 x102)))]) _ _) ?_ _
  intro x102 h s114
  refine fi_inLoop ?_
  refine fi_seq ?_
  refine fi_region ?_
  refine so_bin rfl rfl ab_lss ?_
  refine so_nil ?_
  refine fi_seq ?_
  replace h := ofP h; rcases h with ⟨c103, h⟩ | ⟨c103, h⟩
  · refine fi_true rfl (decide_eq_true c103) ?_
    refine fi_skip ?_
    refine fi_seq ?_
    refine fi_block ?_
    refine fi_seq ?_
    refine fi_region ?_
    obtain ⟨c104, h⟩ := h
    refine sd_idx ((g0 _ hs) : DSh _ _ 1 R_LeFlt_f32_o l0 w0) c104 ([] : List (Nat)) (by decide) rfl rfl F57.tl31 ?_
    refine su_ld ((((g0 _ hs) : DSh _ _ 1 R_LeFlt_f32_o l0 w0)).at (by decide) c104 ([] : List (Nat))).2.2 0 (congrArg (fun c => c[0]?) ((((g0 _ hs) : DSh _ _ 1 R_LeFlt_f32_o l0 w0)).at (by decide) c104 ([] : List (Nat))).2.1.1) rfl F57.ag25 ?_
    refine so_assign (v := (.v ((w0.getD (x102).toNat []).getD 0 .und))) rfl ?_
    refine so_nil ?_
    refine fi_seq ?_
    refine fi_region ?_
    refine so_move (v := (.v ((w0.getD (x102).toNat []).getD 0 .und))) rfl ?_
    refine sv_len ((((g0 _ hs) : DSh _ _ 1 R_LeFlt_f32_o l0 w0)).at (by decide) c104 ([] : List (Nat))).2.1.2 (fun _ => rfl) (by decide) rfl F57.ti25 ?_
    refine so_move (v := (.v (.int .i64 (0 : Int)))) rfl ?_
    refine so_nil ?_
    refine fi_block ?_
    refine fi_loop ?_
    refine fi_at [(7, (.v v0)), (8, (.v (.int .i64 (l0.length : Int)))), (9, (.v (.int .i64 x102))), (13, (.v ((w0.getD (x102).toNat []).getD 0 .und))), (14, (.v (.int .i64 ((l0.getD (x102).toNat ([] : List (Nat))).length : Int)))), (15, (.v (.int .i64 (0 : Int))))] ⟨rfl, rfl, rfl, rfl, rfl, rfl, trivial⟩ ?_
    refine h (fun (x106 : Int) => ∀ (s : Nat → TV), Fin _ _ (updL s [(7, (.v v0)), (8, (.v (.int .i64 (l0.length : Int)))), (9, (.v (.int .i64 x102))), (13, (.v ((w0.getD (x102).toNat []).getD 0 .und))), (14, (.v (.int .i64 ((l0.getD (x102).toNat ([] : List (Nat))).length : Int)))), (15, (.v (.int .i64 x106)))]) _ _) ?_ _
    intro x106 h s112
    refine fi_inLoop ?_
    refine fi_seq ?_
    refine fi_region ?_
    refine so_bin rfl rfl ab_lss ?_
    refine so_nil ?_
    refine fi_seq ?_
    replace h := ofP h; rcases h with ⟨c107, h⟩ | ⟨c107, h⟩
    · refine fi_true rfl (decide_eq_true c107) ?_
      refine fi_skip ?_
      refine fi_seq ?_
      refine fi_block ?_
      refine fi_seq ?_
      refine fi_region ?_
      obtain ⟨c108, h⟩ := h
      refine sv_idx ((((g0 _ hs) : DSh _ _ 1 R_LeFlt_f32_o l0 w0)).at (by decide) c104 ([] : List (Nat))).2.1.2 c108 (fun _ => rfl) (by decide) rfl rfl F57.tl25 ?_
      refine sv_cell ((((g0 _ hs) : DSh _ _ 1 R_LeFlt_f32_o l0 w0)).at (by decide) c104 ([] : List (Nat))).2.1.2 c108 (0 : Nat) 0 (fun x => (AV.flt .f32 x)) (fun _ => rfl) (fun _ => rfl) rfl F57.ag30 ?_
      refine so_assign (v := (.v (.flt .f32 ((l0.getD (x102).toNat ([] : List (Nat))).getD (x106).toNat (0 : Nat))))) rfl ?_
      refine so_nil ?_
      refine fi_seq ?_
      refine fi_region ?_
      refine so_move (v := (.v (.flt .f32 ((l0.getD (x102).toNat ([] : List (Nat))).getD (x106).toNat (0 : Nat))))) rfl ?_
      refine sv_callS (impl_IsFinite_ok ((l0.getD (x102).toNat ([] : List (Nat))).getD (x106).toNat (0 : Nat)) hs  _ h) (fun _ _ ⟨_, _, _, e⟩ => e) rfl rfl ?_
      clear h
      rintro _ _ ⟨y109, h, rfl, rfl⟩
      refine so_un rfl au_not ?_
      refine so_nil ?_
      replace h := ofT h; rcases h with ⟨c111, h⟩ | ⟨c111, h⟩
      · refine fi_false rfl (not_f c111) ?_
        refine fi_skip ?_
        refine fi_inBlock ?_
        refine fi_region ?_
        refine so_bin rfl rfl ab_add ?_
        refine so_move (v := (.v (.int .i64 (IntKind.i64.wrap (x106 + (1 : Int)))))) rfl ?_
        refine so_nil ?_
        exact fi_at [(7, (.v v0)), (8, (.v (.int .i64 (l0.length : Int)))), (9, (.v (.int .i64 x102))), (13, (.v ((w0.getD (x102).toNat []).getD 0 .und))), (14, (.v (.int .i64 ((l0.getD (x102).toNat ([] : List (Nat))).length : Int)))), (15, (.v (.int .i64 (IntKind.i64.wrap (x106 + (1 : Int))))))] ⟨rfl, rfl, rfl, rfl, rfl, rfl, trivial⟩ (h _)
      · refine fi_true rfl (not_t c111) ?_
        refine fi_seq ?_
        refine fi_region ?_
        refine so_assign (v := (.v (.bool false))) rfl ?_
        refine so_nil ?_
        exact by_ret rfl ⟨_, h, rfl, rfl⟩
    · refine fi_false rfl (decide_eq_false c107) ?_
      refine fi_exit rfl ?_
      refine fi_inBlock ?_
      refine fi_region ?_
      refine so_bin rfl rfl ab_add ?_
      refine so_move (v := (.v (.int .i64 (IntKind.i64.wrap (x102 + (1 : Int)))))) rfl ?_
      refine so_nil ?_
      exact fi_at [(7, (.v v0)), (8, (.v (.int .i64 (l0.length : Int)))), (9, (.v (.int .i64 (IntKind.i64.wrap (x102 + (1 : Int))))))] ⟨rfl, rfl, rfl, trivial⟩ (h _)
  · refine fi_false rfl (decide_eq_false c103) ?_
    refine fi_exit rfl ?_
    refine fi_seq ?_
    refine fi_region ?_
    refine so_assign (v := (.v (.bool true))) rfl ?_
    refine so_nil ?_
    exact by_ret rfl ⟨_, h, rfl, rfl⟩

end Go.Proofs.Ytochgocgmeeppaa.G

namespace Go.Proofs.Ytochgocgmeeppaa.G
open Go Go.Ab Go.Proofs Go.Proofs.Ytochgocgmeeppaa
set_option maxRecDepth 100000
set_option linter.unusedVariables false
set_option linter.unusedSimpArgs false
set_option maxHeartbeats 1000000
attribute [local irreducible] wops wopf Go.Ab.Fin
theorem F28.sz25 : tsz Try.prog 25 = some 1 := by kernel_rfl
theorem F28.te31 : telem Try.prog 31 = some 25 := by kernel_rfl
theorem F28.ti25 : (telem Try.prog 25).isSome = true := by kernel_rfl
theorem F28.ze25 : tzero Try.prog 25 = some [.nilsl] := by kernel_rfl
variable [Cls Try.prog]
theorem impl_isLine_ok {fr : List Pc} {H : Heap} (v0 : AV) (l0 : List (Nat)) (hs : Sep H (fr)) (g0 : ∀ H, Sep H fr → Shows H v0 1 (enc (eFlt .f32) l0)) (K : Bool → Prop) (h : impl_isLine.wp l0 K) : OkQ Try.prog 28 [(.v v0)] H (fun r H2 => ∃ (y0 : Bool), K y0 ∧ r = (.v (.bool y0)) ∧ Sep H2 (fr)) := by
  unfold impl_isLine.wp at h
  refine of_body Try.f28 F.hm Try.func28 rfl Try.call28 (by kernel_rfl) (by simp) ?_
  refine fi_seq ?_
  refine fi_region ?_
  refine so_assign (v := (.v (.bool false))) rfl ?_
  refine so_nil ?_
  refine fi_seq ?_
  refine fi_region ?_
  refine so_move (v := (.v v0)) rfl ?_
  refine sv_len (g0 _ hs) (fun _ => rfl) (by decide) rfl F28.ti25 ?_
  refine so_bin rfl rfl ab_add ?_
  refine so_assign (v := (.v (.int .i64 (IntKind.i64.wrap ((l0.length : Int) + (1 : Int)))))) rfl ?_
  refine so_nil ?_
  refine fi_seq ?_
  refine fi_region ?_
  refine so_move (v := (.v (.int .i64 (IntKind.i64.wrap ((l0.length : Int) + (1 : Int)))))) rfl ?_
  refine so_bin rfl rfl ab_geq ?_
  refine so_move (v := (.v (.bool (decide ((2 : Int) ≤ (IntKind.i64.wrap ((l0.length : Int) + (1 : Int)))))))) rfl ?_
  replace h := ofP h; rcases h with ⟨c101, h⟩ | ⟨c101, h⟩
  · refine so_gyes rfl (decide_eq_true c101) ?_
    refine so_move (v := (.v (.int .i64 (IntKind.i64.wrap ((l0.length : Int) + (1 : Int)))))) rfl ?_
    refine so_gyes rfl (decide_eq_true c101) ?_
    refine so_bin rfl rfl ab_leq ?_
    refine so_pick_t (v := (.v (.bool (decide ((IntKind.i64.wrap ((l0.length : Int) + (1 : Int))) ≤ (64 : Int)))))) rfl (decide_eq_true c101) rfl ?_
    refine so_move (v := (.v (.bool (decide ((IntKind.i64.wrap ((l0.length : Int) + (1 : Int))) ≤ (64 : Int)))))) rfl ?_
    replace h := ofP h; rcases h with ⟨c102, h⟩ | ⟨c102, h⟩
    · refine so_gyes rfl (decide_eq_true c102) ?_
      refine so_move (v := (.v (.int .i64 (IntKind.i64.wrap ((l0.length : Int) + (1 : Int)))))) rfl ?_
      refine so_gyes rfl (decide_eq_true c102) ?_
      refine so_move (v := (.v (.int .i64 (IntKind.i64.wrap ((l0.length : Int) + (1 : Int)))))) rfl ?_
      refine so_gyes rfl (decide_eq_true c102) ?_
      refine so_bin rfl rfl ab_sub ?_
      refine so_gyes rfl (decide_eq_true c102) ?_
      refine so_bin rfl rfl ab_and ?_
      refine so_gyes rfl (decide_eq_true c102) ?_
      refine so_bin rfl rfl ab_eql ?_
      refine so_pick_t (v := (.v (.bool (decide ((ibits .and .i64 (IntKind.i64.wrap ((l0.length : Int) + (1 : Int))) (IntKind.i64.wrap ((IntKind.i64.wrap ((l0.length : Int) + (1 : Int))) - (1 : Int)))) = (0 : Int)))))) rfl (decide_eq_true c102) rfl ?_
      refine so_move (v := (.v (.bool (decide ((ibits .and .i64 (IntKind.i64.wrap ((l0.length : Int) + (1 : Int))) (IntKind.i64.wrap ((IntKind.i64.wrap ((l0.length : Int) + (1 : Int))) - (1 : Int)))) = (0 : Int)))))) rfl ?_
      replace h := ofP h; rcases h with ⟨c103, h⟩ | ⟨c103, h⟩
      · refine so_gyes rfl (decide_eq_true c103) ?_
        refine so_move (v := (.v v0)) rfl ?_
        refine so_gyes rfl (decide_eq_true c103) ?_
        refine sd_bslice hs [[v0]] F28.te31 F28.sz25 F28.ze25 rfl rfl rfl (by simp) (fac (stc (g0 _ hs).stor stn) fan) (by decide) rfl nofun (fun v104 H105 _ hs => ?_)
        refine so_gyes rfl (decide_eq_true c103) ?_
        refine sv_callS (impl_areFinite_ok v104 ([[v0]]) ([l0] : List (List (Nat))) hs (fun _ hs => ⟨hs.shows 0 rfl, by simp, ⟨⟨rfl, (g0 _ hs.tl)⟩, trivial⟩⟩) _ h) (fun _ _ ⟨_, _, _, e⟩ => e) rfl rfl ?_
        clear h
        rintro _ _ ⟨y107, h, rfl, rfl⟩
        refine so_pick_t (v := (.v (.bool y107))) rfl (decide_eq_true c103) rfl ?_
        refine so_assign (v := (.v (.bool y107))) rfl ?_
        refine so_nil ?_
        exact by_ret rfl ⟨_, h, rfl, (Sep.del 0 hs)⟩
      · refine so_gno rfl (decide_eq_false c103) ?_
        refine so_gno rfl (decide_eq_false c103) ?_
        refine so_gno rfl (decide_eq_false c103) ?_
        refine so_pick_f (v := (.v (.bool false))) rfl (decide_eq_false c103) rfl ?_
        refine so_assign (v := (.v (.bool false))) rfl ?_
        refine so_nil ?_
        exact by_ret rfl ⟨_, h, rfl, hs⟩
    · refine so_gno rfl (decide_eq_false c102) ?_
      refine so_gno rfl (decide_eq_false c102) ?_
      refine so_gno rfl (decide_eq_false c102) ?_
      refine so_gno rfl (decide_eq_false c102) ?_
      refine so_gno rfl (decide_eq_false c102) ?_
      refine so_pick_f (v := (.v (.bool false))) rfl (decide_eq_false c102) rfl ?_
      refine so_move (v := (.v (.bool false))) rfl ?_
      refine so_gno rfl rfl ?_
      refine so_gno rfl rfl ?_
      refine so_gno rfl rfl ?_
      refine so_pick_f (v := (.v (.bool false))) rfl rfl rfl ?_
      refine so_assign (v := (.v (.bool false))) rfl ?_
      refine so_nil ?_
      exact by_ret rfl ⟨_, h, rfl, hs⟩
  · refine so_gno rfl (decide_eq_false c101) ?_
    refine so_gno rfl (decide_eq_false c101) ?_
    refine so_pick_f (v := (.v (.bool false))) rfl (decide_eq_false c101) rfl ?_
    refine so_move (v := (.v (.bool false))) rfl ?_
    refine so_gno rfl rfl ?_
    refine so_gno rfl rfl ?_
    refine so_gno rfl rfl ?_
    refine so_gno rfl rfl ?_
    refine so_gno rfl rfl ?_
    refine so_pick_f (v := (.v (.bool false))) rfl rfl rfl ?_
    refine so_move (v := (.v (.bool false))) rfl ?_
    refine so_gno rfl rfl ?_
    refine so_gno rfl rfl ?_
    refine so_gno rfl rfl ?_
    refine so_pick_f (v := (.v (.bool false))) rfl rfl rfl ?_
    refine so_assign (v := (.v (.bool false))) rfl ?_
    refine so_nil ?_
    exact by_ret rfl ⟨_, h, rfl, hs⟩
theorem impl_isLine_okS {fr : List Pc} {H : Heap} (v0 : AV) (l0 : List (Nat)) (hs : Sep H fr) (g0 : ∀ H, Sep H fr → Shows H v0 1 (enc (eFlt .f32) l0)) (K : Bool → Prop) (h : impl_isLine.wp l0 K) : OkQ Try.prog 28 [(.v v0)] H (fun r H2 => ∃ (y0 : Bool), K y0 ∧ r = (.v (.bool y0)) ∧ H = H2) := by
  obtain ⟨r, H2, h1, y0, hK, hr, hsep⟩ := impl_isLine_ok (fr := came H) (H := H) v0 l0 (came_sep H) (came_shows (g0 H hs)) K h
  have hk : H.n ≤ H2.n ∧ ∀ i, i < H.n → H2.f i = H.f i := hsep.1.2.1
  exact ⟨r, H, h1.forget hk.1 hk.2 (by subst hr; rfl), y0, hK, hr, rfl⟩

end Go.Proofs.Ytochgocgmeeppaa.G

namespace Go.Proofs.Ytochgocgmeeppaa.G
open Go Go.Ab Go.Proofs Go.Proofs.Ytochgocgmeeppaa
set_option maxRecDepth 100000
set_option linter.unusedVariables false
set_option linter.unusedSimpArgs false
set_option maxHeartbeats 1000000
attribute [local irreducible] wops wopf Go.Ab.Fin
theorem F30.sz25 : tsz Try.prog 25 = some 1 := by kernel_rfl
theorem F30.te31 : telem Try.prog 31 = some 25 := by kernel_rfl
theorem F30.ze25 : tzero Try.prog 25 = some [.nilsl] := by kernel_rfl
variable [Cls Try.prog]
theorem impl_finiteList_ok {fr : List Pc} {H : Heap} (v0 : AV) (l0 : List (Nat)) (hs : Sep H (fr)) (g0 : ∀ H, Sep H fr → Shows H v0 1 (enc (eFlt .f32) l0)) (K : Bool → Bool → Prop) (h : impl_finiteList.wp l0 K) : OkQ Try.prog 30 [(.v v0)] H (fun r H2 => ∃ (y0 : Bool) (y1 : Bool), K y0 y1 ∧ r = (.t [(.v (bif y0 then v0 else .nilsl)), (.v (.bool y1))]) ∧ Sep H2 (fr)) := by
  unfold impl_finiteList.wp at h
  refine of_body Try.f30 F.hm Try.func30 rfl Try.call30 (by kernel_rfl) (by simp) ?_
  refine fi_seq ?_
  refine fi_region ?_
  refine so_assign (v := (.v .nilsl)) rfl ?_
  refine so_assign (v := (.v (.bool false))) rfl ?_
  refine so_nil ?_
  refine fi_seq ?_
  refine fi_seq ?_
  refine fi_region ?_
  refine so_move (v := (.v v0)) rfl ?_
  refine sd_bslice hs [[v0]] F30.te31 F30.sz25 F30.ze25 rfl rfl rfl (by simp) (fac (stc (g0 _ hs).stor stn) fan) (by decide) rfl nofun (fun v101 H102 _ hs => ?_)
  refine sv_callS (impl_areFinite_ok v101 ([[v0]]) ([l0] : List (List (Nat))) hs (fun _ hs => ⟨hs.shows 0 rfl, by simp, ⟨⟨rfl, (g0 _ hs.tl)⟩, trivial⟩⟩) _ h) (fun _ _ ⟨_, _, _, e⟩ => e) rfl rfl ?_
  clear h
  rintro _ _ ⟨y104, h, rfl, rfl⟩
  refine so_un rfl au_not ?_
  refine so_nil ?_
  replace h := ofT h; rcases h with ⟨c106, h⟩ | ⟨c106, h⟩
  · refine fi_false rfl (not_f c106) ?_
    refine fi_skip ?_
    refine fi_seq ?_
    refine fi_region ?_
    refine so_move (v := (.v v0)) rfl ?_
    refine so_assign (v := (.v v0)) rfl ?_
    refine so_assign (v := (.v (.bool true))) rfl ?_
    refine so_nil ?_
    exact by_ret rfl ⟨_, _, h, rfl, (Sep.del 0 hs)⟩
  · refine fi_true rfl (not_t c106) ?_
    refine fi_seq ?_
    refine fi_region ?_
    refine so_assign (v := (.v .nilsl)) rfl ?_
    refine so_assign (v := (.v (.bool false))) rfl ?_
    refine so_nil ?_
    exact by_ret rfl ⟨_, _, h, rfl, (Sep.del 0 hs)⟩

end Go.Proofs.Ytochgocgmeeppaa.G

namespace Go.Proofs.Ytochgocgmeeppaa.G
open Go Go.Ab Go.Proofs Go.Proofs.Ytochgocgmeeppaa
set_option maxRecDepth 100000
set_option linter.unusedVariables false
set_option linter.unusedSimpArgs false
set_option maxHeartbeats 1000000
attribute [local irreducible] wops wopf Go.Ab.Fin
theorem F8.ag30 : tagg Try.prog 30 = some false := by kernel_rfl
theorem F8.by30 : tbytes Try.prog 30 = some 4 := by kernel_rfl
theorem F8.sz30 : tsz Try.prog 30 = some 1 := by kernel_rfl
theorem F8.ta25_25 : tapp Try.prog 25 25 = some (1, 4) := by kernel_rfl
theorem F8.te25 : telem Try.prog 25 = some 30 := by kernel_rfl
theorem F8.ti25 : (telem Try.prog 25).isSome = true := by kernel_rfl
theorem F8.tl25 : (telem Try.prog 25).bind (tsz Try.prog) = some 1 := by kernel_rfl
theorem F8.ze30 : tzero Try.prog 30 = some [(.flt .f32 (0 : Nat))] := by kernel_rfl
variable [Cls Try.prog]
theorem impl_SolveLine_ok {fr : List Pc} {H : Heap} (v0 : AV) (l0 : List (Nat)) (a1 : Nat) (hs : Sep H (fr)) (g0 : ∀ H, Sep H fr → Shows H v0 1 (enc (eFlt .f32) l0)) (K : (List (Nat)) → Bool → Prop) (h : impl_SolveLine.wp l0 a1 K) : OkQ Try.prog 8 [(.v v0), (.v (.flt .f32 a1))] H (fun r H2 => ∃ (y0 : List (Nat)) (y1 : Bool), K y0 y1 ∧ ∃ (w0_ : AV), r = (.t [(.v w0_), (.v (.bool y1))]) ∧ Sep H2 (Pc.osl w0_ 1 (enc (eFlt .f32) y0) :: fr)) := by
  unfold impl_SolveLine.wp at h
  refine of_body Try.f8 F.hm Try.func8 rfl Try.call8 (by kernel_rfl) (by simp) ?_
  refine fi_seq ?_
  refine fi_region ?_
  refine so_assign (v := (.v .nilsl)) rfl ?_
  refine so_assign (v := (.v (.bool false))) rfl ?_
  refine so_nil ?_
  refine fi_seq ?_
  refine fi_seq ?_
  refine fi_region ?_
  refine so_move (v := (.v v0)) rfl ?_
  refine sv_callS (impl_isLine_okS v0 l0 hs (fun _ hs => (g0 _ hs)) _ h) (fun _ _ ⟨_, _, _, e⟩ => e) rfl rfl ?_
  clear h
  rintro _ _ ⟨y101, h, rfl, rfl⟩
  refine so_un rfl au_not ?_
  refine so_move (v := (.v (.bool (!y101)))) rfl ?_
  replace h := ofT h; rcases h with ⟨c103, h⟩ | ⟨c103, h⟩
  · refine so_gyes rfl (not_f c103) ?_
    refine so_move (v := (.v (.flt .f32 a1))) rfl ?_
    refine so_gyes rfl (not_f c103) ?_
    refine sv_callS (impl_isOver_ok a1 hs  _ h) (fun _ _ ⟨_, _, _, e⟩ => e) rfl rfl ?_
    clear h
    rintro _ _ ⟨y104, h, rfl, rfl⟩
    refine so_gyes rfl (not_f c103) ?_
    refine so_un rfl au_not ?_
    refine so_pick_f (v := (.v (.bool (!y104)))) rfl (not_f c103) rfl ?_
    refine so_nil ?_
    replace h := ofT h; rcases h with ⟨c106, h⟩ | ⟨c106, h⟩
    · refine fi_false rfl (not_f c106) ?_
      refine fi_skip ?_
      refine fi_seq ?_
      refine fi_region ?_
      refine sv_bslice hs (eFlt .f32) ([] : List (Nat)) [] F8.te25 F8.sz30 F8.ze30 rfl rfl rfl rfl (fun _ => rfl) rfl (by decide) nofun (fun v107 H108 nv107 hs => ?_)
      refine sv_bslice hs (eFlt .f32) ([] : List (Nat)) [] F8.te25 F8.sz30 F8.ze30 rfl rfl rfl rfl (fun _ => rfl) rfl (by decide) nofun (fun v110 H111 nv110 hs => ?_)
      refine so_assign (v := (.v v107)) rfl ?_
      refine so_assign (v := (.v v110)) rfl ?_
      refine so_nil ?_
      refine fi_seq ?_
      refine fi_seq ?_
      refine fi_region ?_
      refine so_move (v := (.v v0)) rfl ?_
      refine sv_len (g0 _ hs.tl.tl) (fun _ => rfl) (by decide) rfl F8.ti25 ?_
      refine so_move (v := (.v (.int .i64 (0 : Int)))) rfl ?_
      refine so_nil ?_
      refine fi_block ?_
      refine fi_loop ?_
      refine fi_at [(0, (.v v0)), (1, (.v (.flt .f32 a1))), (6, (.v v107)), (7, (.v v110)), (25, (.v v0)), (26, (.v (.int .i64 (l0.length : Int)))), (27, (.v (.int .i64 (0 : Int))))] ⟨rfl, rfl, rfl, rfl, rfl, rfl, rfl, trivial⟩ ?_
      refine h (fun (g224 : List (Nat)) (d226 : List (Nat)) (x228 : Int) => ∀ (s : Nat → TV) (H : Heap) (v225 : AV) (nv225 : v225 ≠ .nilsl) (v227 : AV) (nv227 : v227 ≠ .nilsl), Sep H (Pc.osl v225 1 (enc (eFlt .f32) g224) :: Pc.osl v227 1 (enc (eFlt .f32) d226) :: fr) → Fin _ _ (updL s [(0, (.v v0)), (1, (.v (.flt .f32 a1))), (6, (.v v227)), (7, (.v v225)), (25, (.v v0)), (26, (.v (.int .i64 (l0.length : Int)))), (27, (.v (.int .i64 x228)))]) H _) ?_ _ _ _ nv110 _ nv107 hs
      intro g224 d226 x228 h s333 H334 v225 nv225 v227 nv227 hs
      refine fi_inLoop ?_
      refine fi_seq ?_
      refine fi_region ?_
      refine so_bin rfl rfl ab_lss ?_
      refine so_nil ?_
      refine fi_seq ?_
      replace h := ofP h; rcases h with ⟨c229, h⟩ | ⟨c229, h⟩
      · refine fi_true rfl (decide_eq_true c229) ?_
        refine fi_skip ?_
        refine fi_seq ?_
        refine fi_block ?_
        refine fi_seq ?_
        refine fi_region ?_
        refine so_move (v := (.v (.int .i64 x228))) rfl ?_
        obtain ⟨c230, h⟩ := h
        refine sv_idx (g0 _ hs.tl.tl) c230 (fun _ => rfl) (by decide) rfl rfl F8.tl25 ?_
        refine sv_cell (g0 _ hs.tl.tl) c230 (0 : Nat) 0 (fun x => (AV.flt .f32 x)) (fun _ => rfl) (fun _ => rfl) rfl F8.ag30 ?_
        refine so_assign (v := (.v (.int .i64 x228))) rfl ?_
        refine so_assign (v := (.v (.flt .f32 (l0.getD (x228).toNat (0 : Nat))))) rfl ?_
        refine so_nil ?_
        refine fi_seq ?_
        refine fi_region ?_
        refine so_move (v := (.v (.flt .f32 a1))) rfl ?_
        refine so_move (v := (.v (.flt .f32 a1))) rfl ?_
        refine so_bin rfl rfl ab_fmul ?_
        refine so_move (v := (.v (.flt .f32 (l0.getD (x228).toNat (0 : Nat))))) rfl ?_
        refine so_bin rfl rfl ab_fmul ?_
        refine so_assign (v := (.v (.flt .f32 (fop .mul .f32 (fop .mul .f32 a1 a1) (l0.getD (x228).toNat (0 : Nat)))))) rfl ?_
        refine so_nil ?_
        refine fi_seq ?_
        refine fi_seq ?_
        refine fi_region ?_
        refine so_move (v := (.v (.int .i64 x228))) rfl ?_
        refine so_bin rfl rfl ab_eql ?_
        refine so_nil ?_
        replace h := ofP h; rcases h with ⟨c231, h⟩ | ⟨c231, h⟩
        · refine fi_true rfl (decide_eq_true c231) ?_
          refine fi_seq ?_
          refine fi_region ?_
          refine so_move (v := (.v v227)) rfl ?_
          refine sv_bslice hs (eFlt .f32) ([(cz .f32 1073741824)] : List (Nat)) [[(.flt .f32 (cz .f32 1073741824))]] F8.te25 F8.sz30 F8.ze30 rfl rfl rfl rfl (fun _ => rfl) rfl (by decide) nofun (fun v232 H233 nv232 hs => ?_)
          obtain ⟨c237, h⟩ := h
          refine sv_app hs 2 rfl (hs.shows 0 rfl) (fun _ => rfl) (by decide) F8.ta25_25 (by decide) c237 rfl rfl nofun (fun v235 H236 kv235 hs => ?_)
          replace hs := hs.del 0
          have nv235 := kv235 nv227
          refine so_move (v := (.v v225)) rfl ?_
          refine so_move (v := (.v (.flt .f32 (fop .mul .f32 (fop .mul .f32 a1 a1) (l0.getD (x228).toNat (0 : Nat)))))) rfl ?_
          refine sv_bslice hs (eFlt .f32) ([(fop .mul .f32 (fop .mul .f32 a1 a1) (l0.getD (x228).toNat (0 : Nat)))] : List (Nat)) [[(.flt .f32 (fop .mul .f32 (fop .mul .f32 a1 a1) (l0.getD (x228).toNat (0 : Nat))))]] F8.te25 F8.sz30 F8.ze30 rfl rfl rfl rfl (fun _ => rfl) rfl (by decide) nofun (fun v238 H239 nv238 hs => ?_)
          obtain ⟨c243, h⟩ := h
          refine sv_app hs 1 rfl (hs.shows 0 rfl) (fun _ => rfl) (by decide) F8.ta25_25 (by decide) c243 rfl rfl nofun (fun v241 H242 kv241 hs => ?_)
          replace hs := hs.del 0
          have nv241 := kv241 nv225
          refine so_assign (v := (.v v235)) rfl ?_
          refine so_assign (v := (.v v241)) rfl ?_
          refine so_nil ?_
          refine fi_exit rfl ?_
          refine fi_region ?_
          refine so_bin rfl rfl ab_add ?_
          refine so_move (v := (.v (.int .i64 (IntKind.i64.wrap (x228 + (1 : Int)))))) rfl ?_
          refine so_nil ?_
          exact fi_at [(0, (.v v0)), (1, (.v (.flt .f32 a1))), (6, (.v v235)), (7, (.v v241)), (25, (.v v0)), (26, (.v (.int .i64 (l0.length : Int)))), (27, (.v (.int .i64 (IntKind.i64.wrap (x228 + (1 : Int))))))] ⟨rfl, rfl, rfl, rfl, rfl, rfl, rfl, trivial⟩ (h _ _ _ nv241 _ nv235 hs)
        · refine fi_false rfl (decide_eq_false c231) ?_
          refine fi_skip ?_
          refine fi_seq ?_
          refine fi_region ?_
          refine so_move (v := (.v v227)) rfl ?_
          refine so_move (v := (.v (.int .i64 x228))) rfl ?_
          refine so_bin rfl rfl ab_sub ?_
          obtain ⟨c244, h⟩ := h
          refine sv_idx (hs.shows 1 rfl) c244 (fun _ => rfl) (by decide) rfl rfl F8.tl25 ?_
          refine sv_cell (hs.shows 1 rfl) c244 (0 : Nat) 0 (fun x => (AV.flt .f32 x)) (fun _ => rfl) (fun _ => rfl) rfl F8.ag30 ?_
          refine so_bin rfl rfl ab_fquo ?_
          refine so_assign (v := (.v (.flt .f32 (fop .quo .f32 (cz .f32 3212836864) (d226.getD ((IntKind.i64.wrap (x228 - (1 : Int)))).toNat (0 : Nat)))))) rfl ?_
          refine so_nil ?_
          obtain ⟨c256, h⟩ := h
          obtain ⟨c257, h⟩ := h
          obtain ⟨c261, h⟩ := h
          obtain ⟨G262, k245, eG262, ek245, hs263_⟩ := hs.newHole
          obtain ⟨G264, k246, eG264, ek246, hs265_⟩ := hs263_.newHole
          obtain ⟨G266, k247, eG266, ek247, hs267_⟩ := hs265_.newHole
          obtain ⟨G268, k248, eG268, ek248, hs269_⟩ := hs267_.newHole
          obtain ⟨v253, ev253⟩ : ∃ v : AV, v = .sl k245 0 1 1 := ⟨_, rfl⟩
          have nv253 := sl_nn ev253
          obtain ⟨v255, ev255⟩ : ∃ v : AV, v = .sl k246 0 (d226.length + ([(fop .add .f32 (cz .f32 1073741824) (fop .quo .f32 (cz .f32 3212836864) (d226.getD ((IntKind.i64.wrap (x228 - (1 : Int)))).toNat (0 : Nat))))] : List (Nat)).length) 1 := ⟨_, rfl⟩
          have nv255 := sl_nn ev255
          obtain ⟨v258, ev258⟩ : ∃ v : AV, v = .sl k247 0 1 1 := ⟨_, rfl⟩
          have nv258 := sl_nn ev258
          obtain ⟨v260, ev260⟩ : ∃ v : AV, v = .sl k248 0 (g224.length + ([(fop .sub .f32 (fop .mul .f32 (fop .mul .f32 a1 a1) (l0.getD (x228).toNat (0 : Nat))) (fop .mul .f32 (fop .quo .f32 (cz .f32 3212836864) (d226.getD ((IntKind.i64.wrap (x228 - (1 : Int)))).toNat (0 : Nat))) (g224.getD ((IntKind.i64.wrap (x228 - (1 : Int)))).toNat (0 : Nat))))] : List (Nat)).length) 1 := ⟨_, rfl⟩
          have nv260 := sl_nn ev260
          have := hs269_.neH 3 2 rfl rfl
          have := hs269_.neH 3 1 rfl rfl
          have := hs269_.neH 3 0 rfl rfl
          have ne270 := hs269_.neS 3 4 rfl rfl nv227
          have ne271 := hs269_.neS 3 3 rfl rfl nv225
          have := hs269_.neH 2 1 rfl rfl
          have := hs269_.neH 2 0 rfl rfl
          have ne272 := hs269_.neS 2 4 rfl rfl nv227
          have ne273 := hs269_.neS 2 3 rfl rfl nv225
          have := hs269_.neH 1 0 rfl rfl
          have ne274 := hs269_.neS 1 4 rfl rfl nv227
          have ne275 := hs269_.neS 1 3 rfl rfl nv225
          have ne276 := hs269_.neS 0 4 rfl rfl nv227
          have ne277 := hs269_.neS 0 3 rfl rfl nv225
          have := hs269_.neSS 5 4 rfl rfl nv227 nv225
          obtain ⟨G278, eG278, hs279_⟩ := hs269_.fill 3 rfl (enc (eFlt .f32) ([(fop .add .f32 (cz .f32 1073741824) (fop .quo .f32 (cz .f32 3212836864) (d226.getD ((IntKind.i64.wrap (x228 - (1 : Int)))).toNat (0 : Nat))))] : List (Nat))) (by rw [enc_length (e := (eFlt .f32)) (n := 1) (fun _ => rfl)]; first | rfl | simp | (rw [List.length_append])) ev253
          obtain ⟨G280, eG280, hs281_⟩ := hs269_.fill 1 rfl (enc (eFlt .f32) ([(fop .sub .f32 (fop .mul .f32 (fop .mul .f32 a1 a1) (l0.getD (x228).toNat (0 : Nat))) (fop .mul .f32 (fop .quo .f32 (cz .f32 3212836864) (d226.getD ((IntKind.i64.wrap (x228 - (1 : Int)))).toNat (0 : Nat))) (g224.getD ((IntKind.i64.wrap (x228 - (1 : Int)))).toNat (0 : Nat))))] : List (Nat))) (by rw [enc_length (e := (eFlt .f32)) (n := 1) (fun _ => rfl)]; first | rfl | simp | (rw [List.length_append])) ev258
          obtain ⟨G284, eG284, hs285_⟩ := hs279_.kill 5 rfl nv227
          obtain ⟨G282, eG282, hs283_⟩ := hs285_.fill 2 rfl (enc (eFlt .f32) (d226 ++ ([(fop .add .f32 (cz .f32 1073741824) (fop .quo .f32 (cz .f32 3212836864) (d226.getD ((IntKind.i64.wrap (x228 - (1 : Int)))).toNat (0 : Nat))))] : List (Nat)))) (by rw [enc_length (e := (eFlt .f32)) (n := 1) (fun _ => rfl)]; first | rfl | simp | (rw [List.length_append])) ev255
          obtain ⟨G286, eG286, hs287_⟩ := hs279_.fill 1 rfl (enc (eFlt .f32) ([(fop .sub .f32 (fop .mul .f32 (fop .mul .f32 a1 a1) (l0.getD (x228).toNat (0 : Nat))) (fop .mul .f32 (fop .quo .f32 (cz .f32 3212836864) (d226.getD ((IntKind.i64.wrap (x228 - (1 : Int)))).toNat (0 : Nat))) (g224.getD ((IntKind.i64.wrap (x228 - (1 : Int)))).toNat (0 : Nat))))] : List (Nat))) (by rw [enc_length (e := (eFlt .f32)) (n := 1) (fun _ => rfl)]; first | rfl | simp | (rw [List.length_append])) ev258
          obtain ⟨G288, eG288, hs289_⟩ := hs283_.fill 1 rfl (enc (eFlt .f32) ([(fop .sub .f32 (fop .mul .f32 (fop .mul .f32 a1 a1) (l0.getD (x228).toNat (0 : Nat))) (fop .mul .f32 (fop .quo .f32 (cz .f32 3212836864) (d226.getD ((IntKind.i64.wrap (x228 - (1 : Int)))).toNat (0 : Nat))) (g224.getD ((IntKind.i64.wrap (x228 - (1 : Int)))).toNat (0 : Nat))))] : List (Nat))) (by rw [enc_length (e := (eFlt .f32)) (n := 1) (fun _ => rfl)]; first | rfl | simp | (rw [List.length_append])) ev258
          obtain ⟨G292, eG292, hs293_⟩ := hs289_.kill 4 rfl nv225
          obtain ⟨G290, eG290, hs291_⟩ := hs293_.fill 0 rfl (enc (eFlt .f32) (g224 ++ ([(fop .sub .f32 (fop .mul .f32 (fop .mul .f32 a1 a1) (l0.getD (x228).toNat (0 : Nat))) (fop .mul .f32 (fop .quo .f32 (cz .f32 3212836864) (d226.getD ((IntKind.i64.wrap (x228 - (1 : Int)))).toNat (0 : Nat))) (g224.getD ((IntKind.i64.wrap (x228 - (1 : Int)))).toNat (0 : Nat))))] : List (Nat)))) (by rw [enc_length (e := (eFlt .f32)) (n := 1) (fun _ => rfl)]; first | rfl | simp | (rw [List.length_append])) ev260
          refine fi_many [3, 4, 15, 16] (tblH G268 [([false, false, false, false], G268), ([true, false, false, false], G278), ([false, false, true, false], G280), ([true, true, false, false], G282), ([true, false, true, false], G286), ([true, true, true, false], G288), ([true, true, true, true], G290)]) 4 (by decide +kernel) (Eq.trans (b := G268) rfl (by rw [eG268, eG266, eG264, eG262]; rfl)) ?_
          refine wm_pure (G := G268) rfl (by kernel_rfl) ?_
          refine so_move (v := (.v v227)) rfl ?_
          refine so_end ?_
          refine wm_pure (G := G268) rfl (by kernel_rfl) ?_
          refine so_move (v := (.v (.flt .f32 (fop .quo .f32 (cz .f32 3212836864) (d226.getD ((IntKind.i64.wrap (x228 - (1 : Int)))).toNat (0 : Nat)))))) rfl ?_
          refine so_end ?_
          refine wm_pure (G := G268) rfl (by kernel_rfl) ?_
          refine so_bin rfl rfl ab_fadd ?_
          refine so_end ?_
          refine wm_step (.v v253) rfl (ms := [[false, false, false, false], [false, false, true, false]]) (by kernel_rfl) (fac (sm_bslice (len := 1) hs269_ 3 rfl (eFlt .f32) ([(fop .add .f32 (cz .f32 1073741824) (fop .quo .f32 (cz .f32 3212836864) (d226.getD ((IntKind.i64.wrap (x228 - (1 : Int)))).toNat (0 : Nat))))] : List (Nat)) [[(.flt .f32 (fop .add .f32 (cz .f32 1073741824) (fop .quo .f32 (cz .f32 3212836864) (d226.getD ((IntKind.i64.wrap (x228 - (1 : Int)))).toNat (0 : Nat)))))]] F8.te25 F8.sz30 F8.ze30 rfl rfl rfl rfl (fun _ => rfl) rfl (by decide) (refs_flt .f32) ev253 eG278) (fac (sm_bslice (len := 1) hs281_ 3 rfl (eFlt .f32) ([(fop .add .f32 (cz .f32 1073741824) (fop .quo .f32 (cz .f32 3212836864) (d226.getD ((IntKind.i64.wrap (x228 - (1 : Int)))).toNat (0 : Nat))))] : List (Nat)) [[(.flt .f32 (fop .add .f32 (cz .f32 1073741824) (fop .quo .f32 (cz .f32 3212836864) (d226.getD ((IntKind.i64.wrap (x228 - (1 : Int)))).toNat (0 : Nat)))))]] F8.te25 F8.sz30 F8.ze30 rfl rfl rfl rfl (fun _ => rfl) rfl (by decide) (refs_flt .f32) ev253 (show G286 = (G280).put k245 (.own (enc (eFlt .f32) ([(fop .add .f32 (cz .f32 1073741824) (fop .quo .f32 (cz .f32 3212836864) (d226.getD ((IntKind.i64.wrap (x228 - (1 : Int)))).toNat (0 : Nat))))] : List (Nat)))) from heap_ext (by simp only [eG286, eG278, eG280]; rfl) (fun i => by simp only [eG286, eG278, eG280, put_f]; (repeat' split) <;> first | rfl | (exfalso; omega)))) fan)) ?_
          refine wm_step (.v v255) rfl (ms := [[true, false, false, false], [true, false, true, false]]) (by kernel_rfl) (fac (sm_app hs279_ 2 5 rfl rfl nv227 (hs279_.shows 3 rfl) (fun _ => rfl) (by decide) F8.ta25_25 (by decide) c256 rfl rfl (refs_flt .f32) ne272 ev255 (show G282 = ((G278).put v227.id0 .gone).put k246 (.own (enc (eFlt .f32) (d226 ++ ([(fop .add .f32 (cz .f32 1073741824) (fop .quo .f32 (cz .f32 3212836864) (d226.getD ((IntKind.i64.wrap (x228 - (1 : Int)))).toNat (0 : Nat))))] : List (Nat))))) from by rw [eG282, eG284])) (fac (sm_app hs287_ 2 5 rfl rfl nv227 (hs287_.shows 3 rfl) (fun _ => rfl) (by decide) F8.ta25_25 (by decide) c256 rfl rfl (refs_flt .f32) ne272 ev255 (show G288 = ((G286).put v227.id0 .gone).put k246 (.own (enc (eFlt .f32) (d226 ++ ([(fop .add .f32 (cz .f32 1073741824) (fop .quo .f32 (cz .f32 3212836864) (d226.getD ((IntKind.i64.wrap (x228 - (1 : Int)))).toNat (0 : Nat))))] : List (Nat))))) from heap_ext (by simp only [eG288, eG282, eG284, eG278, eG286]; rfl) (fun i => by simp only [eG288, eG282, eG284, eG278, eG286, put_f]; (repeat' split) <;> first | rfl | (exfalso; omega)))) fan)) ?_
          refine wm_pure (G := G282) rfl (by kernel_rfl) ?_
          refine so_move (v := (.v v225)) rfl ?_
          refine so_end ?_
          refine wm_pure (G := G282) rfl (by kernel_rfl) ?_
          refine so_move (v := (.v (.flt .f32 (fop .mul .f32 (fop .mul .f32 a1 a1) (l0.getD (x228).toNat (0 : Nat)))))) rfl ?_
          refine so_end ?_
          refine wm_pure (G := G282) rfl (by kernel_rfl) ?_
          refine so_move (v := (.v (.flt .f32 (fop .quo .f32 (cz .f32 3212836864) (d226.getD ((IntKind.i64.wrap (x228 - (1 : Int)))).toNat (0 : Nat)))))) rfl ?_
          refine so_end ?_
          refine wm_pure (G := G282) rfl (by kernel_rfl) ?_
          refine so_move (v := (.v v225)) rfl ?_
          refine so_end ?_
          refine wm_pure (G := G282) rfl (by kernel_rfl) ?_
          refine so_move (v := (.v (.int .i64 x228))) rfl ?_
          refine so_end ?_
          refine wm_pure (G := G282) rfl (by kernel_rfl) ?_
          refine so_bin rfl rfl ab_sub ?_
          refine so_end ?_
          refine wm_step (.v (.ptr v225.id0 (v225.of0 + ((IntKind.i64.wrap (x228 - (1 : Int)))).toNat * 1))) rfl (ms := [[false, false, false, false], [true, false, false, false], [true, true, false, false]]) (by kernel_rfl) (fac (stepr (i := 0) rfl (by refine sv_idx (hs269_.shows 4 rfl) c257 (fun _ => rfl) (by decide) rfl rfl F8.tl25 ?_; exact so_end ⟨rfl, rfl⟩)) (fac (stepr (i := 0) rfl (by refine sv_idx (hs279_.shows 4 rfl) c257 (fun _ => rfl) (by decide) rfl rfl F8.tl25 ?_; exact so_end ⟨rfl, rfl⟩)) (fac (stepr (i := 0) rfl (by refine sv_idx (hs283_.shows 4 rfl) c257 (fun _ => rfl) (by decide) rfl rfl F8.tl25 ?_; exact so_end ⟨rfl, rfl⟩)) fan))) ?_
          refine wm_step (.v (.flt .f32 (g224.getD ((IntKind.i64.wrap (x228 - (1 : Int)))).toNat (0 : Nat)))) rfl (ms := [[false, false, false, false], [true, false, false, false], [true, true, false, false]]) (by kernel_rfl) (fac (stepr (i := 0) rfl (by refine sv_cell (hs269_.shows 4 rfl) c257 (0 : Nat) 0 (fun x => (AV.flt .f32 x)) (fun _ => rfl) (fun _ => rfl) rfl F8.ag30 ?_; exact so_end ⟨rfl, rfl⟩)) (fac (stepr (i := 0) rfl (by refine sv_cell (hs279_.shows 4 rfl) c257 (0 : Nat) 0 (fun x => (AV.flt .f32 x)) (fun _ => rfl) (fun _ => rfl) rfl F8.ag30 ?_; exact so_end ⟨rfl, rfl⟩)) (fac (stepr (i := 0) rfl (by refine sv_cell (hs283_.shows 4 rfl) c257 (0 : Nat) 0 (fun x => (AV.flt .f32 x)) (fun _ => rfl) (fun _ => rfl) rfl F8.ag30 ?_; exact so_end ⟨rfl, rfl⟩)) fan))) ?_
          refine wm_pure (G := G282) rfl (by kernel_rfl) ?_
          refine so_bin rfl rfl ab_fmul ?_
          refine so_end ?_
          refine wm_pure (G := G282) rfl (by kernel_rfl) ?_
          refine so_bin rfl rfl ab_fsub ?_
          refine so_end ?_
          refine wm_step (.v v258) rfl (ms := [[false, false, false, false], [true, false, false, false], [true, true, false, false]]) (by kernel_rfl) (fac (sm_bslice (len := 1) hs269_ 1 rfl (eFlt .f32) ([(fop .sub .f32 (fop .mul .f32 (fop .mul .f32 a1 a1) (l0.getD (x228).toNat (0 : Nat))) (fop .mul .f32 (fop .quo .f32 (cz .f32 3212836864) (d226.getD ((IntKind.i64.wrap (x228 - (1 : Int)))).toNat (0 : Nat))) (g224.getD ((IntKind.i64.wrap (x228 - (1 : Int)))).toNat (0 : Nat))))] : List (Nat)) [[(.flt .f32 (fop .sub .f32 (fop .mul .f32 (fop .mul .f32 a1 a1) (l0.getD (x228).toNat (0 : Nat))) (fop .mul .f32 (fop .quo .f32 (cz .f32 3212836864) (d226.getD ((IntKind.i64.wrap (x228 - (1 : Int)))).toNat (0 : Nat))) (g224.getD ((IntKind.i64.wrap (x228 - (1 : Int)))).toNat (0 : Nat)))))]] F8.te25 F8.sz30 F8.ze30 rfl rfl rfl rfl (fun _ => rfl) rfl (by decide) (refs_flt .f32) ev258 eG280) (fac (sm_bslice (len := 1) hs279_ 1 rfl (eFlt .f32) ([(fop .sub .f32 (fop .mul .f32 (fop .mul .f32 a1 a1) (l0.getD (x228).toNat (0 : Nat))) (fop .mul .f32 (fop .quo .f32 (cz .f32 3212836864) (d226.getD ((IntKind.i64.wrap (x228 - (1 : Int)))).toNat (0 : Nat))) (g224.getD ((IntKind.i64.wrap (x228 - (1 : Int)))).toNat (0 : Nat))))] : List (Nat)) [[(.flt .f32 (fop .sub .f32 (fop .mul .f32 (fop .mul .f32 a1 a1) (l0.getD (x228).toNat (0 : Nat))) (fop .mul .f32 (fop .quo .f32 (cz .f32 3212836864) (d226.getD ((IntKind.i64.wrap (x228 - (1 : Int)))).toNat (0 : Nat))) (g224.getD ((IntKind.i64.wrap (x228 - (1 : Int)))).toNat (0 : Nat)))))]] F8.te25 F8.sz30 F8.ze30 rfl rfl rfl rfl (fun _ => rfl) rfl (by decide) (refs_flt .f32) ev258 eG286) (fac (sm_bslice (len := 1) hs283_ 1 rfl (eFlt .f32) ([(fop .sub .f32 (fop .mul .f32 (fop .mul .f32 a1 a1) (l0.getD (x228).toNat (0 : Nat))) (fop .mul .f32 (fop .quo .f32 (cz .f32 3212836864) (d226.getD ((IntKind.i64.wrap (x228 - (1 : Int)))).toNat (0 : Nat))) (g224.getD ((IntKind.i64.wrap (x228 - (1 : Int)))).toNat (0 : Nat))))] : List (Nat)) [[(.flt .f32 (fop .sub .f32 (fop .mul .f32 (fop .mul .f32 a1 a1) (l0.getD (x228).toNat (0 : Nat))) (fop .mul .f32 (fop .quo .f32 (cz .f32 3212836864) (d226.getD ((IntKind.i64.wrap (x228 - (1 : Int)))).toNat (0 : Nat))) (g224.getD ((IntKind.i64.wrap (x228 - (1 : Int)))).toNat (0 : Nat)))))]] F8.te25 F8.sz30 F8.ze30 rfl rfl rfl rfl (fun _ => rfl) rfl (by decide) (refs_flt .f32) ev258 eG288) fan))) ?_
          refine wm_step (.v v260) rfl (ms := [[true, true, true, false]]) (by kernel_rfl) (fac (sm_app hs289_ 0 4 rfl rfl nv225 (hs289_.shows 1 rfl) (fun _ => rfl) (by decide) F8.ta25_25 (by decide) c261 rfl rfl (refs_flt .f32) ne277 ev260 (show G290 = ((G288).put v225.id0 .gone).put k248 (.own (enc (eFlt .f32) (g224 ++ ([(fop .sub .f32 (fop .mul .f32 (fop .mul .f32 a1 a1) (l0.getD (x228).toNat (0 : Nat))) (fop .mul .f32 (fop .quo .f32 (cz .f32 3212836864) (d226.getD ((IntKind.i64.wrap (x228 - (1 : Int)))).toNat (0 : Nat))) (g224.getD ((IntKind.i64.wrap (x228 - (1 : Int)))).toNat (0 : Nat))))] : List (Nat))))) from by rw [eG290, eG292])) fan) ?_
          refine wm_pure (G := G290) rfl (by kernel_rfl) ?_
          refine so_assign (v := (.v v255)) rfl ?_
          refine so_end ?_
          refine wm_pure (G := G290) rfl (by kernel_rfl) ?_
          refine so_assign (v := (.v v260)) rfl ?_
          refine so_end ?_
          replace hs := hs291_
          refine wm_nil (G := G290) rfl ?_
          refine fi_inBlock ?_
          refine fi_region ?_
          refine so_bin rfl rfl ab_add ?_
          refine so_move (v := (.v (.int .i64 (IntKind.i64.wrap (x228 + (1 : Int)))))) rfl ?_
          refine so_nil ?_
          exact fi_at [(0, (.v v0)), (1, (.v (.flt .f32 a1))), (6, (.v v255)), (7, (.v v260)), (25, (.v v0)), (26, (.v (.int .i64 (l0.length : Int)))), (27, (.v (.int .i64 (IntKind.i64.wrap (x228 + (1 : Int))))))] ⟨rfl, rfl, rfl, rfl, rfl, rfl, rfl, trivial⟩ (h _ _ _ nv260 _ nv255 (Sep.del 2 (Sep.del 1 hs)))
      · refine fi_false rfl (decide_eq_false c229) ?_
        refine fi_exit rfl ?_
        refine fi_seq ?_
        refine fi_region ?_
        refine so_move (v := (.v v0)) rfl ?_
        refine sv_len (g0 _ hs.tl.tl) (fun _ => rfl) (by decide) rfl F8.ti25 ?_
        obtain ⟨c294, h⟩ := h
        refine sv_make hs (eFlt .f32) (0 : Nat) c294 (fun _ => rfl) rfl rfl F8.te25 F8.sz30 F8.by30 F8.ze30 rfl rfl nofun (fun v295 H296 nv295 hs => ?_)
        refine so_assign (v := (.v v295)) rfl ?_
        refine so_nil ?_
        refine fi_seq ?_
        refine fi_seq ?_
        refine fi_region ?_
        refine so_move (v := (.v v0)) rfl ?_
        refine sv_len (g0 _ hs.tl.tl.tl) (fun _ => rfl) (by decide) rfl F8.ti25 ?_
        refine so_bin rfl rfl ab_sub ?_
        refine so_assign (v := (.v (.int .i64 (IntKind.i64.wrap ((l0.length : Int) - (1 : Int)))))) rfl ?_
        refine so_nil ?_
        refine fi_block ?_
        refine fi_loop ?_
        refine fi_at [(0, (.v v0)), (6, (.v v227)), (7, (.v v225)), (12, (.v v295)), (13, (.v (.int .i64 (IntKind.i64.wrap ((l0.length : Int) - (1 : Int))))))] ⟨rfl, rfl, rfl, rfl, rfl, trivial⟩ ?_
        refine h (fun (u315 : List (Nat)) (i316 : Int) => ∀ (s : Nat → TV) (H : Heap), Sep H (Pc.osl v295 1 (enc (eFlt .f32) u315) :: Pc.osl v225 1 (enc (eFlt .f32) g224) :: Pc.osl v227 1 (enc (eFlt .f32) d226) :: fr) → Fin _ _ (updL s [(0, (.v v0)), (6, (.v v227)), (7, (.v v225)), (12, (.v v295)), (13, (.v (.int .i64 i316)))]) H _) ?_ _ _ hs
        intro u315 i316 h s331 H332 hs
        refine fi_inLoop ?_
        refine fi_seq ?_
        refine fi_seq ?_
        refine fi_region ?_
        refine so_move (v := (.v (.int .i64 i316))) rfl ?_
        refine so_bin rfl rfl ab_geq ?_
        refine so_nil ?_
        replace h := ofP h; rcases h with ⟨c317, h⟩ | ⟨c317, h⟩
        · refine fi_true rfl (decide_eq_true c317) ?_
          refine fi_skip ?_
          refine fi_seq ?_
          refine fi_block ?_
          refine fi_seq ?_
          refine fi_region ?_
          refine so_move (v := (.v v225)) rfl ?_
          refine so_move (v := (.v (.int .i64 i316))) rfl ?_
          obtain ⟨c318, h⟩ := h
          refine sv_idx (hs.shows 1 rfl) c318 (fun _ => rfl) (by decide) rfl rfl F8.tl25 ?_
          refine sv_cell (hs.shows 1 rfl) c318 (0 : Nat) 0 (fun x => (AV.flt .f32 x)) (fun _ => rfl) (fun _ => rfl) rfl F8.ag30 ?_
          refine so_assign (v := (.v (.flt .f32 (g224.getD (i316).toNat (0 : Nat))))) rfl ?_
          refine so_nil ?_
          refine fi_seq ?_
          refine fi_seq ?_
          refine fi_region ?_
          refine so_move (v := (.v (.int .i64 i316))) rfl ?_
          refine so_bin rfl rfl ab_add ?_
          refine so_move (v := (.v v0)) rfl ?_
          refine sv_len (g0 _ hs.tl.tl.tl) (fun _ => rfl) (by decide) rfl F8.ti25 ?_
          refine so_bin rfl rfl ab_lss ?_
          refine so_nil ?_
          replace h := ofP h; rcases h with ⟨c319, h⟩ | ⟨c319, h⟩
          · refine fi_true rfl (decide_eq_true c319) ?_
            refine fi_region ?_
            refine so_move (v := (.v (.flt .f32 (g224.getD (i316).toNat (0 : Nat))))) rfl ?_
            refine so_move (v := (.v v295)) rfl ?_
            refine so_move (v := (.v (.int .i64 i316))) rfl ?_
            refine so_bin rfl rfl ab_add ?_
            obtain ⟨c320, h⟩ := h
            refine sv_idx (hs.shows 0 rfl) c320 (fun _ => rfl) (by decide) rfl rfl F8.tl25 ?_
            refine sv_cell (hs.shows 0 rfl) c320 (0 : Nat) 0 (fun x => (AV.flt .f32 x)) (fun _ => rfl) (fun _ => rfl) rfl F8.ag30 ?_
            refine so_bin rfl rfl ab_fadd ?_
            refine so_assign (v := (.v (.flt .f32 (fop .add .f32 (g224.getD (i316).toNat (0 : Nat)) (u315.getD ((IntKind.i64.wrap (i316 + (1 : Int)))).toNat (0 : Nat)))))) rfl ?_
            refine so_nil ?_
            refine fi_region ?_
            refine so_move (v := (.v v295)) rfl ?_
            refine so_move (v := (.v (.int .i64 i316))) rfl ?_
            refine so_move (v := (.v (.flt .f32 (fop .add .f32 (g224.getD (i316).toNat (0 : Nat)) (u315.getD ((IntKind.i64.wrap (i316 + (1 : Int)))).toNat (0 : Nat)))))) rfl ?_
            refine so_move (v := (.v v227)) rfl ?_
            refine so_move (v := (.v (.int .i64 i316))) rfl ?_
            obtain ⟨c321, h⟩ := h
            refine sv_idx (hs.shows 2 rfl) c321 (fun _ => rfl) (by decide) rfl rfl F8.tl25 ?_
            refine sv_cell (hs.shows 2 rfl) c321 (0 : Nat) 0 (fun x => (AV.flt .f32 x)) (fun _ => rfl) (fun _ => rfl) rfl F8.ag30 ?_
            refine so_bin rfl rfl ab_fquo ?_
            obtain ⟨c322, h⟩ := h
            refine sv_idx (hs.shows 0 rfl) c322 (fun _ => rfl) (by decide) rfl rfl F8.tl25 ?_
            refine sv_set hs 0 rfl c322 (fop .quo .f32 (fop .add .f32 (g224.getD (i316).toNat (0 : Nat)) (u315.getD ((IntKind.i64.wrap (i316 + (1 : Int)))).toNat (0 : Nat))) (d226.getD (i316).toNat (0 : Nat))) (fun _ => rfl) (by decide) rfl rfl rfl rfl F8.sz30 nofun (fun H323 hs => ?_)
            refine so_nil ?_
            refine fi_inBlock ?_
            refine fi_region ?_
            refine so_move (v := (.v (.int .i64 i316))) rfl ?_
            refine so_bin rfl rfl ab_sub ?_
            refine so_assign (v := (.v (.int .i64 (IntKind.i64.wrap (i316 - (1 : Int)))))) rfl ?_
            refine so_nil ?_
            exact fi_at [(0, (.v v0)), (6, (.v v227)), (7, (.v v225)), (12, (.v v295)), (13, (.v (.int .i64 (IntKind.i64.wrap (i316 - (1 : Int))))))] ⟨rfl, rfl, rfl, rfl, rfl, trivial⟩ (h _ _  hs)
          · refine fi_false rfl (decide_eq_false c319) ?_
            refine fi_skip ?_
            refine fi_region ?_
            refine so_move (v := (.v v295)) rfl ?_
            refine so_move (v := (.v (.int .i64 i316))) rfl ?_
            refine so_move (v := (.v (.flt .f32 (g224.getD (i316).toNat (0 : Nat))))) rfl ?_
            refine so_move (v := (.v v227)) rfl ?_
            refine so_move (v := (.v (.int .i64 i316))) rfl ?_
            obtain ⟨c324, h⟩ := h
            refine sv_idx (hs.shows 2 rfl) c324 (fun _ => rfl) (by decide) rfl rfl F8.tl25 ?_
            refine sv_cell (hs.shows 2 rfl) c324 (0 : Nat) 0 (fun x => (AV.flt .f32 x)) (fun _ => rfl) (fun _ => rfl) rfl F8.ag30 ?_
            refine so_bin rfl rfl ab_fquo ?_
            obtain ⟨c325, h⟩ := h
            refine sv_idx (hs.shows 0 rfl) c325 (fun _ => rfl) (by decide) rfl rfl F8.tl25 ?_
            refine sv_set hs 0 rfl c325 (fop .quo .f32 (g224.getD (i316).toNat (0 : Nat)) (d226.getD (i316).toNat (0 : Nat))) (fun _ => rfl) (by decide) rfl rfl rfl rfl F8.sz30 nofun (fun H326 hs => ?_)
            refine so_nil ?_
            refine fi_inBlock ?_
            refine fi_region ?_
            refine so_move (v := (.v (.int .i64 i316))) rfl ?_
            refine so_bin rfl rfl ab_sub ?_
            refine so_assign (v := (.v (.int .i64 (IntKind.i64.wrap (i316 - (1 : Int)))))) rfl ?_
            refine so_nil ?_
            exact fi_at [(0, (.v v0)), (6, (.v v227)), (7, (.v v225)), (12, (.v v295)), (13, (.v (.int .i64 (IntKind.i64.wrap (i316 - (1 : Int))))))] ⟨rfl, rfl, rfl, rfl, rfl, trivial⟩ (h _ _  hs)
        · refine fi_false rfl (decide_eq_false c317) ?_
          refine fi_exit rfl ?_
          refine fi_seq ?_
          refine fi_region ?_
          refine so_move (v := (.v v295)) rfl ?_
          refine sv_call (impl_finiteList_ok v295 u315 hs (fun _ hs => (hs.shows 0 rfl)) _ h) rfl rfl nofun ?_
          clear h hs
          rintro _ H329 ⟨y327, y328, h, rfl, hs⟩
          replace h := ofT h; rcases h with ⟨c330, h⟩ | ⟨c330, h⟩
          · subst c330
            refine so_extract rfl rfl rfl ?_
            refine so_extract rfl rfl rfl ?_
            refine so_assign (v := (.v v295)) rfl ?_
            refine so_assign (v := (.v (.bool y328))) rfl ?_
            refine so_nil ?_
            exact by_ret rfl ⟨_, _, h, _, rfl, (Sep.del 1 (Sep.del 1 hs))⟩
          · subst c330
            refine so_extract rfl rfl rfl ?_
            refine so_extract rfl rfl rfl ?_
            refine so_assign (v := (.v .nilsl)) rfl ?_
            refine so_assign (v := (.v (.bool y328))) rfl ?_
            refine so_nil ?_
            exact by_ret rfl ⟨_, _, h, _, rfl, (Sep.nil (Sep.del 0 (Sep.del 0 (Sep.del 0 hs))) 1)⟩
    · refine fi_true rfl (not_t c106) ?_
      refine fi_seq ?_
      refine fi_region ?_
      refine so_assign (v := (.v .nilsl)) rfl ?_
      refine so_assign (v := (.v (.bool false))) rfl ?_
      refine so_nil ?_
      exact by_ret rfl ⟨_, _, h, _, rfl, (Sep.nil hs 1)⟩
  · refine so_gno rfl (not_t c103) ?_
    refine so_gno rfl (not_t c103) ?_
    refine so_gno rfl (not_t c103) ?_
    refine so_pick_t (v := (.v (.bool true))) rfl (not_t c103) rfl ?_
    refine so_nil ?_
    refine fi_true rfl rfl ?_
    refine fi_seq ?_
    refine fi_region ?_
    refine so_assign (v := (.v .nilsl)) rfl ?_
    refine so_assign (v := (.v (.bool false))) rfl ?_
    refine so_nil ?_
    exact by_ret rfl ⟨_, _, h, _, rfl, (Sep.nil hs 1)⟩

end Go.Proofs.Ytochgocgmeeppaa.G

