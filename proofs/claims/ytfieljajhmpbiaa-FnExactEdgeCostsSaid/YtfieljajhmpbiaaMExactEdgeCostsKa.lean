/-
  The model ends so. Printed by a program of the session; nothing here is trusted.
-/
import Derived.Test.YtfieljajhmpbiaaProg
import Derived.KernelRfl
import Derived.Test.YtfieljajhmpbiaaMExactEdgeCostsWa
namespace Go.Proofs.Ytfieljajhmpbiaa.F
open Go Go.Ab Go.Proofs
set_option maxRecDepth 100000
set_option linter.unusedVariables false
set_option linter.unusedSimpArgs false
set_option maxHeartbeats 1000000
theorem hm : Try.prog.follows .mixedOrders = true := by kernel_rfl
end Go.Proofs.Ytfieljajhmpbiaa.F

namespace Go.Proofs.Ytfieljajhmpbiaa.G
open Go Go.Ab Go.Proofs Go.Proofs.Ytfieljajhmpbiaa
set_option maxRecDepth 100000
set_option linter.unusedVariables false
set_option linter.unusedSimpArgs false
set_option maxHeartbeats 1000000
theorem F32.ag2 : tagg Try.prog 2 = some false := by kernel_rfl
theorem F32.ti43 : (telem Try.prog 43).isSome = true := by kernel_rfl
theorem F32.tl43 : (telem Try.prog 43).bind (tsz Try.prog) = some 1 := by kernel_rfl
theorem laws_eqInt64S_ok {fr : List Pc} {H : Heap} (v0 : AV) (l0 : List (Int)) (v1 : AV) (l1 : List (Int)) (hs : Sep H (fr)) (g0 : ∀ H, Sep H fr → Shows H v0 1 (enc (eInt .i64) l0)) (g1 : ∀ H, Sep H fr → Shows H v1 1 (enc (eInt .i64) l1)) (K : Bool → Prop) (h : laws_eqInt64S.wp l0 l1 K) : OkQ Try.prog 32 [(.v v0), (.v v1)] H (fun r H2 => ∃ (y0 : Bool), K y0 ∧ r = (.v (.bool y0)) ∧ Sep H2 (fr)) := by
  unfold laws_eqInt64S.wp at h
  refine of_body Try.f32 F.hm Try.func32 rfl Try.call32 (by kernel_rfl) (by simp) ?_
  refine fi_seq ?_
  refine fi_region ?_
  refine so_assign rfl ?_
  refine so_nil ?_
  refine fi_seq ?_
  refine fi_seq ?_
  refine fi_region ?_
  refine so_move rfl ?_
  refine sv_len (g0 _ hs) (fun _ => rfl) (by decide) rfl F32.ti43 ?_
  refine so_move rfl ?_
  refine sv_len (g1 _ hs) (fun _ => rfl) (by decide) rfl F32.ti43 ?_
  refine so_bin rfl rfl ab_neq ?_
  refine so_nil ?_
  replace h := ofP h; rcases h with ⟨c101, h⟩ | ⟨c101, h⟩
  · refine fi_false rfl (not_f (decide_eq_true c101)) ?_
    refine fi_skip ?_
    refine fi_seq ?_
    refine fi_seq ?_
    refine fi_region ?_
    refine so_assign rfl ?_
    refine so_nil ?_
    refine fi_block ?_
    refine fi_loop ?_
    refine fi_at [(0, (.v v0)), (1, (.v v1)), (5, (.v (.int .i64 (0 : Int))))] ⟨rfl, rfl, rfl, trivial⟩ ?_
    refine h (fun (i103 : Int) => ∀ (s : Nat → TV) (H : Heap), Sep H (fr) → Fin _ _ (updL s [(0, (.v v0)), (1, (.v v1)), (5, (.v (.int .i64 i103)))]) H _) ?_ _ _ hs
    intro i103 h s108 H109 hs
    refine fi_inLoop ?_
    refine fi_seq ?_
    refine fi_seq ?_
    refine fi_region ?_
    refine so_move rfl ?_
    refine so_move rfl ?_
    refine sv_len (g0 _ hs) (fun _ => rfl) (by decide) rfl F32.ti43 ?_
    refine so_bin rfl rfl ab_lss ?_
    refine so_nil ?_
    replace h := ofP h; rcases h with ⟨c104, h⟩ | ⟨c104, h⟩
    · refine fi_true rfl (decide_eq_true c104) ?_
      refine fi_skip ?_
      refine fi_seq ?_
      refine fi_block ?_
      refine fi_seq ?_
      refine fi_region ?_
      refine so_move rfl ?_
      refine so_move rfl ?_
      obtain ⟨c105, h⟩ := h
      refine sv_idx (g0 _ hs) c105 (fun _ => rfl) (by decide) rfl rfl F32.tl43 ?_
      refine sv_cell (g0 _ hs) c105 (0 : Int) 0 (fun x => (AV.int .i64 x)) (fun _ => rfl) (fun _ => rfl) rfl F32.ag2 ?_
      refine so_move rfl ?_
      refine so_move rfl ?_
      obtain ⟨c106, h⟩ := h
      refine sv_idx (g1 _ hs) c106 (fun _ => rfl) (by decide) rfl rfl F32.tl43 ?_
      refine sv_cell (g1 _ hs) c106 (0 : Int) 0 (fun x => (AV.int .i64 x)) (fun _ => rfl) (fun _ => rfl) rfl F32.ag2 ?_
      refine so_bin rfl rfl ab_neq ?_
      refine so_nil ?_
      replace h := ofP h; rcases h with ⟨c107, h⟩ | ⟨c107, h⟩
      · refine fi_false rfl (not_f (decide_eq_true c107)) ?_
        refine fi_skip ?_
        refine fi_inBlock ?_
        refine fi_region ?_
        refine so_move rfl ?_
        refine so_bin rfl rfl ab_add ?_
        refine so_assign rfl ?_
        refine so_nil ?_
        exact fi_at [(0, (.v v0)), (1, (.v v1)), (5, (.v (.int .i64 (IntKind.i64.wrap (i103 + (1 : Int))))))] ⟨rfl, rfl, rfl, trivial⟩ (h _ _  hs)
      · refine fi_true rfl (not_t (decide_eq_false c107)) ?_
        refine fi_seq ?_
        refine fi_region ?_
        refine so_assign rfl ?_
        refine so_nil ?_
        exact by_ret rfl ⟨_, h, rfl, hs⟩
    · refine fi_false rfl (decide_eq_false c104) ?_
      refine fi_exit rfl ?_
      refine fi_seq ?_
      refine fi_region ?_
      refine so_assign rfl ?_
      refine so_nil ?_
      exact by_ret rfl ⟨_, h, rfl, hs⟩
  · refine fi_true rfl (not_t (decide_eq_false c101)) ?_
    refine fi_seq ?_
    refine fi_region ?_
    refine so_assign rfl ?_
    refine so_nil ?_
    exact by_ret rfl ⟨_, h, rfl, hs⟩

end Go.Proofs.Ytfieljajhmpbiaa.G

namespace Go.Proofs.Ytfieljajhmpbiaa.G
open Go Go.Ab Go.Proofs Go.Proofs.Ytfieljajhmpbiaa
set_option maxRecDepth 100000
set_option linter.unusedVariables false
set_option linter.unusedSimpArgs false
set_option maxHeartbeats 1000000
theorem F33.sz2 : tsz Try.prog 2 = some 1 := by kernel_rfl
theorem F33.ti43 : (telem Try.prog 43).isSome = true := by kernel_rfl
theorem F33.tl43 : (telem Try.prog 43).bind (tsz Try.prog) = some 1 := by kernel_rfl
theorem laws_markInt64S_ok {fr : List Pc} {H : Heap} (v0 : AV) (l0 : List (Int)) (a1 : Int) (hs : Sep H (Pc.osl v0 1 (enc (eInt .i64) l0) :: fr))  (K : Int → (List (Int)) → Prop) (h : laws_markInt64S.wp l0 a1 K) : OkQ Try.prog 33 [(.v v0), (.v (.int .i64 a1))] H (fun r H2 => ∃ (y0 : Int) (y1 : List (Int)), K y0 y1 ∧ r = (.v (.int .i64 y0)) ∧ Sep H2 (Pc.osl v0 1 (enc (eInt .i64) y1) :: fr)) := by
  unfold laws_markInt64S.wp at h
  refine of_body Try.f33 F.hm Try.func33 rfl Try.call33 (by kernel_rfl) (by simp) ?_
  refine fi_seq ?_
  refine fi_region ?_
  refine so_assign rfl ?_
  refine so_nil ?_
  refine fi_seq ?_
  refine fi_seq ?_
  refine fi_region ?_
  refine so_assign rfl ?_
  refine so_nil ?_
  refine fi_block ?_
  refine fi_loop ?_
  refine fi_at [(0, (.v v0)), (1, (.v (.int .i64 a1))), (5, (.v (.int .i64 (0 : Int))))] ⟨rfl, rfl, rfl, trivial⟩ ?_
  refine h (fun (a109 : List (Int)) (k110 : Int) (i111 : Int) => ∀ (s : Nat → TV) (H : Heap), Sep H (Pc.osl v0 1 (enc (eInt .i64) a109) :: fr) → Fin _ _ (updL s [(0, (.v v0)), (1, (.v (.int .i64 k110))), (5, (.v (.int .i64 i111)))]) H _) ?_ _ _ hs
  intro a109 k110 i111 h s115 H116 hs
  refine fi_inLoop ?_
  refine fi_seq ?_
  refine fi_seq ?_
  refine fi_region ?_
  refine so_move rfl ?_
  refine so_move rfl ?_
  refine sv_len (hs.shows 0 rfl) (fun _ => rfl) (by decide) rfl F33.ti43 ?_
  refine so_bin rfl rfl ab_lss ?_
  refine so_nil ?_
  replace h := ofP h; rcases h with ⟨c112, h⟩ | ⟨c112, h⟩
  · refine fi_true rfl (decide_eq_true c112) ?_
    refine fi_skip ?_
    refine fi_seq ?_
    refine fi_block ?_
    refine fi_seq ?_
    refine fi_region ?_
    refine so_move rfl ?_
    refine so_move rfl ?_
    refine so_move rfl ?_
    obtain ⟨c113, h⟩ := h
    refine sv_idx (hs.shows 0 rfl) c113 (fun _ => rfl) (by decide) rfl rfl F33.tl43 ?_
    refine sv_set hs 0 rfl c113 k110 (fun _ => rfl) (by decide) rfl rfl rfl rfl F33.sz2 nofun (fun H114 hs => ?_)
    refine so_nil ?_
    refine fi_region ?_
    refine so_move rfl ?_
    refine so_bin rfl rfl ab_add ?_
    refine so_assign rfl ?_
    refine so_nil ?_
    refine fi_inBlock ?_
    refine fi_region ?_
    refine so_move rfl ?_
    refine so_bin rfl rfl ab_add ?_
    refine so_assign rfl ?_
    refine so_nil ?_
    exact fi_at [(0, (.v v0)), (1, (.v (.int .i64 (IntKind.i64.wrap (k110 + (1 : Int)))))), (5, (.v (.int .i64 (IntKind.i64.wrap (i111 + (1 : Int))))))] ⟨rfl, rfl, rfl, trivial⟩ (h _ _  hs)
  · refine fi_false rfl (decide_eq_false c112) ?_
    refine fi_exit rfl ?_
    refine fi_seq ?_
    refine fi_region ?_
    refine so_move rfl ?_
    refine so_assign rfl ?_
    refine so_nil ?_
    exact by_ret rfl ⟨_, _, h, rfl, hs⟩

end Go.Proofs.Ytfieljajhmpbiaa.G

namespace Go.Proofs.Ytfieljajhmpbiaa.G
open Go Go.Ab Go.Proofs Go.Proofs.Ytfieljajhmpbiaa
set_option maxRecDepth 100000
set_option linter.unusedVariables false
set_option linter.unusedSimpArgs false
set_option maxHeartbeats 1000000
theorem F34.ag2 : tagg Try.prog 2 = some false := by kernel_rfl
theorem F34.ti43 : (telem Try.prog 43).isSome = true := by kernel_rfl
theorem F34.tl43 : (telem Try.prog 43).bind (tsz Try.prog) = some 1 := by kernel_rfl
theorem laws_heldInt64S_ok {fr : List Pc} {H : Heap} (v0 : AV) (l0 : List (Int)) (a1 : Int) (hs : Sep H (fr)) (g0 : ∀ H, Sep H fr → Shows H v0 1 (enc (eInt .i64) l0)) (K : Int → Prop) (h : laws_heldInt64S.wp l0 a1 K) : OkQ Try.prog 34 [(.v v0), (.v (.int .i64 a1))] H (fun r H2 => ∃ (y0 : Int), K y0 ∧ r = (.v (.int .i64 y0)) ∧ Sep H2 (fr)) := by
  unfold laws_heldInt64S.wp at h
  refine of_body Try.f34 F.hm Try.func34 rfl Try.call34 (by kernel_rfl) (by simp) ?_
  refine fi_seq ?_
  refine fi_region ?_
  refine so_assign rfl ?_
  refine so_nil ?_
  refine fi_seq ?_
  refine fi_seq ?_
  refine fi_region ?_
  refine so_assign rfl ?_
  refine so_nil ?_
  refine fi_block ?_
  refine fi_loop ?_
  refine fi_at [(0, (.v v0)), (1, (.v (.int .i64 a1))), (5, (.v (.int .i64 (0 : Int))))] ⟨rfl, rfl, rfl, trivial⟩ ?_
  refine h (fun (k102 : Int) (i103 : Int) => ∀ (s : Nat → TV) (H : Heap), Sep H (fr) → Fin _ _ (updL s [(0, (.v v0)), (1, (.v (.int .i64 k102))), (5, (.v (.int .i64 i103)))]) H _) ?_ _ _ hs
  intro k102 i103 h s107 H108 hs
  refine fi_inLoop ?_
  refine fi_seq ?_
  refine fi_seq ?_
  refine fi_region ?_
  refine so_move rfl ?_
  refine so_move rfl ?_
  refine sv_len (g0 _ hs) (fun _ => rfl) (by decide) rfl F34.ti43 ?_
  refine so_bin rfl rfl ab_lss ?_
  refine so_nil ?_
  replace h := ofP h; rcases h with ⟨c104, h⟩ | ⟨c104, h⟩
  · refine fi_true rfl (decide_eq_true c104) ?_
    refine fi_skip ?_
    refine fi_seq ?_
    refine fi_block ?_
    refine fi_seq ?_
    refine fi_seq ?_
    refine fi_region ?_
    refine so_move rfl ?_
    refine so_move rfl ?_
    obtain ⟨c105, h⟩ := h
    refine sv_idx (g0 _ hs) c105 (fun _ => rfl) (by decide) rfl rfl F34.tl43 ?_
    refine sv_cell (g0 _ hs) c105 (0 : Int) 0 (fun x => (AV.int .i64 x)) (fun _ => rfl) (fun _ => rfl) rfl F34.ag2 ?_
    refine so_move rfl ?_
    refine so_bin rfl rfl ab_neq ?_
    refine so_nil ?_
    replace h := ofP h; rcases h with ⟨c106, h⟩ | ⟨c106, h⟩
    · refine fi_false rfl (not_f (decide_eq_true c106)) ?_
      refine fi_skip ?_
      refine fi_region ?_
      refine so_move rfl ?_
      refine so_bin rfl rfl ab_add ?_
      refine so_assign rfl ?_
      refine so_nil ?_
      refine fi_inBlock ?_
      refine fi_region ?_
      refine so_move rfl ?_
      refine so_bin rfl rfl ab_add ?_
      refine so_assign rfl ?_
      refine so_nil ?_
      exact fi_at [(0, (.v v0)), (1, (.v (.int .i64 (IntKind.i64.wrap (k102 + (1 : Int)))))), (5, (.v (.int .i64 (IntKind.i64.wrap (i103 + (1 : Int))))))] ⟨rfl, rfl, rfl, trivial⟩ (h _ _  hs)
    · refine fi_true rfl (not_t (decide_eq_false c106)) ?_
      refine fi_seq ?_
      refine fi_region ?_
      refine so_assign rfl ?_
      refine so_nil ?_
      exact by_ret rfl ⟨_, h, rfl, hs⟩
  · refine fi_false rfl (decide_eq_false c104) ?_
    refine fi_exit rfl ?_
    refine fi_seq ?_
    refine fi_region ?_
    refine so_move rfl ?_
    refine so_assign rfl ?_
    refine so_nil ?_
    exact by_ret rfl ⟨_, h, rfl, hs⟩

end Go.Proofs.Ytfieljajhmpbiaa.G

namespace Go.Proofs.Ytfieljajhmpbiaa.G
open Go Go.Ab Go.Proofs Go.Proofs.Ytfieljajhmpbiaa
set_option maxRecDepth 100000
set_option linter.unusedVariables false
set_option linter.unusedSimpArgs false
set_option maxHeartbeats 1000000
theorem F38.ti51 : (telem Try.prog 51).isSome = true := by kernel_rfl
theorem laws_szCostS_ok {fr : List Pc} {H : Heap} (v0 : AV) (l0 : List ((Int) × (Nat))) (a1 : Int) (hs : Sep H (fr)) (g0 : ∀ H, Sep H fr → Shows H v0 2 (enc (ePair (eInt .i64) (eFlt .f32)) l0)) (K : Int → Prop) (h : laws_szCostS.wp l0 a1 K) : OkQ Try.prog 38 [(.v v0), (.v (.int .i64 a1))] H (fun r H2 => ∃ (y0 : Int), K y0 ∧ r = (.v (.int .i64 y0)) ∧ Sep H2 (fr)) := by
  unfold laws_szCostS.wp at h
  refine of_body Try.f38 F.hm Try.func38 rfl Try.call38 (by kernel_rfl) (by simp) ?_
  refine fi_seq ?_
  refine fi_region ?_
  refine so_assign rfl ?_
  refine so_nil ?_
  refine fi_seq ?_
  refine fi_region ?_
  refine so_move rfl ?_
  refine so_move rfl ?_
  refine sv_len (g0 _ hs) (fun _ => rfl) (by decide) rfl F38.ti51 ?_
  refine so_bin rfl rfl ab_sub ?_
  refine so_assign rfl ?_
  refine so_nil ?_
  refine fi_seq ?_
  refine fi_seq ?_
  refine fi_region ?_
  refine so_move rfl ?_
  refine so_bin rfl rfl ab_lss ?_
  refine so_nil ?_
  replace h := ofP h; rcases h with ⟨c101, h⟩ | ⟨c101, h⟩
  · refine fi_true rfl (decide_eq_true c101) ?_
    refine fi_seq ?_
    refine fi_region ?_
    refine so_assign rfl ?_
    refine so_nil ?_
    exact by_ret rfl ⟨_, h, rfl, hs⟩
  · refine fi_false rfl (decide_eq_false c101) ?_
    refine fi_skip ?_
    refine fi_seq ?_
    refine fi_region ?_
    refine so_move rfl ?_
    refine so_assign rfl ?_
    refine so_nil ?_
    exact by_ret rfl ⟨_, h, rfl, hs⟩

end Go.Proofs.Ytfieljajhmpbiaa.G

namespace Go.Proofs.Ytfieljajhmpbiaa.G
open Go Go.Ab Go.Proofs Go.Proofs.Ytfieljajhmpbiaa
set_option maxRecDepth 100000
set_option linter.unusedVariables false
set_option linter.unusedSimpArgs false
set_option maxHeartbeats 1000000
theorem spec_l00In_ok {fr : List Pc} {H : Heap} (a0 : Int) (a1 : Int) (a2 : Int) (hs : Sep H (fr))  (K : Bool → Prop) (h : spec_l00In.wp a0 a1 a2 K) : OkQ Try.prog 118 [(.v (.int .i64 a0)), (.v (.int .i64 a1)), (.v (.int .i64 a2))] H (fun r H2 => ∃ (y0 : Bool), K y0 ∧ r = (.v (.bool y0)) ∧ Sep H2 (fr)) := by
  unfold spec_l00In.wp at h
  refine of_body Try.f118 F.hm Try.func118 rfl Try.call118 (by kernel_rfl) (by simp) ?_
  refine fi_seq ?_
  refine fi_region ?_
  refine so_assign rfl ?_
  refine so_nil ?_
  refine fi_seq ?_
  refine fi_region ?_
  refine so_move rfl ?_
  refine so_move rfl ?_
  refine so_bin rfl rfl ab_geq ?_
  refine so_move rfl ?_
  replace h := ofP h; rcases h with ⟨c101, h⟩ | ⟨c101, h⟩
  · refine so_gyes rfl (decide_eq_true c101) ?_
    refine so_move rfl ?_
    refine so_gyes rfl (decide_eq_true c101) ?_
    refine so_move rfl ?_
    refine so_gyes rfl (decide_eq_true c101) ?_
    refine so_bin rfl rfl ab_leq ?_
    refine so_pick_t rfl (decide_eq_true c101) rfl ?_
    refine so_assign rfl ?_
    refine so_nil ?_
    exact by_ret rfl ⟨_, h, rfl, hs⟩
  · refine so_gno rfl (decide_eq_false c101) ?_
    refine so_gno rfl (decide_eq_false c101) ?_
    refine so_gno rfl (decide_eq_false c101) ?_
    refine so_pick_f rfl (decide_eq_false c101) rfl ?_
    refine so_assign rfl ?_
    refine so_nil ?_
    exact by_ret rfl ⟨_, h, rfl, hs⟩

end Go.Proofs.Ytfieljajhmpbiaa.G

namespace Go.Proofs.Ytfieljajhmpbiaa.G
open Go Go.Ab Go.Proofs Go.Proofs.Ytfieljajhmpbiaa
set_option maxRecDepth 100000
set_option linter.unusedVariables false
set_option linter.unusedSimpArgs false
set_option maxHeartbeats 1000000
theorem spec_l01Finite_ok {fr : List Pc} {H : Heap} (a0 : Nat) (hs : Sep H (fr))  (K : Bool → Prop) (h : spec_l01Finite.wp a0 K) : OkQ Try.prog 121 [(.v (.flt .f32 a0))] H (fun r H2 => ∃ (y0 : Bool), K y0 ∧ r = (.v (.bool y0)) ∧ Sep H2 (fr)) := by
  unfold spec_l01Finite.wp at h
  refine of_body Try.f121 F.hm Try.func121 rfl Try.call121 (by kernel_rfl) (by simp) ?_
  refine fi_seq ?_
  refine fi_region ?_
  refine so_assign rfl ?_
  refine so_nil ?_
  refine fi_seq ?_
  refine fi_region ?_
  refine so_move rfl ?_
  refine so_move rfl ?_
  refine so_bin rfl rfl ab_fsub ?_
  refine so_bin rfl rfl ab_feql ?_
  refine so_assign rfl ?_
  refine so_nil ?_
  exact by_ret rfl ⟨_, h, rfl, hs⟩

end Go.Proofs.Ytfieljajhmpbiaa.G

namespace Go.Proofs.Ytfieljajhmpbiaa.G
open Go Go.Ab Go.Proofs Go.Proofs.Ytfieljajhmpbiaa
set_option maxRecDepth 100000
set_option linter.unusedVariables false
set_option linter.unusedSimpArgs false
set_option maxHeartbeats 1000000
theorem spec_l02Least_ok {fr : List Pc} {H : Heap} (a0 : Nat) (hs : Sep H (fr))  (K : Bool → Prop) (h : spec_l02Least.wp a0 K) : OkQ Try.prog 98 [(.v (.flt .f32 a0))] H (fun r H2 => ∃ (y0 : Bool), K y0 ∧ r = (.v (.bool y0)) ∧ Sep H2 (fr)) := by
  unfold spec_l02Least.wp at h
  refine of_body Try.f98 F.hm Try.func98 rfl Try.call98 (by kernel_rfl) (by simp) ?_
  refine fi_seq ?_
  refine fi_region ?_
  refine so_assign rfl ?_
  refine so_nil ?_
  refine fi_seq ?_
  refine fi_region ?_
  refine so_move rfl ?_
  refine sv_call (spec_l01Finite_ok a0 hs  _ h) rfl rfl nofun ?_
  clear h hs
  rintro _ H102 ⟨y101, h, rfl, hs⟩
  refine so_move rfl ?_
  replace h := ofT h; rcases h with ⟨c103, h⟩ | ⟨c103, h⟩
  · refine so_gyes rfl c103 ?_
    refine so_move rfl ?_
    refine so_gyes rfl c103 ?_
    refine so_bin rfl rfl ab_fgeq ?_
    refine so_pick_t rfl c103 rfl ?_
    refine so_assign rfl ?_
    refine so_nil ?_
    exact by_ret rfl ⟨_, h, rfl, hs⟩
  · refine so_gno rfl c103 ?_
    refine so_gno rfl c103 ?_
    refine so_pick_f rfl c103 rfl ?_
    refine so_assign rfl ?_
    refine so_nil ?_
    exact by_ret rfl ⟨_, h, rfl, hs⟩

end Go.Proofs.Ytfieljajhmpbiaa.G

namespace Go.Proofs.Ytfieljajhmpbiaa.G
open Go Go.Ab Go.Proofs Go.Proofs.Ytfieljajhmpbiaa
set_option maxRecDepth 100000
set_option linter.unusedVariables false
set_option linter.unusedSimpArgs false
set_option maxHeartbeats 1000000
theorem F87.ag2 : tagg Try.prog 2 = some false := by kernel_rfl
theorem F87.ag36 : tagg Try.prog 36 = some false := by kernel_rfl
theorem F87.fd106_0 : tfield Try.prog 106 0 = some (0, 1, false) := by kernel_rfl
theorem F87.fd106_1 : tfield Try.prog 106 1 = some (1, 1, false) := by kernel_rfl
theorem F87.ti54 : (telem Try.prog 54).isSome = true := by kernel_rfl
theorem F87.tl54 : (telem Try.prog 54).bind (tsz Try.prog) = some 2 := by kernel_rfl
theorem spec_l07Costs_ok {fr : List Pc} {H : Heap} (v0 : AV) (l0 : List ((Int) × (Nat))) (hs : Sep H (fr)) (g0 : ∀ H, Sep H fr → Shows H v0 2 (enc (ePair (eInt .i64) (eFlt .f32)) l0)) (K : Bool → Prop) (h : spec_l07Costs.wp l0 K) : OkQ Try.prog 87 [(.v v0)] H (fun r H2 => ∃ (y0 : Bool), K y0 ∧ r = (.v (.bool y0)) ∧ Sep H2 (fr)) := by
  unfold spec_l07Costs.wp at h
  refine of_body Try.f87 F.hm Try.func87 rfl Try.call87 (by kernel_rfl) (by simp) ?_
  refine fi_seq ?_
  refine fi_region ?_
  refine so_assign rfl ?_
  refine so_nil ?_
  refine fi_seq ?_
  refine fi_region ?_
  refine so_move rfl ?_
  refine sv_len (g0 _ hs) (fun _ => rfl) (by decide) rfl F87.ti54 ?_
  refine so_assign rfl ?_
  refine so_nil ?_
  refine fi_seq ?_
  refine fi_seq ?_
  refine fi_region ?_
  refine so_move rfl ?_
  refine so_bin rfl rfl ab_lss ?_
  refine so_move rfl ?_
  replace h := ofP h; rcases h with ⟨c101, h⟩ | ⟨c101, h⟩
  · refine so_gno rfl (decide_eq_true c101) ?_
    refine so_gno rfl (decide_eq_true c101) ?_
    refine so_pick_t rfl (decide_eq_true c101) rfl ?_
    refine so_nil ?_
    refine fi_true rfl rfl ?_
    refine fi_seq ?_
    refine fi_region ?_
    refine so_assign rfl ?_
    refine so_nil ?_
    exact by_ret rfl ⟨_, h, rfl, hs⟩
  · refine so_gyes rfl (decide_eq_false c101) ?_
    refine so_move rfl ?_
    refine so_gyes rfl (decide_eq_false c101) ?_
    refine so_bin rfl rfl ab_gtr ?_
    refine so_pick_f rfl (decide_eq_false c101) rfl ?_
    refine so_nil ?_
    replace h := ofP h; rcases h with ⟨c102, h⟩ | ⟨c102, h⟩
    · refine fi_true rfl (decide_eq_true c102) ?_
      refine fi_seq ?_
      refine fi_region ?_
      refine so_assign rfl ?_
      refine so_nil ?_
      exact by_ret rfl ⟨_, h, rfl, hs⟩
    · refine fi_false rfl (decide_eq_false c102) ?_
      refine fi_skip ?_
      refine fi_seq ?_
      refine fi_seq ?_
      refine fi_region ?_
      refine so_move rfl ?_
      refine sv_len (g0 _ hs) (fun _ => rfl) (by decide) rfl F87.ti54 ?_
      refine so_move rfl ?_
      refine so_nil ?_
      refine fi_block ?_
      refine fi_loop ?_
      refine fi_at [(0, (.v v0)), (14, (.v (.int .i64 (l0.length : Int)))), (15, (.v (.int .i64 (0 : Int))))] ⟨rfl, rfl, rfl, trivial⟩ ?_
      refine h (fun (x104 : Int) => ∀ (s : Nat → TV) (H : Heap), Sep H (fr) → Fin _ _ (updL s [(0, (.v v0)), (14, (.v (.int .i64 (l0.length : Int)))), (15, (.v (.int .i64 x104)))]) H _) ?_ _ _ hs
      intro x104 h s117 H118 hs
      refine fi_inLoop ?_
      refine fi_seq ?_
      refine fi_region ?_
      refine so_bin rfl rfl ab_lss ?_
      refine so_nil ?_
      refine fi_seq ?_
      replace h := ofP h; rcases h with ⟨c105, h⟩ | ⟨c105, h⟩
      · refine fi_true rfl (decide_eq_true c105) ?_
        refine fi_skip ?_
        refine fi_seq ?_
        refine fi_block ?_
        refine fi_seq ?_
        refine fi_region ?_
        refine so_move rfl ?_
        refine so_assign rfl ?_
        refine so_nil ?_
        refine fi_seq ?_
        refine fi_seq ?_
        refine fi_region ?_
        refine so_move rfl ?_
        refine so_move rfl ?_
        obtain ⟨c106, h⟩ := h
        refine sv_idx (g0 _ hs) c106 (fun _ => rfl) (by decide) rfl rfl F87.tl54 ?_
        refine so_fieldAddr rfl F87.fd106_0 ?_
        refine sv_cell (g0 _ hs) c106 ((0 : Int), (0 : Nat)) 0 (fun x => (AV.int .i64 x.1)) (fun _ => rfl) (fun _ => rfl) rfl F87.ag2 ?_
        refine sv_call (spec_l00In_ok (l0.getD (x104).toNat ((0 : Int), (0 : Nat))).1 (0 : Int) (512 : Int) hs  _ h) rfl rfl nofun ?_
        clear h hs
        rintro _ H108 ⟨y107, h, rfl, hs⟩
        refine so_un rfl au_not ?_
        refine so_move rfl ?_
        replace h := ofT h; rcases h with ⟨c109, h⟩ | ⟨c109, h⟩
        · refine so_gyes rfl (not_f c109) ?_
          refine so_move rfl ?_
          refine so_gyes rfl (not_f c109) ?_
          refine so_move rfl ?_
          refine so_gyes rfl (not_f c109) ?_
          refine sv_idx (g0 _ hs) c106 (fun _ => rfl) (by decide) rfl rfl F87.tl54 ?_
          refine so_gyes rfl (not_f c109) ?_
          refine so_fieldAddr rfl F87.fd106_1 ?_
          refine so_gyes rfl (not_f c109) ?_
          refine sv_cell (g0 _ hs) c106 ((0 : Int), (0 : Nat)) 1 (fun x => (AV.flt .f32 x.2)) (fun _ => rfl) (fun _ => rfl) rfl F87.ag36 ?_
          refine so_gyes rfl (not_f c109) ?_
          refine sv_call (spec_l02Least_ok (l0.getD (x104).toNat ((0 : Int), (0 : Nat))).2 hs  _ h) rfl rfl nofun ?_
          clear h hs
          rintro _ H111 ⟨y110, h, rfl, hs⟩
          refine so_gyes rfl (not_f c109) ?_
          refine so_un rfl au_not ?_
          refine so_pick_f rfl (not_f c109) rfl ?_
          refine so_nil ?_
          replace h := ofT h; rcases h with ⟨c112, h⟩ | ⟨c112, h⟩
          · refine fi_false rfl (not_f c112) ?_
            refine fi_skip ?_
            refine fi_seq ?_
            refine fi_region ?_
            refine so_move rfl ?_
            refine so_bin rfl rfl ab_gtr ?_
            refine so_move rfl ?_
            replace h := ofP h; rcases h with ⟨c113, h⟩ | ⟨c113, h⟩
            · refine so_gyes rfl (decide_eq_true c113) ?_
              refine so_move rfl ?_
              refine so_gyes rfl (decide_eq_true c113) ?_
              refine so_move rfl ?_
              refine so_gyes rfl (decide_eq_true c113) ?_
              refine sv_idx (g0 _ hs) c106 (fun _ => rfl) (by decide) rfl rfl F87.tl54 ?_
              refine so_gyes rfl (decide_eq_true c113) ?_
              refine so_fieldAddr rfl F87.fd106_0 ?_
              refine so_gyes rfl (decide_eq_true c113) ?_
              refine sv_cell (g0 _ hs) c106 ((0 : Int), (0 : Nat)) 0 (fun x => (AV.int .i64 x.1)) (fun _ => rfl) (fun _ => rfl) rfl F87.ag2 ?_
              refine so_gyes rfl (decide_eq_true c113) ?_
              refine so_move rfl ?_
              refine so_gyes rfl (decide_eq_true c113) ?_
              refine so_move rfl ?_
              refine so_gyes rfl (decide_eq_true c113) ?_
              refine so_bin rfl rfl ab_sub ?_
              refine so_gyes rfl (decide_eq_true c113) ?_
              obtain ⟨c114, h⟩ := h
              refine sv_idx (g0 _ hs) c114 (fun _ => rfl) (by decide) rfl rfl F87.tl54 ?_
              refine so_gyes rfl (decide_eq_true c113) ?_
              refine so_fieldAddr rfl F87.fd106_0 ?_
              refine so_gyes rfl (decide_eq_true c113) ?_
              refine sv_cell (g0 _ hs) c114 ((0 : Int), (0 : Nat)) 0 (fun x => (AV.int .i64 x.1)) (fun _ => rfl) (fun _ => rfl) rfl F87.ag2 ?_
              refine so_gyes rfl (decide_eq_true c113) ?_
              refine so_bin rfl rfl ab_leq ?_
              refine so_gyes rfl (decide_eq_true c113) ?_
              refine so_move rfl ?_
              replace h := ofP h; rcases h with ⟨c115, h⟩ | ⟨c115, h⟩
              · refine so_gno rfl (decide_eq_true c115) ?_
                refine so_gno rfl (decide_eq_true c115) ?_
                refine so_gno rfl (decide_eq_true c115) ?_
                refine so_gno rfl (decide_eq_true c115) ?_
                refine so_gno rfl (decide_eq_true c115) ?_
                refine so_gno rfl (decide_eq_true c115) ?_
                refine so_gno rfl (decide_eq_true c115) ?_
                refine so_gno rfl (decide_eq_true c115) ?_
                refine so_gno rfl (decide_eq_true c115) ?_
                refine so_gno rfl (decide_eq_true c115) ?_
                refine so_gno rfl (decide_eq_true c115) ?_
                refine so_gno rfl (decide_eq_true c115) ?_
                refine so_gyes rfl (decide_eq_true c113) ?_
                refine so_pick_t rfl (decide_eq_true c115) rfl ?_
                refine so_pick_t rfl (decide_eq_true c113) rfl ?_
                refine so_nil ?_
                refine fi_true rfl rfl ?_
                refine fi_seq ?_
                refine fi_region ?_
                refine so_assign rfl ?_
                refine so_nil ?_
                exact by_ret rfl ⟨_, h, rfl, hs⟩
              · refine so_gyes rfl (decide_eq_false c115) ?_
                refine so_move rfl ?_
                refine so_gyes rfl (decide_eq_false c115) ?_
                refine so_move rfl ?_
                refine so_gyes rfl (decide_eq_false c115) ?_
                refine sv_idx (g0 _ hs) c106 (fun _ => rfl) (by decide) rfl rfl F87.tl54 ?_
                refine so_gyes rfl (decide_eq_false c115) ?_
                refine so_fieldAddr rfl F87.fd106_1 ?_
                refine so_gyes rfl (decide_eq_false c115) ?_
                refine sv_cell (g0 _ hs) c106 ((0 : Int), (0 : Nat)) 1 (fun x => (AV.flt .f32 x.2)) (fun _ => rfl) (fun _ => rfl) rfl F87.ag36 ?_
                refine so_gyes rfl (decide_eq_false c115) ?_
                refine so_move rfl ?_
                refine so_gyes rfl (decide_eq_false c115) ?_
                refine so_move rfl ?_
                refine so_gyes rfl (decide_eq_false c115) ?_
                refine so_bin rfl rfl ab_sub ?_
                refine so_gyes rfl (decide_eq_false c115) ?_
                refine sv_idx (g0 _ hs) c114 (fun _ => rfl) (by decide) rfl rfl F87.tl54 ?_
                refine so_gyes rfl (decide_eq_false c115) ?_
                refine so_fieldAddr rfl F87.fd106_1 ?_
                refine so_gyes rfl (decide_eq_false c115) ?_
                refine sv_cell (g0 _ hs) c114 ((0 : Int), (0 : Nat)) 1 (fun x => (AV.flt .f32 x.2)) (fun _ => rfl) (fun _ => rfl) rfl F87.ag36 ?_
                refine so_gyes rfl (decide_eq_false c115) ?_
                refine so_bin rfl rfl ab_fgeq ?_
                refine so_gyes rfl (decide_eq_true c113) ?_
                refine so_pick_f rfl (decide_eq_false c115) rfl ?_
                refine so_pick_t rfl (decide_eq_true c113) rfl ?_
                refine so_nil ?_
                replace h := ofT h; rcases h with ⟨c116, h⟩ | ⟨c116, h⟩
                · refine fi_true rfl c116 ?_
                  refine fi_seq ?_
                  refine fi_region ?_
                  refine so_assign rfl ?_
                  refine so_nil ?_
                  exact by_ret rfl ⟨_, h, rfl, hs⟩
                · refine fi_false rfl c116 ?_
                  refine fi_skip ?_
                  refine fi_inBlock ?_
                  refine fi_region ?_
                  refine so_bin rfl rfl ab_add ?_
                  refine so_move rfl ?_
                  refine so_nil ?_
                  exact fi_at [(0, (.v v0)), (14, (.v (.int .i64 (l0.length : Int)))), (15, (.v (.int .i64 (IntKind.i64.wrap (x104 + (1 : Int))))))] ⟨rfl, rfl, rfl, trivial⟩ (h _ _  hs)
            · refine so_gno rfl (decide_eq_false c113) ?_
              refine so_gno rfl (decide_eq_false c113) ?_
              refine so_gno rfl (decide_eq_false c113) ?_
              refine so_gno rfl (decide_eq_false c113) ?_
              refine so_gno rfl (decide_eq_false c113) ?_
              refine so_gno rfl (decide_eq_false c113) ?_
              refine so_gno rfl (decide_eq_false c113) ?_
              refine so_gno rfl (decide_eq_false c113) ?_
              refine so_gno rfl (decide_eq_false c113) ?_
              refine so_gno rfl (decide_eq_false c113) ?_
              refine so_gno rfl (decide_eq_false c113) ?_
              refine so_gno rfl (decide_eq_false c113) ?_
              refine so_gno rfl (decide_eq_false c113) ?_
              refine so_gund rfl ?_
              refine so_gund rfl ?_
              refine so_gund rfl ?_
              refine so_gund rfl ?_
              refine so_gund rfl ?_
              refine so_gund rfl ?_
              refine so_gund rfl ?_
              refine so_gund rfl ?_
              refine so_gund rfl ?_
              refine so_gund rfl ?_
              refine so_gund rfl ?_
              refine so_gund rfl ?_
              refine so_gno rfl (decide_eq_false c113) ?_
              refine so_pick_f rfl (decide_eq_false c113) rfl ?_
              refine so_nil ?_
              refine fi_false rfl rfl ?_
              refine fi_skip ?_
              refine fi_inBlock ?_
              refine fi_region ?_
              refine so_bin rfl rfl ab_add ?_
              refine so_move rfl ?_
              refine so_nil ?_
              exact fi_at [(0, (.v v0)), (14, (.v (.int .i64 (l0.length : Int)))), (15, (.v (.int .i64 (IntKind.i64.wrap (x104 + (1 : Int))))))] ⟨rfl, rfl, rfl, trivial⟩ (h _ _  hs)
          · refine fi_true rfl (not_t c112) ?_
            refine fi_seq ?_
            refine fi_region ?_
            refine so_assign rfl ?_
            refine so_nil ?_
            exact by_ret rfl ⟨_, h, rfl, hs⟩
        · refine so_gno rfl (not_t c109) ?_
          refine so_gno rfl (not_t c109) ?_
          refine so_gno rfl (not_t c109) ?_
          refine so_gno rfl (not_t c109) ?_
          refine so_gno rfl (not_t c109) ?_
          refine so_gno rfl (not_t c109) ?_
          refine so_gno rfl (not_t c109) ?_
          refine so_pick_t rfl (not_t c109) rfl ?_
          refine so_nil ?_
          refine fi_true rfl rfl ?_
          refine fi_seq ?_
          refine fi_region ?_
          refine so_assign rfl ?_
          refine so_nil ?_
          exact by_ret rfl ⟨_, h, rfl, hs⟩
      · refine fi_false rfl (decide_eq_false c105) ?_
        refine fi_exit rfl ?_
        refine fi_seq ?_
        refine fi_region ?_
        refine so_assign rfl ?_
        refine so_nil ?_
        exact by_ret rfl ⟨_, h, rfl, hs⟩

end Go.Proofs.Ytfieljajhmpbiaa.G

namespace Go.Proofs.Ytfieljajhmpbiaa.G
open Go Go.Ab Go.Proofs Go.Proofs.Ytfieljajhmpbiaa
set_option maxRecDepth 100000
set_option linter.unusedVariables false
set_option linter.unusedSimpArgs false
set_option maxHeartbeats 1000000
theorem F39.ag2 : tagg Try.prog 2 = some false := by kernel_rfl
theorem F39.ag36 : tagg Try.prog 36 = some false := by kernel_rfl
theorem F39.fd106_0 : tfield Try.prog 106 0 = some (0, 1, false) := by kernel_rfl
theorem F39.fd106_1 : tfield Try.prog 106 1 = some (1, 1, false) := by kernel_rfl
theorem F39.fl36 : tflt Try.prog 36 = some .f32 := by kernel_rfl
theorem F39.in36 : tint Try.prog 36 = none := by kernel_rfl
theorem F39.sz2 : tsz Try.prog 2 = some 1 := by kernel_rfl
theorem F39.ta43_43 : tapp Try.prog 43 43 = some (1, 8) := by kernel_rfl
theorem F39.te43 : telem Try.prog 43 = some 2 := by kernel_rfl
theorem F39.ti54 : (telem Try.prog 54).isSome = true := by kernel_rfl
theorem F39.tl54 : (telem Try.prog 54).bind (tsz Try.prog) = some 2 := by kernel_rfl
theorem F39.us2 : (Try.prog.underlying 2).isSome = true := by kernel_rfl
theorem F39.ze2 : tzero Try.prog 2 = some [(.int .i64 (0 : Int))] := by kernel_rfl
theorem spec_EdgeCosts_ok {fr : List Pc} {H : Heap} (v0 : AV) (l0 : List ((Int) × (Nat))) (hs : Sep H (fr)) (g0 : ∀ H, Sep H fr → Shows H v0 2 (enc (ePair (eInt .i64) (eFlt .f32)) l0)) (K : (List (Int)) → Bool → Prop) (h : spec_EdgeCosts.wp l0 K) : OkQ Try.prog 39 [(.v v0)] H (fun r H2 => ∃ (y0 : List (Int)) (y1 : Bool), K y0 y1 ∧ ∃ (w0_ : AV), r = (.t [(.v w0_), (.v (.bool y1))]) ∧ Sep H2 (Pc.osl w0_ 1 (enc (eInt .i64) y0) :: fr)) := by
  unfold spec_EdgeCosts.wp at h
  refine of_body Try.f39 F.hm Try.func39 rfl Try.call39 (by kernel_rfl) (by simp) ?_
  refine fi_seq ?_
  refine fi_region ?_
  refine so_assign rfl ?_
  refine so_assign rfl ?_
  refine so_nil ?_
  refine fi_seq ?_
  refine fi_seq ?_
  refine fi_region ?_
  refine so_move rfl ?_
  refine sv_call (spec_l07Costs_ok v0 l0 hs (fun _ hs => (g0 _ hs)) _ h) rfl rfl nofun ?_
  clear h hs
  rintro _ H102 ⟨y101, h, rfl, hs⟩
  refine so_un rfl au_not ?_
  refine so_nil ?_
  replace h := ofT h; rcases h with ⟨c103, h⟩ | ⟨c103, h⟩
  · refine fi_false rfl (not_f c103) ?_
    refine fi_skip ?_
    refine fi_seq ?_
    refine fi_region ?_
    refine sv_bslice hs (eInt .i64) ([(0 : Int)] : List (Int)) [[(.int .i64 (0 : Int))]] F39.te43 F39.sz2 F39.ze2 rfl rfl rfl rfl (fun _ => rfl) rfl (by decide) nofun (fun v104 H105 nv104 hs => ?_)
    refine so_assign rfl ?_
    refine so_nil ?_
    refine fi_seq ?_
    refine fi_region ?_
    refine so_assign rfl ?_
    refine so_nil ?_
    refine fi_seq ?_
    refine fi_block ?_
    refine fi_loop ?_
    refine fi_at [(0, (.v v0)), (4, (.v v104)), (5, (.v (.int .i64 (0 : Int))))] ⟨rfl, rfl, rfl, trivial⟩ ?_
    refine h (fun (out130 : List (Int)) (atq132 : Int) => ∀ (s : Nat → TV) (H : Heap) (v131 : AV) (nv131 : v131 ≠ .nilsl), Sep H (Pc.osl v131 1 (enc (eInt .i64) out130) :: fr) → Fin _ _ (updL s [(0, (.v v0)), (4, (.v v131)), (5, (.v (.int .i64 atq132)))]) H _) ?_ _ _ _ nv104 hs
    intro out130 atq132 h s151 H152 v131 nv131 hs
    refine fi_inLoop ?_
    refine fi_seq ?_
    refine fi_seq ?_
    refine fi_region ?_
    refine so_move rfl ?_
    refine so_bin rfl rfl ab_add ?_
    refine so_move rfl ?_
    refine sv_len (g0 _ hs.tl) (fun _ => rfl) (by decide) rfl F39.ti54 ?_
    refine so_bin rfl rfl ab_lss ?_
    refine so_nil ?_
    replace h := ofP h; rcases h with ⟨c133, h⟩ | ⟨c133, h⟩
    · refine fi_true rfl (decide_eq_true c133) ?_
      refine fi_skip ?_
      refine fi_block ?_
      refine fi_seq ?_
      refine fi_region ?_
      refine so_move rfl ?_
      refine so_bin rfl rfl ab_add ?_
      refine so_assign rfl ?_
      refine so_nil ?_
      refine fi_seq ?_
      refine fi_region ?_
      refine so_assign rfl ?_
      refine so_nil ?_
      refine fi_seq ?_
      refine fi_seq ?_
      refine fi_region ?_
      refine so_move rfl ?_
      refine so_bin rfl rfl ab_add ?_
      refine so_assign rfl ?_
      refine so_nil ?_
      refine fi_block ?_
      refine fi_loop ?_
      refine fi_at [(0, (.v v0)), (4, (.v v131)), (5, (.v (.int .i64 atq132))), (6, (.v (.int .i64 (IntKind.i64.wrap (atq132 + (1 : Int)))))), (7, (.v (.flt .f32 (cz .f32 0)))), (8, (.v (.int .i64 (IntKind.i64.wrap (atq132 + (1 : Int))))))] ⟨rfl, rfl, rfl, rfl, rfl, rfl, trivial⟩ ?_
      refine h (fun (best135 : Int) (top136 : Nat) (k137 : Int) => ∀ (s : Nat → TV) (H : Heap), Sep H (Pc.osl v131 1 (enc (eInt .i64) out130) :: fr) → Fin _ _ (updL s [(0, (.v v0)), (4, (.v v131)), (5, (.v (.int .i64 atq132))), (6, (.v (.int .i64 best135))), (7, (.v (.flt .f32 top136))), (8, (.v (.int .i64 k137)))]) H _) ?_ _ _ hs
      intro best135 top136 k137 h s149 H150 hs
      refine fi_inLoop ?_
      refine fi_seq ?_
      refine fi_seq ?_
      refine fi_region ?_
      refine so_move rfl ?_
      refine so_move rfl ?_
      refine sv_len (g0 _ hs.tl) (fun _ => rfl) (by decide) rfl F39.ti54 ?_
      refine so_bin rfl rfl ab_lss ?_
      refine so_nil ?_
      replace h := ofP h; rcases h with ⟨c138, h⟩ | ⟨c138, h⟩
      · refine fi_true rfl (decide_eq_true c138) ?_
        refine fi_skip ?_
        refine fi_seq ?_
        refine fi_block ?_
        refine fi_seq ?_
        refine fi_region ?_
        refine so_move rfl ?_
        refine so_move rfl ?_
        obtain ⟨c139, h⟩ := h
        refine sv_idx (g0 _ hs.tl) c139 (fun _ => rfl) (by decide) rfl rfl F39.tl54 ?_
        refine so_fieldAddr rfl F39.fd106_1 ?_
        refine sv_cell (g0 _ hs.tl) c139 ((0 : Int), (0 : Nat)) 1 (fun x => (AV.flt .f32 x.2)) (fun _ => rfl) (fun _ => rfl) rfl F39.ag36 ?_
        refine so_move rfl ?_
        refine so_move rfl ?_
        obtain ⟨c140, h⟩ := h
        refine sv_idx (g0 _ hs.tl) c140 (fun _ => rfl) (by decide) rfl rfl F39.tl54 ?_
        refine so_fieldAddr rfl F39.fd106_1 ?_
        refine sv_cell (g0 _ hs.tl) c140 ((0 : Int), (0 : Nat)) 1 (fun x => (AV.flt .f32 x.2)) (fun _ => rfl) (fun _ => rfl) rfl F39.ag36 ?_
        refine so_bin rfl rfl ab_fsub ?_
        refine so_move rfl ?_
        refine so_move rfl ?_
        refine sv_idx (g0 _ hs.tl) c140 (fun _ => rfl) (by decide) rfl rfl F39.tl54 ?_
        refine so_fieldAddr rfl F39.fd106_0 ?_
        refine sv_cell (g0 _ hs.tl) c140 ((0 : Int), (0 : Nat)) 0 (fun x => (AV.int .i64 x.1)) (fun _ => rfl) (fun _ => rfl) rfl F39.ag2 ?_
        refine so_move rfl ?_
        refine so_move rfl ?_
        refine sv_idx (g0 _ hs.tl) c139 (fun _ => rfl) (by decide) rfl rfl F39.tl54 ?_
        refine so_fieldAddr rfl F39.fd106_0 ?_
        refine sv_cell (g0 _ hs.tl) c139 ((0 : Int), (0 : Nat)) 0 (fun x => (AV.int .i64 x.1)) (fun _ => rfl) (fun _ => rfl) rfl F39.ag2 ?_
        refine so_bin rfl rfl ab_sub ?_
        refine sv_if rfl F39.us2 F39.in36 F39.fl36 ?_
        refine so_bin rfl rfl ab_fquo ?_
        refine so_assign rfl ?_
        refine so_nil ?_
        refine fi_seq ?_
        refine fi_region ?_
        refine so_move rfl ?_
        refine so_move rfl ?_
        refine so_bin rfl rfl ab_add ?_
        refine so_bin rfl rfl ab_eql ?_
        refine so_move rfl ?_
        replace h := ofP h; rcases h with ⟨c141, h⟩ | ⟨c141, h⟩
        · refine so_gno rfl (decide_eq_true c141) ?_
          refine so_gno rfl (decide_eq_true c141) ?_
          refine so_gno rfl (decide_eq_true c141) ?_
          refine so_pick_t rfl (decide_eq_true c141) rfl ?_
          refine so_nil ?_
          refine fi_true rfl rfl ?_
          refine fi_seq ?_
          refine fi_region ?_
          refine so_move rfl ?_
          refine so_assign rfl ?_
          refine so_nil ?_
          refine fi_region ?_
          refine so_move rfl ?_
          refine so_assign rfl ?_
          refine so_nil ?_
          refine fi_inBlock ?_
          refine fi_region ?_
          refine so_move rfl ?_
          refine so_bin rfl rfl ab_add ?_
          refine so_assign rfl ?_
          refine so_nil ?_
          exact fi_at [(0, (.v v0)), (4, (.v v131)), (5, (.v (.int .i64 atq132))), (6, (.v (.int .i64 k137))), (7, (.v (.flt .f32 (fop .quo .f32 (fop .sub .f32 (l0.getD (atq132).toNat ((0 : Int), (0 : Nat))).2 (l0.getD (k137).toNat ((0 : Int), (0 : Nat))).2) (itof .f32 (IntKind.i64.wrap ((l0.getD (k137).toNat ((0 : Int), (0 : Nat))).1 - (l0.getD (atq132).toNat ((0 : Int), (0 : Nat))).1))))))), (8, (.v (.int .i64 (IntKind.i64.wrap (k137 + (1 : Int))))))] ⟨rfl, rfl, rfl, rfl, rfl, rfl, trivial⟩ (h _ _  hs)
        · refine so_gyes rfl (decide_eq_false c141) ?_
          refine so_move rfl ?_
          refine so_gyes rfl (decide_eq_false c141) ?_
          refine so_move rfl ?_
          refine so_gyes rfl (decide_eq_false c141) ?_
          refine so_bin rfl rfl ab_fgeq ?_
          refine so_pick_f rfl (decide_eq_false c141) rfl ?_
          refine so_nil ?_
          replace h := ofT h; rcases h with ⟨c142, h⟩ | ⟨c142, h⟩
          · refine fi_true rfl c142 ?_
            refine fi_seq ?_
            refine fi_region ?_
            refine so_move rfl ?_
            refine so_assign rfl ?_
            refine so_nil ?_
            refine fi_region ?_
            refine so_move rfl ?_
            refine so_assign rfl ?_
            refine so_nil ?_
            refine fi_inBlock ?_
            refine fi_region ?_
            refine so_move rfl ?_
            refine so_bin rfl rfl ab_add ?_
            refine so_assign rfl ?_
            refine so_nil ?_
            exact fi_at [(0, (.v v0)), (4, (.v v131)), (5, (.v (.int .i64 atq132))), (6, (.v (.int .i64 k137))), (7, (.v (.flt .f32 (fop .quo .f32 (fop .sub .f32 (l0.getD (atq132).toNat ((0 : Int), (0 : Nat))).2 (l0.getD (k137).toNat ((0 : Int), (0 : Nat))).2) (itof .f32 (IntKind.i64.wrap ((l0.getD (k137).toNat ((0 : Int), (0 : Nat))).1 - (l0.getD (atq132).toNat ((0 : Int), (0 : Nat))).1))))))), (8, (.v (.int .i64 (IntKind.i64.wrap (k137 + (1 : Int))))))] ⟨rfl, rfl, rfl, rfl, rfl, rfl, trivial⟩ (h _ _  hs)
          · refine fi_false rfl c142 ?_
            refine fi_skip ?_
            refine fi_inBlock ?_
            refine fi_region ?_
            refine so_move rfl ?_
            refine so_bin rfl rfl ab_add ?_
            refine so_assign rfl ?_
            refine so_nil ?_
            exact fi_at [(0, (.v v0)), (4, (.v v131)), (5, (.v (.int .i64 atq132))), (6, (.v (.int .i64 best135))), (7, (.v (.flt .f32 top136))), (8, (.v (.int .i64 (IntKind.i64.wrap (k137 + (1 : Int))))))] ⟨rfl, rfl, rfl, rfl, rfl, rfl, trivial⟩ (h _ _  hs)
      · refine fi_false rfl (decide_eq_false c138) ?_
        refine fi_exit rfl ?_
        refine fi_seq ?_
        refine fi_region ?_
        refine so_move rfl ?_
        refine so_assign rfl ?_
        refine so_nil ?_
        refine fi_region ?_
        refine so_move rfl ?_
        refine so_move rfl ?_
        refine sv_bslice hs (eInt .i64) ([best135] : List (Int)) [[(.int .i64 best135)]] F39.te43 F39.sz2 F39.ze2 rfl rfl rfl rfl (fun _ => rfl) rfl (by decide) nofun (fun v143 H144 nv143 hs => ?_)
        obtain ⟨c148, h⟩ := h
        refine sv_app hs 1 rfl (hs.shows 0 rfl) (fun _ => rfl) (by decide) F39.ta43_43 (by decide) c148 rfl rfl nofun (fun v146 H147 kv146 hs => ?_)
        replace hs := hs.del 0
        have nv146 := kv146 nv131
        refine so_assign rfl ?_
        refine so_nil ?_
        refine fi_inBlock ?_
        exact fi_at [(0, (.v v0)), (4, (.v v146)), (5, (.v (.int .i64 best135)))] ⟨rfl, rfl, rfl, trivial⟩ (h _ _ _ nv146 hs)
    · refine fi_false rfl (decide_eq_false c133) ?_
      refine fi_exit rfl ?_
      refine fi_seq ?_
      refine fi_region ?_
      refine so_move rfl ?_
      refine so_assign rfl ?_
      refine so_assign rfl ?_
      refine so_nil ?_
      exact by_ret rfl ⟨_, _, h, _, rfl, hs⟩
  · refine fi_true rfl (not_t c103) ?_
    refine fi_seq ?_
    refine fi_region ?_
    refine so_assign rfl ?_
    refine so_assign rfl ?_
    refine so_nil ?_
    exact by_ret rfl ⟨_, _, h, _, rfl, (Sep.nil hs 1)⟩

end Go.Proofs.Ytfieljajhmpbiaa.G

namespace Go.Proofs.Ytfieljajhmpbiaa.G
open Go Go.Ab Go.Proofs Go.Proofs.Ytfieljajhmpbiaa
set_option maxRecDepth 100000
set_option linter.unusedVariables false
set_option linter.unusedSimpArgs false
set_option maxHeartbeats 1000000
theorem F88.ag106 : tagg Try.prog 106 = some true := by kernel_rfl
theorem F88.ag2 : tagg Try.prog 2 = some false := by kernel_rfl
theorem F88.ag36 : tagg Try.prog 36 = some false := by kernel_rfl
theorem F88.fd106_0 : tfield Try.prog 106 0 = some (0, 1, false) := by kernel_rfl
theorem F88.fd106_1 : tfield Try.prog 106 1 = some (1, 1, false) := by kernel_rfl
theorem F88.fd108_0 : tfield Try.prog 108 0 = some (0, 1, false) := by kernel_rfl
theorem F88.fd108_1 : tfield Try.prog 108 1 = some (1, 1, false) := by kernel_rfl
theorem F88.inf108 : (Try.prog.info? 108).isSome = true := by kernel_rfl
theorem F88.sz106 : tsz Try.prog 106 = some 2 := by kernel_rfl
theorem F88.sz2 : tsz Try.prog 2 = some 1 := by kernel_rfl
theorem F88.sz36 : tsz Try.prog 36 = some 1 := by kernel_rfl
theorem F88.ze106 : tzero Try.prog 106 = some [(.int .i64 (0 : Int)), (.flt .f32 (0 : Nat))] := by kernel_rfl
theorem laws_toCost_ok {fr : List Pc} {H : Heap} (a0 : Int) (a1 : Nat) (hs : Sep H (fr))  (K : Int → Nat → Prop) (h : laws_toCost.wp a0 a1 K) : OkQ Try.prog 88 [(.g [(.int .i64 a0), (.flt .f32 a1)])] H (fun r H2 => ∃ (y0 : Int) (y1 : Nat), K y0 y1 ∧ r = (.g [(.int .i64 y0), (.flt .f32 y1)]) ∧ Sep H2 (fr)) := by
  unfold laws_toCost.wp at h
  refine of_body Try.f88 F.hm Try.func88 rfl Try.call88 (by kernel_rfl) (by simp) ?_
  refine fi_seq ?_
  refine fi_region ?_
  refine sv_box hs rfl (c := [(.int .i64 a0), (.flt .f32 a1)]) rfl F88.inf108 (stc rfl (stc rfl stn)) nofun (fun id101 H102 hs => ?_)
  refine sv_alloc hs F88.ze106 rfl nofun (fun id104 H105 hs => ?_)
  refine so_nil ?_
  refine fi_seq ?_
  refine fi_region ?_
  refine sv_alloc hs F88.ze106 rfl nofun (fun id107 H108 hs => ?_)
  refine so_nil ?_
  refine fi_seq ?_
  refine fi_region ?_
  refine so_fieldAddr rfl F88.fd108_0 ?_
  refine sv_ld hs 2 rfl rfl rfl F88.ag2 ?_
  refine so_fieldAddr rfl F88.fd106_0 ?_
  refine sv_st hs 0 rfl rfl rfl (c := [(.int .i64 a0)]) rfl F88.sz2 rfl (stc rfl stn) (leb rfl) (cs' := [(.int .i64 a0), (.flt .f32 (0 : Nat))]) rfl nofun (fun H110 hs => ?_)
  refine so_nil ?_
  refine fi_seq ?_
  refine fi_region ?_
  refine so_fieldAddr rfl F88.fd108_1 ?_
  refine sv_ld hs 2 rfl rfl rfl F88.ag36 ?_
  refine so_fieldAddr rfl F88.fd106_1 ?_
  refine sv_st hs 0 rfl rfl rfl (c := [(.flt .f32 a1)]) rfl F88.sz36 rfl (stc rfl stn) (leb rfl) (cs' := [(.int .i64 a0), (.flt .f32 a1)]) rfl nofun (fun H111 hs => ?_)
  refine so_nil ?_
  refine fi_seq ?_
  refine fi_region ?_
  refine sv_lds hs 0 rfl rfl (leb rfl) rfl F88.ag106 F88.sz106 ?_
  refine sv_st hs 1 rfl rfl rfl (c := [(.int .i64 a0), (.flt .f32 a1)]) rfl F88.sz106 rfl (stc rfl (stc rfl stn)) (leb rfl) (cs' := [(.int .i64 a0), (.flt .f32 a1)]) rfl nofun (fun H112 hs => ?_)
  refine so_nil ?_
  exact by_ret (res_mk (ar_cells rfl F88.ag106 F88.sz106 (hs.lds 1 rfl (leb rfl) rfl) ar_nil) rfl) ⟨_, _, h, rfl, (Sep.del 0 (Sep.del 0 (Sep.del 0 hs)))⟩

end Go.Proofs.Ytfieljajhmpbiaa.G

namespace Go.Proofs.Ytfieljajhmpbiaa.G
open Go Go.Ab Go.Proofs Go.Proofs.Ytfieljajhmpbiaa
set_option maxRecDepth 100000
set_option linter.unusedVariables false
set_option linter.unusedSimpArgs false
set_option maxHeartbeats 1000000
theorem F40.ag108 : tagg Try.prog 108 = some true := by kernel_rfl
theorem F40.by106 : tbytes Try.prog 106 = some 16 := by kernel_rfl
theorem F40.sz106 : tsz Try.prog 106 = some 2 := by kernel_rfl
theorem F40.sz108 : tsz Try.prog 108 = some 2 := by kernel_rfl
theorem F40.te54 : telem Try.prog 54 = some 106 := by kernel_rfl
theorem F40.ti51 : (telem Try.prog 51).isSome = true := by kernel_rfl
theorem F40.tl51 : (telem Try.prog 51).bind (tsz Try.prog) = some 2 := by kernel_rfl
theorem F40.tl54 : (telem Try.prog 54).bind (tsz Try.prog) = some 2 := by kernel_rfl
theorem F40.ze106 : tzero Try.prog 106 = some [(.int .i64 (0 : Int)), (.flt .f32 (0 : Nat))] := by kernel_rfl
theorem laws_toCostS_ok {fr : List Pc} {H : Heap} (v0 : AV) (l0 : List ((Int) × (Nat))) (hs : Sep H (fr)) (g0 : ∀ H, Sep H fr → Shows H v0 2 (enc (ePair (eInt .i64) (eFlt .f32)) l0)) (K : (List ((Int) × (Nat))) → Prop) (h : laws_toCostS.wp l0 K) : OkQ Try.prog 40 [(.v v0)] H (fun r H2 => ∃ (y0 : List ((Int) × (Nat))), K y0 ∧ ∃ (w0_ : AV), r = (.v w0_) ∧ Sep H2 (Pc.osl w0_ 2 (enc (ePair (eInt .i64) (eFlt .f32)) y0) :: fr)) := by
  unfold laws_toCostS.wp at h
  refine of_body Try.f40 F.hm Try.func40 rfl Try.call40 (by kernel_rfl) (by simp) ?_
  refine fi_seq ?_
  refine fi_region ?_
  refine so_assign rfl ?_
  refine so_nil ?_
  refine fi_seq ?_
  refine fi_region ?_
  refine so_move rfl ?_
  refine sv_len (g0 _ hs) (fun _ => rfl) (by decide) rfl F40.ti51 ?_
  obtain ⟨c101, h⟩ := h
  refine sv_make hs (ePair (eInt .i64) (eFlt .f32)) ((0 : Int), (0 : Nat)) c101 (fun _ => rfl) rfl rfl F40.te54 F40.sz106 F40.by106 F40.ze106 rfl rfl nofun (fun v102 H103 nv102 hs => ?_)
  refine so_assign rfl ?_
  refine so_nil ?_
  refine fi_seq ?_
  refine fi_seq ?_
  refine fi_region ?_
  refine so_assign rfl ?_
  refine so_nil ?_
  refine fi_block ?_
  refine fi_loop ?_
  refine fi_at [(0, (.v v0)), (3, (.v v102)), (4, (.v (.int .i64 (0 : Int))))] ⟨rfl, rfl, rfl, trivial⟩ ?_
  refine h (fun (out115 : List ((Int) × (Nat))) (i116 : Int) => ∀ (s : Nat → TV) (H : Heap), Sep H (Pc.osl v102 2 (enc (ePair (eInt .i64) (eFlt .f32)) out115) :: fr) → Fin _ _ (updL s [(0, (.v v0)), (3, (.v v102)), (4, (.v (.int .i64 i116)))]) H _) ?_ _ _ hs
  intro out115 i116 h s124 H125 hs
  refine fi_inLoop ?_
  refine fi_seq ?_
  refine fi_seq ?_
  refine fi_region ?_
  refine so_move rfl ?_
  refine so_move rfl ?_
  refine sv_len (g0 _ hs.tl) (fun _ => rfl) (by decide) rfl F40.ti51 ?_
  refine so_bin rfl rfl ab_lss ?_
  refine so_nil ?_
  replace h := ofP h; rcases h with ⟨c117, h⟩ | ⟨c117, h⟩
  · refine fi_true rfl (decide_eq_true c117) ?_
    refine fi_skip ?_
    refine fi_seq ?_
    refine fi_block ?_
    refine fi_region ?_
    refine so_move rfl ?_
    refine so_move rfl ?_
    refine so_move rfl ?_
    refine so_move rfl ?_
    obtain ⟨c118, h⟩ := h
    refine sv_idx (g0 _ hs.tl) c118 (fun _ => rfl) (by decide) rfl rfl F40.tl51 ?_
    refine sv_elem (g0 _ hs.tl) c118 ((0 : Int), (0 : Nat)) (fun _ => rfl) (by decide) rfl F40.ag108 F40.sz108 ?_
    refine sv_call (laws_toCost_ok (l0.getD (i116).toNat ((0 : Int), (0 : Nat))).1 (l0.getD (i116).toNat ((0 : Int), (0 : Nat))).2 hs  _ h) rfl rfl nofun ?_
    clear h hs
    rintro _ H121 ⟨y119, y120, h, rfl, hs⟩
    obtain ⟨c122, h⟩ := h
    refine sv_idx (hs.shows 0 rfl) c122 (fun _ => rfl) (by decide) rfl rfl F40.tl54 ?_
    refine sv_set hs 0 rfl c122 (y119, y120) (fun _ => rfl) (by decide) rfl rfl rfl rfl F40.sz106 nofun (fun H123 hs => ?_)
    refine so_nil ?_
    refine fi_inBlock ?_
    refine fi_region ?_
    refine so_move rfl ?_
    refine so_bin rfl rfl ab_add ?_
    refine so_assign rfl ?_
    refine so_nil ?_
    exact fi_at [(0, (.v v0)), (3, (.v v102)), (4, (.v (.int .i64 (IntKind.i64.wrap (i116 + (1 : Int))))))] ⟨rfl, rfl, rfl, trivial⟩ (h _ _  hs)
  · refine fi_false rfl (decide_eq_false c117) ?_
    refine fi_exit rfl ?_
    refine fi_seq ?_
    refine fi_region ?_
    refine so_move rfl ?_
    refine so_assign rfl ?_
    refine so_nil ?_
    exact by_ret rfl ⟨_, h, _, rfl, hs⟩

end Go.Proofs.Ytfieljajhmpbiaa.G

namespace Go.Proofs.Ytfieljajhmpbiaa.G
open Go Go.Ab Go.Proofs Go.Proofs.Ytfieljajhmpbiaa
set_option maxRecDepth 100000
set_option linter.unusedVariables false
set_option linter.unusedSimpArgs false
set_option maxHeartbeats 1000000
theorem impl_IsFinite_ok {fr : List Pc} {H : Heap} (a0 : Nat) (hs : Sep H (fr))  (K : Bool → Prop) (h : impl_IsFinite.wp a0 K) : OkQ Try.prog 123 [(.v (.flt .f32 a0))] H (fun r H2 => ∃ (y0 : Bool), K y0 ∧ r = (.v (.bool y0)) ∧ Sep H2 (fr)) := by
  unfold impl_IsFinite.wp at h
  refine of_body Try.f123 F.hm Try.func123 rfl Try.call123 (by kernel_rfl) (by simp) ?_
  refine fi_seq ?_
  refine fi_region ?_
  refine so_assign rfl ?_
  refine so_nil ?_
  refine fi_seq ?_
  refine fi_region ?_
  refine so_move rfl ?_
  refine so_move rfl ?_
  refine so_bin rfl rfl ab_fsub ?_
  refine so_bin rfl rfl ab_feql ?_
  refine so_assign rfl ?_
  refine so_nil ?_
  exact by_ret rfl ⟨_, h, rfl, hs⟩

end Go.Proofs.Ytfieljajhmpbiaa.G

namespace Go.Proofs.Ytfieljajhmpbiaa.G
open Go Go.Ab Go.Proofs Go.Proofs.Ytfieljajhmpbiaa
set_option maxRecDepth 100000
set_option linter.unusedVariables false
set_option linter.unusedSimpArgs false
set_option maxHeartbeats 1000000
theorem impl_isLeast_ok {fr : List Pc} {H : Heap} (a0 : Nat) (hs : Sep H (fr))  (K : Bool → Prop) (h : impl_isLeast.wp a0 K) : OkQ Try.prog 102 [(.v (.flt .f32 a0))] H (fun r H2 => ∃ (y0 : Bool), K y0 ∧ r = (.v (.bool y0)) ∧ Sep H2 (fr)) := by
  unfold impl_isLeast.wp at h
  refine of_body Try.f102 F.hm Try.func102 rfl Try.call102 (by kernel_rfl) (by simp) ?_
  refine fi_seq ?_
  refine fi_region ?_
  refine so_assign rfl ?_
  refine so_nil ?_
  refine fi_seq ?_
  refine fi_region ?_
  refine so_move rfl ?_
  refine sv_call (impl_IsFinite_ok a0 hs  _ h) rfl rfl nofun ?_
  clear h hs
  rintro _ H102 ⟨y101, h, rfl, hs⟩
  refine so_move rfl ?_
  replace h := ofT h; rcases h with ⟨c103, h⟩ | ⟨c103, h⟩
  · refine so_gyes rfl c103 ?_
    refine so_move rfl ?_
    refine so_gyes rfl c103 ?_
    refine so_bin rfl rfl ab_fgeq ?_
    refine so_pick_t rfl c103 rfl ?_
    refine so_assign rfl ?_
    refine so_nil ?_
    exact by_ret rfl ⟨_, h, rfl, hs⟩
  · refine so_gno rfl c103 ?_
    refine so_gno rfl c103 ?_
    refine so_pick_f rfl c103 rfl ?_
    refine so_assign rfl ?_
    refine so_nil ?_
    exact by_ret rfl ⟨_, h, rfl, hs⟩

end Go.Proofs.Ytfieljajhmpbiaa.G

namespace Go.Proofs.Ytfieljajhmpbiaa.G
open Go Go.Ab Go.Proofs Go.Proofs.Ytfieljajhmpbiaa
set_option maxRecDepth 100000
set_option linter.unusedVariables false
set_option linter.unusedSimpArgs false
set_option maxHeartbeats 1000000
theorem impl_within_ok {fr : List Pc} {H : Heap} (a0 : Int) (a1 : Int) (a2 : Int) (hs : Sep H (fr))  (K : Bool → Prop) (h : impl_within.wp a0 a1 a2 K) : OkQ Try.prog 63 [(.v (.int .i64 a0)), (.v (.int .i64 a1)), (.v (.int .i64 a2))] H (fun r H2 => ∃ (y0 : Bool), K y0 ∧ r = (.v (.bool y0)) ∧ Sep H2 (fr)) := by
  unfold impl_within.wp at h
  refine of_body Try.f63 F.hm Try.func63 rfl Try.call63 (by kernel_rfl) (by simp) ?_
  refine fi_seq ?_
  refine fi_region ?_
  refine so_assign rfl ?_
  refine so_nil ?_
  refine fi_seq ?_
  refine fi_region ?_
  refine so_move rfl ?_
  refine so_move rfl ?_
  refine so_bin rfl rfl ab_geq ?_
  refine so_move rfl ?_
  replace h := ofP h; rcases h with ⟨c101, h⟩ | ⟨c101, h⟩
  · refine so_gyes rfl (decide_eq_true c101) ?_
    refine so_move rfl ?_
    refine so_gyes rfl (decide_eq_true c101) ?_
    refine so_move rfl ?_
    refine so_gyes rfl (decide_eq_true c101) ?_
    refine so_bin rfl rfl ab_leq ?_
    refine so_pick_t rfl (decide_eq_true c101) rfl ?_
    refine so_assign rfl ?_
    refine so_nil ?_
    exact by_ret rfl ⟨_, h, rfl, hs⟩
  · refine so_gno rfl (decide_eq_false c101) ?_
    refine so_gno rfl (decide_eq_false c101) ?_
    refine so_gno rfl (decide_eq_false c101) ?_
    refine so_pick_f rfl (decide_eq_false c101) rfl ?_
    refine so_assign rfl ?_
    refine so_nil ?_
    exact by_ret rfl ⟨_, h, rfl, hs⟩

end Go.Proofs.Ytfieljajhmpbiaa.G

namespace Go.Proofs.Ytfieljajhmpbiaa.G
open Go Go.Ab Go.Proofs Go.Proofs.Ytfieljajhmpbiaa
set_option maxRecDepth 100000
set_option linter.unusedVariables false
set_option linter.unusedSimpArgs false
set_option maxHeartbeats 1000000
theorem F89.ag106 : tagg Try.prog 106 = some true := by kernel_rfl
theorem F89.ag2 : tagg Try.prog 2 = some false := by kernel_rfl
theorem F89.ag36 : tagg Try.prog 36 = some false := by kernel_rfl
theorem F89.fd106_0 : tfield Try.prog 106 0 = some (0, 1, false) := by kernel_rfl
theorem F89.fd106_1 : tfield Try.prog 106 1 = some (1, 1, false) := by kernel_rfl
theorem F89.sz106 : tsz Try.prog 106 = some 2 := by kernel_rfl
theorem F89.ti54 : (telem Try.prog 54).isSome = true := by kernel_rfl
theorem F89.tl54 : (telem Try.prog 54).bind (tsz Try.prog) = some 2 := by kernel_rfl
theorem F89.ze106 : tzero Try.prog 106 = some [(.int .i64 (0 : Int)), (.flt .f32 (0 : Nat))] := by kernel_rfl
theorem impl_AreCosts_ok {fr : List Pc} {H : Heap} (v0 : AV) (l0 : List ((Int) × (Nat))) (hs : Sep H (fr)) (g0 : ∀ H, Sep H fr → Shows H v0 2 (enc (ePair (eInt .i64) (eFlt .f32)) l0)) (K : Bool → Prop) (h : impl_AreCosts.wp l0 K) : OkQ Try.prog 89 [(.v v0)] H (fun r H2 => ∃ (y0 : Bool), K y0 ∧ r = (.v (.bool y0)) ∧ Sep H2 (fr)) := by
  unfold impl_AreCosts.wp at h
  refine of_body Try.f89 F.hm Try.func89 rfl Try.call89 (by kernel_rfl) (by simp) ?_
  refine fi_seq ?_
  refine fi_region ?_
  refine so_assign rfl ?_
  refine so_nil ?_
  refine fi_seq ?_
  refine fi_seq ?_
  refine fi_region ?_
  refine so_move rfl ?_
  refine sv_len (g0 _ hs) (fun _ => rfl) (by decide) rfl F89.ti54 ?_
  refine sv_call (impl_within_ok (l0.length : Int) (1 : Int) (16 : Int) hs  _ h) rfl rfl nofun ?_
  clear h hs
  rintro _ H102 ⟨y101, h, rfl, hs⟩
  refine so_un rfl au_not ?_
  refine so_nil ?_
  replace h := ofT h; rcases h with ⟨c103, h⟩ | ⟨c103, h⟩
  · refine fi_false rfl (not_f c103) ?_
    refine fi_skip ?_
    refine fi_seq ?_
    refine fi_seq ?_
    refine fi_region ?_
    refine so_move rfl ?_
    refine sv_len (g0 _ hs) (fun _ => rfl) (by decide) rfl F89.ti54 ?_
    refine so_move rfl ?_
    refine so_nil ?_
    refine fi_block ?_
    refine fi_loop ?_
    refine fi_at [(0, (.v v0)), (9, (.v v0)), (10, (.v (.int .i64 (l0.length : Int)))), (11, (.v (.int .i64 (0 : Int))))] ⟨rfl, rfl, rfl, rfl, trivial⟩ ?_
    refine h (fun (x105 : Int) => ∀ (s : Nat → TV) (H : Heap), Sep H (fr) → Fin _ _ (updL s [(0, (.v v0)), (9, (.v v0)), (10, (.v (.int .i64 (l0.length : Int)))), (11, (.v (.int .i64 x105)))]) H _) ?_ _ _ hs
    intro x105 h s122 H123 hs
    refine fi_inLoop ?_
    refine fi_seq ?_
    refine fi_region ?_
    refine so_bin rfl rfl ab_lss ?_
    refine so_nil ?_
    refine fi_seq ?_
    replace h := ofP h; rcases h with ⟨c106, h⟩ | ⟨c106, h⟩
    · refine fi_true rfl (decide_eq_true c106) ?_
      refine fi_skip ?_
      refine fi_seq ?_
      refine fi_block ?_
      refine fi_seq ?_
      refine fi_region ?_
      refine so_move rfl ?_
      obtain ⟨c107, h⟩ := h
      refine sv_idx (g0 _ hs) c107 (fun _ => rfl) (by decide) rfl rfl F89.tl54 ?_
      refine sv_elem (g0 _ hs) c107 ((0 : Int), (0 : Nat)) (fun _ => rfl) (by decide) rfl F89.ag106 F89.sz106 ?_
      refine sv_alloc hs F89.ze106 rfl nofun (fun id108 H109 hs => ?_)
      refine so_assign rfl ?_
      refine sv_st hs 0 rfl rfl rfl (c := [(.int .i64 (l0.getD (x105).toNat ((0 : Int), (0 : Nat))).1), (.flt .f32 (l0.getD (x105).toNat ((0 : Int), (0 : Nat))).2)]) rfl F89.sz106 rfl (stc rfl (stc rfl stn)) (leb rfl) (cs' := [(.int .i64 (l0.getD (x105).toNat ((0 : Int), (0 : Nat))).1), (.flt .f32 (l0.getD (x105).toNat ((0 : Int), (0 : Nat))).2)]) rfl nofun (fun H111 hs => ?_)
      refine so_nil ?_
      refine fi_seq ?_
      refine fi_seq ?_
      refine fi_region ?_
      refine so_fieldAddr rfl F89.fd106_0 ?_
      refine sv_ld hs 0 rfl rfl rfl F89.ag2 ?_
      refine sv_call (impl_within_ok (l0.getD (x105).toNat ((0 : Int), (0 : Nat))).1 (0 : Int) (512 : Int) hs  _ h) rfl rfl nofun ?_
      clear h hs
      rintro _ H113 ⟨y112, h, rfl, hs⟩
      refine so_un rfl au_not ?_
      refine so_move rfl ?_
      replace h := ofT h; rcases h with ⟨c114, h⟩ | ⟨c114, h⟩
      · refine so_gyes rfl (not_f c114) ?_
        refine so_fieldAddr rfl F89.fd106_1 ?_
        refine so_gyes rfl (not_f c114) ?_
        refine sv_ld hs 0 rfl rfl rfl F89.ag36 ?_
        refine so_gyes rfl (not_f c114) ?_
        refine sv_call (impl_isLeast_ok (l0.getD (x105).toNat ((0 : Int), (0 : Nat))).2 hs  _ h) rfl rfl nofun ?_
        clear h hs
        rintro _ H116 ⟨y115, h, rfl, hs⟩
        refine so_gyes rfl (not_f c114) ?_
        refine so_un rfl au_not ?_
        refine so_pick_f rfl (not_f c114) rfl ?_
        refine so_nil ?_
        replace h := ofT h; rcases h with ⟨c117, h⟩ | ⟨c117, h⟩
        · refine fi_false rfl (not_f c117) ?_
          refine fi_skip ?_
          refine fi_seq ?_
          refine fi_region ?_
          refine so_move rfl ?_
          refine so_bin rfl rfl ab_gtr ?_
          refine so_move rfl ?_
          replace h := ofP h; rcases h with ⟨c118, h⟩ | ⟨c118, h⟩
          · refine so_gyes rfl (decide_eq_true c118) ?_
            refine so_fieldAddr rfl F89.fd106_0 ?_
            refine so_gyes rfl (decide_eq_true c118) ?_
            refine sv_ld hs 0 rfl rfl rfl F89.ag2 ?_
            refine so_gyes rfl (decide_eq_true c118) ?_
            refine so_move rfl ?_
            refine so_gyes rfl (decide_eq_true c118) ?_
            refine so_move rfl ?_
            refine so_gyes rfl (decide_eq_true c118) ?_
            refine so_bin rfl rfl ab_sub ?_
            refine so_gyes rfl (decide_eq_true c118) ?_
            obtain ⟨c119, h⟩ := h
            refine sv_idx (g0 _ hs.tl) c119 (fun _ => rfl) (by decide) rfl rfl F89.tl54 ?_
            refine so_gyes rfl (decide_eq_true c118) ?_
            refine so_fieldAddr rfl F89.fd106_0 ?_
            refine so_gyes rfl (decide_eq_true c118) ?_
            refine sv_cell (g0 _ hs.tl) c119 ((0 : Int), (0 : Nat)) 0 (fun x => (AV.int .i64 x.1)) (fun _ => rfl) (fun _ => rfl) rfl F89.ag2 ?_
            refine so_gyes rfl (decide_eq_true c118) ?_
            refine so_bin rfl rfl ab_leq ?_
            refine so_gyes rfl (decide_eq_true c118) ?_
            refine so_move rfl ?_
            replace h := ofP h; rcases h with ⟨c120, h⟩ | ⟨c120, h⟩
            · refine so_gno rfl (decide_eq_true c120) ?_
              refine so_gno rfl (decide_eq_true c120) ?_
              refine so_gno rfl (decide_eq_true c120) ?_
              refine so_gno rfl (decide_eq_true c120) ?_
              refine so_gno rfl (decide_eq_true c120) ?_
              refine so_gno rfl (decide_eq_true c120) ?_
              refine so_gno rfl (decide_eq_true c120) ?_
              refine so_gno rfl (decide_eq_true c120) ?_
              refine so_gno rfl (decide_eq_true c120) ?_
              refine so_gyes rfl (decide_eq_true c118) ?_
              refine so_pick_t rfl (decide_eq_true c120) rfl ?_
              refine so_pick_t rfl (decide_eq_true c118) rfl ?_
              refine so_nil ?_
              refine fi_true rfl rfl ?_
              refine fi_seq ?_
              refine fi_region ?_
              refine so_assign rfl ?_
              refine so_nil ?_
              exact by_ret rfl ⟨_, h, rfl, (Sep.del 0 hs)⟩
            · refine so_gyes rfl (decide_eq_false c120) ?_
              refine so_fieldAddr rfl F89.fd106_1 ?_
              refine so_gyes rfl (decide_eq_false c120) ?_
              refine sv_ld hs 0 rfl rfl rfl F89.ag36 ?_
              refine so_gyes rfl (decide_eq_false c120) ?_
              refine so_move rfl ?_
              refine so_gyes rfl (decide_eq_false c120) ?_
              refine so_move rfl ?_
              refine so_gyes rfl (decide_eq_false c120) ?_
              refine so_bin rfl rfl ab_sub ?_
              refine so_gyes rfl (decide_eq_false c120) ?_
              refine sv_idx (g0 _ hs.tl) c119 (fun _ => rfl) (by decide) rfl rfl F89.tl54 ?_
              refine so_gyes rfl (decide_eq_false c120) ?_
              refine so_fieldAddr rfl F89.fd106_1 ?_
              refine so_gyes rfl (decide_eq_false c120) ?_
              refine sv_cell (g0 _ hs.tl) c119 ((0 : Int), (0 : Nat)) 1 (fun x => (AV.flt .f32 x.2)) (fun _ => rfl) (fun _ => rfl) rfl F89.ag36 ?_
              refine so_gyes rfl (decide_eq_false c120) ?_
              refine so_bin rfl rfl ab_fgeq ?_
              refine so_gyes rfl (decide_eq_true c118) ?_
              refine so_pick_f rfl (decide_eq_false c120) rfl ?_
              refine so_pick_t rfl (decide_eq_true c118) rfl ?_
              refine so_nil ?_
              replace h := ofT h; rcases h with ⟨c121, h⟩ | ⟨c121, h⟩
              · refine fi_true rfl c121 ?_
                refine fi_seq ?_
                refine fi_region ?_
                refine so_assign rfl ?_
                refine so_nil ?_
                exact by_ret rfl ⟨_, h, rfl, (Sep.del 0 hs)⟩
              · refine fi_false rfl c121 ?_
                refine fi_skip ?_
                refine fi_inBlock ?_
                refine fi_region ?_
                refine so_bin rfl rfl ab_add ?_
                refine so_move rfl ?_
                refine so_nil ?_
                exact fi_at [(0, (.v v0)), (9, (.v v0)), (10, (.v (.int .i64 (l0.length : Int)))), (11, (.v (.int .i64 (IntKind.i64.wrap (x105 + (1 : Int))))))] ⟨rfl, rfl, rfl, rfl, trivial⟩ (h _ _  (Sep.del 0 hs))
          · refine so_gno rfl (decide_eq_false c118) ?_
            refine so_gno rfl (decide_eq_false c118) ?_
            refine so_gno rfl (decide_eq_false c118) ?_
            refine so_gno rfl (decide_eq_false c118) ?_
            refine so_gno rfl (decide_eq_false c118) ?_
            refine so_gno rfl (decide_eq_false c118) ?_
            refine so_gno rfl (decide_eq_false c118) ?_
            refine so_gno rfl (decide_eq_false c118) ?_
            refine so_gno rfl (decide_eq_false c118) ?_
            refine so_gno rfl (decide_eq_false c118) ?_
            refine so_gund rfl ?_
            refine so_gund rfl ?_
            refine so_gund rfl ?_
            refine so_gund rfl ?_
            refine so_gund rfl ?_
            refine so_gund rfl ?_
            refine so_gund rfl ?_
            refine so_gund rfl ?_
            refine so_gund rfl ?_
            refine so_gno rfl (decide_eq_false c118) ?_
            refine so_pick_f rfl (decide_eq_false c118) rfl ?_
            refine so_nil ?_
            refine fi_false rfl rfl ?_
            refine fi_skip ?_
            refine fi_inBlock ?_
            refine fi_region ?_
            refine so_bin rfl rfl ab_add ?_
            refine so_move rfl ?_
            refine so_nil ?_
            exact fi_at [(0, (.v v0)), (9, (.v v0)), (10, (.v (.int .i64 (l0.length : Int)))), (11, (.v (.int .i64 (IntKind.i64.wrap (x105 + (1 : Int))))))] ⟨rfl, rfl, rfl, rfl, trivial⟩ (h _ _  (Sep.del 0 hs))
        · refine fi_true rfl (not_t c117) ?_
          refine fi_seq ?_
          refine fi_region ?_
          refine so_assign rfl ?_
          refine so_nil ?_
          exact by_ret rfl ⟨_, h, rfl, (Sep.del 0 hs)⟩
      · refine so_gno rfl (not_t c114) ?_
        refine so_gno rfl (not_t c114) ?_
        refine so_gno rfl (not_t c114) ?_
        refine so_gno rfl (not_t c114) ?_
        refine so_pick_t rfl (not_t c114) rfl ?_
        refine so_nil ?_
        refine fi_true rfl rfl ?_
        refine fi_seq ?_
        refine fi_region ?_
        refine so_assign rfl ?_
        refine so_nil ?_
        exact by_ret rfl ⟨_, h, rfl, (Sep.del 0 hs)⟩
    · refine fi_false rfl (decide_eq_false c106) ?_
      refine fi_exit rfl ?_
      refine fi_seq ?_
      refine fi_region ?_
      refine so_assign rfl ?_
      refine so_nil ?_
      exact by_ret rfl ⟨_, h, rfl, hs⟩
  · refine fi_true rfl (not_t c103) ?_
    refine fi_seq ?_
    refine fi_region ?_
    refine so_assign rfl ?_
    refine so_nil ?_
    exact by_ret rfl ⟨_, h, rfl, hs⟩

end Go.Proofs.Ytfieljajhmpbiaa.G

namespace Go.Proofs.Ytfieljajhmpbiaa.G
open Go Go.Ab Go.Proofs Go.Proofs.Ytfieljajhmpbiaa
set_option maxRecDepth 100000
set_option linter.unusedVariables false
set_option linter.unusedSimpArgs false
set_option maxHeartbeats 1000000
theorem F41.ag2 : tagg Try.prog 2 = some false := by kernel_rfl
theorem F41.ag36 : tagg Try.prog 36 = some false := by kernel_rfl
theorem F41.fd106_0 : tfield Try.prog 106 0 = some (0, 1, false) := by kernel_rfl
theorem F41.fd106_1 : tfield Try.prog 106 1 = some (1, 1, false) := by kernel_rfl
theorem F41.fl36 : tflt Try.prog 36 = some .f32 := by kernel_rfl
theorem F41.in36 : tint Try.prog 36 = none := by kernel_rfl
theorem F41.sz2 : tsz Try.prog 2 = some 1 := by kernel_rfl
theorem F41.ta43_43 : tapp Try.prog 43 43 = some (1, 8) := by kernel_rfl
theorem F41.te43 : telem Try.prog 43 = some 2 := by kernel_rfl
theorem F41.ti54 : (telem Try.prog 54).isSome = true := by kernel_rfl
theorem F41.tl54 : (telem Try.prog 54).bind (tsz Try.prog) = some 2 := by kernel_rfl
theorem F41.us2 : (Try.prog.underlying 2).isSome = true := by kernel_rfl
theorem F41.ze2 : tzero Try.prog 2 = some [(.int .i64 (0 : Int))] := by kernel_rfl
theorem impl_EdgeCosts_ok {fr : List Pc} {H : Heap} (v0 : AV) (l0 : List ((Int) × (Nat))) (hs : Sep H (fr)) (g0 : ∀ H, Sep H fr → Shows H v0 2 (enc (ePair (eInt .i64) (eFlt .f32)) l0)) (K : (List (Int)) → Bool → Prop) (h : impl_EdgeCosts.wp l0 K) : OkQ Try.prog 41 [(.v v0)] H (fun r H2 => ∃ (y0 : List (Int)) (y1 : Bool), K y0 y1 ∧ ∃ (w0_ : AV), r = (.t [(.v w0_), (.v (.bool y1))]) ∧ Sep H2 (Pc.osl w0_ 1 (enc (eInt .i64) y0) :: fr)) := by
  unfold impl_EdgeCosts.wp at h
  refine of_body Try.f41 F.hm Try.func41 rfl Try.call41 (by kernel_rfl) (by simp) ?_
  refine fi_seq ?_
  refine fi_region ?_
  refine so_assign rfl ?_
  refine so_assign rfl ?_
  refine so_nil ?_
  refine fi_seq ?_
  refine fi_seq ?_
  refine fi_region ?_
  refine so_move rfl ?_
  refine sv_call (impl_AreCosts_ok v0 l0 hs (fun _ hs => (g0 _ hs)) _ h) rfl rfl nofun ?_
  clear h hs
  rintro _ H102 ⟨y101, h, rfl, hs⟩
  refine so_un rfl au_not ?_
  refine so_nil ?_
  replace h := ofT h; rcases h with ⟨c103, h⟩ | ⟨c103, h⟩
  · refine fi_false rfl (not_f c103) ?_
    refine fi_skip ?_
    refine fi_seq ?_
    refine fi_region ?_
    refine sv_bslice hs (eInt .i64) ([(0 : Int)] : List (Int)) [[(.int .i64 (0 : Int))]] F41.te43 F41.sz2 F41.ze2 rfl rfl rfl rfl (fun _ => rfl) rfl (by decide) nofun (fun v104 H105 nv104 hs => ?_)
    refine so_assign rfl ?_
    refine so_nil ?_
    refine fi_seq ?_
    refine fi_seq ?_
    refine fi_region ?_
    refine so_assign rfl ?_
    refine so_nil ?_
    refine fi_block ?_
    refine fi_loop ?_
    refine fi_at [(0, (.v v0)), (4, (.v v104)), (5, (.v (.int .i64 (0 : Int))))] ⟨rfl, rfl, rfl, trivial⟩ ?_
    refine h (fun (out130 : List (Int)) (i132 : Int) => ∀ (s : Nat → TV) (H : Heap) (v131 : AV) (nv131 : v131 ≠ .nilsl), Sep H (Pc.osl v131 1 (enc (eInt .i64) out130) :: fr) → Fin _ _ (updL s [(0, (.v v0)), (4, (.v v131)), (5, (.v (.int .i64 i132)))]) H _) ?_ _ _ _ nv104 hs
    intro out130 i132 h s151 H152 v131 nv131 hs
    refine fi_inLoop ?_
    refine fi_seq ?_
    refine fi_seq ?_
    refine fi_region ?_
    refine so_move rfl ?_
    refine so_move rfl ?_
    refine sv_len (g0 _ hs.tl) (fun _ => rfl) (by decide) rfl F41.ti54 ?_
    refine so_bin rfl rfl ab_sub ?_
    refine so_bin rfl rfl ab_lss ?_
    refine so_nil ?_
    replace h := ofP h; rcases h with ⟨c133, h⟩ | ⟨c133, h⟩
    · refine fi_true rfl (decide_eq_true c133) ?_
      refine fi_skip ?_
      refine fi_block ?_
      refine fi_seq ?_
      refine fi_region ?_
      refine so_move rfl ?_
      refine so_assign rfl ?_
      refine so_assign rfl ?_
      refine so_nil ?_
      refine fi_seq ?_
      refine fi_seq ?_
      refine fi_region ?_
      refine so_move rfl ?_
      refine so_bin rfl rfl ab_add ?_
      refine so_assign rfl ?_
      refine so_nil ?_
      refine fi_block ?_
      refine fi_loop ?_
      refine fi_at [(0, (.v v0)), (4, (.v v131)), (5, (.v (.int .i64 i132))), (6, (.v (.int .i64 i132))), (7, (.v (.flt .f32 (cz .f32 0)))), (8, (.v (.int .i64 (IntKind.i64.wrap (i132 + (1 : Int))))))] ⟨rfl, rfl, rfl, rfl, rfl, rfl, trivial⟩ ?_
      refine h (fun (next135 : Int) (best136 : Nat) (k137 : Int) => ∀ (s : Nat → TV) (H : Heap), Sep H (Pc.osl v131 1 (enc (eInt .i64) out130) :: fr) → Fin _ _ (updL s [(0, (.v v0)), (4, (.v v131)), (5, (.v (.int .i64 i132))), (6, (.v (.int .i64 next135))), (7, (.v (.flt .f32 best136))), (8, (.v (.int .i64 k137)))]) H _) ?_ _ _ hs
      intro next135 best136 k137 h s149 H150 hs
      refine fi_inLoop ?_
      refine fi_seq ?_
      refine fi_seq ?_
      refine fi_region ?_
      refine so_move rfl ?_
      refine so_move rfl ?_
      refine sv_len (g0 _ hs.tl) (fun _ => rfl) (by decide) rfl F41.ti54 ?_
      refine so_bin rfl rfl ab_lss ?_
      refine so_nil ?_
      replace h := ofP h; rcases h with ⟨c138, h⟩ | ⟨c138, h⟩
      · refine fi_true rfl (decide_eq_true c138) ?_
        refine fi_skip ?_
        refine fi_seq ?_
        refine fi_block ?_
        refine fi_seq ?_
        refine fi_region ?_
        refine so_move rfl ?_
        refine so_move rfl ?_
        obtain ⟨c139, h⟩ := h
        refine sv_idx (g0 _ hs.tl) c139 (fun _ => rfl) (by decide) rfl rfl F41.tl54 ?_
        refine so_fieldAddr rfl F41.fd106_1 ?_
        refine sv_cell (g0 _ hs.tl) c139 ((0 : Int), (0 : Nat)) 1 (fun x => (AV.flt .f32 x.2)) (fun _ => rfl) (fun _ => rfl) rfl F41.ag36 ?_
        refine so_move rfl ?_
        refine so_move rfl ?_
        obtain ⟨c140, h⟩ := h
        refine sv_idx (g0 _ hs.tl) c140 (fun _ => rfl) (by decide) rfl rfl F41.tl54 ?_
        refine so_fieldAddr rfl F41.fd106_1 ?_
        refine sv_cell (g0 _ hs.tl) c140 ((0 : Int), (0 : Nat)) 1 (fun x => (AV.flt .f32 x.2)) (fun _ => rfl) (fun _ => rfl) rfl F41.ag36 ?_
        refine so_bin rfl rfl ab_fsub ?_
        refine so_move rfl ?_
        refine so_move rfl ?_
        refine sv_idx (g0 _ hs.tl) c140 (fun _ => rfl) (by decide) rfl rfl F41.tl54 ?_
        refine so_fieldAddr rfl F41.fd106_0 ?_
        refine sv_cell (g0 _ hs.tl) c140 ((0 : Int), (0 : Nat)) 0 (fun x => (AV.int .i64 x.1)) (fun _ => rfl) (fun _ => rfl) rfl F41.ag2 ?_
        refine so_move rfl ?_
        refine so_move rfl ?_
        refine sv_idx (g0 _ hs.tl) c139 (fun _ => rfl) (by decide) rfl rfl F41.tl54 ?_
        refine so_fieldAddr rfl F41.fd106_0 ?_
        refine sv_cell (g0 _ hs.tl) c139 ((0 : Int), (0 : Nat)) 0 (fun x => (AV.int .i64 x.1)) (fun _ => rfl) (fun _ => rfl) rfl F41.ag2 ?_
        refine so_bin rfl rfl ab_sub ?_
        refine sv_if rfl F41.us2 F41.in36 F41.fl36 ?_
        refine so_bin rfl rfl ab_fquo ?_
        refine so_assign rfl ?_
        refine so_nil ?_
        refine fi_seq ?_
        refine fi_region ?_
        refine so_move rfl ?_
        refine so_move rfl ?_
        refine so_bin rfl rfl ab_eql ?_
        refine so_move rfl ?_
        replace h := ofP h; rcases h with ⟨c141, h⟩ | ⟨c141, h⟩
        · refine so_gno rfl (decide_eq_true c141) ?_
          refine so_gno rfl (decide_eq_true c141) ?_
          refine so_gno rfl (decide_eq_true c141) ?_
          refine so_pick_t rfl (decide_eq_true c141) rfl ?_
          refine so_nil ?_
          refine fi_true rfl rfl ?_
          refine fi_region ?_
          refine so_move rfl ?_
          refine so_move rfl ?_
          refine so_assign rfl ?_
          refine so_assign rfl ?_
          refine so_nil ?_
          refine fi_inBlock ?_
          refine fi_region ?_
          refine so_move rfl ?_
          refine so_bin rfl rfl ab_add ?_
          refine so_assign rfl ?_
          refine so_nil ?_
          exact fi_at [(0, (.v v0)), (4, (.v v131)), (5, (.v (.int .i64 i132))), (6, (.v (.int .i64 k137))), (7, (.v (.flt .f32 (fop .quo .f32 (fop .sub .f32 (l0.getD (i132).toNat ((0 : Int), (0 : Nat))).2 (l0.getD (k137).toNat ((0 : Int), (0 : Nat))).2) (itof .f32 (IntKind.i64.wrap ((l0.getD (k137).toNat ((0 : Int), (0 : Nat))).1 - (l0.getD (i132).toNat ((0 : Int), (0 : Nat))).1))))))), (8, (.v (.int .i64 (IntKind.i64.wrap (k137 + (1 : Int))))))] ⟨rfl, rfl, rfl, rfl, rfl, rfl, trivial⟩ (h _ _  hs)
        · refine so_gyes rfl (decide_eq_false c141) ?_
          refine so_move rfl ?_
          refine so_gyes rfl (decide_eq_false c141) ?_
          refine so_move rfl ?_
          refine so_gyes rfl (decide_eq_false c141) ?_
          refine so_bin rfl rfl ab_fgeq ?_
          refine so_pick_f rfl (decide_eq_false c141) rfl ?_
          refine so_nil ?_
          replace h := ofT h; rcases h with ⟨c142, h⟩ | ⟨c142, h⟩
          · refine fi_true rfl c142 ?_
            refine fi_region ?_
            refine so_move rfl ?_
            refine so_move rfl ?_
            refine so_assign rfl ?_
            refine so_assign rfl ?_
            refine so_nil ?_
            refine fi_inBlock ?_
            refine fi_region ?_
            refine so_move rfl ?_
            refine so_bin rfl rfl ab_add ?_
            refine so_assign rfl ?_
            refine so_nil ?_
            exact fi_at [(0, (.v v0)), (4, (.v v131)), (5, (.v (.int .i64 i132))), (6, (.v (.int .i64 k137))), (7, (.v (.flt .f32 (fop .quo .f32 (fop .sub .f32 (l0.getD (i132).toNat ((0 : Int), (0 : Nat))).2 (l0.getD (k137).toNat ((0 : Int), (0 : Nat))).2) (itof .f32 (IntKind.i64.wrap ((l0.getD (k137).toNat ((0 : Int), (0 : Nat))).1 - (l0.getD (i132).toNat ((0 : Int), (0 : Nat))).1))))))), (8, (.v (.int .i64 (IntKind.i64.wrap (k137 + (1 : Int))))))] ⟨rfl, rfl, rfl, rfl, rfl, rfl, trivial⟩ (h _ _  hs)
          · refine fi_false rfl c142 ?_
            refine fi_skip ?_
            refine fi_inBlock ?_
            refine fi_region ?_
            refine so_move rfl ?_
            refine so_bin rfl rfl ab_add ?_
            refine so_assign rfl ?_
            refine so_nil ?_
            exact fi_at [(0, (.v v0)), (4, (.v v131)), (5, (.v (.int .i64 i132))), (6, (.v (.int .i64 next135))), (7, (.v (.flt .f32 best136))), (8, (.v (.int .i64 (IntKind.i64.wrap (k137 + (1 : Int))))))] ⟨rfl, rfl, rfl, rfl, rfl, rfl, trivial⟩ (h _ _  hs)
      · refine fi_false rfl (decide_eq_false c138) ?_
        refine fi_exit rfl ?_
        refine fi_seq ?_
        refine fi_region ?_
        refine so_move rfl ?_
        refine so_assign rfl ?_
        refine so_nil ?_
        refine fi_region ?_
        refine so_move rfl ?_
        refine so_move rfl ?_
        refine sv_bslice hs (eInt .i64) ([next135] : List (Int)) [[(.int .i64 next135)]] F41.te43 F41.sz2 F41.ze2 rfl rfl rfl rfl (fun _ => rfl) rfl (by decide) nofun (fun v143 H144 nv143 hs => ?_)
        obtain ⟨c148, h⟩ := h
        refine sv_app hs 1 rfl (hs.shows 0 rfl) (fun _ => rfl) (by decide) F41.ta43_43 (by decide) c148 rfl rfl nofun (fun v146 H147 kv146 hs => ?_)
        replace hs := hs.del 0
        have nv146 := kv146 nv131
        refine so_assign rfl ?_
        refine so_nil ?_
        refine fi_inBlock ?_
        exact fi_at [(0, (.v v0)), (4, (.v v146)), (5, (.v (.int .i64 next135)))] ⟨rfl, rfl, rfl, trivial⟩ (h _ _ _ nv146 hs)
    · refine fi_false rfl (decide_eq_false c133) ?_
      refine fi_exit rfl ?_
      refine fi_seq ?_
      refine fi_region ?_
      refine so_move rfl ?_
      refine so_assign rfl ?_
      refine so_assign rfl ?_
      refine so_nil ?_
      exact by_ret rfl ⟨_, _, h, _, rfl, hs⟩
  · refine fi_true rfl (not_t c103) ?_
    refine fi_seq ?_
    refine fi_region ?_
    refine so_assign rfl ?_
    refine so_assign rfl ?_
    refine so_nil ?_
    exact by_ret rfl ⟨_, _, h, _, rfl, (Sep.nil hs 1)⟩

end Go.Proofs.Ytfieljajhmpbiaa.G

namespace Go.Proofs.Ytfieljajhmpbiaa.G
open Go Go.Ab Go.Proofs Go.Proofs.Ytfieljajhmpbiaa
set_option maxRecDepth 100000
set_option linter.unusedVariables false
set_option linter.unusedSimpArgs false
set_option maxHeartbeats 1000000
theorem F67.tb4 : tbool Try.prog 4 = true := by kernel_rfl
theorem laws_sameFloat_ok {fr : List Pc} {H : Heap} (a0 : Nat) (a1 : Nat) (hs : Sep H (fr))  (K : Bool → Prop) (h : laws_sameFloat.wp a0 a1 K) : OkQ Try.prog 67 [(.v (.flt .f64 a0)), (.v (.flt .f64 a1))] H (fun r H2 => ∃ (y0 : Bool), K y0 ∧ r = (.v (.bool y0)) ∧ Sep H2 (fr)) := by
  unfold laws_sameFloat.wp at h
  refine of_body Try.f67 F.hm Try.func67 rfl Try.call67 (by kernel_rfl) (by simp) ?_
  refine fi_seq ?_
  refine fi_region ?_
  refine so_assign rfl ?_
  refine so_nil ?_
  refine fi_seq ?_
  refine fi_seq ?_
  refine fi_region ?_
  refine so_move rfl ?_
  refine so_move rfl ?_
  refine so_bin rfl rfl ab_fneq ?_
  refine so_move rfl ?_
  replace h := ofT h; rcases h with ⟨c101, h⟩ | ⟨c101, h⟩
  · refine so_gno rfl c101 ?_
    refine so_gno rfl c101 ?_
    refine so_gno rfl c101 ?_
    refine so_pick_t rfl c101 rfl ?_
    refine so_nil ?_
    refine fi_true rfl rfl ?_
    refine fi_seq ?_
    refine fi_region ?_
    refine so_move rfl ?_
    refine so_move rfl ?_
    refine so_bin rfl rfl ab_fneq ?_
    refine so_move rfl ?_
    refine so_gyes rfl c101 ?_
    refine so_move rfl ?_
    refine so_gyes rfl c101 ?_
    refine so_move rfl ?_
    refine so_gyes rfl c101 ?_
    refine so_bin rfl rfl ab_fneq ?_
    refine so_pick_t rfl c101 rfl ?_
    refine so_assign rfl ?_
    refine so_nil ?_
    exact by_ret rfl ⟨_, h, rfl, hs⟩
  · refine so_gyes rfl c101 ?_
    refine so_move rfl ?_
    refine so_gyes rfl c101 ?_
    refine so_move rfl ?_
    refine so_gyes rfl c101 ?_
    refine so_bin rfl rfl ab_fneq ?_
    refine so_pick_f rfl c101 rfl ?_
    refine so_nil ?_
    replace h := ofT h; rcases h with ⟨c102, h⟩ | ⟨c102, h⟩
    · refine fi_true rfl c102 ?_
      refine fi_seq ?_
      refine fi_region ?_
      refine so_move rfl ?_
      refine so_move rfl ?_
      refine so_bin rfl rfl ab_fneq ?_
      refine so_move rfl ?_
      refine so_gno rfl c101 ?_
      refine so_gno rfl c101 ?_
      refine so_gno rfl c101 ?_
      refine so_pick_f rfl c101 rfl ?_
      refine so_assign rfl ?_
      refine so_nil ?_
      exact by_ret rfl ⟨_, h, rfl, hs⟩
    · refine fi_false rfl c102 ?_
      refine fi_skip ?_
      refine fi_seq ?_
      refine fi_seq ?_
      refine fi_region ?_
      refine so_move rfl ?_
      refine so_bin rfl rfl ab_feql ?_
      refine so_move rfl ?_
      replace h := ofT h; rcases h with ⟨c103, h⟩ | ⟨c103, h⟩
      · refine so_gyes rfl c103 ?_
        refine so_move rfl ?_
        refine so_gyes rfl c103 ?_
        refine so_bin rfl rfl ab_feql ?_
        refine so_pick_t rfl c103 rfl ?_
        refine so_nil ?_
        replace h := ofT h; rcases h with ⟨c104, h⟩ | ⟨c104, h⟩
        · refine fi_true rfl c104 ?_
          refine fi_seq ?_
          refine fi_region ?_
          refine so_move rfl ?_
          refine so_bin rfl rfl ab_fquo ?_
          refine so_bin rfl rfl ab_fgtr ?_
          refine so_move rfl ?_
          refine so_bin rfl rfl ab_fquo ?_
          refine so_bin rfl rfl ab_fgtr ?_
          refine so_bin rfl rfl (ab_beql F67.tb4) ?_
          refine so_assign rfl ?_
          refine so_nil ?_
          exact by_ret rfl ⟨_, h, rfl, hs⟩
        · refine fi_false rfl c104 ?_
          refine fi_skip ?_
          refine fi_seq ?_
          refine fi_region ?_
          refine so_move rfl ?_
          refine so_move rfl ?_
          refine so_bin rfl rfl ab_feql ?_
          refine so_assign rfl ?_
          refine so_nil ?_
          exact by_ret rfl ⟨_, h, rfl, hs⟩
      · refine so_gno rfl c103 ?_
        refine so_gno rfl c103 ?_
        refine so_pick_f rfl c103 rfl ?_
        refine so_nil ?_
        refine fi_false rfl rfl ?_
        refine fi_skip ?_
        refine fi_seq ?_
        refine fi_region ?_
        refine so_move rfl ?_
        refine so_move rfl ?_
        refine so_bin rfl rfl ab_feql ?_
        refine so_assign rfl ?_
        refine so_nil ?_
        exact by_ret rfl ⟨_, h, rfl, hs⟩

end Go.Proofs.Ytfieljajhmpbiaa.G

namespace Go.Proofs.Ytfieljajhmpbiaa.G
open Go Go.Ab Go.Proofs Go.Proofs.Ytfieljajhmpbiaa
set_option maxRecDepth 100000
set_option linter.unusedVariables false
set_option linter.unusedSimpArgs false
set_option maxHeartbeats 1000000
theorem F90.ag2 : tagg Try.prog 2 = some false := by kernel_rfl
theorem F90.ag36 : tagg Try.prog 36 = some false := by kernel_rfl
theorem F90.fd106_0 : tfield Try.prog 106 0 = some (0, 1, false) := by kernel_rfl
theorem F90.fd106_1 : tfield Try.prog 106 1 = some (1, 1, false) := by kernel_rfl
theorem F90.fl94 : tflt Try.prog 94 = some .f64 := by kernel_rfl
theorem F90.in94 : tint Try.prog 94 = none := by kernel_rfl
theorem F90.inf106 : (Try.prog.info? 106).isSome = true := by kernel_rfl
theorem F90.us36 : (Try.prog.underlying 36).isSome = true := by kernel_rfl
theorem laws_eqCost_ok {fr : List Pc} {H : Heap} (a0 : Int) (a1 : Nat) (a2 : Int) (a3 : Nat) (hs : Sep H (fr))  (K : Bool → Prop) (h : laws_eqCost.wp a0 a1 a2 a3 K) : OkQ Try.prog 90 [(.g [(.int .i64 a0), (.flt .f32 a1)]), (.g [(.int .i64 a2), (.flt .f32 a3)])] H (fun r H2 => ∃ (y0 : Bool), K y0 ∧ r = (.v (.bool y0)) ∧ Sep H2 (fr)) := by
  unfold laws_eqCost.wp at h
  refine of_body Try.f90 F.hm Try.func90 rfl Try.call90 (by kernel_rfl) (by simp) ?_
  refine fi_seq ?_
  refine fi_region ?_
  refine sv_box hs rfl (c := [(.int .i64 a0), (.flt .f32 a1)]) rfl F90.inf106 (stc rfl (stc rfl stn)) nofun (fun id101 H102 hs => ?_)
  refine sv_box hs rfl (c := [(.int .i64 a2), (.flt .f32 a3)]) rfl F90.inf106 (stc rfl (stc rfl stn)) nofun (fun id104 H105 hs => ?_)
  refine so_assign rfl ?_
  refine so_nil ?_
  refine fi_seq ?_
  refine fi_seq ?_
  refine fi_region ?_
  refine so_fieldAddr rfl F90.fd106_0 ?_
  refine sv_ld hs 1 rfl rfl rfl F90.ag2 ?_
  refine so_fieldAddr rfl F90.fd106_0 ?_
  refine sv_ld hs 0 rfl rfl rfl F90.ag2 ?_
  refine so_bin rfl rfl ab_neq ?_
  refine so_nil ?_
  replace h := ofP h; rcases h with ⟨c107, h⟩ | ⟨c107, h⟩
  · refine fi_false rfl (not_f (decide_eq_true c107)) ?_
    refine fi_skip ?_
    refine fi_seq ?_
    refine fi_seq ?_
    refine fi_region ?_
    refine so_fieldAddr rfl F90.fd106_1 ?_
    refine sv_ld hs 1 rfl rfl rfl F90.ag36 ?_
    refine sv_ffw rfl F90.us36 F90.in94 F90.fl94 ?_
    refine so_fieldAddr rfl F90.fd106_1 ?_
    refine sv_ld hs 0 rfl rfl rfl F90.ag36 ?_
    refine sv_ffw rfl F90.us36 F90.in94 F90.fl94 ?_
    refine sv_call (laws_sameFloat_ok (widen a1) (widen a3) hs  _ h) rfl rfl nofun ?_
    clear h hs
    rintro _ H109 ⟨y108, h, rfl, hs⟩
    refine so_un rfl au_not ?_
    refine so_nil ?_
    replace h := ofT h; rcases h with ⟨c110, h⟩ | ⟨c110, h⟩
    · refine fi_false rfl (not_f c110) ?_
      refine fi_skip ?_
      refine fi_seq ?_
      refine fi_region ?_
      refine so_assign rfl ?_
      refine so_nil ?_
      exact by_ret rfl ⟨_, h, rfl, (Sep.del 0 (Sep.del 0 hs))⟩
    · refine fi_true rfl (not_t c110) ?_
      refine fi_seq ?_
      refine fi_region ?_
      refine so_assign rfl ?_
      refine so_nil ?_
      exact by_ret rfl ⟨_, h, rfl, (Sep.del 0 (Sep.del 0 hs))⟩
  · refine fi_true rfl (not_t (decide_eq_false c107)) ?_
    refine fi_seq ?_
    refine fi_region ?_
    refine so_assign rfl ?_
    refine so_nil ?_
    exact by_ret rfl ⟨_, h, rfl, (Sep.del 0 (Sep.del 0 hs))⟩

end Go.Proofs.Ytfieljajhmpbiaa.G

namespace Go.Proofs.Ytfieljajhmpbiaa.G
open Go Go.Ab Go.Proofs Go.Proofs.Ytfieljajhmpbiaa
set_option maxRecDepth 100000
set_option linter.unusedVariables false
set_option linter.unusedSimpArgs false
set_option maxHeartbeats 1000000
theorem F42.ag106 : tagg Try.prog 106 = some true := by kernel_rfl
theorem F42.sz106 : tsz Try.prog 106 = some 2 := by kernel_rfl
theorem F42.ti54 : (telem Try.prog 54).isSome = true := by kernel_rfl
theorem F42.tl54 : (telem Try.prog 54).bind (tsz Try.prog) = some 2 := by kernel_rfl
theorem laws_eqCostS_ok {fr : List Pc} {H : Heap} (v0 : AV) (l0 : List ((Int) × (Nat))) (v1 : AV) (l1 : List ((Int) × (Nat))) (hs : Sep H (fr)) (g0 : ∀ H, Sep H fr → Shows H v0 2 (enc (ePair (eInt .i64) (eFlt .f32)) l0)) (g1 : ∀ H, Sep H fr → Shows H v1 2 (enc (ePair (eInt .i64) (eFlt .f32)) l1)) (K : Bool → Prop) (h : laws_eqCostS.wp l0 l1 K) : OkQ Try.prog 42 [(.v v0), (.v v1)] H (fun r H2 => ∃ (y0 : Bool), K y0 ∧ r = (.v (.bool y0)) ∧ Sep H2 (fr)) := by
  unfold laws_eqCostS.wp at h
  refine of_body Try.f42 F.hm Try.func42 rfl Try.call42 (by kernel_rfl) (by simp) ?_
  refine fi_seq ?_
  refine fi_region ?_
  refine so_assign rfl ?_
  refine so_nil ?_
  refine fi_seq ?_
  refine fi_seq ?_
  refine fi_region ?_
  refine so_move rfl ?_
  refine sv_len (g0 _ hs) (fun _ => rfl) (by decide) rfl F42.ti54 ?_
  refine so_move rfl ?_
  refine sv_len (g1 _ hs) (fun _ => rfl) (by decide) rfl F42.ti54 ?_
  refine so_bin rfl rfl ab_neq ?_
  refine so_nil ?_
  replace h := ofP h; rcases h with ⟨c101, h⟩ | ⟨c101, h⟩
  · refine fi_false rfl (not_f (decide_eq_true c101)) ?_
    refine fi_skip ?_
    refine fi_seq ?_
    refine fi_seq ?_
    refine fi_region ?_
    refine so_assign rfl ?_
    refine so_nil ?_
    refine fi_block ?_
    refine fi_loop ?_
    refine fi_at [(0, (.v v0)), (1, (.v v1)), (5, (.v (.int .i64 (0 : Int))))] ⟨rfl, rfl, rfl, trivial⟩ ?_
    refine h (fun (i103 : Int) => ∀ (s : Nat → TV) (H : Heap), Sep H (fr) → Fin _ _ (updL s [(0, (.v v0)), (1, (.v v1)), (5, (.v (.int .i64 i103)))]) H _) ?_ _ _ hs
    intro i103 h s110 H111 hs
    refine fi_inLoop ?_
    refine fi_seq ?_
    refine fi_seq ?_
    refine fi_region ?_
    refine so_move rfl ?_
    refine so_move rfl ?_
    refine sv_len (g0 _ hs) (fun _ => rfl) (by decide) rfl F42.ti54 ?_
    refine so_bin rfl rfl ab_lss ?_
    refine so_nil ?_
    replace h := ofP h; rcases h with ⟨c104, h⟩ | ⟨c104, h⟩
    · refine fi_true rfl (decide_eq_true c104) ?_
      refine fi_skip ?_
      refine fi_seq ?_
      refine fi_block ?_
      refine fi_seq ?_
      refine fi_region ?_
      refine so_move rfl ?_
      refine so_move rfl ?_
      obtain ⟨c105, h⟩ := h
      refine sv_idx (g0 _ hs) c105 (fun _ => rfl) (by decide) rfl rfl F42.tl54 ?_
      refine sv_elem (g0 _ hs) c105 ((0 : Int), (0 : Nat)) (fun _ => rfl) (by decide) rfl F42.ag106 F42.sz106 ?_
      refine so_move rfl ?_
      refine so_move rfl ?_
      obtain ⟨c106, h⟩ := h
      refine sv_idx (g1 _ hs) c106 (fun _ => rfl) (by decide) rfl rfl F42.tl54 ?_
      refine sv_elem (g1 _ hs) c106 ((0 : Int), (0 : Nat)) (fun _ => rfl) (by decide) rfl F42.ag106 F42.sz106 ?_
      refine sv_call (laws_eqCost_ok (l0.getD (i103).toNat ((0 : Int), (0 : Nat))).1 (l0.getD (i103).toNat ((0 : Int), (0 : Nat))).2 (l1.getD (i103).toNat ((0 : Int), (0 : Nat))).1 (l1.getD (i103).toNat ((0 : Int), (0 : Nat))).2 hs  _ h) rfl rfl (fun _ => by kernel_rfl) ?_
      clear h hs
      rintro _ H108 ⟨y107, h, rfl, hs⟩
      refine so_un rfl au_not ?_
      refine so_nil ?_
      replace h := ofT h; rcases h with ⟨c109, h⟩ | ⟨c109, h⟩
      · refine fi_false rfl (not_f c109) ?_
        refine fi_skip ?_
        refine fi_inBlock ?_
        refine fi_region ?_
        refine so_move rfl ?_
        refine so_bin rfl rfl ab_add ?_
        refine so_assign rfl ?_
        refine so_nil ?_
        exact fi_at [(0, (.v v0)), (1, (.v v1)), (5, (.v (.int .i64 (IntKind.i64.wrap (i103 + (1 : Int))))))] ⟨rfl, rfl, rfl, trivial⟩ (h _ _  hs)
      · refine fi_true rfl (not_t c109) ?_
        refine fi_seq ?_
        refine fi_region ?_
        refine so_assign rfl ?_
        refine so_nil ?_
        exact by_ret rfl ⟨_, h, rfl, hs⟩
    · refine fi_false rfl (decide_eq_false c104) ?_
      refine fi_exit rfl ?_
      refine fi_seq ?_
      refine fi_region ?_
      refine so_assign rfl ?_
      refine so_nil ?_
      exact by_ret rfl ⟨_, h, rfl, hs⟩
  · refine fi_true rfl (not_t (decide_eq_false c101)) ?_
    refine fi_seq ?_
    refine fi_region ?_
    refine so_assign rfl ?_
    refine so_nil ?_
    exact by_ret rfl ⟨_, h, rfl, hs⟩

end Go.Proofs.Ytfieljajhmpbiaa.G

namespace Go.Proofs.Ytfieljajhmpbiaa.G
open Go Go.Ab Go.Proofs Go.Proofs.Ytfieljajhmpbiaa
set_option maxRecDepth 100000
set_option linter.unusedVariables false
set_option linter.unusedSimpArgs false
set_option maxHeartbeats 1000000
theorem F43.fd106_0 : tfield Try.prog 106 0 = some (0, 1, false) := by kernel_rfl
theorem F43.fd106_1 : tfield Try.prog 106 1 = some (1, 1, false) := by kernel_rfl
theorem F43.fl36 : tflt Try.prog 36 = some .f32 := by kernel_rfl
theorem F43.in36 : tint Try.prog 36 = none := by kernel_rfl
theorem F43.sz2 : tsz Try.prog 2 = some 1 := by kernel_rfl
theorem F43.sz36 : tsz Try.prog 36 = some 1 := by kernel_rfl
theorem F43.ti54 : (telem Try.prog 54).isSome = true := by kernel_rfl
theorem F43.tl54 : (telem Try.prog 54).bind (tsz Try.prog) = some 2 := by kernel_rfl
theorem F43.us3 : (Try.prog.underlying 3).isSome = true := by kernel_rfl
theorem laws_markCostS_ok {fr : List Pc} {H : Heap} (v0 : AV) (l0 : List ((Int) × (Nat))) (a1 : Int) (hs : Sep H (Pc.osl v0 2 (enc (ePair (eInt .i64) (eFlt .f32)) l0) :: fr))  (K : Int → (List ((Int) × (Nat))) → Prop) (h : laws_markCostS.wp l0 a1 K) : OkQ Try.prog 43 [(.v v0), (.v (.int .i64 a1))] H (fun r H2 => ∃ (y0 : Int) (y1 : List ((Int) × (Nat))), K y0 y1 ∧ r = (.v (.int .i64 y0)) ∧ Sep H2 (Pc.osl v0 2 (enc (ePair (eInt .i64) (eFlt .f32)) y1) :: fr)) := by
  unfold laws_markCostS.wp at h
  refine of_body Try.f43 F.hm Try.func43 rfl Try.call43 (by kernel_rfl) (by simp) ?_
  refine fi_seq ?_
  refine fi_region ?_
  refine so_assign rfl ?_
  refine so_nil ?_
  refine fi_seq ?_
  refine fi_seq ?_
  refine fi_region ?_
  refine so_assign rfl ?_
  refine so_nil ?_
  refine fi_block ?_
  refine fi_loop ?_
  refine fi_at [(0, (.v v0)), (1, (.v (.int .i64 a1))), (5, (.v (.int .i64 (0 : Int))))] ⟨rfl, rfl, rfl, trivial⟩ ?_
  refine h (fun (a111 : List ((Int) × (Nat))) (k112 : Int) (i113 : Int) => ∀ (s : Nat → TV) (H : Heap), Sep H (Pc.osl v0 2 (enc (ePair (eInt .i64) (eFlt .f32)) a111) :: fr) → Fin _ _ (updL s [(0, (.v v0)), (1, (.v (.int .i64 k112))), (5, (.v (.int .i64 i113)))]) H _) ?_ _ _ hs
  intro a111 k112 i113 h s119 H120 hs
  refine fi_inLoop ?_
  refine fi_seq ?_
  refine fi_seq ?_
  refine fi_region ?_
  refine so_move rfl ?_
  refine so_move rfl ?_
  refine sv_len (hs.shows 0 rfl) (fun _ => rfl) (by decide) rfl F43.ti54 ?_
  refine so_bin rfl rfl ab_lss ?_
  refine so_nil ?_
  replace h := ofP h; rcases h with ⟨c114, h⟩ | ⟨c114, h⟩
  · refine fi_true rfl (decide_eq_true c114) ?_
    refine fi_skip ?_
    refine fi_seq ?_
    refine fi_block ?_
    refine fi_seq ?_
    refine fi_region ?_
    refine so_move rfl ?_
    refine so_move rfl ?_
    refine so_move rfl ?_
    obtain ⟨c115, h⟩ := h
    refine sv_idx (hs.shows 0 rfl) c115 (fun _ => rfl) (by decide) rfl rfl F43.tl54 ?_
    refine so_fieldAddr rfl F43.fd106_0 ?_
    refine sv_setf hs 0 rfl c115 ((0 : Int), (0 : Nat)) (k112, (a111.getD (i113).toNat ((0 : Int), (0 : Nat))).2) 0 (fun _ => rfl) (by decide) rfl rfl rfl rfl F43.sz2 nofun (fun H116 hs => ?_)
    refine so_nil ?_
    refine fi_seq ?_
    refine fi_region ?_
    refine so_move rfl ?_
    refine so_bin rfl rfl ab_add ?_
    refine so_assign rfl ?_
    refine so_nil ?_
    refine fi_seq ?_
    refine fi_region ?_
    refine so_move rfl ?_
    refine so_move rfl ?_
    refine so_move rfl ?_
    refine sv_if rfl F43.us3 F43.in36 F43.fl36 ?_
    obtain ⟨c117, h⟩ := h
    refine sv_idx (hs.shows 0 rfl) c117 (fun _ => rfl) (by decide) rfl rfl F43.tl54 ?_
    refine so_fieldAddr rfl F43.fd106_1 ?_
    refine sv_setf hs 0 rfl c117 ((0 : Int), (0 : Nat)) (((a111.set (i113).toNat (k112, (a111.getD (i113).toNat ((0 : Int), (0 : Nat))).2)).getD (i113).toNat ((0 : Int), (0 : Nat))).1, (itof .f32 (IntKind.i64.wrap (k112 + (1 : Int))))) 1 (fun _ => rfl) (by decide) rfl rfl rfl rfl F43.sz36 nofun (fun H118 hs => ?_)
    refine so_nil ?_
    refine fi_region ?_
    refine so_move rfl ?_
    refine so_bin rfl rfl ab_add ?_
    refine so_assign rfl ?_
    refine so_nil ?_
    refine fi_inBlock ?_
    refine fi_region ?_
    refine so_move rfl ?_
    refine so_bin rfl rfl ab_add ?_
    refine so_assign rfl ?_
    refine so_nil ?_
    exact fi_at [(0, (.v v0)), (1, (.v (.int .i64 (IntKind.i64.wrap ((IntKind.i64.wrap (k112 + (1 : Int))) + (1 : Int)))))), (5, (.v (.int .i64 (IntKind.i64.wrap (i113 + (1 : Int))))))] ⟨rfl, rfl, rfl, trivial⟩ (h _ _  hs)
  · refine fi_false rfl (decide_eq_false c114) ?_
    refine fi_exit rfl ?_
    refine fi_seq ?_
    refine fi_region ?_
    refine so_move rfl ?_
    refine so_assign rfl ?_
    refine so_nil ?_
    exact by_ret rfl ⟨_, _, h, rfl, hs⟩

end Go.Proofs.Ytfieljajhmpbiaa.G

namespace Go.Proofs.Ytfieljajhmpbiaa.G
open Go Go.Ab Go.Proofs Go.Proofs.Ytfieljajhmpbiaa
set_option maxRecDepth 100000
set_option linter.unusedVariables false
set_option linter.unusedSimpArgs false
set_option maxHeartbeats 1000000
theorem F9.tb4 : tbool Try.prog 4 = true := by kernel_rfl
theorem laws_FnExactEdgeCosts_ok {fr : List Pc} {H : Heap} (v0 : AV) (l0 : List ((Int) × (Nat))) (hs : Sep H (fr)) (g0 : ∀ H, Sep H fr → Shows H v0 2 (enc (ePair (eInt .i64) (eFlt .f32)) l0)) (K : Bool → Prop) (h : laws_FnExactEdgeCosts.wp l0 K) : OkQ Try.prog 9 [(.v v0)] H (fun r H2 => ∃ (y0 : Bool), K y0 ∧ r = (.v (.bool y0)) ∧ Sep H2 (fr)) := by
  unfold laws_FnExactEdgeCosts.wp at h
  refine of_body Try.f9 F.hm Try.func9 rfl Try.call9 (by kernel_rfl) (by simp) ?_
  refine fi_seq ?_
  refine fi_region ?_
  refine so_assign rfl ?_
  refine so_nil ?_
  refine fi_seq ?_
  refine fi_region ?_
  refine so_assign rfl ?_
  refine so_nil ?_
  refine fi_seq ?_
  refine fi_region ?_
  refine so_move rfl ?_
  refine so_move rfl ?_
  refine sv_call (laws_szCostS_ok v0 l0 (1048576 : Int) hs (fun _ hs => (g0 _ hs)) _ h) rfl rfl nofun ?_
  clear h hs
  rintro _ H102 ⟨y101, h, rfl, hs⟩
  refine so_assign rfl ?_
  refine so_nil ?_
  refine fi_seq ?_
  refine fi_seq ?_
  refine fi_region ?_
  refine so_move rfl ?_
  refine so_bin rfl rfl ab_lss ?_
  refine so_nil ?_
  replace h := ofP h; rcases h with ⟨c103, h⟩ | ⟨c103, h⟩
  · refine fi_true rfl (decide_eq_true c103) ?_
    refine fi_seq ?_
    refine fi_region ?_
    refine so_assign rfl ?_
    refine so_nil ?_
    exact by_ret rfl ⟨_, h, rfl, hs⟩
  · refine fi_false rfl (decide_eq_false c103) ?_
    refine fi_skip ?_
    refine fi_seq ?_
    refine fi_region ?_
    refine so_move rfl ?_
    refine sv_call (laws_toCostS_ok v0 l0 hs (fun _ hs => (g0 _ hs)) _ h) rfl rfl nofun ?_
    clear h hs
    rintro _ H107 ⟨y104, h, v105, rfl, hs⟩
    refine sv_call (spec_EdgeCosts_ok v105 y104 hs (fun _ hs => (hs.shows 0 rfl)) _ h) rfl rfl nofun ?_
    clear h hs
    rintro _ H112 ⟨y108, y111, h, v109, rfl, hs⟩
    refine so_move rfl ?_
    refine so_extract rfl rfl rfl ?_
    refine so_extract rfl rfl rfl ?_
    refine so_assign rfl ?_
    refine so_assign rfl ?_
    refine so_nil ?_
    refine fi_seq ?_
    refine fi_region ?_
    refine so_move rfl ?_
    refine sv_call (laws_toCostS_ok v0 l0 hs (fun _ hs => (g0 _ hs.tl.tl)) _ h) rfl rfl nofun ?_
    clear h hs
    rintro _ H116 ⟨y113, h, v114, rfl, hs⟩
    refine so_assign rfl ?_
    refine so_nil ?_
    refine fi_seq ?_
    refine fi_region ?_
    refine so_move rfl ?_
    refine sv_call (impl_EdgeCosts_ok v114 y113 hs (fun _ hs => (hs.shows 0 rfl)) _ h) rfl rfl nofun ?_
    clear h hs
    rintro _ H121 ⟨y117, y120, h, v118, rfl, hs⟩
    refine so_move rfl ?_
    refine so_extract rfl rfl rfl ?_
    refine so_extract rfl rfl rfl ?_
    refine so_assign rfl ?_
    refine so_assign rfl ?_
    refine so_nil ?_
    refine fi_seq ?_
    refine fi_seq ?_
    refine fi_region ?_
    refine so_move rfl ?_
    refine so_move rfl ?_
    refine sv_call (laws_eqInt64S_ok v118 y117 v109 y108 hs (fun _ hs => (hs.shows 0 rfl)) (fun _ hs => (hs.shows 2 rfl)) _ h) rfl rfl nofun ?_
    clear h hs
    rintro _ H123 ⟨y122, h, rfl, hs⟩
    refine so_un rfl au_not ?_
    refine so_move rfl ?_
    replace h := ofT h; rcases h with ⟨c124, h⟩ | ⟨c124, h⟩
    · refine so_gyes rfl (not_f c124) ?_
      refine so_move rfl ?_
      refine so_gyes rfl (not_f c124) ?_
      refine so_move rfl ?_
      refine so_gyes rfl (not_f c124) ?_
      refine so_bin rfl rfl (ab_bneq F9.tb4) ?_
      refine so_pick_f rfl (not_f c124) rfl ?_
      refine so_nil ?_
      replace h := ofT h; rcases h with ⟨c125, h⟩ | ⟨c125, h⟩
      · refine fi_false rfl (not_f c125) ?_
        refine fi_skip ?_
        refine fi_seq ?_
        refine fi_seq ?_
        refine fi_region ?_
        refine so_move rfl ?_
        refine so_move rfl ?_
        refine sv_call (laws_toCostS_ok v0 l0 hs (fun _ hs => (g0 _ hs.tl.tl.tl.tl)) _ h) rfl rfl nofun ?_
        clear h hs
        rintro _ H129 ⟨y126, h, v127, rfl, hs⟩
        refine sv_call (laws_eqCostS_ok v114 y113 v127 y126 hs (fun _ hs => (hs.shows 2 rfl)) (fun _ hs => (hs.shows 0 rfl)) _ h) rfl rfl nofun ?_
        clear h hs
        rintro _ H131 ⟨y130, h, rfl, hs⟩
        refine so_un rfl au_not ?_
        refine so_nil ?_
        replace h := ofT h; rcases h with ⟨c132, h⟩ | ⟨c132, h⟩
        · refine fi_false rfl (not_f c132) ?_
          refine fi_skip ?_
          refine fi_seq ?_
          refine fi_region ?_
          refine so_assign rfl ?_
          refine so_nil ?_
          refine fi_seq ?_
          refine fi_region ?_
          refine so_move rfl ?_
          refine so_move rfl ?_
          replace hs := (Sep.front 2 hs rfl)
          refine sv_call (laws_markCostS_ok v114 y113 (1 : Int) hs  _ h) rfl rfl nofun ?_
          clear h hs
          rintro _ H135 ⟨y133, y134, h, rfl, hs⟩
          refine so_assign rfl ?_
          refine so_nil ?_
          refine fi_seq ?_
          refine fi_seq ?_
          refine fi_region ?_
          refine so_move rfl ?_
          refine so_bin rfl rfl ab_lss ?_
          refine so_move rfl ?_
          replace h := ofP h; rcases h with ⟨c136, h⟩ | ⟨c136, h⟩
          · refine so_gno rfl (decide_eq_true c136) ?_
            refine so_gno rfl (decide_eq_true c136) ?_
            refine so_gno rfl (decide_eq_true c136) ?_
            refine so_gno rfl (decide_eq_true c136) ?_
            refine so_pick_t rfl (decide_eq_true c136) rfl ?_
            refine so_move rfl ?_
            refine so_gno rfl rfl ?_
            refine so_gno rfl rfl ?_
            refine so_gno rfl rfl ?_
            refine so_pick_t rfl rfl rfl ?_
            refine so_nil ?_
            refine fi_true rfl rfl ?_
            refine fi_seq ?_
            refine fi_region ?_
            refine so_assign rfl ?_
            refine so_nil ?_
            exact by_ret rfl ⟨_, h, rfl, (Sep.del 0 (Sep.del 0 (Sep.del 0 (Sep.del 0 (Sep.del 0 hs)))))⟩
          · refine so_gyes rfl (decide_eq_false c136) ?_
            refine so_move rfl ?_
            refine so_gyes rfl (decide_eq_false c136) ?_
            refine so_move rfl ?_
            refine so_gyes rfl (decide_eq_false c136) ?_
            refine sv_call (laws_eqInt64S_ok v118 y117 v109 y108 hs (fun _ hs => (hs.shows 2 rfl)) (fun _ hs => (hs.shows 3 rfl)) _ h) rfl rfl nofun ?_
            clear h hs
            rintro _ H138 ⟨y137, h, rfl, hs⟩
            refine so_gyes rfl (decide_eq_false c136) ?_
            refine so_un rfl au_not ?_
            refine so_pick_f rfl (decide_eq_false c136) rfl ?_
            refine so_move rfl ?_
            replace h := ofT h; rcases h with ⟨c139, h⟩ | ⟨c139, h⟩
            · refine so_gyes rfl (not_f c139) ?_
              refine so_move rfl ?_
              refine so_gyes rfl (not_f c139) ?_
              refine so_move rfl ?_
              refine so_gyes rfl (not_f c139) ?_
              refine so_bin rfl rfl (ab_bneq F9.tb4) ?_
              refine so_pick_f rfl (not_f c139) rfl ?_
              refine so_nil ?_
              refine fi_false rfl (not_f c125) ?_
              refine fi_skip ?_
              refine fi_seq ?_
              refine fi_region ?_
              refine so_assign rfl ?_
              refine so_nil ?_
              refine fi_seq ?_
              refine fi_region ?_
              refine so_move rfl ?_
              refine so_move rfl ?_
              replace hs := (Sep.front 2 hs rfl)
              refine sv_call (laws_markInt64S_ok v118 y117 (1 : Int) hs  _ h) rfl rfl nofun ?_
              clear h hs
              rintro _ H142 ⟨y140, y141, h, rfl, hs⟩
              refine so_assign rfl ?_
              refine so_nil ?_
              refine fi_seq ?_
              refine fi_region ?_
              refine so_assign rfl ?_
              refine so_nil ?_
              refine fi_seq ?_
              refine fi_region ?_
              refine so_move rfl ?_
              refine so_move rfl ?_
              refine sv_call (laws_heldInt64S_ok v118 y141 (1 : Int) hs (fun _ hs => (hs.shows 0 rfl)) _ h) rfl rfl nofun ?_
              clear h hs
              rintro _ H144 ⟨y143, h, rfl, hs⟩
              refine so_assign rfl ?_
              refine so_nil ?_
              refine fi_seq ?_
              refine fi_seq ?_
              refine fi_region ?_
              refine so_move rfl ?_
              refine so_bin rfl rfl ab_lss ?_
              refine so_nil ?_
              replace h := ofP h; rcases h with ⟨c145, h⟩ | ⟨c145, h⟩
              · refine fi_true rfl (decide_eq_true c145) ?_
                refine fi_seq ?_
                refine fi_region ?_
                refine so_assign rfl ?_
                refine so_nil ?_
                exact by_ret rfl ⟨_, h, rfl, (Sep.del 0 (Sep.del 0 (Sep.del 0 (Sep.del 0 (Sep.del 0 hs)))))⟩
              · refine fi_false rfl (decide_eq_false c145) ?_
                refine fi_skip ?_
                refine fi_seq ?_
                refine fi_seq ?_
                refine fi_region ?_
                refine so_move rfl ?_
                refine so_move rfl ?_
                refine so_bin rfl rfl ab_neq ?_
                refine so_nil ?_
                replace h := ofP h; rcases h with ⟨c146, h⟩ | ⟨c146, h⟩
                · refine fi_false rfl (not_f (decide_eq_true c146)) ?_
                  refine fi_skip ?_
                  refine fi_seq ?_
                  refine fi_region ?_
                  refine so_move rfl ?_
                  refine sv_call (laws_toCostS_ok v0 l0 hs (fun _ hs => (g0 _ hs.tl.tl.tl.tl.tl)) _ h) rfl rfl nofun ?_
                  clear h hs
                  rintro _ H150 ⟨y147, h, v148, rfl, hs⟩
                  refine sv_call (impl_EdgeCosts_ok v148 y147 hs (fun _ hs => (hs.shows 0 rfl)) _ h) rfl rfl nofun ?_
                  clear h hs
                  rintro _ H155 ⟨y151, y154, h, v152, rfl, hs⟩
                  refine so_move rfl ?_
                  refine so_extract rfl rfl rfl ?_
                  refine so_extract rfl rfl rfl ?_
                  refine so_assign rfl ?_
                  refine so_assign rfl ?_
                  refine so_nil ?_
                  refine fi_seq ?_
                  refine fi_seq ?_
                  refine fi_region ?_
                  refine so_move rfl ?_
                  refine so_move rfl ?_
                  refine sv_call (laws_eqInt64S_ok v152 y151 v109 y108 hs (fun _ hs => (hs.shows 0 rfl)) (fun _ hs => (hs.shows 5 rfl)) _ h) rfl rfl nofun ?_
                  clear h hs
                  rintro _ H157 ⟨y156, h, rfl, hs⟩
                  refine so_un rfl au_not ?_
                  refine so_move rfl ?_
                  replace h := ofT h; rcases h with ⟨c158, h⟩ | ⟨c158, h⟩
                  · refine so_gyes rfl (not_f c158) ?_
                    refine so_move rfl ?_
                    refine so_gyes rfl (not_f c158) ?_
                    refine so_move rfl ?_
                    refine so_gyes rfl (not_f c158) ?_
                    refine so_bin rfl rfl (ab_bneq F9.tb4) ?_
                    refine so_pick_f rfl (not_f c158) rfl ?_
                    refine so_nil ?_
                    replace h := ofT h; rcases h with ⟨c159, h⟩ | ⟨c159, h⟩
                    · refine fi_false rfl (not_f c159) ?_
                      refine fi_skip ?_
                      refine fi_seq ?_
                      refine fi_region ?_
                      refine so_assign rfl ?_
                      refine so_nil ?_
                      refine fi_seq ?_
                      refine fi_region ?_
                      refine so_move rfl ?_
                      refine so_move rfl ?_
                      refine sv_call (laws_heldInt64S_ok v118 y141 (1 : Int) hs (fun _ hs => (hs.shows 2 rfl)) _ h) rfl rfl nofun ?_
                      clear h hs
                      rintro _ H161 ⟨y160, h, rfl, hs⟩
                      refine so_assign rfl ?_
                      refine so_nil ?_
                      refine fi_seq ?_
                      refine fi_seq ?_
                      refine fi_region ?_
                      refine so_move rfl ?_
                      refine so_bin rfl rfl ab_lss ?_
                      refine so_nil ?_
                      replace h := ofP h; rcases h with ⟨c162, h⟩ | ⟨c162, h⟩
                      · refine fi_true rfl (decide_eq_true c162) ?_
                        refine fi_seq ?_
                        refine fi_region ?_
                        refine so_assign rfl ?_
                        refine so_nil ?_
                        exact by_ret rfl ⟨_, h, rfl, (Sep.del 0 (Sep.del 0 (Sep.del 0 (Sep.del 0 (Sep.del 0 (Sep.del 0 (Sep.del 0 hs)))))))⟩
                      · refine fi_false rfl (decide_eq_false c162) ?_
                        refine fi_skip ?_
                        refine fi_seq ?_
                        refine fi_seq ?_
                        refine fi_region ?_
                        refine so_move rfl ?_
                        refine so_move rfl ?_
                        refine so_bin rfl rfl ab_neq ?_
                        refine so_nil ?_
                        replace h := ofP h; rcases h with ⟨c163, h⟩ | ⟨c163, h⟩
                        · refine fi_false rfl (not_f (decide_eq_true c163)) ?_
                          refine fi_skip ?_
                          refine fi_seq ?_
                          refine fi_region ?_
                          refine so_assign rfl ?_
                          refine so_nil ?_
                          exact by_ret rfl ⟨_, h, rfl, (Sep.del 0 (Sep.del 0 (Sep.del 0 (Sep.del 0 (Sep.del 0 (Sep.del 0 (Sep.del 0 hs)))))))⟩
                        · refine fi_true rfl (not_t (decide_eq_false c163)) ?_
                          refine fi_seq ?_
                          refine fi_region ?_
                          refine so_assign rfl ?_
                          refine so_nil ?_
                          exact by_ret rfl ⟨_, h, rfl, (Sep.del 0 (Sep.del 0 (Sep.del 0 (Sep.del 0 (Sep.del 0 (Sep.del 0 (Sep.del 0 hs)))))))⟩
                    · refine fi_true rfl (not_t c159) ?_
                      refine fi_seq ?_
                      refine fi_region ?_
                      refine so_assign rfl ?_
                      refine so_nil ?_
                      exact by_ret rfl ⟨_, h, rfl, (Sep.del 0 (Sep.del 0 (Sep.del 0 (Sep.del 0 (Sep.del 0 (Sep.del 0 (Sep.del 0 hs)))))))⟩
                  · refine so_gno rfl (not_t c158) ?_
                    refine so_gno rfl (not_t c158) ?_
                    refine so_gno rfl (not_t c158) ?_
                    refine so_pick_t rfl (not_t c158) rfl ?_
                    refine so_nil ?_
                    refine fi_true rfl rfl ?_
                    refine fi_seq ?_
                    refine fi_region ?_
                    refine so_assign rfl ?_
                    refine so_nil ?_
                    exact by_ret rfl ⟨_, h, rfl, (Sep.del 0 (Sep.del 0 (Sep.del 0 (Sep.del 0 (Sep.del 0 (Sep.del 0 (Sep.del 0 hs)))))))⟩
                · refine fi_true rfl (not_t (decide_eq_false c146)) ?_
                  refine fi_seq ?_
                  refine fi_region ?_
                  refine so_assign rfl ?_
                  refine so_nil ?_
                  exact by_ret rfl ⟨_, h, rfl, (Sep.del 0 (Sep.del 0 (Sep.del 0 (Sep.del 0 (Sep.del 0 hs)))))⟩
            · refine so_gno rfl (not_t c139) ?_
              refine so_gno rfl (not_t c139) ?_
              refine so_gno rfl (not_t c139) ?_
              refine so_pick_t rfl (not_t c139) rfl ?_
              refine so_nil ?_
              refine fi_true rfl rfl ?_
              refine fi_seq ?_
              refine fi_region ?_
              refine so_assign rfl ?_
              refine so_nil ?_
              exact by_ret rfl ⟨_, h, rfl, (Sep.del 0 (Sep.del 0 (Sep.del 0 (Sep.del 0 (Sep.del 0 hs)))))⟩
        · refine fi_true rfl (not_t c132) ?_
          refine fi_seq ?_
          refine fi_region ?_
          refine so_assign rfl ?_
          refine so_nil ?_
          exact by_ret rfl ⟨_, h, rfl, (Sep.del 0 (Sep.del 0 (Sep.del 0 (Sep.del 0 (Sep.del 0 hs)))))⟩
      · refine fi_true rfl (not_t c125) ?_
        refine fi_seq ?_
        refine fi_region ?_
        refine so_assign rfl ?_
        refine so_nil ?_
        exact by_ret rfl ⟨_, h, rfl, (Sep.del 0 (Sep.del 0 (Sep.del 0 (Sep.del 0 hs))))⟩
    · refine so_gno rfl (not_t c124) ?_
      refine so_gno rfl (not_t c124) ?_
      refine so_gno rfl (not_t c124) ?_
      refine so_pick_t rfl (not_t c124) rfl ?_
      refine so_nil ?_
      refine fi_true rfl rfl ?_
      refine fi_seq ?_
      refine fi_region ?_
      refine so_assign rfl ?_
      refine so_nil ?_
      exact by_ret rfl ⟨_, h, rfl, (Sep.del 0 (Sep.del 0 (Sep.del 0 (Sep.del 0 hs))))⟩

end Go.Proofs.Ytfieljajhmpbiaa.G

