/-
  The model ends so. Printed by a program of the session; nothing here is trusted.
-/
import Derived.Test.YtplfnchoooehgaaProg
import Derived.KernelRfl
import Derived.Test.YtplfnchoooehgaaMExactCodeListWa
namespace Go.Proofs.Ytplfnchoooehgaa.F
open Go Go.Ab Go.Proofs
set_option maxRecDepth 100000
set_option linter.unusedVariables false
set_option linter.unusedSimpArgs false
set_option maxHeartbeats 1000000
theorem hm : Try.prog.follows .mixedOrders = true := by kernel_rfl
end Go.Proofs.Ytplfnchoooehgaa.F

namespace Go.Proofs.Ytplfnchoooehgaa.G
open Go Go.Ab Go.Proofs Go.Proofs.Ytplfnchoooehgaa
set_option maxRecDepth 100000
set_option linter.unusedVariables false
set_option linter.unusedSimpArgs false
set_option maxHeartbeats 1000000
theorem F10.ag2 : tagg Try.prog 2 = some false := by kernel_rfl
theorem F10.ti22 : (telem Try.prog 22).isSome = true := by kernel_rfl
theorem F10.tl22 : (telem Try.prog 22).bind (tsz Try.prog) = some 1 := by kernel_rfl
theorem laws_eqInt64S_ok {fr : List Pc} {H : Heap} (v0 : AV) (l0 : List (Int)) (v1 : AV) (l1 : List (Int)) (hs : Sep H (fr)) (g0 : ∀ H, Sep H fr → Shows H v0 1 (enc (eInt .i64) l0)) (g1 : ∀ H, Sep H fr → Shows H v1 1 (enc (eInt .i64) l1)) (K : Bool → Prop) (h : laws_eqInt64S.wp l0 l1 K) : OkQ Try.prog 10 [(.v v0), (.v v1)] H (fun r H2 => ∃ (y0 : Bool), K y0 ∧ r = (.v (.bool y0)) ∧ H = H2) := by
  unfold laws_eqInt64S.wp at h
  refine of_body Try.f10 F.hm Try.func10 rfl Try.call10 (by kernel_rfl) (by simp) ?_
  refine fi_seq ?_
  refine fi_region ?_
  refine so_assign rfl ?_
  refine so_nil ?_
  refine fi_seq ?_
  refine fi_seq ?_
  refine fi_region ?_
  refine so_move rfl ?_
  refine sv_len (g0 _ hs) (fun _ => rfl) (by decide) rfl F10.ti22 ?_
  refine so_move rfl ?_
  refine sv_len (g1 _ hs) (fun _ => rfl) (by decide) rfl F10.ti22 ?_
  refine so_bin rfl rfl ab_neq ?_
  refine so_nil ?_
  replace h := ofP h; rcases h with ⟨c101, h⟩ | ⟨c101, h⟩
  · refine fi_false rfl (not_f (decide_eq_true c101)) ?_
    refine fi_skip ?_
    refine fi_seq ?_
    refine fi_seq ?_
    refine fi_region ?_
    refine so_assign rfl ?_
    refine so_nil ?_
    refine fi_block ?_
    refine fi_loop ?_
    refine fi_at [(0, (.v v0)), (1, (.v v1)), (5, (.v (.int .i64 (0 : Int))))] ⟨rfl, rfl, rfl, trivial⟩ ?_
    refine h (fun (i103 : Int) => ∀ (s : Nat → TV), Fin _ _ (updL s [(0, (.v v0)), (1, (.v v1)), (5, (.v (.int .i64 i103)))]) _ _) ?_ _
    intro i103 h s108
    refine fi_inLoop ?_
    refine fi_seq ?_
    refine fi_seq ?_
    refine fi_region ?_
    refine so_move rfl ?_
    refine so_move rfl ?_
    refine sv_len (g0 _ hs) (fun _ => rfl) (by decide) rfl F10.ti22 ?_
    refine so_bin rfl rfl ab_lss ?_
    refine so_nil ?_
    replace h := ofP h; rcases h with ⟨c104, h⟩ | ⟨c104, h⟩
    · refine fi_true rfl (decide_eq_true c104) ?_
      refine fi_skip ?_
      refine fi_seq ?_
      refine fi_block ?_
      refine fi_seq ?_
      refine fi_region ?_
      refine so_move rfl ?_
      refine so_move rfl ?_
      obtain ⟨c105, h⟩ := h
      refine sv_idx (g0 _ hs) c105 (fun _ => rfl) (by decide) rfl rfl F10.tl22 ?_
      refine sv_cell (g0 _ hs) c105 (0 : Int) 0 (fun x => (AV.int .i64 x)) (fun _ => rfl) (fun _ => rfl) rfl F10.ag2 ?_
      refine so_move rfl ?_
      refine so_move rfl ?_
      obtain ⟨c106, h⟩ := h
      refine sv_idx (g1 _ hs) c106 (fun _ => rfl) (by decide) rfl rfl F10.tl22 ?_
      refine sv_cell (g1 _ hs) c106 (0 : Int) 0 (fun x => (AV.int .i64 x)) (fun _ => rfl) (fun _ => rfl) rfl F10.ag2 ?_
      refine so_bin rfl rfl ab_neq ?_
      refine so_nil ?_
      replace h := ofP h; rcases h with ⟨c107, h⟩ | ⟨c107, h⟩
      · refine fi_false rfl (not_f (decide_eq_true c107)) ?_
        refine fi_skip ?_
        refine fi_inBlock ?_
        refine fi_region ?_
        refine so_move rfl ?_
        refine so_bin rfl rfl ab_add ?_
        refine so_assign rfl ?_
        refine so_nil ?_
        exact fi_at [(0, (.v v0)), (1, (.v v1)), (5, (.v (.int .i64 (IntKind.i64.wrap (i103 + (1 : Int))))))] ⟨rfl, rfl, rfl, trivial⟩ (h _)
      · refine fi_true rfl (not_t (decide_eq_false c107)) ?_
        refine fi_seq ?_
        refine fi_region ?_
        refine so_assign rfl ?_
        refine so_nil ?_
        exact by_ret rfl ⟨_, h, rfl, rfl⟩
    · refine fi_false rfl (decide_eq_false c104) ?_
      refine fi_exit rfl ?_
      refine fi_seq ?_
      refine fi_region ?_
      refine so_assign rfl ?_
      refine so_nil ?_
      exact by_ret rfl ⟨_, h, rfl, rfl⟩
  · refine fi_true rfl (not_t (decide_eq_false c101)) ?_
    refine fi_seq ?_
    refine fi_region ?_
    refine so_assign rfl ?_
    refine so_nil ?_
    exact by_ret rfl ⟨_, h, rfl, rfl⟩

end Go.Proofs.Ytplfnchoooehgaa.G

namespace Go.Proofs.Ytplfnchoooehgaa.G
open Go Go.Ab Go.Proofs Go.Proofs.Ytplfnchoooehgaa
set_option maxRecDepth 100000
set_option linter.unusedVariables false
set_option linter.unusedSimpArgs false
set_option maxHeartbeats 1000000
theorem F11.sz2 : tsz Try.prog 2 = some 1 := by kernel_rfl
theorem F11.ti22 : (telem Try.prog 22).isSome = true := by kernel_rfl
theorem F11.tl22 : (telem Try.prog 22).bind (tsz Try.prog) = some 1 := by kernel_rfl
theorem laws_markInt64S_ok {fr : List Pc} {H : Heap} (v0 : AV) (l0 : List (Int)) (a1 : Int) (hs : Sep H (Pc.osl v0 1 (enc (eInt .i64) l0) :: fr))  (K : Int → (List (Int)) → Prop) (h : laws_markInt64S.wp l0 a1 K) : OkQ Try.prog 11 [(.v v0), (.v (.int .i64 a1))] H (fun r H2 => ∃ (y0 : Int) (y1 : List (Int)), K y0 y1 ∧ r = (.v (.int .i64 y0)) ∧ Sep H2 (Pc.osl v0 1 (enc (eInt .i64) y1) :: fr)) := by
  unfold laws_markInt64S.wp at h
  refine of_body Try.f11 F.hm Try.func11 rfl Try.call11 (by kernel_rfl) (by simp) ?_
  refine fi_seq ?_
  refine fi_region ?_
  refine so_assign rfl ?_
  refine so_nil ?_
  refine fi_seq ?_
  refine fi_seq ?_
  refine fi_region ?_
  refine so_assign rfl ?_
  refine so_nil ?_
  refine fi_block ?_
  refine fi_loop ?_
  refine fi_at [(0, (.v v0)), (1, (.v (.int .i64 a1))), (5, (.v (.int .i64 (0 : Int))))] ⟨rfl, rfl, rfl, trivial⟩ ?_
  refine h (fun (a109 : List (Int)) (k110 : Int) (i111 : Int) => ∀ (s : Nat → TV) (H : Heap), Sep H (Pc.osl v0 1 (enc (eInt .i64) a109) :: fr) → Fin _ _ (updL s [(0, (.v v0)), (1, (.v (.int .i64 k110))), (5, (.v (.int .i64 i111)))]) H _) ?_ _ _ hs
  intro a109 k110 i111 h s115 H116 hs
  refine fi_inLoop ?_
  refine fi_seq ?_
  refine fi_seq ?_
  refine fi_region ?_
  refine so_move rfl ?_
  refine so_move rfl ?_
  refine sv_len (hs.shows 0 rfl) (fun _ => rfl) (by decide) rfl F11.ti22 ?_
  refine so_bin rfl rfl ab_lss ?_
  refine so_nil ?_
  replace h := ofP h; rcases h with ⟨c112, h⟩ | ⟨c112, h⟩
  · refine fi_true rfl (decide_eq_true c112) ?_
    refine fi_skip ?_
    refine fi_seq ?_
    refine fi_block ?_
    refine fi_seq ?_
    refine fi_region ?_
    refine so_move rfl ?_
    refine so_move rfl ?_
    refine so_move rfl ?_
    obtain ⟨c113, h⟩ := h
    refine sv_idx (hs.shows 0 rfl) c113 (fun _ => rfl) (by decide) rfl rfl F11.tl22 ?_
    refine sv_set hs 0 rfl c113 k110 (fun _ => rfl) (by decide) rfl rfl rfl rfl F11.sz2 nofun (fun H114 hs => ?_)
    refine so_nil ?_
    refine fi_region ?_
    refine so_move rfl ?_
    refine so_bin rfl rfl ab_add ?_
    refine so_assign rfl ?_
    refine so_nil ?_
    refine fi_inBlock ?_
    refine fi_region ?_
    refine so_move rfl ?_
    refine so_bin rfl rfl ab_add ?_
    refine so_assign rfl ?_
    refine so_nil ?_
    exact fi_at [(0, (.v v0)), (1, (.v (.int .i64 (IntKind.i64.wrap (k110 + (1 : Int)))))), (5, (.v (.int .i64 (IntKind.i64.wrap (i111 + (1 : Int))))))] ⟨rfl, rfl, rfl, trivial⟩ (h _ _  hs)
  · refine fi_false rfl (decide_eq_false c112) ?_
    refine fi_exit rfl ?_
    refine fi_seq ?_
    refine fi_region ?_
    refine so_move rfl ?_
    refine so_assign rfl ?_
    refine so_nil ?_
    exact by_ret rfl ⟨_, _, h, rfl, hs⟩

end Go.Proofs.Ytplfnchoooehgaa.G

namespace Go.Proofs.Ytplfnchoooehgaa.G
open Go Go.Ab Go.Proofs Go.Proofs.Ytplfnchoooehgaa
set_option maxRecDepth 100000
set_option linter.unusedVariables false
set_option linter.unusedSimpArgs false
set_option maxHeartbeats 1000000
theorem spec_l00In_ok {fr : List Pc} {H : Heap} (a0 : Int) (a1 : Int) (a2 : Int) (hs : Sep H (fr))  (K : Bool → Prop) (h : spec_l00In.wp a0 a1 a2 K) : OkQ Try.prog 52 [(.v (.int .i64 a0)), (.v (.int .i64 a1)), (.v (.int .i64 a2))] H (fun r H2 => ∃ (y0 : Bool), K y0 ∧ r = (.v (.bool y0)) ∧ H = H2) := by
  unfold spec_l00In.wp at h
  refine of_body Try.f52 F.hm Try.func52 rfl Try.call52 (by kernel_rfl) (by simp) ?_
  refine fi_seq ?_
  refine fi_region ?_
  refine so_assign rfl ?_
  refine so_nil ?_
  refine fi_seq ?_
  refine fi_region ?_
  refine so_move rfl ?_
  refine so_move rfl ?_
  refine so_bin rfl rfl ab_geq ?_
  refine so_move rfl ?_
  replace h := ofP h; rcases h with ⟨c101, h⟩ | ⟨c101, h⟩
  · refine so_gyes rfl (decide_eq_true c101) ?_
    refine so_move rfl ?_
    refine so_gyes rfl (decide_eq_true c101) ?_
    refine so_move rfl ?_
    refine so_gyes rfl (decide_eq_true c101) ?_
    refine so_bin rfl rfl ab_leq ?_
    refine so_pick_t rfl (decide_eq_true c101) rfl ?_
    refine so_assign rfl ?_
    refine so_nil ?_
    exact by_ret rfl ⟨_, h, rfl, rfl⟩
  · refine so_gno rfl (decide_eq_false c101) ?_
    refine so_gno rfl (decide_eq_false c101) ?_
    refine so_gno rfl (decide_eq_false c101) ?_
    refine so_pick_f rfl (decide_eq_false c101) rfl ?_
    refine so_assign rfl ?_
    refine so_nil ?_
    exact by_ret rfl ⟨_, h, rfl, rfl⟩

end Go.Proofs.Ytplfnchoooehgaa.G

namespace Go.Proofs.Ytplfnchoooehgaa.G
open Go Go.Ab Go.Proofs Go.Proofs.Ytplfnchoooehgaa
set_option maxRecDepth 100000
set_option linter.unusedVariables false
set_option linter.unusedSimpArgs false
set_option maxHeartbeats 1000000
theorem F51.ag2 : tagg Try.prog 2 = some false := by kernel_rfl
theorem F51.ti22 : (telem Try.prog 22).isSome = true := by kernel_rfl
theorem F51.tl22 : (telem Try.prog 22).bind (tsz Try.prog) = some 1 := by kernel_rfl
theorem spec_l02Bound_ok {fr : List Pc} {H : Heap} (v0 : AV) (l0 : List (Int)) (a1 : Int) (hs : Sep H (fr)) (g0 : ∀ H, Sep H fr → Shows H v0 1 (enc (eInt .i64) l0)) (K : Bool → Prop) (h : spec_l02Bound.wp l0 a1 K) : OkQ Try.prog 51 [(.v v0), (.v (.int .i64 a1))] H (fun r H2 => ∃ (y0 : Bool), K y0 ∧ r = (.v (.bool y0)) ∧ H = H2) := by
  unfold spec_l02Bound.wp at h
  refine of_body Try.f51 F.hm Try.func51 rfl Try.call51 (by kernel_rfl) (by simp) ?_
  refine fi_seq ?_
  refine fi_region ?_
  refine so_assign rfl ?_
  refine so_nil ?_
  refine fi_seq ?_
  refine fi_seq ?_
  refine fi_region ?_
  refine so_assign rfl ?_
  refine so_nil ?_
  refine fi_block ?_
  refine fi_loop ?_
  refine fi_at [(0, (.v v0)), (1, (.v (.int .i64 a1))), (5, (.v (.int .i64 (0 : Int))))] ⟨rfl, rfl, rfl, trivial⟩ ?_
  refine h (fun (i102 : Int) => ∀ (s : Nat → TV), Fin _ _ (updL s [(0, (.v v0)), (1, (.v (.int .i64 a1))), (5, (.v (.int .i64 i102)))]) _ _) ?_ _
  intro i102 h s108
  refine fi_inLoop ?_
  refine fi_seq ?_
  refine fi_seq ?_
  refine fi_region ?_
  refine so_move rfl ?_
  refine so_move rfl ?_
  refine sv_len (g0 _ hs) (fun _ => rfl) (by decide) rfl F51.ti22 ?_
  refine so_bin rfl rfl ab_lss ?_
  refine so_nil ?_
  replace h := ofP h; rcases h with ⟨c103, h⟩ | ⟨c103, h⟩
  · refine fi_true rfl (decide_eq_true c103) ?_
    refine fi_skip ?_
    refine fi_seq ?_
    refine fi_block ?_
    refine fi_seq ?_
    refine fi_region ?_
    refine so_move rfl ?_
    refine so_move rfl ?_
    obtain ⟨c104, h⟩ := h
    refine sv_idx (g0 _ hs) c104 (fun _ => rfl) (by decide) rfl rfl F51.tl22 ?_
    refine sv_cell (g0 _ hs) c104 (0 : Int) 0 (fun x => (AV.int .i64 x)) (fun _ => rfl) (fun _ => rfl) rfl F51.ag2 ?_
    refine so_move rfl ?_
    refine so_un rfl au_neg ?_
    refine so_move rfl ?_
    refine sv_callS (spec_l00In_ok (l0.getD (i102).toNat (0 : Int)) (IntKind.i64.wrap (0 - a1)) a1 hs  _ h) (fun _ _ ⟨_, _, _, e⟩ => e) rfl rfl ?_
    clear h
    rintro _ _ ⟨y105, h, rfl, rfl⟩
    refine so_un rfl au_not ?_
    refine so_nil ?_
    replace h := ofT h; rcases h with ⟨c107, h⟩ | ⟨c107, h⟩
    · refine fi_false rfl (not_f c107) ?_
      refine fi_skip ?_
      refine fi_inBlock ?_
      refine fi_region ?_
      refine so_move rfl ?_
      refine so_bin rfl rfl ab_add ?_
      refine so_assign rfl ?_
      refine so_nil ?_
      exact fi_at [(0, (.v v0)), (1, (.v (.int .i64 a1))), (5, (.v (.int .i64 (IntKind.i64.wrap (i102 + (1 : Int))))))] ⟨rfl, rfl, rfl, trivial⟩ (h _)
    · refine fi_true rfl (not_t c107) ?_
      refine fi_seq ?_
      refine fi_region ?_
      refine so_assign rfl ?_
      refine so_nil ?_
      exact by_ret rfl ⟨_, h, rfl, rfl⟩
  · refine fi_false rfl (decide_eq_false c103) ?_
    refine fi_exit rfl ?_
    refine fi_seq ?_
    refine fi_region ?_
    refine so_assign rfl ?_
    refine so_nil ?_
    exact by_ret rfl ⟨_, h, rfl, rfl⟩

end Go.Proofs.Ytplfnchoooehgaa.G

namespace Go.Proofs.Ytplfnchoooehgaa.G
open Go Go.Ab Go.Proofs Go.Proofs.Ytplfnchoooehgaa
set_option maxRecDepth 100000
set_option linter.unusedVariables false
set_option linter.unusedSimpArgs false
set_option maxHeartbeats 1000000
theorem F29.ti22 : (telem Try.prog 22).isSome = true := by kernel_rfl
theorem spec_l02Integers_ok {fr : List Pc} {H : Heap} (v0 : AV) (l0 : List (Int)) (hs : Sep H (fr)) (g0 : ∀ H, Sep H fr → Shows H v0 1 (enc (eInt .i64) l0)) (K : Bool → Prop) (h : spec_l02Integers.wp l0 K) : OkQ Try.prog 29 [(.v v0)] H (fun r H2 => ∃ (y0 : Bool), K y0 ∧ r = (.v (.bool y0)) ∧ H = H2) := by
  unfold spec_l02Integers.wp at h
  refine of_body Try.f29 F.hm Try.func29 rfl Try.call29 (by kernel_rfl) (by simp) ?_
  refine fi_seq ?_
  refine fi_region ?_
  refine so_assign rfl ?_
  refine so_nil ?_
  refine fi_seq ?_
  refine fi_region ?_
  refine so_move rfl ?_
  refine sv_len (g0 _ hs) (fun _ => rfl) (by decide) rfl F29.ti22 ?_
  refine so_bin rfl rfl ab_geq ?_
  refine so_move rfl ?_
  replace h := ofP h; rcases h with ⟨c101, h⟩ | ⟨c101, h⟩
  · refine so_gyes rfl (decide_eq_true c101) ?_
    refine so_move rfl ?_
    refine so_gyes rfl (decide_eq_true c101) ?_
    refine sv_len (g0 _ hs) (fun _ => rfl) (by decide) rfl F29.ti22 ?_
    refine so_gyes rfl (decide_eq_true c101) ?_
    refine so_bin rfl rfl ab_leq ?_
    refine so_pick_t rfl (decide_eq_true c101) rfl ?_
    refine so_move rfl ?_
    replace h := ofP h; rcases h with ⟨c102, h⟩ | ⟨c102, h⟩
    · refine so_gyes rfl (decide_eq_true c102) ?_
      refine so_move rfl ?_
      refine so_gyes rfl (decide_eq_true c102) ?_
      refine sv_callS (spec_l02Bound_ok v0 l0 (1000000 : Int) hs (fun _ hs => (g0 _ hs)) _ h) (fun _ _ ⟨_, _, _, e⟩ => e) rfl rfl ?_
      clear h
      rintro _ _ ⟨y103, h, rfl, rfl⟩
      refine so_pick_t rfl (decide_eq_true c102) rfl ?_
      refine so_assign rfl ?_
      refine so_nil ?_
      exact by_ret rfl ⟨_, h, rfl, rfl⟩
    · refine so_gno rfl (decide_eq_false c102) ?_
      refine so_gno rfl (decide_eq_false c102) ?_
      refine so_pick_f rfl (decide_eq_false c102) rfl ?_
      refine so_assign rfl ?_
      refine so_nil ?_
      exact by_ret rfl ⟨_, h, rfl, rfl⟩
  · refine so_gno rfl (decide_eq_false c101) ?_
    refine so_gno rfl (decide_eq_false c101) ?_
    refine so_gno rfl (decide_eq_false c101) ?_
    refine so_pick_f rfl (decide_eq_false c101) rfl ?_
    refine so_move rfl ?_
    refine so_gno rfl rfl ?_
    refine so_gno rfl rfl ?_
    refine so_pick_f rfl rfl rfl ?_
    refine so_assign rfl ?_
    refine so_nil ?_
    exact by_ret rfl ⟨_, h, rfl, rfl⟩

end Go.Proofs.Ytplfnchoooehgaa.G

namespace Go.Proofs.Ytplfnchoooehgaa.G
open Go Go.Ab Go.Proofs Go.Proofs.Ytplfnchoooehgaa
set_option maxRecDepth 100000
set_option linter.unusedVariables false
set_option linter.unusedSimpArgs false
set_option maxHeartbeats 1000000
theorem spec_l06Abs_ok {fr : List Pc} {H : Heap} (a0 : Int) (hs : Sep H (fr))  (K : Int → Prop) (h : spec_l06Abs.wp a0 K) : OkQ Try.prog 33 [(.v (.int .i64 a0))] H (fun r H2 => ∃ (y0 : Int), K y0 ∧ r = (.v (.int .i64 y0)) ∧ H = H2) := by
  unfold spec_l06Abs.wp at h
  refine of_body Try.f33 F.hm Try.func33 rfl Try.call33 (by kernel_rfl) (by simp) ?_
  refine fi_seq ?_
  refine fi_region ?_
  refine so_assign rfl ?_
  refine so_nil ?_
  refine fi_seq ?_
  refine fi_seq ?_
  refine fi_region ?_
  refine so_move rfl ?_
  refine so_bin rfl rfl ab_lss ?_
  refine so_nil ?_
  replace h := ofP h; rcases h with ⟨c101, h⟩ | ⟨c101, h⟩
  · refine fi_true rfl (decide_eq_true c101) ?_
    refine fi_seq ?_
    refine fi_region ?_
    refine so_move rfl ?_
    refine so_un rfl au_neg ?_
    refine so_assign rfl ?_
    refine so_nil ?_
    exact by_ret rfl ⟨_, h, rfl, rfl⟩
  · refine fi_false rfl (decide_eq_false c101) ?_
    refine fi_skip ?_
    refine fi_seq ?_
    refine fi_region ?_
    refine so_move rfl ?_
    refine so_assign rfl ?_
    refine so_nil ?_
    exact by_ret rfl ⟨_, h, rfl, rfl⟩

end Go.Proofs.Ytplfnchoooehgaa.G

namespace Go.Proofs.Ytplfnchoooehgaa.G
open Go Go.Ab Go.Proofs Go.Proofs.Ytplfnchoooehgaa
set_option maxRecDepth 100000
set_option linter.unusedVariables false
set_option linter.unusedSimpArgs false
set_option maxHeartbeats 1000000
theorem F58.ag2 : tagg Try.prog 2 = some false := by kernel_rfl
theorem F58.it50 : tint Try.prog 50 = some .u64 := by kernel_rfl
theorem F58.ti22 : (telem Try.prog 22).isSome = true := by kernel_rfl
theorem F58.tl22 : (telem Try.prog 22).bind (tsz Try.prog) = some 1 := by kernel_rfl
theorem F58.us2 : (Try.prog.underlying 2).isSome = true := by kernel_rfl
theorem spec_l06Planes_ok {fr : List Pc} {H : Heap} (v0 : AV) (l0 : List (Int)) (hs : Sep H (fr)) (g0 : ∀ H, Sep H fr → Shows H v0 1 (enc (eInt .i64) l0)) (K : Int → Prop) (h : spec_l06Planes.wp l0 K) : OkQ Try.prog 58 [(.v v0)] H (fun r H2 => ∃ (y0 : Int), K y0 ∧ r = (.v (.int .i64 y0)) ∧ H = H2) := by
  unfold spec_l06Planes.wp at h
  refine of_body Try.f58 F.hm Try.func58 rfl Try.call58 (by kernel_rfl) (by simp) ?_
  refine fi_seq ?_
  refine fi_region ?_
  refine so_assign rfl ?_
  refine so_nil ?_
  refine fi_seq ?_
  refine fi_region ?_
  refine so_assign rfl ?_
  refine so_nil ?_
  refine fi_seq ?_
  refine fi_seq ?_
  refine fi_region ?_
  refine so_assign rfl ?_
  refine so_nil ?_
  refine fi_block ?_
  refine fi_loop ?_
  refine fi_at [(0, (.v v0)), (3, (.v (.int .i64 (0 : Int)))), (4, (.v (.int .i64 (0 : Int))))] ⟨rfl, rfl, rfl, trivial⟩ ?_
  refine h (fun (n102 : Int) (i103 : Int) => ∀ (s : Nat → TV), Fin _ _ (updL s [(0, (.v v0)), (3, (.v (.int .i64 n102))), (4, (.v (.int .i64 i103)))]) _ _) ?_ _
  intro n102 i103 h s114
  refine fi_inLoop ?_
  refine fi_seq ?_
  refine fi_seq ?_
  refine fi_region ?_
  refine so_move rfl ?_
  refine so_move rfl ?_
  refine sv_len (g0 _ hs) (fun _ => rfl) (by decide) rfl F58.ti22 ?_
  refine so_bin rfl rfl ab_lss ?_
  refine so_nil ?_
  replace h := ofP h; rcases h with ⟨c104, h⟩ | ⟨c104, h⟩
  · refine fi_true rfl (decide_eq_true c104) ?_
    refine fi_skip ?_
    refine fi_seq ?_
    refine fi_block ?_
    refine fi_block ?_
    refine fi_loop ?_
    refine fi_at [(0, (.v v0)), (3, (.v (.int .i64 n102))), (4, (.v (.int .i64 i103)))] ⟨rfl, rfl, rfl, trivial⟩ ?_
    refine h (fun (n106 : Int) => ∀ (s : Nat → TV), Fin _ _ (updL s [(0, (.v v0)), (3, (.v (.int .i64 n106))), (4, (.v (.int .i64 i103)))]) _ _) ?_ _
    intro n106 h s112
    refine fi_inLoop ?_
    refine fi_seq ?_
    refine fi_seq ?_
    refine fi_region ?_
    refine so_move rfl ?_
    refine so_move rfl ?_
    obtain ⟨c107, h⟩ := h
    refine sv_idx (g0 _ hs) c107 (fun _ => rfl) (by decide) rfl rfl F58.tl22 ?_
    refine sv_cell (g0 _ hs) c107 (0 : Int) 0 (fun x => (AV.int .i64 x)) (fun _ => rfl) (fun _ => rfl) rfl F58.ag2 ?_
    refine sv_callS (spec_l06Abs_ok (l0.getD (i103).toNat (0 : Int)) hs  _ h) (fun _ _ ⟨_, _, _, e⟩ => e) rfl rfl ?_
    clear h
    rintro _ _ ⟨y108, h, rfl, rfl⟩
    refine so_move rfl ?_
    refine sv_ii rfl F58.us2 F58.it50 ?_
    obtain ⟨c110, h⟩ := h
    refine so_bin rfl rfl (ab_shr c110) ?_
    refine so_bin rfl rfl ab_neq ?_
    refine so_nil ?_
    replace h := ofP h; rcases h with ⟨c111, h⟩ | ⟨c111, h⟩
    · refine fi_false rfl (not_f (decide_eq_true c111)) ?_
      refine fi_exit rfl ?_
      refine fi_inBlock ?_
      refine fi_region ?_
      refine so_move rfl ?_
      refine so_bin rfl rfl ab_add ?_
      refine so_assign rfl ?_
      refine so_nil ?_
      exact fi_at [(0, (.v v0)), (3, (.v (.int .i64 n106))), (4, (.v (.int .i64 (IntKind.i64.wrap (i103 + (1 : Int))))))] ⟨rfl, rfl, rfl, trivial⟩ (h _)
    · refine fi_true rfl (not_t (decide_eq_false c111)) ?_
      refine fi_skip ?_
      refine fi_block ?_
      refine fi_region ?_
      refine so_move rfl ?_
      refine so_bin rfl rfl ab_add ?_
      refine so_assign rfl ?_
      refine so_nil ?_
      refine fi_inBlock ?_
      exact fi_at [(0, (.v v0)), (3, (.v (.int .i64 (IntKind.i64.wrap (n106 + (1 : Int)))))), (4, (.v (.int .i64 i103)))] ⟨rfl, rfl, rfl, trivial⟩ (h _)
  · refine fi_false rfl (decide_eq_false c104) ?_
    refine fi_exit rfl ?_
    refine fi_seq ?_
    refine fi_region ?_
    refine so_move rfl ?_
    refine so_assign rfl ?_
    refine so_nil ?_
    exact by_ret rfl ⟨_, h, rfl, rfl⟩

end Go.Proofs.Ytplfnchoooehgaa.G

namespace Go.Proofs.Ytplfnchoooehgaa.G
open Go Go.Ab Go.Proofs Go.Proofs.Ytplfnchoooehgaa
set_option maxRecDepth 100000
set_option linter.unusedVariables false
set_option linter.unusedSimpArgs false
set_option maxHeartbeats 1000000
theorem F59.it50 : tint Try.prog 50 = some .u64 := by kernel_rfl
theorem F59.us2 : (Try.prog.underlying 2).isSome = true := by kernel_rfl
theorem spec_l06Digit_ok {fr : List Pc} {H : Heap} (a0 : Int) (a1 : Int) (hs : Sep H (fr))  (K : Bool → Prop) (h : spec_l06Digit.wp a0 a1 K) : OkQ Try.prog 59 [(.v (.int .i64 a0)), (.v (.int .i64 a1))] H (fun r H2 => ∃ (y0 : Bool), K y0 ∧ r = (.v (.bool y0)) ∧ H = H2) := by
  unfold spec_l06Digit.wp at h
  refine of_body Try.f59 F.hm Try.func59 rfl Try.call59 (by kernel_rfl) (by simp) ?_
  refine fi_seq ?_
  refine fi_region ?_
  refine so_assign rfl ?_
  refine so_nil ?_
  refine fi_seq ?_
  refine fi_region ?_
  refine so_move rfl ?_
  refine sv_callS (spec_l06Abs_ok a0 hs  _ h) (fun _ _ ⟨_, _, _, e⟩ => e) rfl rfl ?_
  clear h
  rintro _ _ ⟨y101, h, rfl, rfl⟩
  refine so_move rfl ?_
  refine sv_ii rfl F59.us2 F59.it50 ?_
  obtain ⟨c103, h⟩ := h
  refine so_bin rfl rfl (ab_shr c103) ?_
  refine so_bin rfl rfl ab_and ?_
  refine so_bin rfl rfl ab_eql ?_
  refine so_assign rfl ?_
  refine so_nil ?_
  exact by_ret rfl ⟨_, h, rfl, rfl⟩

end Go.Proofs.Ytplfnchoooehgaa.G

namespace Go.Proofs.Ytplfnchoooehgaa.G
open Go Go.Ab Go.Proofs Go.Proofs.Ytplfnchoooehgaa
set_option maxRecDepth 100000
set_option linter.unusedVariables false
set_option linter.unusedSimpArgs false
set_option maxHeartbeats 1000000
theorem F38.ag2 : tagg Try.prog 2 = some false := by kernel_rfl
theorem F38.ag29 : tagg Try.prog 29 = some false := by kernel_rfl
theorem F38.ag31 : tagg Try.prog 31 = some true := by kernel_rfl
theorem F38.bp31 : bplan Try.prog 31 = some ([(.int .i64 (0 : Int)), (.int .i64 (0 : Int)), .nilsl], [(0, 1), (1, 1), (2, 1)]) := by kernel_rfl
theorem F38.fd31_1 : tfield Try.prog 31 1 = some (1, 1, false) := by kernel_rfl
theorem F38.fd31_2 : tfield Try.prog 31 2 = some (2, 1, false) := by kernel_rfl
theorem F38.it50 : tint Try.prog 50 = some .u64 := by kernel_rfl
theorem F38.sz29 : tsz Try.prog 29 = some 1 := by kernel_rfl
theorem F38.sz31 : tsz Try.prog 31 = some 3 := by kernel_rfl
theorem F38.sz4 : tsz Try.prog 4 = some 1 := by kernel_rfl
theorem F38.ta29_29 : tapp Try.prog 29 29 = some (1, 1) := by kernel_rfl
theorem F38.te29 : telem Try.prog 29 = some 4 := by kernel_rfl
theorem F38.ti22 : (telem Try.prog 22).isSome = true := by kernel_rfl
theorem F38.tl22 : (telem Try.prog 22).bind (tsz Try.prog) = some 1 := by kernel_rfl
theorem F38.us2 : (Try.prog.underlying 2).isSome = true := by kernel_rfl
theorem F38.ze31 : tzero Try.prog 31 = some [(.int .i64 (0 : Int)), (.int .i64 (0 : Int)), .nilsl] := by kernel_rfl
theorem F38.ze4 : tzero Try.prog 4 = some [(.bool false)] := by kernel_rfl
theorem spec_l06Code_ok {fr : List Pc} {H : Heap} (v0 : AV) (l0 : List (Int)) (a1 : Int) (hs : Sep H (fr)) (g0 : ∀ H, Sep H fr → Shows H v0 1 (enc (eInt .i64) l0)) (K : Int → Int → (List (Bool)) → Prop) (h : spec_l06Code.wp l0 a1 K) : OkQ Try.prog 38 [(.v v0), (.v (.int .i64 a1))] H (fun r H2 => ∃ (y0 : Int) (y1 : Int) (y2 : List (Bool)), K y0 y1 y2 ∧ ∃ (w0_ : AV), r = (.g [(.int .i64 y0), (.int .i64 y1), w0_]) ∧ Sep H2 (Pc.osl w0_ 1 (enc eBool y2) :: fr)) := by
  unfold spec_l06Code.wp at h
  refine of_body Try.f38 F.hm Try.func38 rfl Try.call38 (by kernel_rfl) (by simp) ?_
  refine fi_seq ?_
  refine fi_region ?_
  refine sv_alloc hs F38.ze31 rfl nofun (fun id101 H102 hs => ?_)
  refine so_nil ?_
  refine fi_seq ?_
  refine fi_region ?_
  refine so_move rfl ?_
  refine sv_len (g0 _ hs.tl) (fun _ => rfl) (by decide) rfl F38.ti22 ?_
  refine so_move rfl ?_
  refine sv_callS (spec_l06Planes_ok v0 l0 hs (fun _ hs => (g0 _ hs.tl)) _ h) (fun _ _ ⟨_, _, _, e⟩ => e) rfl rfl ?_
  clear h
  rintro _ _ ⟨y104, h, rfl, rfl⟩
  refine sv_bslice hs eBool ([] : List (Bool)) [] F38.te29 F38.sz4 F38.ze4 rfl rfl rfl rfl (fun _ => rfl) rfl (by decide) nofun (fun v106 H107 nv106 hs => ?_)
  refine so_build F38.bp31 (cps := [(0, [(.int .i64 (l0.length : Int))]), (1, [(.int .i64 y104)]), (2, [v106])]) rfl (fac (stc rfl stn) (fac (stc rfl stn) (fac (stc (hs.shows 0 rfl).stor stn) fan))) rfl ?_
  refine sv_alloc hs F38.ze31 rfl nofun (fun id109 H110 hs => ?_)
  refine sv_st hs 0 rfl rfl rfl (c := [(.int .i64 (l0.length : Int)), (.int .i64 y104), v106]) rfl F38.sz31 rfl (stc rfl (stc rfl (stc (hs.shows 1 rfl).stor stn))) (leb rfl) (cs' := [(.int .i64 (l0.length : Int)), (.int .i64 y104), v106]) rfl nofun (fun H112 hs => ?_)
  refine so_nil ?_
  refine fi_seq ?_
  refine fi_seq ?_
  refine fi_region ?_
  refine so_fieldAddr rfl F38.fd31_1 ?_
  refine sv_ld hs 0 rfl rfl rfl F38.ag2 ?_
  refine so_bin rfl rfl ab_sub ?_
  refine so_assign rfl ?_
  refine so_nil ?_
  refine fi_block ?_
  refine fi_loop ?_
  refine fi_at [(0, (.v v0)), (1, (.v (.int .i64 a1))), (4, (.v (.ptr id101 0))), (5, (.v (.ptr id109 0))), (6, (.v (.int .i64 (IntKind.i64.wrap (y104 - (1 : Int))))))] ⟨rfl, rfl, rfl, rfl, rfl, trivial⟩ ?_
  refine h (fun (l174 : List (Bool)) (b176 : Int) (b177 : Int) (k178 : Int) => ∀ (s : Nat → TV) (H : Heap) (v175 : AV) (nv175 : v175 ≠ .nilsl), Sep H (Pc.box id109 [(.int .i64 b176), (.int .i64 b177), v175] :: Pc.osl v175 1 (enc eBool l174) :: Pc.box id101 [(.int .i64 (0 : Int)), (.int .i64 (0 : Int)), .nilsl] :: fr) → Fin _ _ (updL s [(0, (.v v0)), (1, (.v (.int .i64 a1))), (4, (.v (.ptr id101 0))), (5, (.v (.ptr id109 0))), (6, (.v (.int .i64 k178)))]) H _) ?_ _ _ _ nv106 hs
  intro l174 b176 b177 k178 h s239 H240 v175 nv175 hs
  refine fi_inLoop ?_
  refine fi_seq ?_
  refine fi_seq ?_
  refine fi_region ?_
  refine so_move rfl ?_
  refine so_move rfl ?_
  refine so_bin rfl rfl ab_geq ?_
  refine so_nil ?_
  replace h := ofP h; rcases h with ⟨c179, h⟩ | ⟨c179, h⟩
  · refine fi_true rfl (decide_eq_true c179) ?_
    refine fi_skip ?_
    refine fi_seq ?_
    refine fi_block ?_
    refine fi_seq ?_
    refine fi_region ?_
    refine so_assign rfl ?_
    refine so_nil ?_
    refine fi_block ?_
    refine fi_loop ?_
    refine fi_at [(0, (.v v0)), (1, (.v (.int .i64 a1))), (4, (.v (.ptr id101 0))), (5, (.v (.ptr id109 0))), (6, (.v (.int .i64 k178))), (7, (.v (.int .i64 (0 : Int))))] ⟨rfl, rfl, rfl, rfl, rfl, rfl, trivial⟩ ?_
    refine h (fun (l208 : List (Bool)) (b210 : Int) (b211 : Int) (i212 : Int) => ∀ (s : Nat → TV) (H : Heap) (v209 : AV) (nv209 : v209 ≠ .nilsl), Sep H (Pc.box id109 [(.int .i64 b210), (.int .i64 b211), v209] :: Pc.osl v209 1 (enc eBool l208) :: Pc.box id101 [(.int .i64 (0 : Int)), (.int .i64 (0 : Int)), .nilsl] :: fr) → Fin _ _ (updL s [(0, (.v v0)), (1, (.v (.int .i64 a1))), (4, (.v (.ptr id101 0))), (5, (.v (.ptr id109 0))), (6, (.v (.int .i64 k178))), (7, (.v (.int .i64 i212)))]) H _) ?_ _ _ _ nv175 hs
    intro l208 b210 b211 i212 h s236 H237 v209 nv209 hs
    refine fi_inLoop ?_
    refine fi_seq ?_
    refine fi_seq ?_
    refine fi_region ?_
    refine so_move rfl ?_
    refine so_move rfl ?_
    refine sv_len (g0 _ hs.tl.tl.tl) (fun _ => rfl) (by decide) rfl F38.ti22 ?_
    refine so_bin rfl rfl ab_lss ?_
    refine so_nil ?_
    replace h := ofP h; rcases h with ⟨c213, h⟩ | ⟨c213, h⟩
    · refine fi_true rfl (decide_eq_true c213) ?_
      refine fi_skip ?_
      refine fi_seq ?_
      refine fi_block ?_
      refine fi_seq ?_
      refine fi_region ?_
      refine so_move rfl ?_
      refine so_move rfl ?_
      obtain ⟨c214, h⟩ := h
      refine sv_idx (g0 _ hs.tl.tl.tl) c214 (fun _ => rfl) (by decide) rfl rfl F38.tl22 ?_
      refine sv_cell (g0 _ hs.tl.tl.tl) c214 (0 : Int) 0 (fun x => (AV.int .i64 x)) (fun _ => rfl) (fun _ => rfl) rfl F38.ag2 ?_
      refine so_move rfl ?_
      refine sv_callS (spec_l06Digit_ok (l0.getD (i212).toNat (0 : Int)) k178 hs  _ h) (fun _ _ ⟨_, _, _, e⟩ => e) rfl rfl ?_
      clear h
      rintro _ _ ⟨y215, h, rfl, rfl⟩
      refine so_assign rfl ?_
      refine so_nil ?_
      refine fi_seq ?_
      refine fi_region ?_
      refine so_fieldAddr rfl F38.fd31_2 ?_
      refine sv_ld hs 0 rfl rfl rfl F38.ag29 ?_
      refine so_move rfl ?_
      refine sv_bslice hs eBool ([y215] : List (Bool)) [[(.bool y215)]] F38.te29 F38.sz4 F38.ze4 rfl rfl rfl rfl (fun _ => rfl) rfl (by decide) nofun (fun v217 H218 nv217 hs => ?_)
      obtain ⟨c222, h⟩ := h
      refine sv_app hs 2 rfl (hs.shows 0 rfl) (fun _ => rfl) (by decide) F38.ta29_29 (by decide) c222 rfl rfl nofun (fun v220 H221 kv220 hs => ?_)
      replace hs := hs.del 0
      have nv220 := kv220 nv209
      refine so_fieldAddr rfl F38.fd31_2 ?_
      refine sv_st hs 0 rfl rfl rfl (c := [v220]) rfl F38.sz29 rfl (stc (hs.shows 1 rfl).stor stn) (leb rfl) (cs' := [(.int .i64 b210), (.int .i64 b211), v220]) rfl nofun (fun H223 hs => ?_)
      refine so_nil ?_
      refine fi_seq ?_
      refine fi_region ?_
      refine so_move rfl ?_
      refine so_move rfl ?_
      replace h := ofT h; rcases h with ⟨c224, h⟩ | ⟨c224, h⟩
      · refine so_gyes rfl c224 ?_
        refine so_move rfl ?_
        refine so_gyes rfl c224 ?_
        refine so_move rfl ?_
        refine so_gyes rfl c224 ?_
        refine sv_idx (g0 _ hs.tl.tl.tl) c214 (fun _ => rfl) (by decide) rfl rfl F38.tl22 ?_
        refine so_gyes rfl c224 ?_
        refine sv_cell (g0 _ hs.tl.tl.tl) c214 (0 : Int) 0 (fun x => (AV.int .i64 x)) (fun _ => rfl) (fun _ => rfl) rfl F38.ag2 ?_
        refine so_gyes rfl c224 ?_
        refine sv_callS (spec_l06Abs_ok (l0.getD (i212).toNat (0 : Int)) hs  _ h) (fun _ _ ⟨_, _, _, e⟩ => e) rfl rfl ?_
        clear h
        rintro _ _ ⟨y225, h, rfl, rfl⟩
        refine so_gyes rfl c224 ?_
        refine so_move rfl ?_
        refine so_gyes rfl c224 ?_
        refine so_bin rfl rfl ab_add ?_
        refine so_gyes rfl c224 ?_
        refine sv_ii rfl F38.us2 F38.it50 ?_
        refine so_gyes rfl c224 ?_
        obtain ⟨c227, h⟩ := h
        refine so_bin rfl rfl (ab_shr c227) ?_
        refine so_gyes rfl c224 ?_
        refine so_bin rfl rfl ab_eql ?_
        refine so_pick_t rfl c224 rfl ?_
        refine so_nil ?_
        replace h := ofP h; rcases h with ⟨c228, h⟩ | ⟨c228, h⟩
        · refine fi_true rfl (decide_eq_true c228) ?_
          refine fi_free [1] ?_
          refine wf_pure rfl (by kernel_rfl) ?_
          refine so_fieldAddr rfl F38.fd31_2 ?_
          refine so_end ?_
          refine wf_free (.v v220) rfl (by kernel_rfl) (stepr (i := 0) rfl (by refine sv_ld hs 0 rfl rfl rfl F38.ag29 ?_; exact so_end ⟨rfl, rfl⟩)) fan ?_
          refine wf_pure rfl (by kernel_rfl) ?_
          refine so_move rfl ?_
          refine so_end ?_
          refine wf_pure rfl (by kernel_rfl) ?_
          refine so_move rfl ?_
          refine so_end ?_
          refine wf_same (by decide +kernel) (by kernel_rfl) ?_
          refine sv_idx (g0 _ hs.tl.tl.tl) c214 (fun _ => rfl) (by decide) rfl rfl F38.tl22 ?_
          refine so_end ⟨rfl, ?_⟩
          refine wf_same (by decide +kernel) (by kernel_rfl) ?_
          refine sv_cell (g0 _ hs.tl.tl.tl) c214 (0 : Int) 0 (fun x => (AV.int .i64 x)) (fun _ => rfl) (fun _ => rfl) rfl F38.ag2 ?_
          refine so_end ⟨rfl, ?_⟩
          refine wf_pure rfl (by kernel_rfl) ?_
          refine so_bin rfl rfl ab_lss ?_
          refine so_end ?_
          have hs0_ := hs
          refine wf_chg (by kernel_rfl) ?_
          refine sv_bslice hs eBool ([(decide ((l0.getD (i212).toNat (0 : Int)) < (0 : Int)))] : List (Bool)) [[(.bool (decide ((l0.getD (i212).toNat (0 : Int)) < (0 : Int))))]] F38.te29 F38.sz4 F38.ze4 rfl rfl rfl rfl (fun _ => rfl) rfl (by decide) nofun (fun v229 H230 nv229 hs => ?_)
          refine so_end ⟨(fac (.inr (stepr (i := 0) rfl (by refine sv_ld hs 1 rfl rfl rfl F38.ag29 ?_; exact so_end ⟨rfl, rfl⟩))) fan), ?_⟩
          have hs1_ := hs
          refine wf_chg (by kernel_rfl) ?_
          obtain ⟨c234, h⟩ := h
          refine sv_app hs 2 rfl (hs.shows 0 rfl) (fun _ => rfl) (by decide) F38.ta29_29 (by decide) c234 rfl rfl nofun (fun v232 H233 kv232 hs => ?_)
          replace hs := hs.del 0
          have nv232 := kv232 nv220
          refine so_end ⟨(fac (.inl ⟨8, by kernel_rfl⟩) fan), ?_⟩
          refine wf_pure rfl (by kernel_rfl) ?_
          refine so_fieldAddr rfl F38.fd31_2 ?_
          refine so_end ?_
          have hs2_ := hs
          refine wf_chg (by kernel_rfl) ?_
          refine sv_st hs 0 rfl rfl rfl (c := [v232]) rfl F38.sz29 rfl (stc (hs.shows 1 rfl).stor stn) (leb rfl) (cs' := [(.int .i64 b210), (.int .i64 b211), v232]) rfl nofun (fun H235 hs => ?_)
          refine so_end ⟨(fac (.inl ⟨8, by kernel_rfl⟩) fan), ?_⟩
          refine wf_nil ?_
          refine fi_inBlock ?_
          refine fi_region ?_
          refine so_move rfl ?_
          refine so_bin rfl rfl ab_add ?_
          refine so_assign rfl ?_
          refine so_nil ?_
          exact fi_at [(0, (.v v0)), (1, (.v (.int .i64 a1))), (4, (.v (.ptr id101 0))), (5, (.v (.ptr id109 0))), (6, (.v (.int .i64 k178))), (7, (.v (.int .i64 (IntKind.i64.wrap (i212 + (1 : Int))))))] ⟨rfl, rfl, rfl, rfl, rfl, rfl, trivial⟩ (h _ _ _ nv232 hs)
        · refine fi_false rfl (decide_eq_false c228) ?_
          refine fi_skip ?_
          refine fi_inBlock ?_
          refine fi_region ?_
          refine so_move rfl ?_
          refine so_bin rfl rfl ab_add ?_
          refine so_assign rfl ?_
          refine so_nil ?_
          exact fi_at [(0, (.v v0)), (1, (.v (.int .i64 a1))), (4, (.v (.ptr id101 0))), (5, (.v (.ptr id109 0))), (6, (.v (.int .i64 k178))), (7, (.v (.int .i64 (IntKind.i64.wrap (i212 + (1 : Int))))))] ⟨rfl, rfl, rfl, rfl, rfl, rfl, trivial⟩ (h _ _ _ nv220 hs)
      · refine so_gno rfl c224 ?_
        refine so_gno rfl c224 ?_
        refine so_gno rfl c224 ?_
        refine so_gno rfl c224 ?_
        refine so_gno rfl c224 ?_
        refine so_gno rfl c224 ?_
        refine so_gno rfl c224 ?_
        refine so_gno rfl c224 ?_
        refine so_gno rfl c224 ?_
        refine so_gno rfl c224 ?_
        refine so_pick_f rfl c224 rfl ?_
        refine so_nil ?_
        refine fi_false rfl rfl ?_
        refine fi_skip ?_
        refine fi_inBlock ?_
        refine fi_region ?_
        refine so_move rfl ?_
        refine so_bin rfl rfl ab_add ?_
        refine so_assign rfl ?_
        refine so_nil ?_
        exact fi_at [(0, (.v v0)), (1, (.v (.int .i64 a1))), (4, (.v (.ptr id101 0))), (5, (.v (.ptr id109 0))), (6, (.v (.int .i64 k178))), (7, (.v (.int .i64 (IntKind.i64.wrap (i212 + (1 : Int))))))] ⟨rfl, rfl, rfl, rfl, rfl, rfl, trivial⟩ (h _ _ _ nv220 hs)
    · refine fi_false rfl (decide_eq_false c213) ?_
      refine fi_exit rfl ?_
      refine fi_inBlock ?_
      refine fi_region ?_
      refine so_move rfl ?_
      refine so_bin rfl rfl ab_sub ?_
      refine so_assign rfl ?_
      refine so_nil ?_
      exact fi_at [(0, (.v v0)), (1, (.v (.int .i64 a1))), (4, (.v (.ptr id101 0))), (5, (.v (.ptr id109 0))), (6, (.v (.int .i64 (IntKind.i64.wrap (k178 - (1 : Int))))))] ⟨rfl, rfl, rfl, rfl, rfl, trivial⟩ (h _ _ _ nv209 hs)
  · refine fi_false rfl (decide_eq_false c179) ?_
    refine fi_exit rfl ?_
    refine fi_seq ?_
    refine fi_region ?_
    refine sv_lds hs 0 rfl rfl (leb rfl) rfl F38.ag31 F38.sz31 ?_
    refine sv_st hs 2 rfl rfl rfl (c := [(.int .i64 b176), (.int .i64 b177), v175]) rfl F38.sz31 rfl (stc rfl (stc rfl (stc (hs.shows 1 rfl).stor stn))) (leb rfl) (cs' := [(.int .i64 b176), (.int .i64 b177), v175]) rfl nofun (fun H238 hs => ?_)
    refine so_nil ?_
    exact by_ret (res_mk (ar_cells rfl F38.ag31 F38.sz31 (hs.lds 2 rfl (leb rfl) rfl) ar_nil) rfl) ⟨_, _, _, h, _, rfl, (Sep.del 1 (Sep.del 0 hs))⟩

end Go.Proofs.Ytplfnchoooehgaa.G

namespace Go.Proofs.Ytplfnchoooehgaa.G
open Go Go.Ab Go.Proofs Go.Proofs.Ytplfnchoooehgaa
set_option maxRecDepth 100000
set_option linter.unusedVariables false
set_option linter.unusedSimpArgs false
set_option maxHeartbeats 1000000
theorem F13.ag31 : tagg Try.prog 31 = some true := by kernel_rfl
theorem F13.bp31 : bplan Try.prog 31 = some ([(.int .i64 (0 : Int)), (.int .i64 (0 : Int)), .nilsl], [(0, 1), (1, 1), (2, 1)]) := by kernel_rfl
theorem F13.sz31 : tsz Try.prog 31 = some 3 := by kernel_rfl
theorem F13.ze31 : tzero Try.prog 31 = some [(.int .i64 (0 : Int)), (.int .i64 (0 : Int)), .nilsl] := by kernel_rfl
theorem spec_CodeList_ok {fr : List Pc} {H : Heap} (v0 : AV) (l0 : List (Int)) (hs : Sep H (fr)) (g0 : ∀ H, Sep H fr → Shows H v0 1 (enc (eInt .i64) l0)) (K : Int → Int → (List (Bool)) → Bool → Prop) (h : spec_CodeList.wp l0 K) : OkQ Try.prog 13 [(.v v0)] H (fun r H2 => ∃ (y0 : Int) (y1 : Int) (y2 : List (Bool)) (y3 : Bool), K y0 y1 y2 y3 ∧ ∃ (w0_ : AV), r = (.t [(.g [(.int .i64 y0), (.int .i64 y1), w0_]), (.v (.bool y3))]) ∧ Sep H2 (Pc.osl w0_ 1 (enc eBool y2) :: fr)) := by
  unfold spec_CodeList.wp at h
  refine of_body Try.f13 F.hm Try.func13 rfl Try.call13 (by kernel_rfl) (by simp) ?_
  refine fi_seq ?_
  refine fi_region ?_
  refine sv_alloc hs F13.ze31 rfl nofun (fun id101 H102 hs => ?_)
  refine so_assign rfl ?_
  refine so_nil ?_
  refine fi_seq ?_
  refine fi_seq ?_
  refine fi_region ?_
  refine so_move rfl ?_
  refine sv_callS (spec_l02Integers_ok v0 l0 hs (fun _ hs => (g0 _ hs.tl)) _ h) (fun _ _ ⟨_, _, _, e⟩ => e) rfl rfl ?_
  clear h
  rintro _ _ ⟨y104, h, rfl, rfl⟩
  refine so_un rfl au_not ?_
  refine so_nil ?_
  replace h := ofT h; rcases h with ⟨c106, h⟩ | ⟨c106, h⟩
  · refine fi_false rfl (not_f c106) ?_
    refine fi_skip ?_
    refine fi_seq ?_
    refine fi_region ?_
    refine so_move rfl ?_
    refine sv_call (spec_l06Code_ok v0 l0 (0 : Int) hs (fun _ hs => (g0 _ hs.tl)) _ h) rfl rfl nofun ?_
    clear h hs
    rintro _ H112 ⟨y107, y108, y109, h, v110, rfl, hs⟩
    refine sv_st hs 1 rfl rfl rfl (c := [(.int .i64 y107), (.int .i64 y108), v110]) rfl F13.sz31 rfl (stc rfl (stc rfl (stc (hs.shows 0 rfl).stor stn))) (leb rfl) (cs' := [(.int .i64 y107), (.int .i64 y108), v110]) rfl nofun (fun H113 hs => ?_)
    refine so_assign rfl ?_
    refine so_nil ?_
    exact by_ret (res_mk (ar_cells rfl F13.ag31 F13.sz31 (hs.lds 1 rfl (leb rfl) rfl) (ar_tmp rfl ar_nil)) rfl) ⟨_, _, _, _, h, _, rfl, (Sep.del 1 hs)⟩
  · refine fi_true rfl (not_t c106) ?_
    refine fi_seq ?_
    refine fi_region ?_
    refine so_build F13.bp31 (cps := []) rfl fan rfl ?_
    refine sv_st hs 0 rfl rfl rfl (c := [(.int .i64 (0 : Int)), (.int .i64 (0 : Int)), .nilsl]) rfl F13.sz31 rfl (stc rfl (stc rfl (stc rfl stn))) (leb rfl) (cs' := [(.int .i64 (0 : Int)), (.int .i64 (0 : Int)), .nilsl]) rfl nofun (fun H114 hs => ?_)
    refine so_assign rfl ?_
    refine so_nil ?_
    exact by_ret (res_mk (ar_cells rfl F13.ag31 F13.sz31 (hs.lds 0 rfl (leb rfl) rfl) (ar_tmp rfl ar_nil)) rfl) ⟨_, _, _, _, h, _, rfl, (Sep.nil (Sep.del 0 hs) 1)⟩

end Go.Proofs.Ytplfnchoooehgaa.G

namespace Go.Proofs.Ytplfnchoooehgaa.G
open Go Go.Ab Go.Proofs Go.Proofs.Ytplfnchoooehgaa
set_option maxRecDepth 100000
set_option linter.unusedVariables false
set_option linter.unusedSimpArgs false
set_option maxHeartbeats 1000000
theorem impl_within_ok {fr : List Pc} {H : Heap} (a0 : Int) (a1 : Int) (a2 : Int) (hs : Sep H (fr))  (K : Bool → Prop) (h : impl_within.wp a0 a1 a2 K) : OkQ Try.prog 36 [(.v (.int .i64 a0)), (.v (.int .i64 a1)), (.v (.int .i64 a2))] H (fun r H2 => ∃ (y0 : Bool), K y0 ∧ r = (.v (.bool y0)) ∧ H = H2) := by
  unfold impl_within.wp at h
  refine of_body Try.f36 F.hm Try.func36 rfl Try.call36 (by kernel_rfl) (by simp) ?_
  refine fi_seq ?_
  refine fi_region ?_
  refine so_assign rfl ?_
  refine so_nil ?_
  refine fi_seq ?_
  refine fi_region ?_
  refine so_move rfl ?_
  refine so_move rfl ?_
  refine so_bin rfl rfl ab_geq ?_
  refine so_move rfl ?_
  replace h := ofP h; rcases h with ⟨c101, h⟩ | ⟨c101, h⟩
  · refine so_gyes rfl (decide_eq_true c101) ?_
    refine so_move rfl ?_
    refine so_gyes rfl (decide_eq_true c101) ?_
    refine so_move rfl ?_
    refine so_gyes rfl (decide_eq_true c101) ?_
    refine so_bin rfl rfl ab_leq ?_
    refine so_pick_t rfl (decide_eq_true c101) rfl ?_
    refine so_assign rfl ?_
    refine so_nil ?_
    exact by_ret rfl ⟨_, h, rfl, rfl⟩
  · refine so_gno rfl (decide_eq_false c101) ?_
    refine so_gno rfl (decide_eq_false c101) ?_
    refine so_gno rfl (decide_eq_false c101) ?_
    refine so_pick_f rfl (decide_eq_false c101) rfl ?_
    refine so_assign rfl ?_
    refine so_nil ?_
    exact by_ret rfl ⟨_, h, rfl, rfl⟩

end Go.Proofs.Ytplfnchoooehgaa.G

namespace Go.Proofs.Ytplfnchoooehgaa.G
open Go Go.Ab Go.Proofs Go.Proofs.Ytplfnchoooehgaa
set_option maxRecDepth 100000
set_option linter.unusedVariables false
set_option linter.unusedSimpArgs false
set_option maxHeartbeats 1000000
theorem F57.ag2 : tagg Try.prog 2 = some false := by kernel_rfl
theorem F57.ti22 : (telem Try.prog 22).isSome = true := by kernel_rfl
theorem F57.tl22 : (telem Try.prog 22).bind (tsz Try.prog) = some 1 := by kernel_rfl
theorem impl_areWithin_ok {fr : List Pc} {H : Heap} (v0 : AV) (l0 : List (Int)) (a1 : Int) (hs : Sep H (fr)) (g0 : ∀ H, Sep H fr → Shows H v0 1 (enc (eInt .i64) l0)) (K : Bool → Prop) (h : impl_areWithin.wp l0 a1 K) : OkQ Try.prog 57 [(.v v0), (.v (.int .i64 a1))] H (fun r H2 => ∃ (y0 : Bool), K y0 ∧ r = (.v (.bool y0)) ∧ H = H2) := by
  unfold impl_areWithin.wp at h
  refine of_body Try.f57 F.hm Try.func57 rfl Try.call57 (by kernel_rfl) (by simp) ?_
  refine fi_seq ?_
  refine fi_region ?_
  refine so_assign rfl ?_
  refine so_nil ?_
  refine fi_seq ?_
  refine fi_seq ?_
  refine fi_region ?_
  refine so_move rfl ?_
  refine sv_len (g0 _ hs) (fun _ => rfl) (by decide) rfl F57.ti22 ?_
  refine so_move rfl ?_
  refine so_nil ?_
  refine fi_block ?_
  refine fi_loop ?_
  refine fi_at [(1, (.v (.int .i64 a1))), (7, (.v v0)), (8, (.v (.int .i64 (l0.length : Int)))), (9, (.v (.int .i64 (0 : Int))))] ⟨rfl, rfl, rfl, rfl, trivial⟩ ?_
  refine h (fun (x102 : Int) => ∀ (s : Nat → TV), Fin _ _ (updL s [(1, (.v (.int .i64 a1))), (7, (.v v0)), (8, (.v (.int .i64 (l0.length : Int)))), (9, (.v (.int .i64 x102)))]) _ _) ?_ _
  intro x102 h s108
  refine fi_inLoop ?_
  refine fi_seq ?_
  refine fi_region ?_
  refine so_bin rfl rfl ab_lss ?_
  refine so_nil ?_
  refine fi_seq ?_
  replace h := ofP h; rcases h with ⟨c103, h⟩ | ⟨c103, h⟩
  · refine fi_true rfl (decide_eq_true c103) ?_
    refine fi_skip ?_
    refine fi_seq ?_
    refine fi_block ?_
    refine fi_seq ?_
    refine fi_region ?_
    obtain ⟨c104, h⟩ := h
    refine sv_idx (g0 _ hs) c104 (fun _ => rfl) (by decide) rfl rfl F57.tl22 ?_
    refine sv_cell (g0 _ hs) c104 (0 : Int) 0 (fun x => (AV.int .i64 x)) (fun _ => rfl) (fun _ => rfl) rfl F57.ag2 ?_
    refine so_assign rfl ?_
    refine so_nil ?_
    refine fi_seq ?_
    refine fi_region ?_
    refine so_move rfl ?_
    refine so_move rfl ?_
    refine so_un rfl au_neg ?_
    refine so_move rfl ?_
    refine sv_callS (impl_within_ok (l0.getD (x102).toNat (0 : Int)) (IntKind.i64.wrap (0 - a1)) a1 hs  _ h) (fun _ _ ⟨_, _, _, e⟩ => e) rfl rfl ?_
    clear h
    rintro _ _ ⟨y105, h, rfl, rfl⟩
    refine so_un rfl au_not ?_
    refine so_nil ?_
    replace h := ofT h; rcases h with ⟨c107, h⟩ | ⟨c107, h⟩
    · refine fi_false rfl (not_f c107) ?_
      refine fi_skip ?_
      refine fi_inBlock ?_
      refine fi_region ?_
      refine so_bin rfl rfl ab_add ?_
      refine so_move rfl ?_
      refine so_nil ?_
      exact fi_at [(1, (.v (.int .i64 a1))), (7, (.v v0)), (8, (.v (.int .i64 (l0.length : Int)))), (9, (.v (.int .i64 (IntKind.i64.wrap (x102 + (1 : Int))))))] ⟨rfl, rfl, rfl, rfl, trivial⟩ (h _)
    · refine fi_true rfl (not_t c107) ?_
      refine fi_seq ?_
      refine fi_region ?_
      refine so_assign rfl ?_
      refine so_nil ?_
      exact by_ret rfl ⟨_, h, rfl, rfl⟩
  · refine fi_false rfl (decide_eq_false c103) ?_
    refine fi_exit rfl ?_
    refine fi_seq ?_
    refine fi_region ?_
    refine so_assign rfl ?_
    refine so_nil ?_
    exact by_ret rfl ⟨_, h, rfl, rfl⟩

end Go.Proofs.Ytplfnchoooehgaa.G

namespace Go.Proofs.Ytplfnchoooehgaa.G
open Go Go.Ab Go.Proofs Go.Proofs.Ytplfnchoooehgaa
set_option maxRecDepth 100000
set_option linter.unusedVariables false
set_option linter.unusedSimpArgs false
set_option maxHeartbeats 1000000
theorem F35.ti22 : (telem Try.prog 22).isSome = true := by kernel_rfl
theorem impl_AreIntegers_ok {fr : List Pc} {H : Heap} (v0 : AV) (l0 : List (Int)) (hs : Sep H (fr)) (g0 : ∀ H, Sep H fr → Shows H v0 1 (enc (eInt .i64) l0)) (K : Bool → Prop) (h : impl_AreIntegers.wp l0 K) : OkQ Try.prog 35 [(.v v0)] H (fun r H2 => ∃ (y0 : Bool), K y0 ∧ r = (.v (.bool y0)) ∧ H = H2) := by
  unfold impl_AreIntegers.wp at h
  refine of_body Try.f35 F.hm Try.func35 rfl Try.call35 (by kernel_rfl) (by simp) ?_
  refine fi_seq ?_
  refine fi_region ?_
  refine so_assign rfl ?_
  refine so_nil ?_
  refine fi_seq ?_
  refine fi_region ?_
  refine so_move rfl ?_
  refine sv_len (g0 _ hs) (fun _ => rfl) (by decide) rfl F35.ti22 ?_
  refine sv_callS (impl_within_ok (l0.length : Int) (1 : Int) (128 : Int) hs  _ h) (fun _ _ ⟨_, _, _, e⟩ => e) rfl rfl ?_
  clear h
  rintro _ _ ⟨y101, h, rfl, rfl⟩
  refine so_move rfl ?_
  replace h := ofT h; rcases h with ⟨c103, h⟩ | ⟨c103, h⟩
  · refine so_gyes rfl c103 ?_
    refine so_move rfl ?_
    refine so_gyes rfl c103 ?_
    refine sv_callS (impl_areWithin_ok v0 l0 (1000000 : Int) hs (fun _ hs => (g0 _ hs)) _ h) (fun _ _ ⟨_, _, _, e⟩ => e) rfl rfl ?_
    clear h
    rintro _ _ ⟨y104, h, rfl, rfl⟩
    refine so_pick_t rfl c103 rfl ?_
    refine so_assign rfl ?_
    refine so_nil ?_
    exact by_ret rfl ⟨_, h, rfl, rfl⟩
  · refine so_gno rfl c103 ?_
    refine so_gno rfl c103 ?_
    refine so_pick_f rfl c103 rfl ?_
    refine so_assign rfl ?_
    refine so_nil ?_
    exact by_ret rfl ⟨_, h, rfl, rfl⟩

end Go.Proofs.Ytplfnchoooehgaa.G

namespace Go.Proofs.Ytplfnchoooehgaa.G
open Go Go.Ab Go.Proofs Go.Proofs.Ytplfnchoooehgaa
set_option maxRecDepth 100000
set_option linter.unusedVariables false
set_option linter.unusedSimpArgs false
set_option maxHeartbeats 1000000
theorem impl_far_ok {fr : List Pc} {H : Heap} (a0 : Int) (hs : Sep H (fr))  (K : Int → Prop) (h : impl_far.wp a0 K) : OkQ Try.prog 37 [(.v (.int .i64 a0))] H (fun r H2 => ∃ (y0 : Int), K y0 ∧ r = (.v (.int .i64 y0)) ∧ H = H2) := by
  unfold impl_far.wp at h
  refine of_body Try.f37 F.hm Try.func37 rfl Try.call37 (by kernel_rfl) (by simp) ?_
  refine fi_seq ?_
  refine fi_region ?_
  refine so_assign rfl ?_
  refine so_nil ?_
  refine fi_seq ?_
  refine fi_region ?_
  refine so_move rfl ?_
  refine so_move rfl ?_
  refine so_un rfl au_neg ?_
  refine sv_max rfl rfl ?_
  refine so_assign rfl ?_
  refine so_nil ?_
  exact by_ret rfl ⟨_, h, rfl, rfl⟩

end Go.Proofs.Ytplfnchoooehgaa.G

namespace Go.Proofs.Ytplfnchoooehgaa.G
open Go Go.Ab Go.Proofs Go.Proofs.Ytplfnchoooehgaa
set_option maxRecDepth 100000
set_option linter.unusedVariables false
set_option linter.unusedSimpArgs false
set_option maxHeartbeats 1000000
theorem F60.it3 : tint Try.prog 3 = some .i64 := by kernel_rfl
theorem F60.it5 : tint Try.prog 5 = some .u8 := by kernel_rfl
theorem F60.sr9 : tstr Try.prog 9 = true := by kernel_rfl
theorem F60.us5 : (Try.prog.underlying 5).isSome = true := by kernel_rfl
theorem F60.us73 : (Try.prog.underlying 73).isSome = true := by kernel_rfl
theorem math_bits_Len64_ok {fr : List Pc} {H : Heap} (a0 : Int) (hs : Sep H (fr))  (K : Int → Prop) (h : math_bits_Len64.wp a0 K) : OkQ Try.prog 60 [(.v (.int .u64 a0))] H (fun r H2 => ∃ (y0 : Int), K y0 ∧ r = (.v (.int .i64 y0)) ∧ H = H2) := by
  unfold math_bits_Len64.wp at h
  refine of_body Try.f60 F.hm Try.func60 rfl Try.call60 (by kernel_rfl) (by simp) ?_
  refine fi_seq ?_
  refine fi_region ?_
  refine so_assign rfl ?_
  refine so_nil ?_
  refine fi_seq ?_
  refine fi_seq ?_
  refine fi_region ?_
  refine so_move rfl ?_
  refine so_bin rfl rfl ab_geq ?_
  refine so_nil ?_
  replace h := ofP h; rcases h with ⟨c101, h⟩ | ⟨c101, h⟩
  · refine fi_true rfl (decide_eq_true c101) ?_
    refine fi_seq ?_
    refine fi_region ?_
    refine so_move rfl ?_
    refine so_bin rfl rfl (ab_shr (by decide)) ?_
    refine so_assign rfl ?_
    refine so_nil ?_
    refine fi_region ?_
    refine so_assign rfl ?_
    refine so_nil ?_
    refine fi_seq ?_
    refine fi_seq ?_
    refine fi_region ?_
    refine so_move rfl ?_
    refine so_bin rfl rfl ab_geq ?_
    refine so_nil ?_
    replace h := ofP h; rcases h with ⟨c102, h⟩ | ⟨c102, h⟩
    · refine fi_true rfl (decide_eq_true c102) ?_
      refine fi_seq ?_
      refine fi_region ?_
      refine so_move rfl ?_
      refine so_bin rfl rfl (ab_shr (by decide)) ?_
      refine so_assign rfl ?_
      refine so_nil ?_
      refine fi_region ?_
      refine so_move rfl ?_
      refine so_bin rfl rfl ab_add ?_
      refine so_assign rfl ?_
      refine so_nil ?_
      refine fi_seq ?_
      refine fi_seq ?_
      refine fi_region ?_
      refine so_move rfl ?_
      refine so_bin rfl rfl ab_geq ?_
      refine so_nil ?_
      replace h := ofP h; rcases h with ⟨c103, h⟩ | ⟨c103, h⟩
      · refine fi_true rfl (decide_eq_true c103) ?_
        refine fi_seq ?_
        refine fi_region ?_
        refine so_move rfl ?_
        refine so_bin rfl rfl (ab_shr (by decide)) ?_
        refine so_assign rfl ?_
        refine so_nil ?_
        refine fi_region ?_
        refine so_move rfl ?_
        refine so_bin rfl rfl ab_add ?_
        refine so_assign rfl ?_
        refine so_nil ?_
        refine fi_seq ?_
        refine fi_region ?_
        refine so_move rfl ?_
        refine so_move rfl ?_
        refine sv_ii rfl F60.us73 F60.it5 ?_
        obtain ⟨c104, h⟩ := h
        refine so_index rfl rfl F60.sr9 c104 ?_
        refine sv_ii rfl F60.us5 F60.it3 ?_
        refine so_bin rfl rfl ab_add ?_
        refine so_assign rfl ?_
        refine so_nil ?_
        exact by_ret rfl ⟨_, h, rfl, rfl⟩
      · refine fi_false rfl (decide_eq_false c103) ?_
        refine fi_skip ?_
        refine fi_seq ?_
        refine fi_region ?_
        refine so_move rfl ?_
        refine so_move rfl ?_
        refine sv_ii rfl F60.us73 F60.it5 ?_
        obtain ⟨c105, h⟩ := h
        refine so_index rfl rfl F60.sr9 c105 ?_
        refine sv_ii rfl F60.us5 F60.it3 ?_
        refine so_bin rfl rfl ab_add ?_
        refine so_assign rfl ?_
        refine so_nil ?_
        exact by_ret rfl ⟨_, h, rfl, rfl⟩
    · refine fi_false rfl (decide_eq_false c102) ?_
      refine fi_skip ?_
      refine fi_seq ?_
      refine fi_seq ?_
      refine fi_region ?_
      refine so_move rfl ?_
      refine so_bin rfl rfl ab_geq ?_
      refine so_nil ?_
      replace h := ofP h; rcases h with ⟨c106, h⟩ | ⟨c106, h⟩
      · refine fi_true rfl (decide_eq_true c106) ?_
        refine fi_seq ?_
        refine fi_region ?_
        refine so_move rfl ?_
        refine so_bin rfl rfl (ab_shr (by decide)) ?_
        refine so_assign rfl ?_
        refine so_nil ?_
        refine fi_region ?_
        refine so_move rfl ?_
        refine so_bin rfl rfl ab_add ?_
        refine so_assign rfl ?_
        refine so_nil ?_
        refine fi_seq ?_
        refine fi_region ?_
        refine so_move rfl ?_
        refine so_move rfl ?_
        refine sv_ii rfl F60.us73 F60.it5 ?_
        obtain ⟨c107, h⟩ := h
        refine so_index rfl rfl F60.sr9 c107 ?_
        refine sv_ii rfl F60.us5 F60.it3 ?_
        refine so_bin rfl rfl ab_add ?_
        refine so_assign rfl ?_
        refine so_nil ?_
        exact by_ret rfl ⟨_, h, rfl, rfl⟩
      · refine fi_false rfl (decide_eq_false c106) ?_
        refine fi_skip ?_
        refine fi_seq ?_
        refine fi_region ?_
        refine so_move rfl ?_
        refine so_move rfl ?_
        refine sv_ii rfl F60.us73 F60.it5 ?_
        obtain ⟨c108, h⟩ := h
        refine so_index rfl rfl F60.sr9 c108 ?_
        refine sv_ii rfl F60.us5 F60.it3 ?_
        refine so_bin rfl rfl ab_add ?_
        refine so_assign rfl ?_
        refine so_nil ?_
        exact by_ret rfl ⟨_, h, rfl, rfl⟩
  · refine fi_false rfl (decide_eq_false c101) ?_
    refine fi_skip ?_
    refine fi_seq ?_
    refine fi_seq ?_
    refine fi_region ?_
    refine so_move rfl ?_
    refine so_bin rfl rfl ab_geq ?_
    refine so_nil ?_
    replace h := ofP h; rcases h with ⟨c109, h⟩ | ⟨c109, h⟩
    · refine fi_true rfl (decide_eq_true c109) ?_
      refine fi_seq ?_
      refine fi_region ?_
      refine so_move rfl ?_
      refine so_bin rfl rfl (ab_shr (by decide)) ?_
      refine so_assign rfl ?_
      refine so_nil ?_
      refine fi_region ?_
      refine so_move rfl ?_
      refine so_bin rfl rfl ab_add ?_
      refine so_assign rfl ?_
      refine so_nil ?_
      refine fi_seq ?_
      refine fi_seq ?_
      refine fi_region ?_
      refine so_move rfl ?_
      refine so_bin rfl rfl ab_geq ?_
      refine so_nil ?_
      replace h := ofP h; rcases h with ⟨c110, h⟩ | ⟨c110, h⟩
      · refine fi_true rfl (decide_eq_true c110) ?_
        refine fi_seq ?_
        refine fi_region ?_
        refine so_move rfl ?_
        refine so_bin rfl rfl (ab_shr (by decide)) ?_
        refine so_assign rfl ?_
        refine so_nil ?_
        refine fi_region ?_
        refine so_move rfl ?_
        refine so_bin rfl rfl ab_add ?_
        refine so_assign rfl ?_
        refine so_nil ?_
        refine fi_seq ?_
        refine fi_region ?_
        refine so_move rfl ?_
        refine so_move rfl ?_
        refine sv_ii rfl F60.us73 F60.it5 ?_
        obtain ⟨c111, h⟩ := h
        refine so_index rfl rfl F60.sr9 c111 ?_
        refine sv_ii rfl F60.us5 F60.it3 ?_
        refine so_bin rfl rfl ab_add ?_
        refine so_assign rfl ?_
        refine so_nil ?_
        exact by_ret rfl ⟨_, h, rfl, rfl⟩
      · refine fi_false rfl (decide_eq_false c110) ?_
        refine fi_skip ?_
        refine fi_seq ?_
        refine fi_region ?_
        refine so_move rfl ?_
        refine so_move rfl ?_
        refine sv_ii rfl F60.us73 F60.it5 ?_
        obtain ⟨c112, h⟩ := h
        refine so_index rfl rfl F60.sr9 c112 ?_
        refine sv_ii rfl F60.us5 F60.it3 ?_
        refine so_bin rfl rfl ab_add ?_
        refine so_assign rfl ?_
        refine so_nil ?_
        exact by_ret rfl ⟨_, h, rfl, rfl⟩
    · refine fi_false rfl (decide_eq_false c109) ?_
      refine fi_skip ?_
      refine fi_seq ?_
      refine fi_seq ?_
      refine fi_region ?_
      refine so_move rfl ?_
      refine so_bin rfl rfl ab_geq ?_
      refine so_nil ?_
      replace h := ofP h; rcases h with ⟨c113, h⟩ | ⟨c113, h⟩
      · refine fi_true rfl (decide_eq_true c113) ?_
        refine fi_seq ?_
        refine fi_region ?_
        refine so_move rfl ?_
        refine so_bin rfl rfl (ab_shr (by decide)) ?_
        refine so_assign rfl ?_
        refine so_nil ?_
        refine fi_region ?_
        refine so_move rfl ?_
        refine so_bin rfl rfl ab_add ?_
        refine so_assign rfl ?_
        refine so_nil ?_
        refine fi_seq ?_
        refine fi_region ?_
        refine so_move rfl ?_
        refine so_move rfl ?_
        refine sv_ii rfl F60.us73 F60.it5 ?_
        obtain ⟨c114, h⟩ := h
        refine so_index rfl rfl F60.sr9 c114 ?_
        refine sv_ii rfl F60.us5 F60.it3 ?_
        refine so_bin rfl rfl ab_add ?_
        refine so_assign rfl ?_
        refine so_nil ?_
        exact by_ret rfl ⟨_, h, rfl, rfl⟩
      · refine fi_false rfl (decide_eq_false c113) ?_
        refine fi_skip ?_
        refine fi_seq ?_
        refine fi_region ?_
        refine so_move rfl ?_
        refine so_move rfl ?_
        refine sv_ii rfl F60.us73 F60.it5 ?_
        obtain ⟨c115, h⟩ := h
        refine so_index rfl rfl F60.sr9 c115 ?_
        refine sv_ii rfl F60.us5 F60.it3 ?_
        refine so_bin rfl rfl ab_add ?_
        refine so_assign rfl ?_
        refine so_nil ?_
        exact by_ret rfl ⟨_, h, rfl, rfl⟩

end Go.Proofs.Ytplfnchoooehgaa.G

namespace Go.Proofs.Ytplfnchoooehgaa.G
open Go Go.Ab Go.Proofs Go.Proofs.Ytplfnchoooehgaa
set_option maxRecDepth 100000
set_option linter.unusedVariables false
set_option linter.unusedSimpArgs false
set_option maxHeartbeats 1000000
theorem F39.ag2 : tagg Try.prog 2 = some false := by kernel_rfl
theorem F39.it73 : tint Try.prog 73 = some .u64 := by kernel_rfl
theorem F39.ti22 : (telem Try.prog 22).isSome = true := by kernel_rfl
theorem F39.tl22 : (telem Try.prog 22).bind (tsz Try.prog) = some 1 := by kernel_rfl
theorem F39.us2 : (Try.prog.underlying 2).isSome = true := by kernel_rfl
theorem impl_planesFor_ok {fr : List Pc} {H : Heap} (v0 : AV) (l0 : List (Int)) (hs : Sep H (fr)) (g0 : ∀ H, Sep H fr → Shows H v0 1 (enc (eInt .i64) l0)) (K : Int → Prop) (h : impl_planesFor.wp l0 K) : OkQ Try.prog 39 [(.v v0)] H (fun r H2 => ∃ (y0 : Int), K y0 ∧ r = (.v (.int .i64 y0)) ∧ H = H2) := by
  unfold impl_planesFor.wp at h
  refine of_body Try.f39 F.hm Try.func39 rfl Try.call39 (by kernel_rfl) (by simp) ?_
  refine fi_seq ?_
  refine fi_region ?_
  refine so_assign rfl ?_
  refine so_nil ?_
  refine fi_seq ?_
  refine fi_region ?_
  refine so_assign rfl ?_
  refine so_nil ?_
  refine fi_seq ?_
  refine fi_seq ?_
  refine fi_region ?_
  refine so_move rfl ?_
  refine sv_len (g0 _ hs) (fun _ => rfl) (by decide) rfl F39.ti22 ?_
  refine so_move rfl ?_
  refine so_nil ?_
  refine fi_block ?_
  refine fi_loop ?_
  refine fi_at [(3, (.v (.int .i64 (0 : Int)))), (6, (.v v0)), (7, (.v (.int .i64 (l0.length : Int)))), (8, (.v (.int .i64 (0 : Int))))] ⟨rfl, rfl, rfl, rfl, trivial⟩ ?_
  refine h (fun (most102 : Int) (x103 : Int) => ∀ (s : Nat → TV), Fin _ _ (updL s [(3, (.v (.int .i64 most102))), (6, (.v v0)), (7, (.v (.int .i64 (l0.length : Int)))), (8, (.v (.int .i64 x103)))]) _ _) ?_ _
  intro most102 x103 h s110
  refine fi_inLoop ?_
  refine fi_seq ?_
  refine fi_region ?_
  refine so_bin rfl rfl ab_lss ?_
  refine so_nil ?_
  refine fi_seq ?_
  replace h := ofP h; rcases h with ⟨c104, h⟩ | ⟨c104, h⟩
  · refine fi_true rfl (decide_eq_true c104) ?_
    refine fi_skip ?_
    refine fi_seq ?_
    refine fi_block ?_
    refine fi_seq ?_
    refine fi_region ?_
    obtain ⟨c105, h⟩ := h
    refine sv_idx (g0 _ hs) c105 (fun _ => rfl) (by decide) rfl rfl F39.tl22 ?_
    refine sv_cell (g0 _ hs) c105 (0 : Int) 0 (fun x => (AV.int .i64 x)) (fun _ => rfl) (fun _ => rfl) rfl F39.ag2 ?_
    refine so_assign rfl ?_
    refine so_nil ?_
    refine fi_region ?_
    refine so_move rfl ?_
    refine so_move rfl ?_
    refine sv_callS (impl_far_ok (l0.getD (x103).toNat (0 : Int)) hs  _ h) (fun _ _ ⟨_, _, _, e⟩ => e) rfl rfl ?_
    clear h
    rintro _ _ ⟨y106, h, rfl, rfl⟩
    refine sv_max rfl rfl ?_
    refine so_assign rfl ?_
    refine so_nil ?_
    refine fi_inBlock ?_
    refine fi_region ?_
    refine so_bin rfl rfl ab_add ?_
    refine so_move rfl ?_
    refine so_nil ?_
    exact fi_at [(3, (.v (.int .i64 (mxI most102 y106)))), (6, (.v v0)), (7, (.v (.int .i64 (l0.length : Int)))), (8, (.v (.int .i64 (IntKind.i64.wrap (x103 + (1 : Int))))))] ⟨rfl, rfl, rfl, rfl, trivial⟩ (h _)
  · refine fi_false rfl (decide_eq_false c104) ?_
    refine fi_exit rfl ?_
    refine fi_seq ?_
    refine fi_region ?_
    refine so_move rfl ?_
    refine sv_ii rfl F39.us2 F39.it73 ?_
    refine sv_callS (math_bits_Len64_ok (IntKind.u64.wrap most102) hs  _ h) (fun _ _ ⟨_, _, _, e⟩ => e) rfl rfl ?_
    clear h
    rintro _ _ ⟨y108, h, rfl, rfl⟩
    refine so_assign rfl ?_
    refine so_nil ?_
    exact by_ret rfl ⟨_, h, rfl, rfl⟩

end Go.Proofs.Ytplfnchoooehgaa.G

namespace Go.Proofs.Ytplfnchoooehgaa.G
open Go Go.Ab Go.Proofs Go.Proofs.Ytplfnchoooehgaa
set_option maxRecDepth 100000
set_option linter.unusedVariables false
set_option linter.unusedSimpArgs false
set_option maxHeartbeats 1000000
theorem impl_digit_ok {fr : List Pc} {H : Heap} (a0 : Int) (a1 : Int) (hs : Sep H (fr))  (K : Bool → Prop) (h : impl_digit.wp a0 a1 K) : OkQ Try.prog 50 [(.v (.int .i64 a0)), (.v (.int .i64 a1))] H (fun r H2 => ∃ (y0 : Bool), K y0 ∧ r = (.v (.bool y0)) ∧ H = H2) := by
  unfold impl_digit.wp at h
  refine of_body Try.f50 F.hm Try.func50 rfl Try.call50 (by kernel_rfl) (by simp) ?_
  refine fi_seq ?_
  refine fi_region ?_
  refine so_assign rfl ?_
  refine so_nil ?_
  refine fi_seq ?_
  refine fi_region ?_
  refine so_move rfl ?_
  refine sv_callS (impl_far_ok a0 hs  _ h) (fun _ _ ⟨_, _, _, e⟩ => e) rfl rfl ?_
  clear h
  rintro _ _ ⟨y101, h, rfl, rfl⟩
  refine so_move rfl ?_
  obtain ⟨c103, h⟩ := h
  refine so_bin rfl rfl (ab_shr c103) ?_
  refine so_bin rfl rfl ab_and ?_
  refine so_bin rfl rfl ab_eql ?_
  refine so_assign rfl ?_
  refine so_nil ?_
  exact by_ret rfl ⟨_, h, rfl, rfl⟩

end Go.Proofs.Ytplfnchoooehgaa.G

namespace Go.Proofs.Ytplfnchoooehgaa.G
open Go Go.Ab Go.Proofs Go.Proofs.Ytplfnchoooehgaa
set_option maxRecDepth 100000
set_option linter.unusedVariables false
set_option linter.unusedSimpArgs false
set_option maxHeartbeats 1000000
theorem F40.ag2 : tagg Try.prog 2 = some false := by kernel_rfl
theorem F40.sz4 : tsz Try.prog 4 = some 1 := by kernel_rfl
theorem F40.ta29_29 : tapp Try.prog 29 29 = some (1, 1) := by kernel_rfl
theorem F40.te29 : telem Try.prog 29 = some 4 := by kernel_rfl
theorem F40.ti22 : (telem Try.prog 22).isSome = true := by kernel_rfl
theorem F40.tl22 : (telem Try.prog 22).bind (tsz Try.prog) = some 1 := by kernel_rfl
theorem F40.ze4 : tzero Try.prog 4 = some [(.bool false)] := by kernel_rfl
theorem impl_codeUntil_ok {fr : List Pc} {H : Heap} (v0 : AV) (l0 : List (Int)) (a1 : Int) (a2 : Int) (hs : Sep H (fr)) (g0 : ∀ H, Sep H fr → Shows H v0 1 (enc (eInt .i64) l0)) (K : (List (Bool)) → Prop) (h : impl_codeUntil.wp l0 a1 a2 K) : OkQ Try.prog 40 [(.v v0), (.v (.int .i64 a1)), (.v (.int .i64 a2))] H (fun r H2 => ∃ (y0 : List (Bool)), K y0 ∧ ∃ (w0_ : AV), r = (.v w0_) ∧ Sep H2 (Pc.osl w0_ 1 (enc eBool y0) :: fr)) := by
  unfold impl_codeUntil.wp at h
  refine of_body Try.f40 F.hm Try.func40 rfl Try.call40 (by kernel_rfl) (by simp) ?_
  refine fi_seq ?_
  refine fi_region ?_
  refine so_assign rfl ?_
  refine so_nil ?_
  refine fi_seq ?_
  refine fi_region ?_
  refine sv_bslice hs eBool ([] : List (Bool)) [] F40.te29 F40.sz4 F40.ze4 rfl rfl rfl rfl (fun _ => rfl) rfl (by decide) nofun (fun v101 H102 nv101 hs => ?_)
  refine so_assign rfl ?_
  refine so_nil ?_
  refine fi_seq ?_
  refine fi_seq ?_
  refine fi_region ?_
  refine so_move rfl ?_
  refine so_bin rfl rfl ab_sub ?_
  refine so_assign rfl ?_
  refine so_nil ?_
  refine fi_block ?_
  refine fi_loop ?_
  refine fi_at [(0, (.v v0)), (2, (.v (.int .i64 a2))), (7, (.v v101)), (8, (.v (.int .i64 (IntKind.i64.wrap (a1 - (1 : Int))))))] ⟨rfl, rfl, rfl, rfl, trivial⟩ ?_
  refine h (fun (out162 : List (Bool)) (plane164 : Int) => ∀ (s : Nat → TV) (H : Heap) (v163 : AV) (nv163 : v163 ≠ .nilsl), Sep H (Pc.osl v163 1 (enc eBool out162) :: fr) → Fin _ _ (updL s [(0, (.v v0)), (2, (.v (.int .i64 a2))), (7, (.v v163)), (8, (.v (.int .i64 plane164)))]) H _) ?_ _ _ _ nv101 hs
  intro out162 plane164 h s218 H219 v163 nv163 hs
  refine fi_inLoop ?_
  refine fi_seq ?_
  refine fi_seq ?_
  refine fi_region ?_
  refine so_move rfl ?_
  refine so_move rfl ?_
  refine so_bin rfl rfl ab_geq ?_
  refine so_nil ?_
  replace h := ofP h; rcases h with ⟨c165, h⟩ | ⟨c165, h⟩
  · refine fi_true rfl (decide_eq_true c165) ?_
    refine fi_skip ?_
    refine fi_seq ?_
    refine fi_block ?_
    refine fi_seq ?_
    refine fi_region ?_
    refine so_move rfl ?_
    refine sv_len (g0 _ hs.tl) (fun _ => rfl) (by decide) rfl F40.ti22 ?_
    refine so_move rfl ?_
    refine so_nil ?_
    refine fi_block ?_
    refine fi_loop ?_
    refine fi_at [(0, (.v v0)), (2, (.v (.int .i64 a2))), (7, (.v v163)), (8, (.v (.int .i64 plane164))), (20, (.v v0)), (21, (.v (.int .i64 (l0.length : Int)))), (22, (.v (.int .i64 (0 : Int))))] ⟨rfl, rfl, rfl, rfl, rfl, rfl, rfl, trivial⟩ ?_
    refine h (fun (out192 : List (Bool)) (x194 : Int) => ∀ (s : Nat → TV) (H : Heap) (v193 : AV) (nv193 : v193 ≠ .nilsl), Sep H (Pc.osl v193 1 (enc eBool out192) :: fr) → Fin _ _ (updL s [(0, (.v v0)), (2, (.v (.int .i64 a2))), (7, (.v v193)), (8, (.v (.int .i64 plane164))), (20, (.v v0)), (21, (.v (.int .i64 (l0.length : Int)))), (22, (.v (.int .i64 x194)))]) H _) ?_ _ _ _ nv163 hs
    intro out192 x194 h s216 H217 v193 nv193 hs
    refine fi_inLoop ?_
    refine fi_seq ?_
    refine fi_region ?_
    refine so_bin rfl rfl ab_lss ?_
    refine so_nil ?_
    refine fi_seq ?_
    replace h := ofP h; rcases h with ⟨c195, h⟩ | ⟨c195, h⟩
    · refine fi_true rfl (decide_eq_true c195) ?_
      refine fi_skip ?_
      refine fi_seq ?_
      refine fi_block ?_
      refine fi_seq ?_
      refine fi_region ?_
      obtain ⟨c196, h⟩ := h
      refine sv_idx (g0 _ hs.tl) c196 (fun _ => rfl) (by decide) rfl rfl F40.tl22 ?_
      refine sv_cell (g0 _ hs.tl) c196 (0 : Int) 0 (fun x => (AV.int .i64 x)) (fun _ => rfl) (fun _ => rfl) rfl F40.ag2 ?_
      refine so_assign rfl ?_
      refine so_nil ?_
      refine fi_seq ?_
      refine fi_region ?_
      refine so_move rfl ?_
      refine so_move rfl ?_
      refine sv_callS (impl_digit_ok (l0.getD (x194).toNat (0 : Int)) plane164 hs  _ h) (fun _ _ ⟨_, _, _, e⟩ => e) rfl rfl ?_
      clear h
      rintro _ _ ⟨y197, h, rfl, rfl⟩
      refine so_assign rfl ?_
      refine so_nil ?_
      refine fi_seq ?_
      refine fi_region ?_
      refine so_move rfl ?_
      refine so_move rfl ?_
      refine sv_bslice hs eBool ([y197] : List (Bool)) [[(.bool y197)]] F40.te29 F40.sz4 F40.ze4 rfl rfl rfl rfl (fun _ => rfl) rfl (by decide) nofun (fun v199 H200 nv199 hs => ?_)
      obtain ⟨c204, h⟩ := h
      refine sv_app hs 1 rfl (hs.shows 0 rfl) (fun _ => rfl) (by decide) F40.ta29_29 (by decide) c204 rfl rfl nofun (fun v202 H203 kv202 hs => ?_)
      replace hs := hs.del 0
      have nv202 := kv202 nv193
      refine so_assign rfl ?_
      refine so_nil ?_
      refine fi_seq ?_
      refine fi_region ?_
      refine so_move rfl ?_
      refine so_move rfl ?_
      replace h := ofT h; rcases h with ⟨c205, h⟩ | ⟨c205, h⟩
      · refine so_gyes rfl c205 ?_
        refine so_move rfl ?_
        refine so_gyes rfl c205 ?_
        refine sv_callS (impl_far_ok (l0.getD (x194).toNat (0 : Int)) hs  _ h) (fun _ _ ⟨_, _, _, e⟩ => e) rfl rfl ?_
        clear h
        rintro _ _ ⟨y206, h, rfl, rfl⟩
        refine so_gyes rfl c205 ?_
        refine so_move rfl ?_
        refine so_gyes rfl c205 ?_
        refine so_bin rfl rfl ab_add ?_
        refine so_gyes rfl c205 ?_
        obtain ⟨c208, h⟩ := h
        refine so_bin rfl rfl (ab_shr c208) ?_
        refine so_gyes rfl c205 ?_
        refine so_bin rfl rfl ab_eql ?_
        refine so_pick_t rfl c205 rfl ?_
        refine so_nil ?_
        replace h := ofP h; rcases h with ⟨c209, h⟩ | ⟨c209, h⟩
        · refine fi_true rfl (decide_eq_true c209) ?_
          refine fi_region ?_
          refine so_move rfl ?_
          refine so_move rfl ?_
          refine so_bin rfl rfl ab_lss ?_
          refine sv_bslice hs eBool ([(decide ((l0.getD (x194).toNat (0 : Int)) < (0 : Int)))] : List (Bool)) [[(.bool (decide ((l0.getD (x194).toNat (0 : Int)) < (0 : Int))))]] F40.te29 F40.sz4 F40.ze4 rfl rfl rfl rfl (fun _ => rfl) rfl (by decide) nofun (fun v210 H211 nv210 hs => ?_)
          obtain ⟨c215, h⟩ := h
          refine sv_app hs 1 rfl (hs.shows 0 rfl) (fun _ => rfl) (by decide) F40.ta29_29 (by decide) c215 rfl rfl nofun (fun v213 H214 kv213 hs => ?_)
          replace hs := hs.del 0
          have nv213 := kv213 nv202
          refine so_assign rfl ?_
          refine so_nil ?_
          refine fi_inBlock ?_
          refine fi_region ?_
          refine so_bin rfl rfl ab_add ?_
          refine so_move rfl ?_
          refine so_nil ?_
          exact fi_at [(0, (.v v0)), (2, (.v (.int .i64 a2))), (7, (.v v213)), (8, (.v (.int .i64 plane164))), (20, (.v v0)), (21, (.v (.int .i64 (l0.length : Int)))), (22, (.v (.int .i64 (IntKind.i64.wrap (x194 + (1 : Int))))))] ⟨rfl, rfl, rfl, rfl, rfl, rfl, rfl, trivial⟩ (h _ _ _ nv213 hs)
        · refine fi_false rfl (decide_eq_false c209) ?_
          refine fi_skip ?_
          refine fi_inBlock ?_
          refine fi_region ?_
          refine so_bin rfl rfl ab_add ?_
          refine so_move rfl ?_
          refine so_nil ?_
          exact fi_at [(0, (.v v0)), (2, (.v (.int .i64 a2))), (7, (.v v202)), (8, (.v (.int .i64 plane164))), (20, (.v v0)), (21, (.v (.int .i64 (l0.length : Int)))), (22, (.v (.int .i64 (IntKind.i64.wrap (x194 + (1 : Int))))))] ⟨rfl, rfl, rfl, rfl, rfl, rfl, rfl, trivial⟩ (h _ _ _ nv202 hs)
      · refine so_gno rfl c205 ?_
        refine so_gno rfl c205 ?_
        refine so_gno rfl c205 ?_
        refine so_gno rfl c205 ?_
        refine so_gno rfl c205 ?_
        refine so_gno rfl c205 ?_
        refine so_pick_f rfl c205 rfl ?_
        refine so_nil ?_
        refine fi_false rfl rfl ?_
        refine fi_skip ?_
        refine fi_inBlock ?_
        refine fi_region ?_
        refine so_bin rfl rfl ab_add ?_
        refine so_move rfl ?_
        refine so_nil ?_
        exact fi_at [(0, (.v v0)), (2, (.v (.int .i64 a2))), (7, (.v v202)), (8, (.v (.int .i64 plane164))), (20, (.v v0)), (21, (.v (.int .i64 (l0.length : Int)))), (22, (.v (.int .i64 (IntKind.i64.wrap (x194 + (1 : Int))))))] ⟨rfl, rfl, rfl, rfl, rfl, rfl, rfl, trivial⟩ (h _ _ _ nv202 hs)
    · refine fi_false rfl (decide_eq_false c195) ?_
      refine fi_exit rfl ?_
      refine fi_inBlock ?_
      refine fi_region ?_
      refine so_move rfl ?_
      refine so_bin rfl rfl ab_sub ?_
      refine so_assign rfl ?_
      refine so_nil ?_
      exact fi_at [(0, (.v v0)), (2, (.v (.int .i64 a2))), (7, (.v v193)), (8, (.v (.int .i64 (IntKind.i64.wrap (plane164 - (1 : Int))))))] ⟨rfl, rfl, rfl, rfl, trivial⟩ (h _ _ _ nv193 hs)
  · refine fi_false rfl (decide_eq_false c165) ?_
    refine fi_exit rfl ?_
    refine fi_seq ?_
    refine fi_region ?_
    refine so_move rfl ?_
    refine so_assign rfl ?_
    refine so_nil ?_
    exact by_ret rfl ⟨_, h, _, rfl, hs⟩

end Go.Proofs.Ytplfnchoooehgaa.G

namespace Go.Proofs.Ytplfnchoooehgaa.G
open Go Go.Ab Go.Proofs Go.Proofs.Ytplfnchoooehgaa
set_option maxRecDepth 100000
set_option linter.unusedVariables false
set_option linter.unusedSimpArgs false
set_option maxHeartbeats 1000000
theorem F14.ag31 : tagg Try.prog 31 = some true := by kernel_rfl
theorem F14.bp31 : bplan Try.prog 31 = some ([(.int .i64 (0 : Int)), (.int .i64 (0 : Int)), .nilsl], [(0, 1), (1, 1), (2, 1)]) := by kernel_rfl
theorem F14.sz31 : tsz Try.prog 31 = some 3 := by kernel_rfl
theorem F14.ti22 : (telem Try.prog 22).isSome = true := by kernel_rfl
theorem F14.ze31 : tzero Try.prog 31 = some [(.int .i64 (0 : Int)), (.int .i64 (0 : Int)), .nilsl] := by kernel_rfl
theorem impl_CodeList_ok {fr : List Pc} {H : Heap} (v0 : AV) (l0 : List (Int)) (hs : Sep H (fr)) (g0 : ∀ H, Sep H fr → Shows H v0 1 (enc (eInt .i64) l0)) (K : Int → Int → (List (Bool)) → Bool → Prop) (h : impl_CodeList.wp l0 K) : OkQ Try.prog 14 [(.v v0)] H (fun r H2 => ∃ (y0 : Int) (y1 : Int) (y2 : List (Bool)) (y3 : Bool), K y0 y1 y2 y3 ∧ ∃ (w0_ : AV), r = (.t [(.g [(.int .i64 y0), (.int .i64 y1), w0_]), (.v (.bool y3))]) ∧ Sep H2 (Pc.osl w0_ 1 (enc eBool y2) :: fr)) := by
  unfold impl_CodeList.wp at h
  refine of_body Try.f14 F.hm Try.func14 rfl Try.call14 (by kernel_rfl) (by simp) ?_
  refine fi_seq ?_
  refine fi_region ?_
  refine sv_alloc hs F14.ze31 rfl nofun (fun id101 H102 hs => ?_)
  refine so_assign rfl ?_
  refine so_nil ?_
  refine fi_seq ?_
  refine fi_seq ?_
  refine fi_region ?_
  refine so_move rfl ?_
  refine sv_callS (impl_AreIntegers_ok v0 l0 hs (fun _ hs => (g0 _ hs.tl)) _ h) (fun _ _ ⟨_, _, _, e⟩ => e) rfl rfl ?_
  clear h
  rintro _ _ ⟨y104, h, rfl, rfl⟩
  refine so_un rfl au_not ?_
  refine so_nil ?_
  replace h := ofT h; rcases h with ⟨c106, h⟩ | ⟨c106, h⟩
  · refine fi_false rfl (not_f c106) ?_
    refine fi_skip ?_
    refine fi_seq ?_
    refine fi_region ?_
    refine so_move rfl ?_
    refine sv_callS (impl_planesFor_ok v0 l0 hs (fun _ hs => (g0 _ hs.tl)) _ h) (fun _ _ ⟨_, _, _, e⟩ => e) rfl rfl ?_
    clear h
    rintro _ _ ⟨y107, h, rfl, rfl⟩
    refine so_assign rfl ?_
    refine so_nil ?_
    refine fi_seq ?_
    refine fi_region ?_
    refine so_move rfl ?_
    refine sv_len (g0 _ hs.tl) (fun _ => rfl) (by decide) rfl F14.ti22 ?_
    refine so_move rfl ?_
    refine so_move rfl ?_
    refine so_move rfl ?_
    refine sv_call (impl_codeUntil_ok v0 l0 y107 (0 : Int) hs (fun _ hs => (g0 _ hs.tl)) _ h) rfl rfl nofun ?_
    clear h hs
    rintro _ H112 ⟨y109, h, v110, rfl, hs⟩
    refine so_build F14.bp31 (cps := [(0, [(.int .i64 (l0.length : Int))]), (1, [(.int .i64 y107)]), (2, [v110])]) rfl (fac (stc rfl stn) (fac (stc rfl stn) (fac (stc (hs.shows 0 rfl).stor stn) fan))) rfl ?_
    refine sv_st hs 1 rfl rfl rfl (c := [(.int .i64 (l0.length : Int)), (.int .i64 y107), v110]) rfl F14.sz31 rfl (stc rfl (stc rfl (stc (hs.shows 0 rfl).stor stn))) (leb rfl) (cs' := [(.int .i64 (l0.length : Int)), (.int .i64 y107), v110]) rfl nofun (fun H113 hs => ?_)
    refine so_assign rfl ?_
    refine so_nil ?_
    exact by_ret (res_mk (ar_cells rfl F14.ag31 F14.sz31 (hs.lds 1 rfl (leb rfl) rfl) (ar_tmp rfl ar_nil)) rfl) ⟨_, _, _, _, h, _, rfl, (Sep.del 1 hs)⟩
  · refine fi_true rfl (not_t c106) ?_
    refine fi_seq ?_
    refine fi_region ?_
    refine so_build F14.bp31 (cps := []) rfl fan rfl ?_
    refine sv_st hs 0 rfl rfl rfl (c := [(.int .i64 (0 : Int)), (.int .i64 (0 : Int)), .nilsl]) rfl F14.sz31 rfl (stc rfl (stc rfl (stc rfl stn))) (leb rfl) (cs' := [(.int .i64 (0 : Int)), (.int .i64 (0 : Int)), .nilsl]) rfl nofun (fun H114 hs => ?_)
    refine so_assign rfl ?_
    refine so_nil ?_
    exact by_ret (res_mk (ar_cells rfl F14.ag31 F14.sz31 (hs.lds 0 rfl (leb rfl) rfl) (ar_tmp rfl ar_nil)) rfl) ⟨_, _, _, _, h, _, rfl, (Sep.nil (Sep.del 0 hs) 1)⟩

end Go.Proofs.Ytplfnchoooehgaa.G

namespace Go.Proofs.Ytplfnchoooehgaa.G
open Go Go.Ab Go.Proofs Go.Proofs.Ytplfnchoooehgaa
set_option maxRecDepth 100000
set_option linter.unusedVariables false
set_option linter.unusedSimpArgs false
set_option maxHeartbeats 1000000
theorem F41.ag4 : tagg Try.prog 4 = some false := by kernel_rfl
theorem F41.tb4 : tbool Try.prog 4 = true := by kernel_rfl
theorem F41.ti29 : (telem Try.prog 29).isSome = true := by kernel_rfl
theorem F41.tl29 : (telem Try.prog 29).bind (tsz Try.prog) = some 1 := by kernel_rfl
theorem laws_eqBoolS_ok {fr : List Pc} {H : Heap} (v0 : AV) (l0 : List (Bool)) (v1 : AV) (l1 : List (Bool)) (hs : Sep H (fr)) (g0 : ∀ H, Sep H fr → Shows H v0 1 (enc eBool l0)) (g1 : ∀ H, Sep H fr → Shows H v1 1 (enc eBool l1)) (K : Bool → Prop) (h : laws_eqBoolS.wp l0 l1 K) : OkQ Try.prog 41 [(.v v0), (.v v1)] H (fun r H2 => ∃ (y0 : Bool), K y0 ∧ r = (.v (.bool y0)) ∧ H = H2) := by
  unfold laws_eqBoolS.wp at h
  refine of_body Try.f41 F.hm Try.func41 rfl Try.call41 (by kernel_rfl) (by simp) ?_
  refine fi_seq ?_
  refine fi_region ?_
  refine so_assign rfl ?_
  refine so_nil ?_
  refine fi_seq ?_
  refine fi_seq ?_
  refine fi_region ?_
  refine so_move rfl ?_
  refine sv_len (g0 _ hs) (fun _ => rfl) (by decide) rfl F41.ti29 ?_
  refine so_move rfl ?_
  refine sv_len (g1 _ hs) (fun _ => rfl) (by decide) rfl F41.ti29 ?_
  refine so_bin rfl rfl ab_neq ?_
  refine so_nil ?_
  replace h := ofP h; rcases h with ⟨c101, h⟩ | ⟨c101, h⟩
  · refine fi_false rfl (not_f (decide_eq_true c101)) ?_
    refine fi_skip ?_
    refine fi_seq ?_
    refine fi_seq ?_
    refine fi_region ?_
    refine so_assign rfl ?_
    refine so_nil ?_
    refine fi_block ?_
    refine fi_loop ?_
    refine fi_at [(0, (.v v0)), (1, (.v v1)), (5, (.v (.int .i64 (0 : Int))))] ⟨rfl, rfl, rfl, trivial⟩ ?_
    refine h (fun (i103 : Int) => ∀ (s : Nat → TV), Fin _ _ (updL s [(0, (.v v0)), (1, (.v v1)), (5, (.v (.int .i64 i103)))]) _ _) ?_ _
    intro i103 h s108
    refine fi_inLoop ?_
    refine fi_seq ?_
    refine fi_seq ?_
    refine fi_region ?_
    refine so_move rfl ?_
    refine so_move rfl ?_
    refine sv_len (g0 _ hs) (fun _ => rfl) (by decide) rfl F41.ti29 ?_
    refine so_bin rfl rfl ab_lss ?_
    refine so_nil ?_
    replace h := ofP h; rcases h with ⟨c104, h⟩ | ⟨c104, h⟩
    · refine fi_true rfl (decide_eq_true c104) ?_
      refine fi_skip ?_
      refine fi_seq ?_
      refine fi_block ?_
      refine fi_seq ?_
      refine fi_region ?_
      refine so_move rfl ?_
      refine so_move rfl ?_
      obtain ⟨c105, h⟩ := h
      refine sv_idx (g0 _ hs) c105 (fun _ => rfl) (by decide) rfl rfl F41.tl29 ?_
      refine sv_cell (g0 _ hs) c105 false 0 (fun x => (AV.bool x)) (fun _ => rfl) (fun _ => rfl) rfl F41.ag4 ?_
      refine so_move rfl ?_
      refine so_move rfl ?_
      obtain ⟨c106, h⟩ := h
      refine sv_idx (g1 _ hs) c106 (fun _ => rfl) (by decide) rfl rfl F41.tl29 ?_
      refine sv_cell (g1 _ hs) c106 false 0 (fun x => (AV.bool x)) (fun _ => rfl) (fun _ => rfl) rfl F41.ag4 ?_
      refine so_bin rfl rfl (ab_bneq F41.tb4) ?_
      refine so_nil ?_
      replace h := ofT h; rcases h with ⟨c107, h⟩ | ⟨c107, h⟩
      · refine fi_false rfl (not_f c107) ?_
        refine fi_skip ?_
        refine fi_inBlock ?_
        refine fi_region ?_
        refine so_move rfl ?_
        refine so_bin rfl rfl ab_add ?_
        refine so_assign rfl ?_
        refine so_nil ?_
        exact fi_at [(0, (.v v0)), (1, (.v v1)), (5, (.v (.int .i64 (IntKind.i64.wrap (i103 + (1 : Int))))))] ⟨rfl, rfl, rfl, trivial⟩ (h _)
      · refine fi_true rfl (not_t c107) ?_
        refine fi_seq ?_
        refine fi_region ?_
        refine so_assign rfl ?_
        refine so_nil ?_
        exact by_ret rfl ⟨_, h, rfl, rfl⟩
    · refine fi_false rfl (decide_eq_false c104) ?_
      refine fi_exit rfl ?_
      refine fi_seq ?_
      refine fi_region ?_
      refine so_assign rfl ?_
      refine so_nil ?_
      exact by_ret rfl ⟨_, h, rfl, rfl⟩
  · refine fi_true rfl (not_t (decide_eq_false c101)) ?_
    refine fi_seq ?_
    refine fi_region ?_
    refine so_assign rfl ?_
    refine so_nil ?_
    exact by_ret rfl ⟨_, h, rfl, rfl⟩

end Go.Proofs.Ytplfnchoooehgaa.G

namespace Go.Proofs.Ytplfnchoooehgaa.G
open Go Go.Ab Go.Proofs Go.Proofs.Ytplfnchoooehgaa
set_option maxRecDepth 100000
set_option linter.unusedVariables false
set_option linter.unusedSimpArgs false
set_option maxHeartbeats 1000000
theorem F15.ag2 : tagg Try.prog 2 = some false := by kernel_rfl
theorem F15.ag29 : tagg Try.prog 29 = some false := by kernel_rfl
theorem F15.fd31_0 : tfield Try.prog 31 0 = some (0, 1, false) := by kernel_rfl
theorem F15.fd31_1 : tfield Try.prog 31 1 = some (1, 1, false) := by kernel_rfl
theorem F15.fd31_2 : tfield Try.prog 31 2 = some (2, 1, false) := by kernel_rfl
theorem F15.inf31 : (Try.prog.info? 31).isSome = true := by kernel_rfl
theorem laws_eqCoded_ok {fr : List Pc} {H : Heap} (a0 : Int) (a1 : Int) (v2 : AV) (l2 : List (Bool)) (a3 : Int) (a4 : Int) (v5 : AV) (l5 : List (Bool)) (hs : Sep H (fr)) (g2 : ∀ H, Sep H fr → Shows H v2 1 (enc eBool l2)) (g5 : ∀ H, Sep H fr → Shows H v5 1 (enc eBool l5)) (K : Bool → Prop) (h : laws_eqCoded.wp a0 a1 l2 a3 a4 l5 K) : OkQ Try.prog 15 [(.g [(.int .i64 a0), (.int .i64 a1), v2]), (.g [(.int .i64 a3), (.int .i64 a4), v5])] H (fun r H2 => ∃ (y0 : Bool), K y0 ∧ r = (.v (.bool y0)) ∧ Sep H2 (fr)) := by
  unfold laws_eqCoded.wp at h
  refine of_body Try.f15 F.hm Try.func15 rfl Try.call15 (by kernel_rfl) (by simp) ?_
  refine fi_seq ?_
  refine fi_region ?_
  refine sv_box hs rfl (c := [(.int .i64 a0), (.int .i64 a1), v2]) rfl F15.inf31 (stc rfl (stc rfl (stc (g2 _ hs).stor stn))) nofun (fun id101 H102 hs => ?_)
  refine sv_box hs rfl (c := [(.int .i64 a3), (.int .i64 a4), v5]) rfl F15.inf31 (stc rfl (stc rfl (stc (g5 _ hs.tl).stor stn))) nofun (fun id104 H105 hs => ?_)
  refine so_assign rfl ?_
  refine so_nil ?_
  refine fi_seq ?_
  refine fi_seq ?_
  refine fi_region ?_
  refine so_fieldAddr rfl F15.fd31_0 ?_
  refine sv_ld hs 1 rfl rfl rfl F15.ag2 ?_
  refine so_fieldAddr rfl F15.fd31_0 ?_
  refine sv_ld hs 0 rfl rfl rfl F15.ag2 ?_
  refine so_bin rfl rfl ab_neq ?_
  refine so_nil ?_
  replace h := ofP h; rcases h with ⟨c107, h⟩ | ⟨c107, h⟩
  · refine fi_false rfl (not_f (decide_eq_true c107)) ?_
    refine fi_skip ?_
    refine fi_seq ?_
    refine fi_seq ?_
    refine fi_region ?_
    refine so_fieldAddr rfl F15.fd31_1 ?_
    refine sv_ld hs 1 rfl rfl rfl F15.ag2 ?_
    refine so_fieldAddr rfl F15.fd31_1 ?_
    refine sv_ld hs 0 rfl rfl rfl F15.ag2 ?_
    refine so_bin rfl rfl ab_neq ?_
    refine so_nil ?_
    replace h := ofP h; rcases h with ⟨c108, h⟩ | ⟨c108, h⟩
    · refine fi_false rfl (not_f (decide_eq_true c108)) ?_
      refine fi_skip ?_
      refine fi_seq ?_
      refine fi_seq ?_
      refine fi_region ?_
      refine so_fieldAddr rfl F15.fd31_2 ?_
      refine sv_ld hs 1 rfl rfl rfl F15.ag29 ?_
      refine so_fieldAddr rfl F15.fd31_2 ?_
      refine sv_ld hs 0 rfl rfl rfl F15.ag29 ?_
      refine sv_callS (laws_eqBoolS_ok v2 l2 v5 l5 hs (fun _ hs => (g2 _ hs.tl.tl)) (fun _ hs => (g5 _ hs.tl.tl)) _ h) (fun _ _ ⟨_, _, _, e⟩ => e) rfl rfl ?_
      clear h
      rintro _ _ ⟨y109, h, rfl, rfl⟩
      refine so_un rfl au_not ?_
      refine so_nil ?_
      replace h := ofT h; rcases h with ⟨c111, h⟩ | ⟨c111, h⟩
      · refine fi_false rfl (not_f c111) ?_
        refine fi_skip ?_
        refine fi_seq ?_
        refine fi_region ?_
        refine so_assign rfl ?_
        refine so_nil ?_
        exact by_ret rfl ⟨_, h, rfl, (Sep.del 0 (Sep.del 0 hs))⟩
      · refine fi_true rfl (not_t c111) ?_
        refine fi_seq ?_
        refine fi_region ?_
        refine so_assign rfl ?_
        refine so_nil ?_
        exact by_ret rfl ⟨_, h, rfl, (Sep.del 0 (Sep.del 0 hs))⟩
    · refine fi_true rfl (not_t (decide_eq_false c108)) ?_
      refine fi_seq ?_
      refine fi_region ?_
      refine so_assign rfl ?_
      refine so_nil ?_
      exact by_ret rfl ⟨_, h, rfl, (Sep.del 0 (Sep.del 0 hs))⟩
  · refine fi_true rfl (not_t (decide_eq_false c107)) ?_
    refine fi_seq ?_
    refine fi_region ?_
    refine so_assign rfl ?_
    refine so_nil ?_
    exact by_ret rfl ⟨_, h, rfl, (Sep.del 0 (Sep.del 0 hs))⟩

end Go.Proofs.Ytplfnchoooehgaa.G

namespace Go.Proofs.Ytplfnchoooehgaa.G
open Go Go.Ab Go.Proofs Go.Proofs.Ytplfnchoooehgaa
set_option maxRecDepth 100000
set_option linter.unusedVariables false
set_option linter.unusedSimpArgs false
set_option maxHeartbeats 1000000
theorem F42.sz4 : tsz Try.prog 4 = some 1 := by kernel_rfl
theorem F42.ti29 : (telem Try.prog 29).isSome = true := by kernel_rfl
theorem F42.tl29 : (telem Try.prog 29).bind (tsz Try.prog) = some 1 := by kernel_rfl
theorem laws_markBoolS_ok {fr : List Pc} {H : Heap} (v0 : AV) (l0 : List (Bool)) (a1 : Int) (hs : Sep H (Pc.osl v0 1 (enc eBool l0) :: fr))  (K : Int → (List (Bool)) → Prop) (h : laws_markBoolS.wp l0 a1 K) : OkQ Try.prog 42 [(.v v0), (.v (.int .i64 a1))] H (fun r H2 => ∃ (y0 : Int) (y1 : List (Bool)), K y0 y1 ∧ r = (.v (.int .i64 y0)) ∧ Sep H2 (Pc.osl v0 1 (enc eBool y1) :: fr)) := by
  unfold laws_markBoolS.wp at h
  refine of_body Try.f42 F.hm Try.func42 rfl Try.call42 (by kernel_rfl) (by simp) ?_
  refine fi_seq ?_
  refine fi_region ?_
  refine so_assign rfl ?_
  refine so_nil ?_
  refine fi_seq ?_
  refine fi_seq ?_
  refine fi_region ?_
  refine so_assign rfl ?_
  refine so_nil ?_
  refine fi_block ?_
  refine fi_loop ?_
  refine fi_at [(0, (.v v0)), (1, (.v (.int .i64 a1))), (5, (.v (.int .i64 (0 : Int))))] ⟨rfl, rfl, rfl, trivial⟩ ?_
  refine h (fun (a109 : List (Bool)) (k110 : Int) (i111 : Int) => ∀ (s : Nat → TV) (H : Heap), Sep H (Pc.osl v0 1 (enc eBool a109) :: fr) → Fin _ _ (updL s [(0, (.v v0)), (1, (.v (.int .i64 k110))), (5, (.v (.int .i64 i111)))]) H _) ?_ _ _ hs
  intro a109 k110 i111 h s115 H116 hs
  refine fi_inLoop ?_
  refine fi_seq ?_
  refine fi_seq ?_
  refine fi_region ?_
  refine so_move rfl ?_
  refine so_move rfl ?_
  refine sv_len (hs.shows 0 rfl) (fun _ => rfl) (by decide) rfl F42.ti29 ?_
  refine so_bin rfl rfl ab_lss ?_
  refine so_nil ?_
  replace h := ofP h; rcases h with ⟨c112, h⟩ | ⟨c112, h⟩
  · refine fi_true rfl (decide_eq_true c112) ?_
    refine fi_skip ?_
    refine fi_seq ?_
    refine fi_block ?_
    refine fi_seq ?_
    refine fi_region ?_
    refine so_move rfl ?_
    refine so_move rfl ?_
    refine so_move rfl ?_
    refine so_bin rfl rfl (ab_rem (by decide)) ?_
    refine so_bin rfl rfl ab_eql ?_
    obtain ⟨c113, h⟩ := h
    refine sv_idx (hs.shows 0 rfl) c113 (fun _ => rfl) (by decide) rfl rfl F42.tl29 ?_
    refine sv_set hs 0 rfl c113 (decide ((Int.tmod k110 (3 : Int)) = (0 : Int))) (fun _ => rfl) (by decide) rfl rfl rfl rfl F42.sz4 nofun (fun H114 hs => ?_)
    refine so_nil ?_
    refine fi_region ?_
    refine so_move rfl ?_
    refine so_bin rfl rfl ab_add ?_
    refine so_assign rfl ?_
    refine so_nil ?_
    refine fi_inBlock ?_
    refine fi_region ?_
    refine so_move rfl ?_
    refine so_bin rfl rfl ab_add ?_
    refine so_assign rfl ?_
    refine so_nil ?_
    exact fi_at [(0, (.v v0)), (1, (.v (.int .i64 (IntKind.i64.wrap (k110 + (1 : Int)))))), (5, (.v (.int .i64 (IntKind.i64.wrap (i111 + (1 : Int))))))] ⟨rfl, rfl, rfl, trivial⟩ (h _ _  hs)
  · refine fi_false rfl (decide_eq_false c112) ?_
    refine fi_exit rfl ?_
    refine fi_seq ?_
    refine fi_region ?_
    refine so_move rfl ?_
    refine so_assign rfl ?_
    refine so_nil ?_
    exact by_ret rfl ⟨_, _, h, rfl, hs⟩

end Go.Proofs.Ytplfnchoooehgaa.G

namespace Go.Proofs.Ytplfnchoooehgaa.G
open Go Go.Ab Go.Proofs Go.Proofs.Ytplfnchoooehgaa
set_option maxRecDepth 100000
set_option linter.unusedVariables false
set_option linter.unusedSimpArgs false
set_option maxHeartbeats 1000000
theorem F16.ag29 : tagg Try.prog 29 = some false := by kernel_rfl
theorem F16.fd31_2 : tfield Try.prog 31 2 = some (2, 1, false) := by kernel_rfl
theorem F16.inf31 : (Try.prog.info? 31).isSome = true := by kernel_rfl
theorem laws_markCoded_ok {fr : List Pc} {H : Heap} (a0 : Int) (a1 : Int) (v2 : AV) (l2 : List (Bool)) (a3 : Int) (hs : Sep H (Pc.osl v2 1 (enc eBool l2) :: fr))  (K : Int → (List (Bool)) → Prop) (h : laws_markCoded.wp a0 a1 l2 a3 K) : OkQ Try.prog 16 [(.g [(.int .i64 a0), (.int .i64 a1), v2]), (.v (.int .i64 a3))] H (fun r H2 => ∃ (y0 : Int) (y1 : List (Bool)), K y0 y1 ∧ r = (.v (.int .i64 y0)) ∧ Sep H2 (Pc.osl v2 1 (enc eBool y1) :: fr)) := by
  unfold laws_markCoded.wp at h
  refine of_body Try.f16 F.hm Try.func16 rfl Try.call16 (by kernel_rfl) (by simp) ?_
  refine fi_seq ?_
  refine fi_region ?_
  refine sv_box hs rfl (c := [(.int .i64 a0), (.int .i64 a1), v2]) rfl F16.inf31 (stc rfl (stc rfl (stc (hs.shows 0 rfl).stor stn))) nofun (fun id102 H103 hs => ?_)
  refine so_assign rfl ?_
  refine so_nil ?_
  refine fi_seq ?_
  refine fi_region ?_
  refine so_fieldAddr rfl F16.fd31_2 ?_
  refine sv_ld hs 0 rfl rfl rfl F16.ag29 ?_
  refine so_move rfl ?_
  replace hs := (Sep.front 1 hs rfl)
  refine sv_call (laws_markBoolS_ok v2 l2 a3 hs  _ h) rfl rfl nofun ?_
  clear h hs
  rintro _ H107 ⟨y105, y106, h, rfl, hs⟩
  refine so_assign rfl ?_
  refine so_nil ?_
  refine fi_seq ?_
  refine fi_region ?_
  refine so_move rfl ?_
  refine so_assign rfl ?_
  refine so_nil ?_
  exact by_ret rfl ⟨_, _, h, rfl, (Sep.del 1 hs)⟩

end Go.Proofs.Ytplfnchoooehgaa.G

namespace Go.Proofs.Ytplfnchoooehgaa.G
open Go Go.Ab Go.Proofs Go.Proofs.Ytplfnchoooehgaa
set_option maxRecDepth 100000
set_option linter.unusedVariables false
set_option linter.unusedSimpArgs false
set_option maxHeartbeats 1000000
theorem F43.ag4 : tagg Try.prog 4 = some false := by kernel_rfl
theorem F43.tb4 : tbool Try.prog 4 = true := by kernel_rfl
theorem F43.ti29 : (telem Try.prog 29).isSome = true := by kernel_rfl
theorem F43.tl29 : (telem Try.prog 29).bind (tsz Try.prog) = some 1 := by kernel_rfl
theorem laws_heldBoolS_ok {fr : List Pc} {H : Heap} (v0 : AV) (l0 : List (Bool)) (a1 : Int) (hs : Sep H (fr)) (g0 : ∀ H, Sep H fr → Shows H v0 1 (enc eBool l0)) (K : Int → Prop) (h : laws_heldBoolS.wp l0 a1 K) : OkQ Try.prog 43 [(.v v0), (.v (.int .i64 a1))] H (fun r H2 => ∃ (y0 : Int), K y0 ∧ r = (.v (.int .i64 y0)) ∧ H = H2) := by
  unfold laws_heldBoolS.wp at h
  refine of_body Try.f43 F.hm Try.func43 rfl Try.call43 (by kernel_rfl) (by simp) ?_
  refine fi_seq ?_
  refine fi_region ?_
  refine so_assign rfl ?_
  refine so_nil ?_
  refine fi_seq ?_
  refine fi_seq ?_
  refine fi_region ?_
  refine so_assign rfl ?_
  refine so_nil ?_
  refine fi_block ?_
  refine fi_loop ?_
  refine fi_at [(0, (.v v0)), (1, (.v (.int .i64 a1))), (5, (.v (.int .i64 (0 : Int))))] ⟨rfl, rfl, rfl, trivial⟩ ?_
  refine h (fun (k102 : Int) (i103 : Int) => ∀ (s : Nat → TV), Fin _ _ (updL s [(0, (.v v0)), (1, (.v (.int .i64 k102))), (5, (.v (.int .i64 i103)))]) _ _) ?_ _
  intro k102 i103 h s107
  refine fi_inLoop ?_
  refine fi_seq ?_
  refine fi_seq ?_
  refine fi_region ?_
  refine so_move rfl ?_
  refine so_move rfl ?_
  refine sv_len (g0 _ hs) (fun _ => rfl) (by decide) rfl F43.ti29 ?_
  refine so_bin rfl rfl ab_lss ?_
  refine so_nil ?_
  replace h := ofP h; rcases h with ⟨c104, h⟩ | ⟨c104, h⟩
  · refine fi_true rfl (decide_eq_true c104) ?_
    refine fi_skip ?_
    refine fi_seq ?_
    refine fi_block ?_
    refine fi_seq ?_
    refine fi_seq ?_
    refine fi_region ?_
    refine so_move rfl ?_
    refine so_move rfl ?_
    obtain ⟨c105, h⟩ := h
    refine sv_idx (g0 _ hs) c105 (fun _ => rfl) (by decide) rfl rfl F43.tl29 ?_
    refine sv_cell (g0 _ hs) c105 false 0 (fun x => (AV.bool x)) (fun _ => rfl) (fun _ => rfl) rfl F43.ag4 ?_
    refine so_move rfl ?_
    refine so_bin rfl rfl (ab_rem (by decide)) ?_
    refine so_bin rfl rfl ab_eql ?_
    refine so_bin rfl rfl (ab_bneq F43.tb4) ?_
    refine so_nil ?_
    replace h := ofT h; rcases h with ⟨c106, h⟩ | ⟨c106, h⟩
    · refine fi_false rfl (not_f c106) ?_
      refine fi_skip ?_
      refine fi_region ?_
      refine so_move rfl ?_
      refine so_bin rfl rfl ab_add ?_
      refine so_assign rfl ?_
      refine so_nil ?_
      refine fi_inBlock ?_
      refine fi_region ?_
      refine so_move rfl ?_
      refine so_bin rfl rfl ab_add ?_
      refine so_assign rfl ?_
      refine so_nil ?_
      exact fi_at [(0, (.v v0)), (1, (.v (.int .i64 (IntKind.i64.wrap (k102 + (1 : Int)))))), (5, (.v (.int .i64 (IntKind.i64.wrap (i103 + (1 : Int))))))] ⟨rfl, rfl, rfl, trivial⟩ (h _)
    · refine fi_true rfl (not_t c106) ?_
      refine fi_seq ?_
      refine fi_region ?_
      refine so_assign rfl ?_
      refine so_nil ?_
      exact by_ret rfl ⟨_, h, rfl, rfl⟩
  · refine fi_false rfl (decide_eq_false c104) ?_
    refine fi_exit rfl ?_
    refine fi_seq ?_
    refine fi_region ?_
    refine so_move rfl ?_
    refine so_assign rfl ?_
    refine so_nil ?_
    exact by_ret rfl ⟨_, h, rfl, rfl⟩

end Go.Proofs.Ytplfnchoooehgaa.G

namespace Go.Proofs.Ytplfnchoooehgaa.G
open Go Go.Ab Go.Proofs Go.Proofs.Ytplfnchoooehgaa
set_option maxRecDepth 100000
set_option linter.unusedVariables false
set_option linter.unusedSimpArgs false
set_option maxHeartbeats 1000000
theorem F17.ag29 : tagg Try.prog 29 = some false := by kernel_rfl
theorem F17.fd31_2 : tfield Try.prog 31 2 = some (2, 1, false) := by kernel_rfl
theorem F17.inf31 : (Try.prog.info? 31).isSome = true := by kernel_rfl
theorem laws_heldCoded_ok {fr : List Pc} {H : Heap} (a0 : Int) (a1 : Int) (v2 : AV) (l2 : List (Bool)) (a3 : Int) (hs : Sep H (fr)) (g2 : ∀ H, Sep H fr → Shows H v2 1 (enc eBool l2)) (K : Int → Prop) (h : laws_heldCoded.wp a0 a1 l2 a3 K) : OkQ Try.prog 17 [(.g [(.int .i64 a0), (.int .i64 a1), v2]), (.v (.int .i64 a3))] H (fun r H2 => ∃ (y0 : Int), K y0 ∧ r = (.v (.int .i64 y0)) ∧ Sep H2 (fr)) := by
  unfold laws_heldCoded.wp at h
  refine of_body Try.f17 F.hm Try.func17 rfl Try.call17 (by kernel_rfl) (by simp) ?_
  refine fi_seq ?_
  refine fi_region ?_
  refine sv_box hs rfl (c := [(.int .i64 a0), (.int .i64 a1), v2]) rfl F17.inf31 (stc rfl (stc rfl (stc (g2 _ hs).stor stn))) nofun (fun id101 H102 hs => ?_)
  refine so_assign rfl ?_
  refine so_nil ?_
  refine fi_seq ?_
  refine fi_region ?_
  refine so_fieldAddr rfl F17.fd31_2 ?_
  refine sv_ld hs 0 rfl rfl rfl F17.ag29 ?_
  refine so_move rfl ?_
  refine sv_callS (laws_heldBoolS_ok v2 l2 a3 hs (fun _ hs => (g2 _ hs.tl)) _ h) (fun _ _ ⟨_, _, _, e⟩ => e) rfl rfl ?_
  clear h
  rintro _ _ ⟨y104, h, rfl, rfl⟩
  refine so_assign rfl ?_
  refine so_nil ?_
  refine fi_seq ?_
  refine fi_seq ?_
  refine fi_region ?_
  refine so_move rfl ?_
  refine so_bin rfl rfl ab_lss ?_
  refine so_nil ?_
  replace h := ofP h; rcases h with ⟨c106, h⟩ | ⟨c106, h⟩
  · refine fi_true rfl (decide_eq_true c106) ?_
    refine fi_seq ?_
    refine fi_region ?_
    refine so_assign rfl ?_
    refine so_nil ?_
    exact by_ret rfl ⟨_, h, rfl, (Sep.del 0 hs)⟩
  · refine fi_false rfl (decide_eq_false c106) ?_
    refine fi_skip ?_
    refine fi_seq ?_
    refine fi_region ?_
    refine so_move rfl ?_
    refine so_assign rfl ?_
    refine so_nil ?_
    exact by_ret rfl ⟨_, h, rfl, (Sep.del 0 hs)⟩

end Go.Proofs.Ytplfnchoooehgaa.G

namespace Go.Proofs.Ytplfnchoooehgaa.G
open Go Go.Ab Go.Proofs Go.Proofs.Ytplfnchoooehgaa
set_option maxRecDepth 100000
set_option linter.unusedVariables false
set_option linter.unusedSimpArgs false
set_option maxHeartbeats 1000000
theorem F8.ag2 : tagg Try.prog 2 = some false := by kernel_rfl
theorem F8.by2 : tbytes Try.prog 2 = some 8 := by kernel_rfl
theorem F8.sz2 : tsz Try.prog 2 = some 1 := by kernel_rfl
theorem F8.te22 : telem Try.prog 22 = some 2 := by kernel_rfl
theorem F8.ti22 : (telem Try.prog 22).isSome = true := by kernel_rfl
theorem F8.tl22 : (telem Try.prog 22).bind (tsz Try.prog) = some 1 := by kernel_rfl
theorem F8.ze2 : tzero Try.prog 2 = some [(.int .i64 (0 : Int))] := by kernel_rfl
theorem laws_toInt64S_ok {fr : List Pc} {H : Heap} (v0 : AV) (l0 : List (Int)) (hs : Sep H (fr)) (g0 : ∀ H, Sep H fr → Shows H v0 1 (enc (eInt .i64) l0)) (K : (List (Int)) → Prop) (h : laws_toInt64S.wp l0 K) : OkQ Try.prog 8 [(.v v0)] H (fun r H2 => ∃ (y0 : List (Int)), K y0 ∧ ∃ (w0_ : AV), r = (.v w0_) ∧ Sep H2 (Pc.osl w0_ 1 (enc (eInt .i64) y0) :: fr)) := by
  unfold laws_toInt64S.wp at h
  refine of_body Try.f8 F.hm Try.func8 rfl Try.call8 (by kernel_rfl) (by simp) ?_
  refine fi_seq ?_
  refine fi_region ?_
  refine so_assign rfl ?_
  refine so_nil ?_
  refine fi_seq ?_
  refine fi_region ?_
  refine so_move rfl ?_
  refine sv_len (g0 _ hs) (fun _ => rfl) (by decide) rfl F8.ti22 ?_
  obtain ⟨c101, h⟩ := h
  refine sv_make hs (eInt .i64) (0 : Int) c101 (fun _ => rfl) rfl rfl F8.te22 F8.sz2 F8.by2 F8.ze2 rfl rfl nofun (fun v102 H103 nv102 hs => ?_)
  refine so_assign rfl ?_
  refine so_nil ?_
  refine fi_seq ?_
  refine fi_seq ?_
  refine fi_region ?_
  refine so_assign rfl ?_
  refine so_nil ?_
  refine fi_block ?_
  refine fi_loop ?_
  refine fi_at [(0, (.v v0)), (3, (.v v102)), (4, (.v (.int .i64 (0 : Int))))] ⟨rfl, rfl, rfl, trivial⟩ ?_
  refine h (fun (out112 : List (Int)) (i113 : Int) => ∀ (s : Nat → TV) (H : Heap), Sep H (Pc.osl v102 1 (enc (eInt .i64) out112) :: fr) → Fin _ _ (updL s [(0, (.v v0)), (3, (.v v102)), (4, (.v (.int .i64 i113)))]) H _) ?_ _ _ hs
  intro out112 i113 h s118 H119 hs
  refine fi_inLoop ?_
  refine fi_seq ?_
  refine fi_seq ?_
  refine fi_region ?_
  refine so_move rfl ?_
  refine so_move rfl ?_
  refine sv_len (g0 _ hs.tl) (fun _ => rfl) (by decide) rfl F8.ti22 ?_
  refine so_bin rfl rfl ab_lss ?_
  refine so_nil ?_
  replace h := ofP h; rcases h with ⟨c114, h⟩ | ⟨c114, h⟩
  · refine fi_true rfl (decide_eq_true c114) ?_
    refine fi_skip ?_
    refine fi_seq ?_
    refine fi_block ?_
    refine fi_region ?_
    refine so_move rfl ?_
    refine so_move rfl ?_
    refine so_move rfl ?_
    refine so_move rfl ?_
    obtain ⟨c115, h⟩ := h
    refine sv_idx (g0 _ hs.tl) c115 (fun _ => rfl) (by decide) rfl rfl F8.tl22 ?_
    refine sv_cell (g0 _ hs.tl) c115 (0 : Int) 0 (fun x => (AV.int .i64 x)) (fun _ => rfl) (fun _ => rfl) rfl F8.ag2 ?_
    obtain ⟨c116, h⟩ := h
    refine sv_idx (hs.shows 0 rfl) c116 (fun _ => rfl) (by decide) rfl rfl F8.tl22 ?_
    refine sv_set hs 0 rfl c116 (l0.getD (i113).toNat (0 : Int)) (fun _ => rfl) (by decide) rfl rfl rfl rfl F8.sz2 nofun (fun H117 hs => ?_)
    refine so_nil ?_
    refine fi_inBlock ?_
    refine fi_region ?_
    refine so_move rfl ?_
    refine so_bin rfl rfl ab_add ?_
    refine so_assign rfl ?_
    refine so_nil ?_
    exact fi_at [(0, (.v v0)), (3, (.v v102)), (4, (.v (.int .i64 (IntKind.i64.wrap (i113 + (1 : Int))))))] ⟨rfl, rfl, rfl, trivial⟩ (h _ _  hs)
  · refine fi_false rfl (decide_eq_false c114) ?_
    refine fi_exit rfl ?_
    refine fi_seq ?_
    refine fi_region ?_
    refine so_move rfl ?_
    refine so_assign rfl ?_
    refine so_nil ?_
    exact by_ret rfl ⟨_, h, _, rfl, hs⟩

end Go.Proofs.Ytplfnchoooehgaa.G

namespace Go.Proofs.Ytplfnchoooehgaa.G
open Go Go.Ab Go.Proofs Go.Proofs.Ytplfnchoooehgaa
set_option maxRecDepth 100000
set_option linter.unusedVariables false
set_option linter.unusedSimpArgs false
set_option maxHeartbeats 1000000
theorem F4.ag31 : tagg Try.prog 31 = some true := by kernel_rfl
theorem F4.sz31 : tsz Try.prog 31 = some 3 := by kernel_rfl
theorem F4.tb4 : tbool Try.prog 4 = true := by kernel_rfl
theorem F4.ti22 : (telem Try.prog 22).isSome = true := by kernel_rfl
theorem F4.ze31 : tzero Try.prog 31 = some [(.int .i64 (0 : Int)), (.int .i64 (0 : Int)), .nilsl] := by kernel_rfl
theorem laws_FnExactCodeList_ok {fr : List Pc} {H : Heap} (v0 : AV) (l0 : List (Int)) (hs : Sep H (fr)) (g0 : ∀ H, Sep H fr → Shows H v0 1 (enc (eInt .i64) l0)) (K : Bool → Prop) (h : laws_FnExactCodeList.wp l0 K) : OkQ Try.prog 4 [(.v v0)] H (fun r H2 => ∃ (y0 : Bool), K y0 ∧ r = (.v (.bool y0)) ∧ Sep H2 (fr)) := by
  unfold laws_FnExactCodeList.wp at h
  refine of_body Try.f4 F.hm Try.func4 rfl Try.call4 (by kernel_rfl) (by simp) ?_
  refine fi_seq ?_
  refine fi_region ?_
  refine so_assign rfl ?_
  refine so_nil ?_
  refine fi_seq ?_
  refine fi_seq ?_
  refine fi_region ?_
  refine so_move rfl ?_
  refine sv_len (g0 _ hs) (fun _ => rfl) (by decide) rfl F4.ti22 ?_
  refine so_bin rfl rfl ab_gtr ?_
  refine so_nil ?_
  replace h := ofP h; rcases h with ⟨c101, h⟩ | ⟨c101, h⟩
  · refine fi_true rfl (decide_eq_true c101) ?_
    refine fi_seq ?_
    refine fi_region ?_
    refine so_assign rfl ?_
    refine so_nil ?_
    exact by_ret rfl ⟨_, h, rfl, hs⟩
  · refine fi_false rfl (decide_eq_false c101) ?_
    refine fi_skip ?_
    refine fi_seq ?_
    refine fi_region ?_
    refine so_move rfl ?_
    refine sv_call (laws_toInt64S_ok v0 l0 hs (fun _ hs => (g0 _ hs)) _ h) rfl rfl nofun ?_
    clear h hs
    rintro _ H105 ⟨y102, h, v103, rfl, hs⟩
    refine sv_call (spec_CodeList_ok v103 y102 hs (fun _ hs => (hs.shows 0 rfl)) _ h) rfl rfl nofun ?_
    clear h hs
    rintro _ H112 ⟨y106, y107, y108, y111, h, v109, rfl, hs⟩
    refine so_move rfl ?_
    refine so_extract rfl rfl rfl ?_
    refine so_extract rfl rfl rfl ?_
    refine sv_alloc hs F4.ze31 rfl nofun (fun id113 H114 hs => ?_)
    refine sv_st hs 0 rfl rfl rfl (c := [(.int .i64 y106), (.int .i64 y107), v109]) rfl F4.sz31 rfl (stc rfl (stc rfl (stc (hs.shows 1 rfl).stor stn))) (leb rfl) (cs' := [(.int .i64 y106), (.int .i64 y107), v109]) rfl nofun (fun H116 hs => ?_)
    refine so_assign rfl ?_
    refine so_nil ?_
    refine fi_seq ?_
    refine fi_region ?_
    refine so_move rfl ?_
    refine sv_call (laws_toInt64S_ok v0 l0 hs (fun _ hs => (g0 _ hs.tl.tl.tl)) _ h) rfl rfl nofun ?_
    clear h hs
    rintro _ H120 ⟨y117, h, v118, rfl, hs⟩
    refine so_assign rfl ?_
    refine so_nil ?_
    refine fi_seq ?_
    refine fi_region ?_
    refine so_move rfl ?_
    refine sv_call (impl_CodeList_ok v118 y117 hs (fun _ hs => (hs.shows 0 rfl)) _ h) rfl rfl nofun ?_
    clear h hs
    rintro _ H127 ⟨y121, y122, y123, y126, h, v124, rfl, hs⟩
    refine so_move rfl ?_
    refine so_extract rfl rfl rfl ?_
    refine so_extract rfl rfl rfl ?_
    refine sv_alloc hs F4.ze31 rfl nofun (fun id128 H129 hs => ?_)
    refine sv_st hs 0 rfl rfl rfl (c := [(.int .i64 y121), (.int .i64 y122), v124]) rfl F4.sz31 rfl (stc rfl (stc rfl (stc (hs.shows 1 rfl).stor stn))) (leb rfl) (cs' := [(.int .i64 y121), (.int .i64 y122), v124]) rfl nofun (fun H131 hs => ?_)
    refine so_assign rfl ?_
    refine so_nil ?_
    refine fi_seq ?_
    refine fi_seq ?_
    refine fi_region ?_
    refine sv_lds hs 0 rfl rfl (leb rfl) rfl F4.ag31 F4.sz31 ?_
    refine sv_lds hs 3 rfl rfl (leb rfl) rfl F4.ag31 F4.sz31 ?_
    refine sv_call (laws_eqCoded_ok y121 y122 v124 y123 y106 y107 v109 y108 hs (fun _ hs => (hs.shows 1 rfl)) (fun _ hs => (hs.shows 4 rfl)) _ h) rfl rfl nofun ?_
    clear h hs
    rintro _ H133 ⟨y132, h, rfl, hs⟩
    refine so_un rfl au_not ?_
    refine so_move rfl ?_
    replace h := ofT h; rcases h with ⟨c134, h⟩ | ⟨c134, h⟩
    · refine so_gyes rfl (not_f c134) ?_
      refine so_move rfl ?_
      refine so_gyes rfl (not_f c134) ?_
      refine so_move rfl ?_
      refine so_gyes rfl (not_f c134) ?_
      refine so_bin rfl rfl (ab_bneq F4.tb4) ?_
      refine so_pick_f rfl (not_f c134) rfl ?_
      refine so_nil ?_
      replace h := ofT h; rcases h with ⟨c135, h⟩ | ⟨c135, h⟩
      · refine fi_false rfl (not_f c135) ?_
        refine fi_skip ?_
        refine fi_seq ?_
        refine fi_seq ?_
        refine fi_region ?_
        refine so_move rfl ?_
        refine so_move rfl ?_
        refine sv_call (laws_toInt64S_ok v0 l0 hs (fun _ hs => (g0 _ hs.tl.tl.tl.tl.tl.tl)) _ h) rfl rfl nofun ?_
        clear h hs
        rintro _ H139 ⟨y136, h, v137, rfl, hs⟩
        refine sv_callS (laws_eqInt64S_ok v118 y117 v137 y136 hs (fun _ hs => (hs.shows 3 rfl)) (fun _ hs => (hs.shows 0 rfl)) _ h) (fun _ _ ⟨_, _, _, e⟩ => e) rfl rfl ?_
        clear h
        rintro _ _ ⟨y140, h, rfl, rfl⟩
        refine so_un rfl au_not ?_
        refine so_nil ?_
        replace h := ofT h; rcases h with ⟨c142, h⟩ | ⟨c142, h⟩
        · refine fi_false rfl (not_f c142) ?_
          refine fi_skip ?_
          refine fi_seq ?_
          refine fi_region ?_
          refine so_assign rfl ?_
          refine so_nil ?_
          refine fi_seq ?_
          refine fi_region ?_
          refine so_move rfl ?_
          refine so_move rfl ?_
          replace hs := (Sep.front 3 hs rfl)
          refine sv_call (laws_markInt64S_ok v118 y117 (1 : Int) hs  _ h) rfl rfl nofun ?_
          clear h hs
          rintro _ H145 ⟨y143, y144, h, rfl, hs⟩
          refine so_assign rfl ?_
          refine so_nil ?_
          refine fi_seq ?_
          refine fi_seq ?_
          refine fi_region ?_
          refine so_move rfl ?_
          refine so_bin rfl rfl ab_lss ?_
          refine so_move rfl ?_
          replace h := ofP h; rcases h with ⟨c146, h⟩ | ⟨c146, h⟩
          · refine so_gno rfl (decide_eq_true c146) ?_
            refine so_gno rfl (decide_eq_true c146) ?_
            refine so_gno rfl (decide_eq_true c146) ?_
            refine so_gno rfl (decide_eq_true c146) ?_
            refine so_pick_t rfl (decide_eq_true c146) rfl ?_
            refine so_move rfl ?_
            refine so_gno rfl rfl ?_
            refine so_gno rfl rfl ?_
            refine so_gno rfl rfl ?_
            refine so_pick_t rfl rfl rfl ?_
            refine so_nil ?_
            refine fi_true rfl rfl ?_
            refine fi_seq ?_
            refine fi_region ?_
            refine so_assign rfl ?_
            refine so_nil ?_
            exact by_ret rfl ⟨_, h, rfl, (Sep.dropn 7 hs)⟩
          · refine so_gyes rfl (decide_eq_false c146) ?_
            refine sv_lds hs 2 rfl rfl (leb rfl) rfl F4.ag31 F4.sz31 ?_
            refine so_gyes rfl (decide_eq_false c146) ?_
            refine sv_lds hs 4 rfl rfl (leb rfl) rfl F4.ag31 F4.sz31 ?_
            refine so_gyes rfl (decide_eq_false c146) ?_
            refine sv_call (laws_eqCoded_ok y121 y122 v124 y123 y106 y107 v109 y108 hs (fun _ hs => (hs.shows 3 rfl)) (fun _ hs => (hs.shows 5 rfl)) _ h) rfl rfl nofun ?_
            clear h hs
            rintro _ H148 ⟨y147, h, rfl, hs⟩
            refine so_gyes rfl (decide_eq_false c146) ?_
            refine so_un rfl au_not ?_
            refine so_pick_f rfl (decide_eq_false c146) rfl ?_
            refine so_move rfl ?_
            replace h := ofT h; rcases h with ⟨c149, h⟩ | ⟨c149, h⟩
            · refine so_gyes rfl (not_f c149) ?_
              refine so_move rfl ?_
              refine so_gyes rfl (not_f c149) ?_
              refine so_move rfl ?_
              refine so_gyes rfl (not_f c149) ?_
              refine so_bin rfl rfl (ab_bneq F4.tb4) ?_
              refine so_pick_f rfl (not_f c149) rfl ?_
              refine so_nil ?_
              refine fi_false rfl (not_f c135) ?_
              refine fi_skip ?_
              refine fi_seq ?_
              refine fi_region ?_
              refine so_assign rfl ?_
              refine so_nil ?_
              refine fi_seq ?_
              refine fi_region ?_
              refine sv_lds hs 2 rfl rfl (leb rfl) rfl F4.ag31 F4.sz31 ?_
              refine so_move rfl ?_
              replace hs := (Sep.front 3 hs rfl)
              refine sv_call (laws_markCoded_ok y121 y122 v124 y123 (1 : Int) hs  _ h) rfl rfl nofun ?_
              clear h hs
              rintro _ H152 ⟨y150, y151, h, rfl, hs⟩
              refine so_assign rfl ?_
              refine so_nil ?_
              refine fi_seq ?_
              refine fi_region ?_
              refine so_assign rfl ?_
              refine so_nil ?_
              refine fi_seq ?_
              refine fi_region ?_
              refine sv_lds hs 3 rfl rfl (leb rfl) rfl F4.ag31 F4.sz31 ?_
              refine so_move rfl ?_
              refine sv_call (laws_heldCoded_ok y121 y122 v124 y151 (1 : Int) hs (fun _ hs => (hs.shows 0 rfl)) _ h) rfl rfl nofun ?_
              clear h hs
              rintro _ H154 ⟨y153, h, rfl, hs⟩
              refine so_assign rfl ?_
              refine so_nil ?_
              refine fi_seq ?_
              refine fi_seq ?_
              refine fi_region ?_
              refine so_move rfl ?_
              refine so_bin rfl rfl ab_lss ?_
              refine so_nil ?_
              replace h := ofP h; rcases h with ⟨c155, h⟩ | ⟨c155, h⟩
              · refine fi_true rfl (decide_eq_true c155) ?_
                refine fi_seq ?_
                refine fi_region ?_
                refine so_assign rfl ?_
                refine so_nil ?_
                exact by_ret rfl ⟨_, h, rfl, (Sep.dropn 7 hs)⟩
              · refine fi_false rfl (decide_eq_false c155) ?_
                refine fi_skip ?_
                refine fi_seq ?_
                refine fi_seq ?_
                refine fi_region ?_
                refine so_move rfl ?_
                refine so_move rfl ?_
                refine so_bin rfl rfl ab_neq ?_
                refine so_nil ?_
                replace h := ofP h; rcases h with ⟨c156, h⟩ | ⟨c156, h⟩
                · refine fi_false rfl (not_f (decide_eq_true c156)) ?_
                  refine fi_skip ?_
                  refine fi_seq ?_
                  refine fi_region ?_
                  refine so_move rfl ?_
                  refine sv_call (laws_toInt64S_ok v0 l0 hs (fun _ hs => (g0 _ hs.tl.tl.tl.tl.tl.tl.tl)) _ h) rfl rfl nofun ?_
                  clear h hs
                  rintro _ H160 ⟨y157, h, v158, rfl, hs⟩
                  refine sv_call (impl_CodeList_ok v158 y157 hs (fun _ hs => (hs.shows 0 rfl)) _ h) rfl rfl nofun ?_
                  clear h hs
                  rintro _ H167 ⟨y161, y162, y163, y166, h, v164, rfl, hs⟩
                  refine so_move rfl ?_
                  refine so_extract rfl rfl rfl ?_
                  refine so_extract rfl rfl rfl ?_
                  refine sv_alloc hs F4.ze31 rfl nofun (fun id168 H169 hs => ?_)
                  refine sv_st hs 0 rfl rfl rfl (c := [(.int .i64 y161), (.int .i64 y162), v164]) rfl F4.sz31 rfl (stc rfl (stc rfl (stc (hs.shows 1 rfl).stor stn))) (leb rfl) (cs' := [(.int .i64 y161), (.int .i64 y162), v164]) rfl nofun (fun H171 hs => ?_)
                  refine so_assign rfl ?_
                  refine so_nil ?_
                  refine fi_seq ?_
                  refine fi_seq ?_
                  refine fi_region ?_
                  refine sv_lds hs 0 rfl rfl (leb rfl) rfl F4.ag31 F4.sz31 ?_
                  refine sv_lds hs 7 rfl rfl (leb rfl) rfl F4.ag31 F4.sz31 ?_
                  refine sv_call (laws_eqCoded_ok y161 y162 v164 y163 y106 y107 v109 y108 hs (fun _ hs => (hs.shows 1 rfl)) (fun _ hs => (hs.shows 8 rfl)) _ h) rfl rfl nofun ?_
                  clear h hs
                  rintro _ H173 ⟨y172, h, rfl, hs⟩
                  refine so_un rfl au_not ?_
                  refine so_move rfl ?_
                  replace h := ofT h; rcases h with ⟨c174, h⟩ | ⟨c174, h⟩
                  · refine so_gyes rfl (not_f c174) ?_
                    refine so_move rfl ?_
                    refine so_gyes rfl (not_f c174) ?_
                    refine so_move rfl ?_
                    refine so_gyes rfl (not_f c174) ?_
                    refine so_bin rfl rfl (ab_bneq F4.tb4) ?_
                    refine so_pick_f rfl (not_f c174) rfl ?_
                    refine so_nil ?_
                    replace h := ofT h; rcases h with ⟨c175, h⟩ | ⟨c175, h⟩
                    · refine fi_false rfl (not_f c175) ?_
                      refine fi_skip ?_
                      refine fi_seq ?_
                      refine fi_region ?_
                      refine so_assign rfl ?_
                      refine so_nil ?_
                      refine fi_seq ?_
                      refine fi_region ?_
                      refine sv_lds hs 6 rfl rfl (leb rfl) rfl F4.ag31 F4.sz31 ?_
                      refine so_move rfl ?_
                      refine sv_call (laws_heldCoded_ok y121 y122 v124 y151 (1 : Int) hs (fun _ hs => (hs.shows 3 rfl)) _ h) rfl rfl nofun ?_
                      clear h hs
                      rintro _ H177 ⟨y176, h, rfl, hs⟩
                      refine so_assign rfl ?_
                      refine so_nil ?_
                      refine fi_seq ?_
                      refine fi_seq ?_
                      refine fi_region ?_
                      refine so_move rfl ?_
                      refine so_bin rfl rfl ab_lss ?_
                      refine so_nil ?_
                      replace h := ofP h; rcases h with ⟨c178, h⟩ | ⟨c178, h⟩
                      · refine fi_true rfl (decide_eq_true c178) ?_
                        refine fi_seq ?_
                        refine fi_region ?_
                        refine so_assign rfl ?_
                        refine so_nil ?_
                        exact by_ret rfl ⟨_, h, rfl, (Sep.dropn 10 hs)⟩
                      · refine fi_false rfl (decide_eq_false c178) ?_
                        refine fi_skip ?_
                        refine fi_seq ?_
                        refine fi_seq ?_
                        refine fi_region ?_
                        refine so_move rfl ?_
                        refine so_move rfl ?_
                        refine so_bin rfl rfl ab_neq ?_
                        refine so_nil ?_
                        replace h := ofP h; rcases h with ⟨c179, h⟩ | ⟨c179, h⟩
                        · refine fi_false rfl (not_f (decide_eq_true c179)) ?_
                          refine fi_skip ?_
                          refine fi_seq ?_
                          refine fi_region ?_
                          refine so_assign rfl ?_
                          refine so_nil ?_
                          exact by_ret rfl ⟨_, h, rfl, (Sep.dropn 10 hs)⟩
                        · refine fi_true rfl (not_t (decide_eq_false c179)) ?_
                          refine fi_seq ?_
                          refine fi_region ?_
                          refine so_assign rfl ?_
                          refine so_nil ?_
                          exact by_ret rfl ⟨_, h, rfl, (Sep.dropn 10 hs)⟩
                    · refine fi_true rfl (not_t c175) ?_
                      refine fi_seq ?_
                      refine fi_region ?_
                      refine so_assign rfl ?_
                      refine so_nil ?_
                      exact by_ret rfl ⟨_, h, rfl, (Sep.dropn 10 hs)⟩
                  · refine so_gno rfl (not_t c174) ?_
                    refine so_gno rfl (not_t c174) ?_
                    refine so_gno rfl (not_t c174) ?_
                    refine so_pick_t rfl (not_t c174) rfl ?_
                    refine so_nil ?_
                    refine fi_true rfl rfl ?_
                    refine fi_seq ?_
                    refine fi_region ?_
                    refine so_assign rfl ?_
                    refine so_nil ?_
                    exact by_ret rfl ⟨_, h, rfl, (Sep.dropn 10 hs)⟩
                · refine fi_true rfl (not_t (decide_eq_false c156)) ?_
                  refine fi_seq ?_
                  refine fi_region ?_
                  refine so_assign rfl ?_
                  refine so_nil ?_
                  exact by_ret rfl ⟨_, h, rfl, (Sep.dropn 7 hs)⟩
            · refine so_gno rfl (not_t c149) ?_
              refine so_gno rfl (not_t c149) ?_
              refine so_gno rfl (not_t c149) ?_
              refine so_pick_t rfl (not_t c149) rfl ?_
              refine so_nil ?_
              refine fi_true rfl rfl ?_
              refine fi_seq ?_
              refine fi_region ?_
              refine so_assign rfl ?_
              refine so_nil ?_
              exact by_ret rfl ⟨_, h, rfl, (Sep.dropn 7 hs)⟩
        · refine fi_true rfl (not_t c142) ?_
          refine fi_seq ?_
          refine fi_region ?_
          refine so_assign rfl ?_
          refine so_nil ?_
          exact by_ret rfl ⟨_, h, rfl, (Sep.dropn 7 hs)⟩
      · refine fi_true rfl (not_t c135) ?_
        refine fi_seq ?_
        refine fi_region ?_
        refine so_assign rfl ?_
        refine so_nil ?_
        exact by_ret rfl ⟨_, h, rfl, (Sep.dropn 6 hs)⟩
    · refine so_gno rfl (not_t c134) ?_
      refine so_gno rfl (not_t c134) ?_
      refine so_gno rfl (not_t c134) ?_
      refine so_pick_t rfl (not_t c134) rfl ?_
      refine so_nil ?_
      refine fi_true rfl rfl ?_
      refine fi_seq ?_
      refine fi_region ?_
      refine so_assign rfl ?_
      refine so_nil ?_
      exact by_ret rfl ⟨_, h, rfl, (Sep.dropn 6 hs)⟩

end Go.Proofs.Ytplfnchoooehgaa.G

