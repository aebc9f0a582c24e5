/-
  The model ends so. Printed by a program of the session; nothing here is trusted.
-/
import Derived.Test.YtplfnchoooehgaaProg
import Derived.KernelRfl
import Derived.Test.YtplfnchoooehgaaMExactZeroTreesWa
namespace Go.Proofs.Ytplfnchoooehgaa.F
open Go Go.Ab Go.Proofs
set_option maxRecDepth 100000
set_option linter.unusedVariables false
set_option linter.unusedSimpArgs false
set_option maxHeartbeats 1000000
theorem hm : Try.prog.follows .mixedOrders = true := by kernel_rfl
end Go.Proofs.Ytplfnchoooehgaa.F

namespace Go.Proofs.Ytplfnchoooehgaa.G
open Go Go.Ab Go.Proofs Go.Proofs.Ytplfnchoooehgaa
set_option maxRecDepth 100000
set_option linter.unusedVariables false
set_option linter.unusedSimpArgs false
set_option maxHeartbeats 1000000
theorem F10.ag2 : tagg Try.prog 2 = some false := by kernel_rfl
theorem F10.ti22 : (telem Try.prog 22).isSome = true := by kernel_rfl
theorem F10.tl22 : (telem Try.prog 22).bind (tsz Try.prog) = some 1 := by kernel_rfl
theorem laws_eqInt64S_ok {fr : List Pc} {H : Heap} (v0 : AV) (l0 : List (Int)) (v1 : AV) (l1 : List (Int)) (hs : Sep H (fr)) (g0 : ∀ H, Sep H fr → Shows H v0 1 (enc (eInt .i64) l0)) (g1 : ∀ H, Sep H fr → Shows H v1 1 (enc (eInt .i64) l1)) (K : Bool → Prop) (h : laws_eqInt64S.wp l0 l1 K) : OkQ Try.prog 10 [(.v v0), (.v v1)] H (fun r H2 => ∃ (y0 : Bool), K y0 ∧ r = (.v (.bool y0)) ∧ Sep H2 (fr)) := by
  unfold laws_eqInt64S.wp at h
  refine of_body Try.f10 F.hm Try.func10 rfl Try.call10 (by kernel_rfl) (by simp) ?_
  refine fi_seq ?_
  refine fi_region ?_
  refine so_assign rfl ?_
  refine so_nil ?_
  refine fi_seq ?_
  refine fi_seq ?_
  refine fi_region ?_
  refine so_move rfl ?_
  refine sv_len (g0 _ hs) (fun _ => rfl) (by decide) rfl F10.ti22 ?_
  refine so_move rfl ?_
  refine sv_len (g1 _ hs) (fun _ => rfl) (by decide) rfl F10.ti22 ?_
  refine so_bin rfl rfl ab_neq ?_
  refine so_nil ?_
  replace h := ofP h; rcases h with ⟨c101, h⟩ | ⟨c101, h⟩
  · refine fi_false rfl (not_f (decide_eq_true c101)) ?_
    refine fi_skip ?_
    refine fi_seq ?_
    refine fi_seq ?_
    refine fi_region ?_
    refine so_assign rfl ?_
    refine so_nil ?_
    refine fi_block ?_
    refine fi_loop ?_
    refine fi_at [(0, (.v v0)), (1, (.v v1)), (5, (.v (.int .i64 (0 : Int))))] ⟨rfl, rfl, rfl, trivial⟩ ?_
    refine h (fun (i103 : Int) => ∀ (s : Nat → TV) (H : Heap), Sep H (fr) → Fin _ _ (updL s [(0, (.v v0)), (1, (.v v1)), (5, (.v (.int .i64 i103)))]) H _) ?_ _ _ hs
    intro i103 h s108 H109 hs
    refine fi_inLoop ?_
    refine fi_seq ?_
    refine fi_seq ?_
    refine fi_region ?_
    refine so_move rfl ?_
    refine so_move rfl ?_
    refine sv_len (g0 _ hs) (fun _ => rfl) (by decide) rfl F10.ti22 ?_
    refine so_bin rfl rfl ab_lss ?_
    refine so_nil ?_
    replace h := ofP h; rcases h with ⟨c104, h⟩ | ⟨c104, h⟩
    · refine fi_true rfl (decide_eq_true c104) ?_
      refine fi_skip ?_
      refine fi_seq ?_
      refine fi_block ?_
      refine fi_seq ?_
      refine fi_region ?_
      refine so_move rfl ?_
      refine so_move rfl ?_
      obtain ⟨c105, h⟩ := h
      refine sv_idx (g0 _ hs) c105 (fun _ => rfl) (by decide) rfl rfl F10.tl22 ?_
      refine sv_cell (g0 _ hs) c105 (0 : Int) 0 (fun x => (AV.int .i64 x)) (fun _ => rfl) (fun _ => rfl) rfl F10.ag2 ?_
      refine so_move rfl ?_
      refine so_move rfl ?_
      obtain ⟨c106, h⟩ := h
      refine sv_idx (g1 _ hs) c106 (fun _ => rfl) (by decide) rfl rfl F10.tl22 ?_
      refine sv_cell (g1 _ hs) c106 (0 : Int) 0 (fun x => (AV.int .i64 x)) (fun _ => rfl) (fun _ => rfl) rfl F10.ag2 ?_
      refine so_bin rfl rfl ab_neq ?_
      refine so_nil ?_
      replace h := ofP h; rcases h with ⟨c107, h⟩ | ⟨c107, h⟩
      · refine fi_false rfl (not_f (decide_eq_true c107)) ?_
        refine fi_skip ?_
        refine fi_inBlock ?_
        refine fi_region ?_
        refine so_move rfl ?_
        refine so_bin rfl rfl ab_add ?_
        refine so_assign rfl ?_
        refine so_nil ?_
        exact fi_at [(0, (.v v0)), (1, (.v v1)), (5, (.v (.int .i64 (IntKind.i64.wrap (i103 + (1 : Int))))))] ⟨rfl, rfl, rfl, trivial⟩ (h _ _  hs)
      · refine fi_true rfl (not_t (decide_eq_false c107)) ?_
        refine fi_seq ?_
        refine fi_region ?_
        refine so_assign rfl ?_
        refine so_nil ?_
        exact by_ret rfl ⟨_, h, rfl, hs⟩
    · refine fi_false rfl (decide_eq_false c104) ?_
      refine fi_exit rfl ?_
      refine fi_seq ?_
      refine fi_region ?_
      refine so_assign rfl ?_
      refine so_nil ?_
      exact by_ret rfl ⟨_, h, rfl, hs⟩
  · refine fi_true rfl (not_t (decide_eq_false c101)) ?_
    refine fi_seq ?_
    refine fi_region ?_
    refine so_assign rfl ?_
    refine so_nil ?_
    exact by_ret rfl ⟨_, h, rfl, hs⟩

end Go.Proofs.Ytplfnchoooehgaa.G

namespace Go.Proofs.Ytplfnchoooehgaa.G
open Go Go.Ab Go.Proofs Go.Proofs.Ytplfnchoooehgaa
set_option maxRecDepth 100000
set_option linter.unusedVariables false
set_option linter.unusedSimpArgs false
set_option maxHeartbeats 1000000
theorem F11.sz2 : tsz Try.prog 2 = some 1 := by kernel_rfl
theorem F11.ti22 : (telem Try.prog 22).isSome = true := by kernel_rfl
theorem F11.tl22 : (telem Try.prog 22).bind (tsz Try.prog) = some 1 := by kernel_rfl
theorem laws_markInt64S_ok {fr : List Pc} {H : Heap} (v0 : AV) (l0 : List (Int)) (a1 : Int) (hs : Sep H (Pc.osl v0 1 (enc (eInt .i64) l0) :: fr))  (K : Int → (List (Int)) → Prop) (h : laws_markInt64S.wp l0 a1 K) : OkQ Try.prog 11 [(.v v0), (.v (.int .i64 a1))] H (fun r H2 => ∃ (y0 : Int) (y1 : List (Int)), K y0 y1 ∧ r = (.v (.int .i64 y0)) ∧ Sep H2 (Pc.osl v0 1 (enc (eInt .i64) y1) :: fr)) := by
  unfold laws_markInt64S.wp at h
  refine of_body Try.f11 F.hm Try.func11 rfl Try.call11 (by kernel_rfl) (by simp) ?_
  refine fi_seq ?_
  refine fi_region ?_
  refine so_assign rfl ?_
  refine so_nil ?_
  refine fi_seq ?_
  refine fi_seq ?_
  refine fi_region ?_
  refine so_assign rfl ?_
  refine so_nil ?_
  refine fi_block ?_
  refine fi_loop ?_
  refine fi_at [(0, (.v v0)), (1, (.v (.int .i64 a1))), (5, (.v (.int .i64 (0 : Int))))] ⟨rfl, rfl, rfl, trivial⟩ ?_
  refine h (fun (a109 : List (Int)) (k110 : Int) (i111 : Int) => ∀ (s : Nat → TV) (H : Heap), Sep H (Pc.osl v0 1 (enc (eInt .i64) a109) :: fr) → Fin _ _ (updL s [(0, (.v v0)), (1, (.v (.int .i64 k110))), (5, (.v (.int .i64 i111)))]) H _) ?_ _ _ hs
  intro a109 k110 i111 h s115 H116 hs
  refine fi_inLoop ?_
  refine fi_seq ?_
  refine fi_seq ?_
  refine fi_region ?_
  refine so_move rfl ?_
  refine so_move rfl ?_
  refine sv_len (hs.shows 0 rfl) (fun _ => rfl) (by decide) rfl F11.ti22 ?_
  refine so_bin rfl rfl ab_lss ?_
  refine so_nil ?_
  replace h := ofP h; rcases h with ⟨c112, h⟩ | ⟨c112, h⟩
  · refine fi_true rfl (decide_eq_true c112) ?_
    refine fi_skip ?_
    refine fi_seq ?_
    refine fi_block ?_
    refine fi_seq ?_
    refine fi_region ?_
    refine so_move rfl ?_
    refine so_move rfl ?_
    refine so_move rfl ?_
    obtain ⟨c113, h⟩ := h
    refine sv_idx (hs.shows 0 rfl) c113 (fun _ => rfl) (by decide) rfl rfl F11.tl22 ?_
    refine sv_set hs 0 rfl c113 k110 (fun _ => rfl) (by decide) rfl rfl rfl rfl F11.sz2 nofun (fun H114 hs => ?_)
    refine so_nil ?_
    refine fi_region ?_
    refine so_move rfl ?_
    refine so_bin rfl rfl ab_add ?_
    refine so_assign rfl ?_
    refine so_nil ?_
    refine fi_inBlock ?_
    refine fi_region ?_
    refine so_move rfl ?_
    refine so_bin rfl rfl ab_add ?_
    refine so_assign rfl ?_
    refine so_nil ?_
    exact fi_at [(0, (.v v0)), (1, (.v (.int .i64 (IntKind.i64.wrap (k110 + (1 : Int)))))), (5, (.v (.int .i64 (IntKind.i64.wrap (i111 + (1 : Int))))))] ⟨rfl, rfl, rfl, trivial⟩ (h _ _  hs)
  · refine fi_false rfl (decide_eq_false c112) ?_
    refine fi_exit rfl ?_
    refine fi_seq ?_
    refine fi_region ?_
    refine so_move rfl ?_
    refine so_assign rfl ?_
    refine so_nil ?_
    exact by_ret rfl ⟨_, _, h, rfl, hs⟩

end Go.Proofs.Ytplfnchoooehgaa.G

namespace Go.Proofs.Ytplfnchoooehgaa.G
open Go Go.Ab Go.Proofs Go.Proofs.Ytplfnchoooehgaa
set_option maxRecDepth 100000
set_option linter.unusedVariables false
set_option linter.unusedSimpArgs false
set_option maxHeartbeats 1000000
theorem F12.ag2 : tagg Try.prog 2 = some false := by kernel_rfl
theorem F12.ti22 : (telem Try.prog 22).isSome = true := by kernel_rfl
theorem F12.tl22 : (telem Try.prog 22).bind (tsz Try.prog) = some 1 := by kernel_rfl
theorem laws_heldInt64S_ok {fr : List Pc} {H : Heap} (v0 : AV) (l0 : List (Int)) (a1 : Int) (hs : Sep H (fr)) (g0 : ∀ H, Sep H fr → Shows H v0 1 (enc (eInt .i64) l0)) (K : Int → Prop) (h : laws_heldInt64S.wp l0 a1 K) : OkQ Try.prog 12 [(.v v0), (.v (.int .i64 a1))] H (fun r H2 => ∃ (y0 : Int), K y0 ∧ r = (.v (.int .i64 y0)) ∧ Sep H2 (fr)) := by
  unfold laws_heldInt64S.wp at h
  refine of_body Try.f12 F.hm Try.func12 rfl Try.call12 (by kernel_rfl) (by simp) ?_
  refine fi_seq ?_
  refine fi_region ?_
  refine so_assign rfl ?_
  refine so_nil ?_
  refine fi_seq ?_
  refine fi_seq ?_
  refine fi_region ?_
  refine so_assign rfl ?_
  refine so_nil ?_
  refine fi_block ?_
  refine fi_loop ?_
  refine fi_at [(0, (.v v0)), (1, (.v (.int .i64 a1))), (5, (.v (.int .i64 (0 : Int))))] ⟨rfl, rfl, rfl, trivial⟩ ?_
  refine h (fun (k102 : Int) (i103 : Int) => ∀ (s : Nat → TV) (H : Heap), Sep H (fr) → Fin _ _ (updL s [(0, (.v v0)), (1, (.v (.int .i64 k102))), (5, (.v (.int .i64 i103)))]) H _) ?_ _ _ hs
  intro k102 i103 h s107 H108 hs
  refine fi_inLoop ?_
  refine fi_seq ?_
  refine fi_seq ?_
  refine fi_region ?_
  refine so_move rfl ?_
  refine so_move rfl ?_
  refine sv_len (g0 _ hs) (fun _ => rfl) (by decide) rfl F12.ti22 ?_
  refine so_bin rfl rfl ab_lss ?_
  refine so_nil ?_
  replace h := ofP h; rcases h with ⟨c104, h⟩ | ⟨c104, h⟩
  · refine fi_true rfl (decide_eq_true c104) ?_
    refine fi_skip ?_
    refine fi_seq ?_
    refine fi_block ?_
    refine fi_seq ?_
    refine fi_seq ?_
    refine fi_region ?_
    refine so_move rfl ?_
    refine so_move rfl ?_
    obtain ⟨c105, h⟩ := h
    refine sv_idx (g0 _ hs) c105 (fun _ => rfl) (by decide) rfl rfl F12.tl22 ?_
    refine sv_cell (g0 _ hs) c105 (0 : Int) 0 (fun x => (AV.int .i64 x)) (fun _ => rfl) (fun _ => rfl) rfl F12.ag2 ?_
    refine so_move rfl ?_
    refine so_bin rfl rfl ab_neq ?_
    refine so_nil ?_
    replace h := ofP h; rcases h with ⟨c106, h⟩ | ⟨c106, h⟩
    · refine fi_false rfl (not_f (decide_eq_true c106)) ?_
      refine fi_skip ?_
      refine fi_region ?_
      refine so_move rfl ?_
      refine so_bin rfl rfl ab_add ?_
      refine so_assign rfl ?_
      refine so_nil ?_
      refine fi_inBlock ?_
      refine fi_region ?_
      refine so_move rfl ?_
      refine so_bin rfl rfl ab_add ?_
      refine so_assign rfl ?_
      refine so_nil ?_
      exact fi_at [(0, (.v v0)), (1, (.v (.int .i64 (IntKind.i64.wrap (k102 + (1 : Int)))))), (5, (.v (.int .i64 (IntKind.i64.wrap (i103 + (1 : Int))))))] ⟨rfl, rfl, rfl, trivial⟩ (h _ _  hs)
    · refine fi_true rfl (not_t (decide_eq_false c106)) ?_
      refine fi_seq ?_
      refine fi_region ?_
      refine so_assign rfl ?_
      refine so_nil ?_
      exact by_ret rfl ⟨_, h, rfl, hs⟩
  · refine fi_false rfl (decide_eq_false c104) ?_
    refine fi_exit rfl ?_
    refine fi_seq ?_
    refine fi_region ?_
    refine so_move rfl ?_
    refine so_assign rfl ?_
    refine so_nil ?_
    exact by_ret rfl ⟨_, h, rfl, hs⟩

end Go.Proofs.Ytplfnchoooehgaa.G

namespace Go.Proofs.Ytplfnchoooehgaa.G
open Go Go.Ab Go.Proofs Go.Proofs.Ytplfnchoooehgaa
set_option maxRecDepth 100000
set_option linter.unusedVariables false
set_option linter.unusedSimpArgs false
set_option maxHeartbeats 1000000
theorem spec_l00In_ok {fr : List Pc} {H : Heap} (a0 : Int) (a1 : Int) (a2 : Int) (hs : Sep H (fr))  (K : Bool → Prop) (h : spec_l00In.wp a0 a1 a2 K) : OkQ Try.prog 52 [(.v (.int .i64 a0)), (.v (.int .i64 a1)), (.v (.int .i64 a2))] H (fun r H2 => ∃ (y0 : Bool), K y0 ∧ r = (.v (.bool y0)) ∧ Sep H2 (fr)) := by
  unfold spec_l00In.wp at h
  refine of_body Try.f52 F.hm Try.func52 rfl Try.call52 (by kernel_rfl) (by simp) ?_
  refine fi_seq ?_
  refine fi_region ?_
  refine so_assign rfl ?_
  refine so_nil ?_
  refine fi_seq ?_
  refine fi_region ?_
  refine so_move rfl ?_
  refine so_move rfl ?_
  refine so_bin rfl rfl ab_geq ?_
  refine so_move rfl ?_
  replace h := ofP h; rcases h with ⟨c101, h⟩ | ⟨c101, h⟩
  · refine so_gyes rfl (decide_eq_true c101) ?_
    refine so_move rfl ?_
    refine so_gyes rfl (decide_eq_true c101) ?_
    refine so_move rfl ?_
    refine so_gyes rfl (decide_eq_true c101) ?_
    refine so_bin rfl rfl ab_leq ?_
    refine so_pick_t rfl (decide_eq_true c101) rfl ?_
    refine so_assign rfl ?_
    refine so_nil ?_
    exact by_ret rfl ⟨_, h, rfl, hs⟩
  · refine so_gno rfl (decide_eq_false c101) ?_
    refine so_gno rfl (decide_eq_false c101) ?_
    refine so_gno rfl (decide_eq_false c101) ?_
    refine so_pick_f rfl (decide_eq_false c101) rfl ?_
    refine so_assign rfl ?_
    refine so_nil ?_
    exact by_ret rfl ⟨_, h, rfl, hs⟩

end Go.Proofs.Ytplfnchoooehgaa.G

namespace Go.Proofs.Ytplfnchoooehgaa.G
open Go Go.Ab Go.Proofs Go.Proofs.Ytplfnchoooehgaa
set_option maxRecDepth 100000
set_option linter.unusedVariables false
set_option linter.unusedSimpArgs false
set_option maxHeartbeats 1000000
theorem F51.ag2 : tagg Try.prog 2 = some false := by kernel_rfl
theorem F51.ti22 : (telem Try.prog 22).isSome = true := by kernel_rfl
theorem F51.tl22 : (telem Try.prog 22).bind (tsz Try.prog) = some 1 := by kernel_rfl
theorem spec_l02Bound_ok {fr : List Pc} {H : Heap} (v0 : AV) (l0 : List (Int)) (a1 : Int) (hs : Sep H (fr)) (g0 : ∀ H, Sep H fr → Shows H v0 1 (enc (eInt .i64) l0)) (K : Bool → Prop) (h : spec_l02Bound.wp l0 a1 K) : OkQ Try.prog 51 [(.v v0), (.v (.int .i64 a1))] H (fun r H2 => ∃ (y0 : Bool), K y0 ∧ r = (.v (.bool y0)) ∧ Sep H2 (fr)) := by
  unfold spec_l02Bound.wp at h
  refine of_body Try.f51 F.hm Try.func51 rfl Try.call51 (by kernel_rfl) (by simp) ?_
  refine fi_seq ?_
  refine fi_region ?_
  refine so_assign rfl ?_
  refine so_nil ?_
  refine fi_seq ?_
  refine fi_seq ?_
  refine fi_region ?_
  refine so_assign rfl ?_
  refine so_nil ?_
  refine fi_block ?_
  refine fi_loop ?_
  refine fi_at [(0, (.v v0)), (1, (.v (.int .i64 a1))), (5, (.v (.int .i64 (0 : Int))))] ⟨rfl, rfl, rfl, trivial⟩ ?_
  refine h (fun (i102 : Int) => ∀ (s : Nat → TV) (H : Heap), Sep H (fr) → Fin _ _ (updL s [(0, (.v v0)), (1, (.v (.int .i64 a1))), (5, (.v (.int .i64 i102)))]) H _) ?_ _ _ hs
  intro i102 h s108 H109 hs
  refine fi_inLoop ?_
  refine fi_seq ?_
  refine fi_seq ?_
  refine fi_region ?_
  refine so_move rfl ?_
  refine so_move rfl ?_
  refine sv_len (g0 _ hs) (fun _ => rfl) (by decide) rfl F51.ti22 ?_
  refine so_bin rfl rfl ab_lss ?_
  refine so_nil ?_
  replace h := ofP h; rcases h with ⟨c103, h⟩ | ⟨c103, h⟩
  · refine fi_true rfl (decide_eq_true c103) ?_
    refine fi_skip ?_
    refine fi_seq ?_
    refine fi_block ?_
    refine fi_seq ?_
    refine fi_region ?_
    refine so_move rfl ?_
    refine so_move rfl ?_
    obtain ⟨c104, h⟩ := h
    refine sv_idx (g0 _ hs) c104 (fun _ => rfl) (by decide) rfl rfl F51.tl22 ?_
    refine sv_cell (g0 _ hs) c104 (0 : Int) 0 (fun x => (AV.int .i64 x)) (fun _ => rfl) (fun _ => rfl) rfl F51.ag2 ?_
    refine so_move rfl ?_
    refine so_un rfl au_neg ?_
    refine so_move rfl ?_
    refine sv_call (spec_l00In_ok (l0.getD (i102).toNat (0 : Int)) (IntKind.i64.wrap (0 - a1)) a1 hs  _ h) rfl rfl nofun ?_
    clear h hs
    rintro _ H106 ⟨y105, h, rfl, hs⟩
    refine so_un rfl au_not ?_
    refine so_nil ?_
    replace h := ofT h; rcases h with ⟨c107, h⟩ | ⟨c107, h⟩
    · refine fi_false rfl (not_f c107) ?_
      refine fi_skip ?_
      refine fi_inBlock ?_
      refine fi_region ?_
      refine so_move rfl ?_
      refine so_bin rfl rfl ab_add ?_
      refine so_assign rfl ?_
      refine so_nil ?_
      exact fi_at [(0, (.v v0)), (1, (.v (.int .i64 a1))), (5, (.v (.int .i64 (IntKind.i64.wrap (i102 + (1 : Int))))))] ⟨rfl, rfl, rfl, trivial⟩ (h _ _  hs)
    · refine fi_true rfl (not_t c107) ?_
      refine fi_seq ?_
      refine fi_region ?_
      refine so_assign rfl ?_
      refine so_nil ?_
      exact by_ret rfl ⟨_, h, rfl, hs⟩
  · refine fi_false rfl (decide_eq_false c103) ?_
    refine fi_exit rfl ?_
    refine fi_seq ?_
    refine fi_region ?_
    refine so_assign rfl ?_
    refine so_nil ?_
    exact by_ret rfl ⟨_, h, rfl, hs⟩

end Go.Proofs.Ytplfnchoooehgaa.G

namespace Go.Proofs.Ytplfnchoooehgaa.G
open Go Go.Ab Go.Proofs Go.Proofs.Ytplfnchoooehgaa
set_option maxRecDepth 100000
set_option linter.unusedVariables false
set_option linter.unusedSimpArgs false
set_option maxHeartbeats 1000000
theorem F29.ti22 : (telem Try.prog 22).isSome = true := by kernel_rfl
theorem spec_l02Integers_ok {fr : List Pc} {H : Heap} (v0 : AV) (l0 : List (Int)) (hs : Sep H (fr)) (g0 : ∀ H, Sep H fr → Shows H v0 1 (enc (eInt .i64) l0)) (K : Bool → Prop) (h : spec_l02Integers.wp l0 K) : OkQ Try.prog 29 [(.v v0)] H (fun r H2 => ∃ (y0 : Bool), K y0 ∧ r = (.v (.bool y0)) ∧ Sep H2 (fr)) := by
  unfold spec_l02Integers.wp at h
  refine of_body Try.f29 F.hm Try.func29 rfl Try.call29 (by kernel_rfl) (by simp) ?_
  refine fi_seq ?_
  refine fi_region ?_
  refine so_assign rfl ?_
  refine so_nil ?_
  refine fi_seq ?_
  refine fi_region ?_
  refine so_move rfl ?_
  refine sv_len (g0 _ hs) (fun _ => rfl) (by decide) rfl F29.ti22 ?_
  refine so_bin rfl rfl ab_geq ?_
  refine so_move rfl ?_
  replace h := ofP h; rcases h with ⟨c101, h⟩ | ⟨c101, h⟩
  · refine so_gyes rfl (decide_eq_true c101) ?_
    refine so_move rfl ?_
    refine so_gyes rfl (decide_eq_true c101) ?_
    refine sv_len (g0 _ hs) (fun _ => rfl) (by decide) rfl F29.ti22 ?_
    refine so_gyes rfl (decide_eq_true c101) ?_
    refine so_bin rfl rfl ab_leq ?_
    refine so_pick_t rfl (decide_eq_true c101) rfl ?_
    refine so_move rfl ?_
    replace h := ofP h; rcases h with ⟨c102, h⟩ | ⟨c102, h⟩
    · refine so_gyes rfl (decide_eq_true c102) ?_
      refine so_move rfl ?_
      refine so_gyes rfl (decide_eq_true c102) ?_
      refine sv_call (spec_l02Bound_ok v0 l0 (1000000 : Int) hs (fun _ hs => (g0 _ hs)) _ h) rfl rfl nofun ?_
      clear h hs
      rintro _ H104 ⟨y103, h, rfl, hs⟩
      refine so_pick_t rfl (decide_eq_true c102) rfl ?_
      refine so_assign rfl ?_
      refine so_nil ?_
      exact by_ret rfl ⟨_, h, rfl, hs⟩
    · refine so_gno rfl (decide_eq_false c102) ?_
      refine so_gno rfl (decide_eq_false c102) ?_
      refine so_pick_f rfl (decide_eq_false c102) rfl ?_
      refine so_assign rfl ?_
      refine so_nil ?_
      exact by_ret rfl ⟨_, h, rfl, hs⟩
  · refine so_gno rfl (decide_eq_false c101) ?_
    refine so_gno rfl (decide_eq_false c101) ?_
    refine so_gno rfl (decide_eq_false c101) ?_
    refine so_pick_f rfl (decide_eq_false c101) rfl ?_
    refine so_move rfl ?_
    refine so_gno rfl rfl ?_
    refine so_gno rfl rfl ?_
    refine so_pick_f rfl rfl rfl ?_
    refine so_assign rfl ?_
    refine so_nil ?_
    exact by_ret rfl ⟨_, h, rfl, hs⟩

end Go.Proofs.Ytplfnchoooehgaa.G

namespace Go.Proofs.Ytplfnchoooehgaa.G
open Go Go.Ab Go.Proofs Go.Proofs.Ytplfnchoooehgaa
set_option maxRecDepth 100000
set_option linter.unusedVariables false
set_option linter.unusedSimpArgs false
set_option maxHeartbeats 1000000
theorem spec_l02Levels_ok {fr : List Pc} {H : Heap} (a0 : Int) (hs : Sep H (fr))  (K : Bool → Prop) (h : spec_l02Levels.wp a0 K) : OkQ Try.prog 30 [(.v (.int .i64 a0))] H (fun r H2 => ∃ (y0 : Bool), K y0 ∧ r = (.v (.bool y0)) ∧ Sep H2 (fr)) := by
  unfold spec_l02Levels.wp at h
  refine of_body Try.f30 F.hm Try.func30 rfl Try.call30 (by kernel_rfl) (by simp) ?_
  refine fi_seq ?_
  refine fi_region ?_
  refine so_assign rfl ?_
  refine so_nil ?_
  refine fi_seq ?_
  refine fi_region ?_
  refine so_move rfl ?_
  refine sv_call (spec_l00In_ok a0 (1 : Int) (6 : Int) hs  _ h) rfl rfl nofun ?_
  clear h hs
  rintro _ H102 ⟨y101, h, rfl, hs⟩
  refine so_assign rfl ?_
  refine so_nil ?_
  exact by_ret rfl ⟨_, h, rfl, hs⟩

end Go.Proofs.Ytplfnchoooehgaa.G

namespace Go.Proofs.Ytplfnchoooehgaa.G
open Go Go.Ab Go.Proofs Go.Proofs.Ytplfnchoooehgaa
set_option maxRecDepth 100000
set_option linter.unusedVariables false
set_option linter.unusedSimpArgs false
set_option maxHeartbeats 1000000
theorem spec_l06Plane_ok {fr : List Pc} {H : Heap} (a0 : Int) (hs : Sep H (fr))  (K : Bool → Prop) (h : spec_l06Plane.wp a0 K) : OkQ Try.prog 31 [(.v (.int .i64 a0))] H (fun r H2 => ∃ (y0 : Bool), K y0 ∧ r = (.v (.bool y0)) ∧ Sep H2 (fr)) := by
  unfold spec_l06Plane.wp at h
  refine of_body Try.f31 F.hm Try.func31 rfl Try.call31 (by kernel_rfl) (by simp) ?_
  refine fi_seq ?_
  refine fi_region ?_
  refine so_assign rfl ?_
  refine so_nil ?_
  refine fi_seq ?_
  refine fi_region ?_
  refine so_move rfl ?_
  refine sv_call (spec_l00In_ok a0 (0 : Int) (24 : Int) hs  _ h) rfl rfl nofun ?_
  clear h hs
  rintro _ H102 ⟨y101, h, rfl, hs⟩
  refine so_assign rfl ?_
  refine so_nil ?_
  exact by_ret rfl ⟨_, h, rfl, hs⟩

end Go.Proofs.Ytplfnchoooehgaa.G

namespace Go.Proofs.Ytplfnchoooehgaa.G
open Go Go.Ab Go.Proofs Go.Proofs.Ytplfnchoooehgaa
set_option maxRecDepth 100000
set_option linter.unusedVariables false
set_option linter.unusedSimpArgs false
set_option maxHeartbeats 1000000
theorem F53.sz2 : tsz Try.prog 2 = some 1 := by kernel_rfl
theorem F53.ta22_22 : tapp Try.prog 22 22 = some (1, 8) := by kernel_rfl
theorem F53.te22 : telem Try.prog 22 = some 2 := by kernel_rfl
theorem F53.ze2 : tzero Try.prog 2 = some [(.int .i64 (0 : Int))] := by kernel_rfl
theorem spec_l02BandSizes_ok {fr : List Pc} {H : Heap} (a0 : Int) (a1 : Int) (hs : Sep H (fr))  (K : (List (Int)) → Prop) (h : spec_l02BandSizes.wp a0 a1 K) : OkQ Try.prog 53 [(.v (.int .i64 a0)), (.v (.int .i64 a1))] H (fun r H2 => ∃ (y0 : List (Int)), K y0 ∧ ∃ (w0_ : AV), r = (.v w0_) ∧ Sep H2 (Pc.osl w0_ 1 (enc (eInt .i64) y0) :: fr)) := by
  unfold spec_l02BandSizes.wp at h
  refine of_body Try.f53 F.hm Try.func53 rfl Try.call53 (by kernel_rfl) (by simp) ?_
  refine fi_seq ?_
  refine fi_region ?_
  refine so_assign rfl ?_
  refine so_nil ?_
  refine fi_seq ?_
  refine fi_region ?_
  refine sv_bslice hs (eInt .i64) ([] : List (Int)) [] F53.te22 F53.sz2 F53.ze2 rfl rfl rfl rfl (fun _ => rfl) rfl (by decide) nofun (fun v101 H102 nv101 hs => ?_)
  refine so_assign rfl ?_
  refine so_nil ?_
  refine fi_seq ?_
  refine fi_seq ?_
  refine fi_region ?_
  refine so_assign rfl ?_
  refine so_nil ?_
  refine fi_block ?_
  refine fi_loop ?_
  refine fi_at [(0, (.v (.int .i64 a0))), (1, (.v (.int .i64 a1))), (5, (.v v101)), (6, (.v (.int .i64 (0 : Int))))] ⟨rfl, rfl, rfl, rfl, trivial⟩ ?_
  refine h (fun (out130 : List (Int)) (n132 : Int) (k133 : Int) => ∀ (s : Nat → TV) (H : Heap) (v131 : AV) (nv131 : v131 ≠ .nilsl), Sep H (Pc.osl v131 1 (enc (eInt .i64) out130) :: fr) → Fin _ _ (updL s [(0, (.v (.int .i64 n132))), (1, (.v (.int .i64 a1))), (5, (.v v131)), (6, (.v (.int .i64 k133)))]) H _) ?_ _ _ _ nv101 hs
  intro out130 n132 k133 h s154 H155 v131 nv131 hs
  refine fi_inLoop ?_
  refine fi_seq ?_
  refine fi_seq ?_
  refine fi_region ?_
  refine so_move rfl ?_
  refine so_move rfl ?_
  refine so_bin rfl rfl ab_lss ?_
  refine so_move rfl ?_
  replace h := ofP h; rcases h with ⟨c134, h⟩ | ⟨c134, h⟩
  · refine so_gyes rfl (decide_eq_true c134) ?_
    refine so_move rfl ?_
    refine so_gyes rfl (decide_eq_true c134) ?_
    refine so_bin rfl rfl ab_geq ?_
    refine so_pick_t rfl (decide_eq_true c134) rfl ?_
    refine so_nil ?_
    replace h := ofP h; rcases h with ⟨c135, h⟩ | ⟨c135, h⟩
    · refine fi_true rfl (decide_eq_true c135) ?_
      refine fi_skip ?_
      refine fi_seq ?_
      refine fi_block ?_
      refine fi_seq ?_
      refine fi_region ?_
      refine so_move rfl ?_
      refine so_move rfl ?_
      refine so_bin rfl rfl (ab_quo (by decide)) ?_
      refine sv_bslice hs (eInt .i64) ([(IntKind.i64.wrap (Int.tdiv n132 (2 : Int)))] : List (Int)) [[(.int .i64 (IntKind.i64.wrap (Int.tdiv n132 (2 : Int))))]] F53.te22 F53.sz2 F53.ze2 rfl rfl rfl rfl (fun _ => rfl) rfl (by decide) nofun (fun v136 H137 nv136 hs => ?_)
      obtain ⟨c141, h⟩ := h
      refine sv_app hs 1 rfl (hs.shows 0 rfl) (fun _ => rfl) (by decide) F53.ta22_22 (by decide) c141 rfl rfl nofun (fun v139 H140 kv139 hs => ?_)
      replace hs := hs.del 0
      have nv139 := kv139 nv131
      refine so_assign rfl ?_
      refine so_nil ?_
      refine fi_region ?_
      refine so_move rfl ?_
      refine so_bin rfl rfl ab_add ?_
      refine so_bin rfl rfl (ab_quo (by decide)) ?_
      refine so_assign rfl ?_
      refine so_nil ?_
      refine fi_inBlock ?_
      refine fi_region ?_
      refine so_move rfl ?_
      refine so_bin rfl rfl ab_add ?_
      refine so_assign rfl ?_
      refine so_nil ?_
      exact fi_at [(0, (.v (.int .i64 (IntKind.i64.wrap (Int.tdiv (IntKind.i64.wrap (n132 + (1 : Int))) (2 : Int)))))), (1, (.v (.int .i64 a1))), (5, (.v v139)), (6, (.v (.int .i64 (IntKind.i64.wrap (k133 + (1 : Int))))))] ⟨rfl, rfl, rfl, rfl, trivial⟩ (h _ _ _ nv139 hs)
    · refine fi_false rfl (decide_eq_false c135) ?_
      refine fi_exit rfl ?_
      refine fi_seq ?_
      refine fi_region ?_
      refine so_move rfl ?_
      refine so_move rfl ?_
      refine sv_bslice hs (eInt .i64) ([n132] : List (Int)) [[(.int .i64 n132)]] F53.te22 F53.sz2 F53.ze2 rfl rfl rfl rfl (fun _ => rfl) rfl (by decide) nofun (fun v142 H143 nv142 hs => ?_)
      obtain ⟨c147, h⟩ := h
      refine sv_app hs 1 rfl (hs.shows 0 rfl) (fun _ => rfl) (by decide) F53.ta22_22 (by decide) c147 rfl rfl nofun (fun v145 H146 kv145 hs => ?_)
      replace hs := hs.del 0
      have nv145 := kv145 nv131
      refine so_assign rfl ?_
      refine so_nil ?_
      exact by_ret rfl ⟨_, h, _, rfl, hs⟩
  · refine so_gno rfl (decide_eq_false c134) ?_
    refine so_gno rfl (decide_eq_false c134) ?_
    refine so_pick_f rfl (decide_eq_false c134) rfl ?_
    refine so_nil ?_
    refine fi_false rfl rfl ?_
    refine fi_exit rfl ?_
    refine fi_seq ?_
    refine fi_region ?_
    refine so_move rfl ?_
    refine so_move rfl ?_
    refine sv_bslice hs (eInt .i64) ([n132] : List (Int)) [[(.int .i64 n132)]] F53.te22 F53.sz2 F53.ze2 rfl rfl rfl rfl (fun _ => rfl) rfl (by decide) nofun (fun v148 H149 nv148 hs => ?_)
    obtain ⟨c153, h⟩ := h
    refine sv_app hs 1 rfl (hs.shows 0 rfl) (fun _ => rfl) (by decide) F53.ta22_22 (by decide) c153 rfl rfl nofun (fun v151 H152 kv151 hs => ?_)
    replace hs := hs.del 0
    have nv151 := kv151 nv131
    refine so_assign rfl ?_
    refine so_nil ?_
    exact by_ret rfl ⟨_, h, _, rfl, hs⟩

end Go.Proofs.Ytplfnchoooehgaa.G

namespace Go.Proofs.Ytplfnchoooehgaa.G
open Go Go.Ab Go.Proofs Go.Proofs.Ytplfnchoooehgaa
set_option maxRecDepth 100000
set_option linter.unusedVariables false
set_option linter.unusedSimpArgs false
set_option maxHeartbeats 1000000
theorem spec_l00Min_ok {fr : List Pc} {H : Heap} (a0 : Int) (a1 : Int) (hs : Sep H (fr))  (K : Int → Prop) (h : spec_l00Min.wp a0 a1 K) : OkQ Try.prog 54 [(.v (.int .i64 a0)), (.v (.int .i64 a1))] H (fun r H2 => ∃ (y0 : Int), K y0 ∧ r = (.v (.int .i64 y0)) ∧ Sep H2 (fr)) := by
  unfold spec_l00Min.wp at h
  refine of_body Try.f54 F.hm Try.func54 rfl Try.call54 (by kernel_rfl) (by simp) ?_
  refine fi_seq ?_
  refine fi_region ?_
  refine so_assign rfl ?_
  refine so_nil ?_
  refine fi_seq ?_
  refine fi_seq ?_
  refine fi_region ?_
  refine so_move rfl ?_
  refine so_move rfl ?_
  refine so_bin rfl rfl ab_lss ?_
  refine so_nil ?_
  replace h := ofP h; rcases h with ⟨c101, h⟩ | ⟨c101, h⟩
  · refine fi_true rfl (decide_eq_true c101) ?_
    refine fi_seq ?_
    refine fi_region ?_
    refine so_move rfl ?_
    refine so_assign rfl ?_
    refine so_nil ?_
    exact by_ret rfl ⟨_, h, rfl, hs⟩
  · refine fi_false rfl (decide_eq_false c101) ?_
    refine fi_skip ?_
    refine fi_seq ?_
    refine fi_region ?_
    refine so_move rfl ?_
    refine so_assign rfl ?_
    refine so_nil ?_
    exact by_ret rfl ⟨_, h, rfl, hs⟩

end Go.Proofs.Ytplfnchoooehgaa.G

namespace Go.Proofs.Ytplfnchoooehgaa.G
open Go Go.Ab Go.Proofs Go.Proofs.Ytplfnchoooehgaa
set_option maxRecDepth 100000
set_option linter.unusedVariables false
set_option linter.unusedSimpArgs false
set_option maxHeartbeats 1000000
theorem F32.ag2 : tagg Try.prog 2 = some false := by kernel_rfl
theorem F32.ti22 : (telem Try.prog 22).isSome = true := by kernel_rfl
theorem F32.tl22 : (telem Try.prog 22).bind (tsz Try.prog) = some 1 := by kernel_rfl
theorem spec_l06Parent_ok {fr : List Pc} {H : Heap} (a0 : Int) (a1 : Int) (a2 : Int) (hs : Sep H (fr))  (K : Int → Prop) (h : spec_l06Parent.wp a0 a1 a2 K) : OkQ Try.prog 32 [(.v (.int .i64 a0)), (.v (.int .i64 a1)), (.v (.int .i64 a2))] H (fun r H2 => ∃ (y0 : Int), K y0 ∧ r = (.v (.int .i64 y0)) ∧ Sep H2 (fr)) := by
  unfold spec_l06Parent.wp at h
  refine of_body Try.f32 F.hm Try.func32 rfl Try.call32 (by kernel_rfl) (by simp) ?_
  refine fi_seq ?_
  refine fi_region ?_
  refine so_assign rfl ?_
  refine so_nil ?_
  refine fi_seq ?_
  refine fi_region ?_
  refine so_move rfl ?_
  refine so_move rfl ?_
  refine sv_call (spec_l02BandSizes_ok a0 a1 hs  _ h) rfl rfl nofun ?_
  clear h hs
  rintro _ H104 ⟨y101, h, v102, rfl, hs⟩
  refine so_assign rfl ?_
  refine so_nil ?_
  refine fi_seq ?_
  refine fi_region ?_
  refine so_assign rfl ?_
  refine so_nil ?_
  refine fi_seq ?_
  refine fi_seq ?_
  refine fi_region ?_
  refine so_move rfl ?_
  refine sv_len (hs.shows 0 rfl) (fun _ => rfl) (by decide) rfl F32.ti22 ?_
  refine so_bin rfl rfl ab_sub ?_
  refine so_assign rfl ?_
  refine so_nil ?_
  refine fi_block ?_
  refine fi_loop ?_
  refine fi_at [(2, (.v (.int .i64 a2))), (7, (.v v102)), (8, (.v (.int .i64 (0 : Int)))), (9, (.v (.int .i64 (IntKind.i64.wrap ((y101.length : Int) - (1 : Int))))))] ⟨rfl, rfl, rfl, rfl, trivial⟩ ?_
  refine h (fun (fromq106 : Int) (k107 : Int) => ∀ (s : Nat → TV) (H : Heap), Sep H (Pc.osl v102 1 (enc (eInt .i64) y101) :: fr) → Fin _ _ (updL s [(2, (.v (.int .i64 a2))), (7, (.v v102)), (8, (.v (.int .i64 fromq106))), (9, (.v (.int .i64 k107)))]) H _) ?_ _ _ hs
  intro fromq106 k107 h s115 H116 hs
  refine fi_inLoop ?_
  refine fi_seq ?_
  refine fi_seq ?_
  refine fi_region ?_
  refine so_move rfl ?_
  refine so_bin rfl rfl ab_geq ?_
  refine so_nil ?_
  replace h := ofP h; rcases h with ⟨c108, h⟩ | ⟨c108, h⟩
  · refine fi_true rfl (decide_eq_true c108) ?_
    refine fi_skip ?_
    refine fi_seq ?_
    refine fi_block ?_
    refine fi_seq ?_
    refine fi_seq ?_
    refine fi_region ?_
    refine so_move rfl ?_
    refine so_move rfl ?_
    refine so_move rfl ?_
    refine so_move rfl ?_
    obtain ⟨c109, h⟩ := h
    refine sv_idx (hs.shows 0 rfl) c109 (fun _ => rfl) (by decide) rfl rfl F32.tl22 ?_
    refine sv_cell (hs.shows 0 rfl) c109 (0 : Int) 0 (fun x => (AV.int .i64 x)) (fun _ => rfl) (fun _ => rfl) rfl F32.ag2 ?_
    refine so_bin rfl rfl ab_add ?_
    refine so_bin rfl rfl ab_lss ?_
    refine so_nil ?_
    replace h := ofP h; rcases h with ⟨c110, h⟩ | ⟨c110, h⟩
    · refine fi_true rfl (decide_eq_true c110) ?_
      refine fi_seq ?_
      refine fi_seq ?_
      refine fi_region ?_
      refine so_move rfl ?_
      refine so_bin rfl rfl ab_add ?_
      refine so_move rfl ?_
      refine sv_len (hs.shows 0 rfl) (fun _ => rfl) (by decide) rfl F32.ti22 ?_
      refine so_bin rfl rfl ab_geq ?_
      refine so_nil ?_
      replace h := ofP h; rcases h with ⟨c111, h⟩ | ⟨c111, h⟩
      · refine fi_true rfl (decide_eq_true c111) ?_
        refine fi_seq ?_
        refine fi_region ?_
        refine so_assign rfl ?_
        refine so_nil ?_
        exact by_ret rfl ⟨_, h, rfl, (Sep.del 0 hs)⟩
      · refine fi_false rfl (decide_eq_false c111) ?_
        refine fi_skip ?_
        refine fi_seq ?_
        refine fi_free [4, 5] ?_
        refine wf_pure rfl (by kernel_rfl) ?_
        refine so_move rfl ?_
        refine so_end ?_
        refine wf_pure rfl (by kernel_rfl) ?_
        refine so_move rfl ?_
        refine so_end ?_
        refine wf_pure rfl (by kernel_rfl) ?_
        refine so_move rfl ?_
        refine so_end ?_
        refine wf_pure rfl (by kernel_rfl) ?_
        refine so_bin rfl rfl ab_add ?_
        refine so_end ?_
        obtain ⟨c112, h⟩ := h
        refine wf_free (.v (.ptr v102.id0 (v102.of0 + ((IntKind.i64.wrap (k107 + (1 : Int)))).toNat * 1))) rfl (by kernel_rfl) (stepr (i := 0) rfl (by refine sv_idx (hs.shows 0 rfl) c112 (fun _ => rfl) (by decide) rfl rfl F32.tl22 ?_; exact so_end ⟨rfl, rfl⟩)) fan ?_
        refine wf_free (.v (.int .i64 (y101.getD ((IntKind.i64.wrap (k107 + (1 : Int)))).toNat (0 : Int)))) rfl (by kernel_rfl) (stepr (i := 0) rfl (by refine sv_cell (hs.shows 0 rfl) c112 (0 : Int) 0 (fun x => (AV.int .i64 x)) (fun _ => rfl) (fun _ => rfl) rfl F32.ag2 ?_; exact so_end ⟨rfl, rfl⟩)) fan ?_
        refine wf_pure rfl (by kernel_rfl) ?_
        refine so_bin rfl rfl ab_sub ?_
        refine so_end ?_
        refine wf_pure rfl (by kernel_rfl) ?_
        refine so_move rfl ?_
        refine so_end ?_
        refine wf_pure rfl (by kernel_rfl) ?_
        refine so_move rfl ?_
        refine so_end ?_
        refine wf_pure rfl (by kernel_rfl) ?_
        refine so_bin rfl rfl ab_sub ?_
        refine so_end ?_
        refine wf_pure rfl (by kernel_rfl) ?_
        refine so_bin rfl rfl (ab_quo (by decide)) ?_
        refine so_end ?_
        refine wf_pure rfl (by kernel_rfl) ?_
        refine so_move rfl ?_
        refine so_end ?_
        refine wf_pure rfl (by kernel_rfl) ?_
        refine so_move rfl ?_
        refine so_end ?_
        refine wf_pure rfl (by kernel_rfl) ?_
        refine so_bin rfl rfl ab_add ?_
        refine so_end ?_
        refine wf_same (by decide +kernel) (by kernel_rfl) ?_
        refine sv_idx (hs.shows 0 rfl) c112 (fun _ => rfl) (by decide) rfl rfl F32.tl22 ?_
        refine so_end ⟨rfl, ?_⟩
        refine wf_same (by decide +kernel) (by kernel_rfl) ?_
        refine sv_cell (hs.shows 0 rfl) c112 (0 : Int) 0 (fun x => (AV.int .i64 x)) (fun _ => rfl) (fun _ => rfl) rfl F32.ag2 ?_
        refine so_end ⟨rfl, ?_⟩
        refine wf_pure rfl (by kernel_rfl) ?_
        refine so_bin rfl rfl ab_sub ?_
        refine so_end ?_
        have hs0_ := hs
        refine wf_chg (by kernel_rfl) ?_
        refine sv_call (spec_l00Min_ok (IntKind.i64.wrap (Int.tdiv (IntKind.i64.wrap (a2 - fromq106)) (2 : Int))) (IntKind.i64.wrap ((y101.getD ((IntKind.i64.wrap (k107 + (1 : Int)))).toNat (0 : Int)) - (1 : Int))) hs  _ h) rfl rfl nofun ?_
        clear h
        rintro _ H114 ⟨y113, h, rfl, hs⟩
        refine so_end ⟨(fac (.inr (stepr (i := 0) rfl (by refine sv_cell (hs.shows 0 rfl) c112 (0 : Int) 0 (fun x => (AV.int .i64 x)) (fun _ => rfl) (fun _ => rfl) rfl F32.ag2 ?_; exact so_end ⟨rfl, rfl⟩))) (fac (.inr (stepr (i := 0) rfl (by refine sv_idx (hs.shows 0 rfl) c112 (fun _ => rfl) (by decide) rfl rfl F32.tl22 ?_; exact so_end ⟨rfl, rfl⟩))) fan)), ?_⟩
        refine wf_pure rfl (by kernel_rfl) ?_
        refine so_bin rfl rfl ab_add ?_
        refine so_end ?_
        refine wf_pure rfl (by kernel_rfl) ?_
        refine so_assign rfl ?_
        refine so_end ?_
        refine wf_nil ?_
        exact by_ret rfl ⟨_, h, rfl, (Sep.del 0 hs)⟩
    · refine fi_false rfl (decide_eq_false c110) ?_
      refine fi_skip ?_
      refine fi_region ?_
      refine so_move rfl ?_
      refine so_move rfl ?_
      refine so_move rfl ?_
      refine sv_idx (hs.shows 0 rfl) c109 (fun _ => rfl) (by decide) rfl rfl F32.tl22 ?_
      refine sv_cell (hs.shows 0 rfl) c109 (0 : Int) 0 (fun x => (AV.int .i64 x)) (fun _ => rfl) (fun _ => rfl) rfl F32.ag2 ?_
      refine so_bin rfl rfl ab_add ?_
      refine so_assign rfl ?_
      refine so_nil ?_
      refine fi_inBlock ?_
      refine fi_region ?_
      refine so_move rfl ?_
      refine so_bin rfl rfl ab_sub ?_
      refine so_assign rfl ?_
      refine so_nil ?_
      exact fi_at [(2, (.v (.int .i64 a2))), (7, (.v v102)), (8, (.v (.int .i64 (IntKind.i64.wrap (fromq106 + (y101.getD (k107).toNat (0 : Int))))))), (9, (.v (.int .i64 (IntKind.i64.wrap (k107 - (1 : Int))))))] ⟨rfl, rfl, rfl, rfl, trivial⟩ (h _ _  hs)
  · refine fi_false rfl (decide_eq_false c108) ?_
    refine fi_exit rfl ?_
    refine fi_seq ?_
    refine fi_region ?_
    refine so_assign rfl ?_
    refine so_nil ?_
    exact by_ret rfl ⟨_, h, rfl, (Sep.del 0 hs)⟩

end Go.Proofs.Ytplfnchoooehgaa.G

namespace Go.Proofs.Ytplfnchoooehgaa.G
open Go Go.Ab Go.Proofs Go.Proofs.Ytplfnchoooehgaa
set_option maxRecDepth 100000
set_option linter.unusedVariables false
set_option linter.unusedSimpArgs false
set_option maxHeartbeats 1000000
theorem spec_l06Abs_ok {fr : List Pc} {H : Heap} (a0 : Int) (hs : Sep H (fr))  (K : Int → Prop) (h : spec_l06Abs.wp a0 K) : OkQ Try.prog 33 [(.v (.int .i64 a0))] H (fun r H2 => ∃ (y0 : Int), K y0 ∧ r = (.v (.int .i64 y0)) ∧ Sep H2 (fr)) := by
  unfold spec_l06Abs.wp at h
  refine of_body Try.f33 F.hm Try.func33 rfl Try.call33 (by kernel_rfl) (by simp) ?_
  refine fi_seq ?_
  refine fi_region ?_
  refine so_assign rfl ?_
  refine so_nil ?_
  refine fi_seq ?_
  refine fi_seq ?_
  refine fi_region ?_
  refine so_move rfl ?_
  refine so_bin rfl rfl ab_lss ?_
  refine so_nil ?_
  replace h := ofP h; rcases h with ⟨c101, h⟩ | ⟨c101, h⟩
  · refine fi_true rfl (decide_eq_true c101) ?_
    refine fi_seq ?_
    refine fi_region ?_
    refine so_move rfl ?_
    refine so_un rfl au_neg ?_
    refine so_assign rfl ?_
    refine so_nil ?_
    exact by_ret rfl ⟨_, h, rfl, hs⟩
  · refine fi_false rfl (decide_eq_false c101) ?_
    refine fi_skip ?_
    refine fi_seq ?_
    refine fi_region ?_
    refine so_move rfl ?_
    refine so_assign rfl ?_
    refine so_nil ?_
    exact by_ret rfl ⟨_, h, rfl, hs⟩

end Go.Proofs.Ytplfnchoooehgaa.G

namespace Go.Proofs.Ytplfnchoooehgaa.G
open Go Go.Ab Go.Proofs Go.Proofs.Ytplfnchoooehgaa
set_option maxRecDepth 100000
set_option linter.unusedVariables false
set_option linter.unusedSimpArgs false
set_option maxHeartbeats 1000000
theorem F7.ag2 : tagg Try.prog 2 = some false := by kernel_rfl
theorem F7.ag4 : tagg Try.prog 4 = some false := by kernel_rfl
theorem F7.it50 : tint Try.prog 50 = some .u64 := by kernel_rfl
theorem F7.sz2 : tsz Try.prog 2 = some 1 := by kernel_rfl
theorem F7.sz4 : tsz Try.prog 4 = some 1 := by kernel_rfl
theorem F7.ta22_22 : tapp Try.prog 22 22 = some (1, 8) := by kernel_rfl
theorem F7.ta29_29 : tapp Try.prog 29 29 = some (1, 1) := by kernel_rfl
theorem F7.te22 : telem Try.prog 22 = some 2 := by kernel_rfl
theorem F7.te29 : telem Try.prog 29 = some 4 := by kernel_rfl
theorem F7.ti22 : (telem Try.prog 22).isSome = true := by kernel_rfl
theorem F7.tl22 : (telem Try.prog 22).bind (tsz Try.prog) = some 1 := by kernel_rfl
theorem F7.tl29 : (telem Try.prog 29).bind (tsz Try.prog) = some 1 := by kernel_rfl
theorem F7.us2 : (Try.prog.underlying 2).isSome = true := by kernel_rfl
theorem F7.ze2 : tzero Try.prog 2 = some [(.int .i64 (0 : Int))] := by kernel_rfl
theorem F7.ze4 : tzero Try.prog 4 = some [(.bool false)] := by kernel_rfl
theorem spec_ZeroTrees_ok {fr : List Pc} {H : Heap} (v0 : AV) (l0 : List (Int)) (a1 : Int) (a2 : Int) (hs : Sep H (fr)) (g0 : ∀ H, Sep H fr → Shows H v0 1 (enc (eInt .i64) l0)) (K : (List (Int)) → Bool → Prop) (h : spec_ZeroTrees.wp l0 a1 a2 K) : OkQ Try.prog 7 [(.v v0), (.v (.int .i64 a1)), (.v (.int .i64 a2))] H (fun r H2 => ∃ (y0 : List (Int)) (y1 : Bool), K y0 y1 ∧ ∃ (w0_ : AV), r = (.t [(.v w0_), (.v (.bool y1))]) ∧ Sep H2 (Pc.osl w0_ 1 (enc (eInt .i64) y0) :: fr)) := by
  unfold spec_ZeroTrees.wp at h
  refine of_body Try.f7 F.hm Try.func7 rfl Try.call7 (by kernel_rfl) (by simp) ?_
  refine fi_seq ?_
  refine fi_region ?_
  refine so_assign rfl ?_
  refine so_assign rfl ?_
  refine so_nil ?_
  refine fi_seq ?_
  refine fi_seq ?_
  refine fi_region ?_
  refine so_move rfl ?_
  refine sv_call (spec_l02Integers_ok v0 l0 hs (fun _ hs => (g0 _ hs)) _ h) rfl rfl nofun ?_
  clear h hs
  rintro _ H102 ⟨y101, h, rfl, hs⟩
  refine so_un rfl au_not ?_
  refine so_move rfl ?_
  replace h := ofT h; rcases h with ⟨c103, h⟩ | ⟨c103, h⟩
  · refine so_gyes rfl (not_f c103) ?_
    refine so_move rfl ?_
    refine so_gyes rfl (not_f c103) ?_
    refine sv_call (spec_l02Levels_ok a1 hs  _ h) rfl rfl nofun ?_
    clear h hs
    rintro _ H105 ⟨y104, h, rfl, hs⟩
    refine so_gyes rfl (not_f c103) ?_
    refine so_un rfl au_not ?_
    refine so_pick_f rfl (not_f c103) rfl ?_
    refine so_move rfl ?_
    replace h := ofT h; rcases h with ⟨c106, h⟩ | ⟨c106, h⟩
    · refine so_gyes rfl (not_f c106) ?_
      refine so_move rfl ?_
      refine so_gyes rfl (not_f c106) ?_
      refine sv_call (spec_l06Plane_ok a2 hs  _ h) rfl rfl nofun ?_
      clear h hs
      rintro _ H108 ⟨y107, h, rfl, hs⟩
      refine so_gyes rfl (not_f c106) ?_
      refine so_un rfl au_not ?_
      refine so_pick_f rfl (not_f c106) rfl ?_
      refine so_nil ?_
      replace h := ofT h; rcases h with ⟨c109, h⟩ | ⟨c109, h⟩
      · refine fi_false rfl (not_f c109) ?_
        refine fi_skip ?_
        refine fi_seq ?_
        refine fi_region ?_
        refine so_move rfl ?_
        refine sv_len (g0 _ hs) (fun _ => rfl) (by decide) rfl F7.ti22 ?_
        refine so_assign rfl ?_
        refine so_nil ?_
        refine fi_seq ?_
        refine fi_region ?_
        refine sv_bslice hs (eInt .i64) ([] : List (Int)) [] F7.te22 F7.sz2 F7.ze2 rfl rfl rfl rfl (fun _ => rfl) rfl (by decide) nofun (fun v110 H111 nv110 hs => ?_)
        refine so_assign rfl ?_
        refine so_nil ?_
        refine fi_seq ?_
        refine fi_region ?_
        refine sv_bslice hs eBool ([] : List (Bool)) [] F7.te29 F7.sz4 F7.ze4 rfl rfl rfl rfl (fun _ => rfl) rfl (by decide) nofun (fun v113 H114 nv113 hs => ?_)
        refine so_assign rfl ?_
        refine so_nil ?_
        refine fi_seq ?_
        refine fi_seq ?_
        refine fi_region ?_
        refine so_assign rfl ?_
        refine so_nil ?_
        refine fi_block ?_
        refine fi_loop ?_
        refine fi_at [(0, (.v v0)), (1, (.v (.int .i64 a1))), (2, (.v (.int .i64 a2))), (8, (.v (.int .i64 (l0.length : Int)))), (9, (.v v110)), (10, (.v v113)), (11, (.v (.int .i64 (0 : Int))))] ⟨rfl, rfl, rfl, rfl, rfl, rfl, rfl, trivial⟩ ?_
        refine h (fun (empty289 : List (Bool)) (parents291 : List (Int)) (i293 : Int) => ∀ (s : Nat → TV) (H : Heap) (v290 : AV) (nv290 : v290 ≠ .nilsl) (v292 : AV) (nv292 : v292 ≠ .nilsl), Sep H (Pc.osl v290 1 (enc eBool empty289) :: Pc.osl v292 1 (enc (eInt .i64) parents291) :: fr) → Fin _ _ (updL s [(0, (.v v0)), (1, (.v (.int .i64 a1))), (2, (.v (.int .i64 a2))), (8, (.v (.int .i64 (l0.length : Int)))), (9, (.v v292)), (10, (.v v290)), (11, (.v (.int .i64 i293)))]) H _) ?_ _ _ _ nv113 _ nv110 hs
        intro empty289 parents291 i293 h s460 H461 v290 nv290 v292 nv292 hs
        refine fi_inLoop ?_
        refine fi_seq ?_
        refine fi_seq ?_
        refine fi_region ?_
        refine so_move rfl ?_
        refine so_move rfl ?_
        refine so_bin rfl rfl ab_lss ?_
        refine so_nil ?_
        replace h := ofP h; rcases h with ⟨c294, h⟩ | ⟨c294, h⟩
        · refine fi_true rfl (decide_eq_true c294) ?_
          refine fi_skip ?_
          refine fi_seq ?_
          refine fi_block ?_
          refine fi_seq ?_
          refine fi_region ?_
          refine so_move rfl ?_
          refine so_move rfl ?_
          refine so_move rfl ?_
          refine so_move rfl ?_
          refine sv_call (spec_l06Parent_ok (l0.length : Int) a1 i293 hs  _ h) rfl rfl nofun ?_
          clear h hs
          rintro _ H296 ⟨y295, h, rfl, hs⟩
          refine sv_bslice hs (eInt .i64) ([y295] : List (Int)) [[(.int .i64 y295)]] F7.te22 F7.sz2 F7.ze2 rfl rfl rfl rfl (fun _ => rfl) rfl (by decide) nofun (fun v297 H298 nv297 hs => ?_)
          obtain ⟨c302, h⟩ := h
          refine sv_app hs 2 rfl (hs.shows 0 rfl) (fun _ => rfl) (by decide) F7.ta22_22 (by decide) c302 rfl rfl nofun (fun v300 H301 kv300 hs => ?_)
          replace hs := hs.del 0
          have nv300 := kv300 nv292
          refine so_assign rfl ?_
          refine so_nil ?_
          refine fi_region ?_
          refine so_move rfl ?_
          refine sv_bslice hs eBool ([true] : List (Bool)) [[(.bool true)]] F7.te29 F7.sz4 F7.ze4 rfl rfl rfl rfl (fun _ => rfl) rfl (by decide) nofun (fun v303 H304 nv303 hs => ?_)
          obtain ⟨c308, h⟩ := h
          refine sv_app hs 1 rfl (hs.shows 0 rfl) (fun _ => rfl) (by decide) F7.ta29_29 (by decide) c308 rfl rfl nofun (fun v306 H307 kv306 hs => ?_)
          replace hs := hs.del 0
          have nv306 := kv306 nv290
          refine so_assign rfl ?_
          refine so_nil ?_
          refine fi_inBlock ?_
          refine fi_region ?_
          refine so_move rfl ?_
          refine so_bin rfl rfl ab_add ?_
          refine so_assign rfl ?_
          refine so_nil ?_
          exact fi_at [(0, (.v v0)), (1, (.v (.int .i64 a1))), (2, (.v (.int .i64 a2))), (8, (.v (.int .i64 (l0.length : Int)))), (9, (.v v300)), (10, (.v v306)), (11, (.v (.int .i64 (IntKind.i64.wrap (i293 + (1 : Int))))))] ⟨rfl, rfl, rfl, rfl, rfl, rfl, rfl, trivial⟩ (h _ _ _ nv306 _ nv300 hs)
        · refine fi_false rfl (decide_eq_false c294) ?_
          refine fi_exit rfl ?_
          refine fi_seq ?_
          refine fi_seq ?_
          refine fi_region ?_
          refine so_assign rfl ?_
          refine so_nil ?_
          refine fi_block ?_
          refine fi_loop ?_
          refine fi_at [(0, (.v v0)), (2, (.v (.int .i64 a2))), (8, (.v (.int .i64 (l0.length : Int)))), (9, (.v v292)), (10, (.v v290)), (12, (.v (.int .i64 (0 : Int))))] ⟨rfl, rfl, rfl, rfl, rfl, rfl, trivial⟩ ?_
          refine h (fun (empty384 : List (Bool)) (i385 : Int) => ∀ (s : Nat → TV) (H : Heap), Sep H (Pc.osl v290 1 (enc eBool empty384) :: Pc.osl v292 1 (enc (eInt .i64) parents291) :: fr) → Fin _ _ (updL s [(0, (.v v0)), (2, (.v (.int .i64 a2))), (8, (.v (.int .i64 (l0.length : Int)))), (9, (.v v292)), (10, (.v v290)), (12, (.v (.int .i64 i385)))]) H _) ?_ _ _ hs
          intro empty384 i385 h s458 H459 hs
          refine fi_inLoop ?_
          refine fi_seq ?_
          refine fi_seq ?_
          refine fi_region ?_
          refine so_move rfl ?_
          refine so_move rfl ?_
          refine so_bin rfl rfl ab_lss ?_
          refine so_nil ?_
          replace h := ofP h; rcases h with ⟨c386, h⟩ | ⟨c386, h⟩
          · refine fi_true rfl (decide_eq_true c386) ?_
            refine fi_skip ?_
            refine fi_seq ?_
            refine fi_block ?_
            refine fi_seq ?_
            refine fi_seq ?_
            refine fi_region ?_
            refine so_move rfl ?_
            refine so_move rfl ?_
            obtain ⟨c387, h⟩ := h
            refine sv_idx (g0 _ hs.tl.tl) c387 (fun _ => rfl) (by decide) rfl rfl F7.tl22 ?_
            refine sv_cell (g0 _ hs.tl.tl) c387 (0 : Int) 0 (fun x => (AV.int .i64 x)) (fun _ => rfl) (fun _ => rfl) rfl F7.ag2 ?_
            refine sv_call (spec_l06Abs_ok (l0.getD (i385).toNat (0 : Int)) hs  _ h) rfl rfl nofun ?_
            clear h hs
            rintro _ H389 ⟨y388, h, rfl, hs⟩
            refine so_move rfl ?_
            refine sv_ii rfl F7.us2 F7.it50 ?_
            obtain ⟨c390, h⟩ := h
            refine so_bin rfl rfl (ab_shr c390) ?_
            refine so_bin rfl rfl ab_eql ?_
            refine so_nil ?_
            replace h := ofP h; rcases h with ⟨c391, h⟩ | ⟨c391, h⟩
            · refine fi_true rfl (decide_eq_true c391) ?_
              refine fi_exit rfl ?_
              refine fi_region ?_
              refine so_move rfl ?_
              refine so_bin rfl rfl ab_add ?_
              refine so_assign rfl ?_
              refine so_nil ?_
              exact fi_at [(0, (.v v0)), (2, (.v (.int .i64 a2))), (8, (.v (.int .i64 (l0.length : Int)))), (9, (.v v292)), (10, (.v v290)), (12, (.v (.int .i64 (IntKind.i64.wrap (i385 + (1 : Int))))))] ⟨rfl, rfl, rfl, rfl, rfl, rfl, trivial⟩ (h _ _  hs)
            · refine fi_false rfl (decide_eq_false c391) ?_
              refine fi_skip ?_
              refine fi_seq ?_
              refine fi_region ?_
              refine so_move rfl ?_
              refine so_assign rfl ?_
              refine so_nil ?_
              refine fi_block ?_
              refine fi_loop ?_
              refine fi_at [(0, (.v v0)), (2, (.v (.int .i64 a2))), (8, (.v (.int .i64 (l0.length : Int)))), (9, (.v v292)), (10, (.v v290)), (12, (.v (.int .i64 i385))), (13, (.v (.int .i64 i385)))] ⟨rfl, rfl, rfl, rfl, rfl, rfl, rfl, trivial⟩ ?_
              refine h (fun (empty399 : List (Bool)) (atq400 : Int) => ∀ (s : Nat → TV) (H : Heap), Sep H (Pc.osl v290 1 (enc eBool empty399) :: Pc.osl v292 1 (enc (eInt .i64) parents291) :: fr) → Fin _ _ (updL s [(0, (.v v0)), (2, (.v (.int .i64 a2))), (8, (.v (.int .i64 (l0.length : Int)))), (9, (.v v292)), (10, (.v v290)), (12, (.v (.int .i64 i385))), (13, (.v (.int .i64 atq400)))]) H _) ?_ _ _ hs
              intro empty399 atq400 h s405 H406 hs
              refine fi_inLoop ?_
              refine fi_seq ?_
              refine fi_seq ?_
              refine fi_region ?_
              refine so_move rfl ?_
              refine so_bin rfl rfl ab_geq ?_
              refine so_nil ?_
              replace h := ofP h; rcases h with ⟨c401, h⟩ | ⟨c401, h⟩
              · refine fi_true rfl (decide_eq_true c401) ?_
                refine fi_skip ?_
                refine fi_seq ?_
                refine fi_block ?_
                refine fi_region ?_
                refine so_move rfl ?_
                refine so_move rfl ?_
                obtain ⟨c402, h⟩ := h
                refine sv_idx (hs.shows 0 rfl) c402 (fun _ => rfl) (by decide) rfl rfl F7.tl29 ?_
                refine sv_set hs 0 rfl c402 false (fun _ => rfl) (by decide) rfl rfl rfl rfl F7.sz4 nofun (fun H403 hs => ?_)
                refine so_nil ?_
                refine fi_inBlock ?_
                refine fi_region ?_
                refine so_move rfl ?_
                refine so_move rfl ?_
                obtain ⟨c404, h⟩ := h
                refine sv_idx (hs.shows 1 rfl) c404 (fun _ => rfl) (by decide) rfl rfl F7.tl22 ?_
                refine sv_cell (hs.shows 1 rfl) c404 (0 : Int) 0 (fun x => (AV.int .i64 x)) (fun _ => rfl) (fun _ => rfl) rfl F7.ag2 ?_
                refine so_assign rfl ?_
                refine so_nil ?_
                exact fi_at [(0, (.v v0)), (2, (.v (.int .i64 a2))), (8, (.v (.int .i64 (l0.length : Int)))), (9, (.v v292)), (10, (.v v290)), (12, (.v (.int .i64 i385))), (13, (.v (.int .i64 (parents291.getD (atq400).toNat (0 : Int)))))] ⟨rfl, rfl, rfl, rfl, rfl, rfl, rfl, trivial⟩ (h _ _  hs)
              · refine fi_false rfl (decide_eq_false c401) ?_
                refine fi_exit rfl ?_
                refine fi_inBlock ?_
                refine fi_region ?_
                refine so_move rfl ?_
                refine so_bin rfl rfl ab_add ?_
                refine so_assign rfl ?_
                refine so_nil ?_
                exact fi_at [(0, (.v v0)), (2, (.v (.int .i64 a2))), (8, (.v (.int .i64 (l0.length : Int)))), (9, (.v v292)), (10, (.v v290)), (12, (.v (.int .i64 (IntKind.i64.wrap (i385 + (1 : Int))))))] ⟨rfl, rfl, rfl, rfl, rfl, rfl, trivial⟩ (h _ _  hs)
          · refine fi_false rfl (decide_eq_false c386) ?_
            refine fi_exit rfl ?_
            refine fi_seq ?_
            refine fi_region ?_
            refine sv_bslice hs (eInt .i64) ([] : List (Int)) [] F7.te22 F7.sz2 F7.ze2 rfl rfl rfl rfl (fun _ => rfl) rfl (by decide) nofun (fun v407 H408 nv407 hs => ?_)
            refine so_assign rfl ?_
            refine so_nil ?_
            refine fi_seq ?_
            refine fi_seq ?_
            refine fi_region ?_
            refine so_assign rfl ?_
            refine so_nil ?_
            refine fi_block ?_
            refine fi_loop ?_
            refine fi_at [(8, (.v (.int .i64 (l0.length : Int)))), (9, (.v v292)), (10, (.v v290)), (14, (.v v407)), (15, (.v (.int .i64 (0 : Int))))] ⟨rfl, rfl, rfl, rfl, rfl, trivial⟩ ?_
            refine h (fun (out434 : List (Int)) (i436 : Int) => ∀ (s : Nat → TV) (H : Heap) (v435 : AV) (nv435 : v435 ≠ .nilsl), Sep H (Pc.osl v435 1 (enc (eInt .i64) out434) :: Pc.osl v290 1 (enc eBool empty384) :: Pc.osl v292 1 (enc (eInt .i64) parents291) :: fr) → Fin _ _ (updL s [(8, (.v (.int .i64 (l0.length : Int)))), (9, (.v v292)), (10, (.v v290)), (14, (.v v435)), (15, (.v (.int .i64 i436)))]) H _) ?_ _ _ _ nv407 hs
            intro out434 i436 h s456 H457 v435 nv435 hs
            refine fi_inLoop ?_
            refine fi_seq ?_
            refine fi_seq ?_
            refine fi_region ?_
            refine so_move rfl ?_
            refine so_move rfl ?_
            refine so_bin rfl rfl ab_lss ?_
            refine so_nil ?_
            replace h := ofP h; rcases h with ⟨c437, h⟩ | ⟨c437, h⟩
            · refine fi_true rfl (decide_eq_true c437) ?_
              refine fi_skip ?_
              refine fi_seq ?_
              refine fi_block ?_
              refine fi_seq ?_
              refine fi_region ?_
              refine so_move rfl ?_
              refine so_move rfl ?_
              obtain ⟨c438, h⟩ := h
              refine sv_idx (hs.shows 1 rfl) c438 (fun _ => rfl) (by decide) rfl rfl F7.tl29 ?_
              refine sv_cell (hs.shows 1 rfl) c438 false 0 (fun x => (AV.bool x)) (fun _ => rfl) (fun _ => rfl) rfl F7.ag4 ?_
              refine so_move rfl ?_
              replace h := ofT h; rcases h with ⟨c439, h⟩ | ⟨c439, h⟩
              · refine so_gyes rfl c439 ?_
                refine so_move rfl ?_
                refine so_gyes rfl c439 ?_
                refine so_move rfl ?_
                refine so_gyes rfl c439 ?_
                obtain ⟨c440, h⟩ := h
                refine sv_idx (hs.shows 2 rfl) c440 (fun _ => rfl) (by decide) rfl rfl F7.tl22 ?_
                refine so_gyes rfl c439 ?_
                refine sv_cell (hs.shows 2 rfl) c440 (0 : Int) 0 (fun x => (AV.int .i64 x)) (fun _ => rfl) (fun _ => rfl) rfl F7.ag2 ?_
                refine so_gyes rfl c439 ?_
                refine so_bin rfl rfl ab_lss ?_
                refine so_gyes rfl c439 ?_
                refine so_move rfl ?_
                replace h := ofP h; rcases h with ⟨c441, h⟩ | ⟨c441, h⟩
                · refine so_gno rfl (decide_eq_true c441) ?_
                  refine so_gno rfl (decide_eq_true c441) ?_
                  refine so_gno rfl (decide_eq_true c441) ?_
                  refine so_gno rfl (decide_eq_true c441) ?_
                  refine so_gno rfl (decide_eq_true c441) ?_
                  refine so_gno rfl (decide_eq_true c441) ?_
                  refine so_gno rfl (decide_eq_true c441) ?_
                  refine so_gno rfl (decide_eq_true c441) ?_
                  refine so_gyes rfl c439 ?_
                  refine so_pick_t rfl (decide_eq_true c441) rfl ?_
                  refine so_pick_t rfl c439 rfl ?_
                  refine so_nil ?_
                  refine fi_true rfl rfl ?_
                  refine fi_region ?_
                  refine so_move rfl ?_
                  refine so_move rfl ?_
                  refine sv_bslice hs (eInt .i64) ([i436] : List (Int)) [[(.int .i64 i436)]] F7.te22 F7.sz2 F7.ze2 rfl rfl rfl rfl (fun _ => rfl) rfl (by decide) nofun (fun v442 H443 nv442 hs => ?_)
                  obtain ⟨c447, h⟩ := h
                  refine sv_app hs 1 rfl (hs.shows 0 rfl) (fun _ => rfl) (by decide) F7.ta22_22 (by decide) c447 rfl rfl nofun (fun v445 H446 kv445 hs => ?_)
                  replace hs := hs.del 0
                  have nv445 := kv445 nv435
                  refine so_assign rfl ?_
                  refine so_nil ?_
                  refine fi_inBlock ?_
                  refine fi_region ?_
                  refine so_move rfl ?_
                  refine so_bin rfl rfl ab_add ?_
                  refine so_assign rfl ?_
                  refine so_nil ?_
                  exact fi_at [(8, (.v (.int .i64 (l0.length : Int)))), (9, (.v v292)), (10, (.v v290)), (14, (.v v445)), (15, (.v (.int .i64 (IntKind.i64.wrap (i436 + (1 : Int))))))] ⟨rfl, rfl, rfl, rfl, rfl, trivial⟩ (h _ _ _ nv445 hs)
                · refine so_gyes rfl (decide_eq_false c441) ?_
                  refine so_move rfl ?_
                  refine so_gyes rfl (decide_eq_false c441) ?_
                  refine so_move rfl ?_
                  refine so_gyes rfl (decide_eq_false c441) ?_
                  refine so_move rfl ?_
                  refine so_gyes rfl (decide_eq_false c441) ?_
                  refine sv_idx (hs.shows 2 rfl) c440 (fun _ => rfl) (by decide) rfl rfl F7.tl22 ?_
                  refine so_gyes rfl (decide_eq_false c441) ?_
                  refine sv_cell (hs.shows 2 rfl) c440 (0 : Int) 0 (fun x => (AV.int .i64 x)) (fun _ => rfl) (fun _ => rfl) rfl F7.ag2 ?_
                  refine so_gyes rfl (decide_eq_false c441) ?_
                  obtain ⟨c448, h⟩ := h
                  refine sv_idx (hs.shows 1 rfl) c448 (fun _ => rfl) (by decide) rfl rfl F7.tl29 ?_
                  refine so_gyes rfl (decide_eq_false c441) ?_
                  refine sv_cell (hs.shows 1 rfl) c448 false 0 (fun x => (AV.bool x)) (fun _ => rfl) (fun _ => rfl) rfl F7.ag4 ?_
                  refine so_gyes rfl (decide_eq_false c441) ?_
                  refine so_un rfl au_not ?_
                  refine so_gyes rfl c439 ?_
                  refine so_pick_f rfl (decide_eq_false c441) rfl ?_
                  refine so_pick_t rfl c439 rfl ?_
                  refine so_nil ?_
                  replace h := ofT h; rcases h with ⟨c449, h⟩ | ⟨c449, h⟩
                  · refine fi_false rfl (not_f c449) ?_
                    refine fi_skip ?_
                    refine fi_inBlock ?_
                    refine fi_region ?_
                    refine so_move rfl ?_
                    refine so_bin rfl rfl ab_add ?_
                    refine so_assign rfl ?_
                    refine so_nil ?_
                    exact fi_at [(8, (.v (.int .i64 (l0.length : Int)))), (9, (.v v292)), (10, (.v v290)), (14, (.v v435)), (15, (.v (.int .i64 (IntKind.i64.wrap (i436 + (1 : Int))))))] ⟨rfl, rfl, rfl, rfl, rfl, trivial⟩ (h _ _ _ nv435 hs)
                  · refine fi_true rfl (not_t c449) ?_
                    refine fi_region ?_
                    refine so_move rfl ?_
                    refine so_move rfl ?_
                    refine sv_bslice hs (eInt .i64) ([i436] : List (Int)) [[(.int .i64 i436)]] F7.te22 F7.sz2 F7.ze2 rfl rfl rfl rfl (fun _ => rfl) rfl (by decide) nofun (fun v450 H451 nv450 hs => ?_)
                    obtain ⟨c455, h⟩ := h
                    refine sv_app hs 1 rfl (hs.shows 0 rfl) (fun _ => rfl) (by decide) F7.ta22_22 (by decide) c455 rfl rfl nofun (fun v453 H454 kv453 hs => ?_)
                    replace hs := hs.del 0
                    have nv453 := kv453 nv435
                    refine so_assign rfl ?_
                    refine so_nil ?_
                    refine fi_inBlock ?_
                    refine fi_region ?_
                    refine so_move rfl ?_
                    refine so_bin rfl rfl ab_add ?_
                    refine so_assign rfl ?_
                    refine so_nil ?_
                    exact fi_at [(8, (.v (.int .i64 (l0.length : Int)))), (9, (.v v292)), (10, (.v v290)), (14, (.v v453)), (15, (.v (.int .i64 (IntKind.i64.wrap (i436 + (1 : Int))))))] ⟨rfl, rfl, rfl, rfl, rfl, trivial⟩ (h _ _ _ nv453 hs)
              · refine so_gno rfl c439 ?_
                refine so_gno rfl c439 ?_
                refine so_gno rfl c439 ?_
                refine so_gno rfl c439 ?_
                refine so_gno rfl c439 ?_
                refine so_gno rfl c439 ?_
                refine so_gund rfl ?_
                refine so_gund rfl ?_
                refine so_gund rfl ?_
                refine so_gund rfl ?_
                refine so_gund rfl ?_
                refine so_gund rfl ?_
                refine so_gund rfl ?_
                refine so_gund rfl ?_
                refine so_gno rfl c439 ?_
                refine so_pick_f rfl c439 rfl ?_
                refine so_nil ?_
                refine fi_false rfl rfl ?_
                refine fi_skip ?_
                refine fi_inBlock ?_
                refine fi_region ?_
                refine so_move rfl ?_
                refine so_bin rfl rfl ab_add ?_
                refine so_assign rfl ?_
                refine so_nil ?_
                exact fi_at [(8, (.v (.int .i64 (l0.length : Int)))), (9, (.v v292)), (10, (.v v290)), (14, (.v v435)), (15, (.v (.int .i64 (IntKind.i64.wrap (i436 + (1 : Int))))))] ⟨rfl, rfl, rfl, rfl, rfl, trivial⟩ (h _ _ _ nv435 hs)
            · refine fi_false rfl (decide_eq_false c437) ?_
              refine fi_exit rfl ?_
              refine fi_seq ?_
              refine fi_region ?_
              refine so_move rfl ?_
              refine so_assign rfl ?_
              refine so_assign rfl ?_
              refine so_nil ?_
              exact by_ret rfl ⟨_, _, h, _, rfl, (Sep.del 1 (Sep.del 1 hs))⟩
      · refine fi_true rfl (not_t c109) ?_
        refine fi_seq ?_
        refine fi_region ?_
        refine so_assign rfl ?_
        refine so_assign rfl ?_
        refine so_nil ?_
        exact by_ret rfl ⟨_, _, h, _, rfl, (Sep.nil hs 1)⟩
    · refine so_gno rfl (not_t c106) ?_
      refine so_gno rfl (not_t c106) ?_
      refine so_gno rfl (not_t c106) ?_
      refine so_pick_t rfl (not_t c106) rfl ?_
      refine so_nil ?_
      refine fi_true rfl rfl ?_
      refine fi_seq ?_
      refine fi_region ?_
      refine so_assign rfl ?_
      refine so_assign rfl ?_
      refine so_nil ?_
      exact by_ret rfl ⟨_, _, h, _, rfl, (Sep.nil hs 1)⟩
  · refine so_gno rfl (not_t c103) ?_
    refine so_gno rfl (not_t c103) ?_
    refine so_gno rfl (not_t c103) ?_
    refine so_pick_t rfl (not_t c103) rfl ?_
    refine so_move rfl ?_
    refine so_gno rfl rfl ?_
    refine so_gno rfl rfl ?_
    refine so_gno rfl rfl ?_
    refine so_pick_t rfl rfl rfl ?_
    refine so_nil ?_
    refine fi_true rfl rfl ?_
    refine fi_seq ?_
    refine fi_region ?_
    refine so_assign rfl ?_
    refine so_assign rfl ?_
    refine so_nil ?_
    exact by_ret rfl ⟨_, _, h, _, rfl, (Sep.nil hs 1)⟩

end Go.Proofs.Ytplfnchoooehgaa.G

namespace Go.Proofs.Ytplfnchoooehgaa.G
open Go Go.Ab Go.Proofs Go.Proofs.Ytplfnchoooehgaa
set_option maxRecDepth 100000
set_option linter.unusedVariables false
set_option linter.unusedSimpArgs false
set_option maxHeartbeats 1000000
theorem F8.ag2 : tagg Try.prog 2 = some false := by kernel_rfl
theorem F8.by2 : tbytes Try.prog 2 = some 8 := by kernel_rfl
theorem F8.sz2 : tsz Try.prog 2 = some 1 := by kernel_rfl
theorem F8.te22 : telem Try.prog 22 = some 2 := by kernel_rfl
theorem F8.ti22 : (telem Try.prog 22).isSome = true := by kernel_rfl
theorem F8.tl22 : (telem Try.prog 22).bind (tsz Try.prog) = some 1 := by kernel_rfl
theorem F8.ze2 : tzero Try.prog 2 = some [(.int .i64 (0 : Int))] := by kernel_rfl
theorem laws_toInt64S_ok {fr : List Pc} {H : Heap} (v0 : AV) (l0 : List (Int)) (hs : Sep H (fr)) (g0 : ∀ H, Sep H fr → Shows H v0 1 (enc (eInt .i64) l0)) (K : (List (Int)) → Prop) (h : laws_toInt64S.wp l0 K) : OkQ Try.prog 8 [(.v v0)] H (fun r H2 => ∃ (y0 : List (Int)), K y0 ∧ ∃ (w0_ : AV), r = (.v w0_) ∧ Sep H2 (Pc.osl w0_ 1 (enc (eInt .i64) y0) :: fr)) := by
  unfold laws_toInt64S.wp at h
  refine of_body Try.f8 F.hm Try.func8 rfl Try.call8 (by kernel_rfl) (by simp) ?_
  refine fi_seq ?_
  refine fi_region ?_
  refine so_assign rfl ?_
  refine so_nil ?_
  refine fi_seq ?_
  refine fi_region ?_
  refine so_move rfl ?_
  refine sv_len (g0 _ hs) (fun _ => rfl) (by decide) rfl F8.ti22 ?_
  obtain ⟨c101, h⟩ := h
  refine sv_make hs (eInt .i64) (0 : Int) c101 (fun _ => rfl) rfl rfl F8.te22 F8.sz2 F8.by2 F8.ze2 rfl rfl nofun (fun v102 H103 nv102 hs => ?_)
  refine so_assign rfl ?_
  refine so_nil ?_
  refine fi_seq ?_
  refine fi_seq ?_
  refine fi_region ?_
  refine so_assign rfl ?_
  refine so_nil ?_
  refine fi_block ?_
  refine fi_loop ?_
  refine fi_at [(0, (.v v0)), (3, (.v v102)), (4, (.v (.int .i64 (0 : Int))))] ⟨rfl, rfl, rfl, trivial⟩ ?_
  refine h (fun (out112 : List (Int)) (i113 : Int) => ∀ (s : Nat → TV) (H : Heap), Sep H (Pc.osl v102 1 (enc (eInt .i64) out112) :: fr) → Fin _ _ (updL s [(0, (.v v0)), (3, (.v v102)), (4, (.v (.int .i64 i113)))]) H _) ?_ _ _ hs
  intro out112 i113 h s118 H119 hs
  refine fi_inLoop ?_
  refine fi_seq ?_
  refine fi_seq ?_
  refine fi_region ?_
  refine so_move rfl ?_
  refine so_move rfl ?_
  refine sv_len (g0 _ hs.tl) (fun _ => rfl) (by decide) rfl F8.ti22 ?_
  refine so_bin rfl rfl ab_lss ?_
  refine so_nil ?_
  replace h := ofP h; rcases h with ⟨c114, h⟩ | ⟨c114, h⟩
  · refine fi_true rfl (decide_eq_true c114) ?_
    refine fi_skip ?_
    refine fi_seq ?_
    refine fi_block ?_
    refine fi_region ?_
    refine so_move rfl ?_
    refine so_move rfl ?_
    refine so_move rfl ?_
    refine so_move rfl ?_
    obtain ⟨c115, h⟩ := h
    refine sv_idx (g0 _ hs.tl) c115 (fun _ => rfl) (by decide) rfl rfl F8.tl22 ?_
    refine sv_cell (g0 _ hs.tl) c115 (0 : Int) 0 (fun x => (AV.int .i64 x)) (fun _ => rfl) (fun _ => rfl) rfl F8.ag2 ?_
    obtain ⟨c116, h⟩ := h
    refine sv_idx (hs.shows 0 rfl) c116 (fun _ => rfl) (by decide) rfl rfl F8.tl22 ?_
    refine sv_set hs 0 rfl c116 (l0.getD (i113).toNat (0 : Int)) (fun _ => rfl) (by decide) rfl rfl rfl rfl F8.sz2 nofun (fun H117 hs => ?_)
    refine so_nil ?_
    refine fi_inBlock ?_
    refine fi_region ?_
    refine so_move rfl ?_
    refine so_bin rfl rfl ab_add ?_
    refine so_assign rfl ?_
    refine so_nil ?_
    exact fi_at [(0, (.v v0)), (3, (.v v102)), (4, (.v (.int .i64 (IntKind.i64.wrap (i113 + (1 : Int))))))] ⟨rfl, rfl, rfl, trivial⟩ (h _ _  hs)
  · refine fi_false rfl (decide_eq_false c114) ?_
    refine fi_exit rfl ?_
    refine fi_seq ?_
    refine fi_region ?_
    refine so_move rfl ?_
    refine so_assign rfl ?_
    refine so_nil ?_
    exact by_ret rfl ⟨_, h, _, rfl, hs⟩

end Go.Proofs.Ytplfnchoooehgaa.G

namespace Go.Proofs.Ytplfnchoooehgaa.G
open Go Go.Ab Go.Proofs Go.Proofs.Ytplfnchoooehgaa
set_option maxRecDepth 100000
set_option linter.unusedVariables false
set_option linter.unusedSimpArgs false
set_option maxHeartbeats 1000000
theorem impl_within_ok {fr : List Pc} {H : Heap} (a0 : Int) (a1 : Int) (a2 : Int) (hs : Sep H (fr))  (K : Bool → Prop) (h : impl_within.wp a0 a1 a2 K) : OkQ Try.prog 36 [(.v (.int .i64 a0)), (.v (.int .i64 a1)), (.v (.int .i64 a2))] H (fun r H2 => ∃ (y0 : Bool), K y0 ∧ r = (.v (.bool y0)) ∧ Sep H2 (fr)) := by
  unfold impl_within.wp at h
  refine of_body Try.f36 F.hm Try.func36 rfl Try.call36 (by kernel_rfl) (by simp) ?_
  refine fi_seq ?_
  refine fi_region ?_
  refine so_assign rfl ?_
  refine so_nil ?_
  refine fi_seq ?_
  refine fi_region ?_
  refine so_move rfl ?_
  refine so_move rfl ?_
  refine so_bin rfl rfl ab_geq ?_
  refine so_move rfl ?_
  replace h := ofP h; rcases h with ⟨c101, h⟩ | ⟨c101, h⟩
  · refine so_gyes rfl (decide_eq_true c101) ?_
    refine so_move rfl ?_
    refine so_gyes rfl (decide_eq_true c101) ?_
    refine so_move rfl ?_
    refine so_gyes rfl (decide_eq_true c101) ?_
    refine so_bin rfl rfl ab_leq ?_
    refine so_pick_t rfl (decide_eq_true c101) rfl ?_
    refine so_assign rfl ?_
    refine so_nil ?_
    exact by_ret rfl ⟨_, h, rfl, hs⟩
  · refine so_gno rfl (decide_eq_false c101) ?_
    refine so_gno rfl (decide_eq_false c101) ?_
    refine so_gno rfl (decide_eq_false c101) ?_
    refine so_pick_f rfl (decide_eq_false c101) rfl ?_
    refine so_assign rfl ?_
    refine so_nil ?_
    exact by_ret rfl ⟨_, h, rfl, hs⟩

end Go.Proofs.Ytplfnchoooehgaa.G

namespace Go.Proofs.Ytplfnchoooehgaa.G
open Go Go.Ab Go.Proofs Go.Proofs.Ytplfnchoooehgaa
set_option maxRecDepth 100000
set_option linter.unusedVariables false
set_option linter.unusedSimpArgs false
set_option maxHeartbeats 1000000
theorem F55.sz2 : tsz Try.prog 2 = some 1 := by kernel_rfl
theorem F55.ta22_22 : tapp Try.prog 22 22 = some (1, 8) := by kernel_rfl
theorem F55.te22 : telem Try.prog 22 = some 2 := by kernel_rfl
theorem F55.ze2 : tzero Try.prog 2 = some [(.int .i64 (0 : Int))] := by kernel_rfl
theorem impl_BandSizes_ok {fr : List Pc} {H : Heap} (a0 : Int) (a1 : Int) (hs : Sep H (fr))  (K : (List (Int)) → Bool → Prop) (h : impl_BandSizes.wp a0 a1 K) : OkQ Try.prog 55 [(.v (.int .i64 a0)), (.v (.int .i64 a1))] H (fun r H2 => ∃ (y0 : List (Int)) (y1 : Bool), K y0 y1 ∧ ∃ (w0_ : AV), r = (.t [(.v w0_), (.v (.bool y1))]) ∧ Sep H2 (Pc.osl w0_ 1 (enc (eInt .i64) y0) :: fr)) := by
  unfold impl_BandSizes.wp at h
  refine of_body Try.f55 F.hm Try.func55 rfl Try.call55 (by kernel_rfl) (by simp) ?_
  refine fi_seq ?_
  refine fi_region ?_
  refine so_assign rfl ?_
  refine so_assign rfl ?_
  refine so_nil ?_
  refine fi_seq ?_
  refine fi_seq ?_
  refine fi_region ?_
  refine so_move rfl ?_
  refine sv_call (impl_within_ok a0 (1 : Int) (128 : Int) hs  _ h) rfl rfl nofun ?_
  clear h hs
  rintro _ H102 ⟨y101, h, rfl, hs⟩
  refine so_un rfl au_not ?_
  refine so_move rfl ?_
  replace h := ofT h; rcases h with ⟨c103, h⟩ | ⟨c103, h⟩
  · refine so_gyes rfl (not_f c103) ?_
    refine so_move rfl ?_
    refine so_gyes rfl (not_f c103) ?_
    refine sv_call (impl_within_ok a1 (1 : Int) (6 : Int) hs  _ h) rfl rfl nofun ?_
    clear h hs
    rintro _ H105 ⟨y104, h, rfl, hs⟩
    refine so_gyes rfl (not_f c103) ?_
    refine so_un rfl au_not ?_
    refine so_pick_f rfl (not_f c103) rfl ?_
    refine so_nil ?_
    replace h := ofT h; rcases h with ⟨c106, h⟩ | ⟨c106, h⟩
    · refine fi_false rfl (not_f c106) ?_
      refine fi_skip ?_
      refine fi_seq ?_
      refine fi_region ?_
      refine sv_bslice hs (eInt .i64) ([] : List (Int)) [] F55.te22 F55.sz2 F55.ze2 rfl rfl rfl rfl (fun _ => rfl) rfl (by decide) nofun (fun v107 H108 nv107 hs => ?_)
      refine so_assign rfl ?_
      refine so_nil ?_
      refine fi_seq ?_
      refine fi_seq ?_
      refine fi_region ?_
      refine so_assign rfl ?_
      refine so_nil ?_
      refine fi_block ?_
      refine fi_loop ?_
      refine fi_at [(0, (.v (.int .i64 a0))), (1, (.v (.int .i64 a1))), (6, (.v v107)), (7, (.v (.int .i64 (0 : Int))))] ⟨rfl, rfl, rfl, rfl, trivial⟩ ?_
      refine h (fun (out136 : List (Int)) (n138 : Int) (k139 : Int) => ∀ (s : Nat → TV) (H : Heap) (v137 : AV) (nv137 : v137 ≠ .nilsl), Sep H (Pc.osl v137 1 (enc (eInt .i64) out136) :: fr) → Fin _ _ (updL s [(0, (.v (.int .i64 n138))), (1, (.v (.int .i64 a1))), (6, (.v v137)), (7, (.v (.int .i64 k139)))]) H _) ?_ _ _ _ nv107 hs
      intro out136 n138 k139 h s160 H161 v137 nv137 hs
      refine fi_inLoop ?_
      refine fi_seq ?_
      refine fi_seq ?_
      refine fi_region ?_
      refine so_move rfl ?_
      refine so_move rfl ?_
      refine so_bin rfl rfl ab_lss ?_
      refine so_move rfl ?_
      replace h := ofP h; rcases h with ⟨c140, h⟩ | ⟨c140, h⟩
      · refine so_gyes rfl (decide_eq_true c140) ?_
        refine so_move rfl ?_
        refine so_gyes rfl (decide_eq_true c140) ?_
        refine so_bin rfl rfl ab_gtr ?_
        refine so_pick_t rfl (decide_eq_true c140) rfl ?_
        refine so_nil ?_
        replace h := ofP h; rcases h with ⟨c141, h⟩ | ⟨c141, h⟩
        · refine fi_true rfl (decide_eq_true c141) ?_
          refine fi_skip ?_
          refine fi_seq ?_
          refine fi_block ?_
          refine fi_seq ?_
          refine fi_region ?_
          refine so_move rfl ?_
          refine so_move rfl ?_
          refine so_bin rfl rfl (ab_quo (by decide)) ?_
          refine sv_bslice hs (eInt .i64) ([(IntKind.i64.wrap (Int.tdiv n138 (2 : Int)))] : List (Int)) [[(.int .i64 (IntKind.i64.wrap (Int.tdiv n138 (2 : Int))))]] F55.te22 F55.sz2 F55.ze2 rfl rfl rfl rfl (fun _ => rfl) rfl (by decide) nofun (fun v142 H143 nv142 hs => ?_)
          obtain ⟨c147, h⟩ := h
          refine sv_app hs 1 rfl (hs.shows 0 rfl) (fun _ => rfl) (by decide) F55.ta22_22 (by decide) c147 rfl rfl nofun (fun v145 H146 kv145 hs => ?_)
          replace hs := hs.del 0
          have nv145 := kv145 nv137
          refine so_assign rfl ?_
          refine so_nil ?_
          refine fi_region ?_
          refine so_move rfl ?_
          refine so_move rfl ?_
          refine so_bin rfl rfl (ab_quo (by decide)) ?_
          refine so_bin rfl rfl ab_sub ?_
          refine so_assign rfl ?_
          refine so_nil ?_
          refine fi_inBlock ?_
          refine fi_region ?_
          refine so_move rfl ?_
          refine so_bin rfl rfl ab_add ?_
          refine so_assign rfl ?_
          refine so_nil ?_
          exact fi_at [(0, (.v (.int .i64 (IntKind.i64.wrap (n138 - (IntKind.i64.wrap (Int.tdiv n138 (2 : Int)))))))), (1, (.v (.int .i64 a1))), (6, (.v v145)), (7, (.v (.int .i64 (IntKind.i64.wrap (k139 + (1 : Int))))))] ⟨rfl, rfl, rfl, rfl, trivial⟩ (h _ _ _ nv145 hs)
        · refine fi_false rfl (decide_eq_false c141) ?_
          refine fi_exit rfl ?_
          refine fi_seq ?_
          refine fi_region ?_
          refine so_move rfl ?_
          refine so_move rfl ?_
          refine sv_bslice hs (eInt .i64) ([n138] : List (Int)) [[(.int .i64 n138)]] F55.te22 F55.sz2 F55.ze2 rfl rfl rfl rfl (fun _ => rfl) rfl (by decide) nofun (fun v148 H149 nv148 hs => ?_)
          obtain ⟨c153, h⟩ := h
          refine sv_app hs 1 rfl (hs.shows 0 rfl) (fun _ => rfl) (by decide) F55.ta22_22 (by decide) c153 rfl rfl nofun (fun v151 H152 kv151 hs => ?_)
          replace hs := hs.del 0
          have nv151 := kv151 nv137
          refine so_assign rfl ?_
          refine so_assign rfl ?_
          refine so_nil ?_
          exact by_ret rfl ⟨_, _, h, _, rfl, hs⟩
      · refine so_gno rfl (decide_eq_false c140) ?_
        refine so_gno rfl (decide_eq_false c140) ?_
        refine so_pick_f rfl (decide_eq_false c140) rfl ?_
        refine so_nil ?_
        refine fi_false rfl rfl ?_
        refine fi_exit rfl ?_
        refine fi_seq ?_
        refine fi_region ?_
        refine so_move rfl ?_
        refine so_move rfl ?_
        refine sv_bslice hs (eInt .i64) ([n138] : List (Int)) [[(.int .i64 n138)]] F55.te22 F55.sz2 F55.ze2 rfl rfl rfl rfl (fun _ => rfl) rfl (by decide) nofun (fun v154 H155 nv154 hs => ?_)
        obtain ⟨c159, h⟩ := h
        refine sv_app hs 1 rfl (hs.shows 0 rfl) (fun _ => rfl) (by decide) F55.ta22_22 (by decide) c159 rfl rfl nofun (fun v157 H158 kv157 hs => ?_)
        replace hs := hs.del 0
        have nv157 := kv157 nv137
        refine so_assign rfl ?_
        refine so_assign rfl ?_
        refine so_nil ?_
        exact by_ret rfl ⟨_, _, h, _, rfl, hs⟩
    · refine fi_true rfl (not_t c106) ?_
      refine fi_seq ?_
      refine fi_region ?_
      refine so_assign rfl ?_
      refine so_assign rfl ?_
      refine so_nil ?_
      exact by_ret rfl ⟨_, _, h, _, rfl, (Sep.nil hs 1)⟩
  · refine so_gno rfl (not_t c103) ?_
    refine so_gno rfl (not_t c103) ?_
    refine so_gno rfl (not_t c103) ?_
    refine so_pick_t rfl (not_t c103) rfl ?_
    refine so_nil ?_
    refine fi_true rfl rfl ?_
    refine fi_seq ?_
    refine fi_region ?_
    refine so_assign rfl ?_
    refine so_assign rfl ?_
    refine so_nil ?_
    exact by_ret rfl ⟨_, _, h, _, rfl, (Sep.nil hs 1)⟩

end Go.Proofs.Ytplfnchoooehgaa.G

namespace Go.Proofs.Ytplfnchoooehgaa.G
open Go Go.Ab Go.Proofs Go.Proofs.Ytplfnchoooehgaa
set_option maxRecDepth 100000
set_option linter.unusedVariables false
set_option linter.unusedSimpArgs false
set_option maxHeartbeats 1000000
theorem F56.ag2 : tagg Try.prog 2 = some false := by kernel_rfl
theorem F56.sz2 : tsz Try.prog 2 = some 1 := by kernel_rfl
theorem F56.ta22_22 : tapp Try.prog 22 22 = some (1, 8) := by kernel_rfl
theorem F56.te22 : telem Try.prog 22 = some 2 := by kernel_rfl
theorem F56.ti22 : (telem Try.prog 22).isSome = true := by kernel_rfl
theorem F56.tl22 : (telem Try.prog 22).bind (tsz Try.prog) = some 1 := by kernel_rfl
theorem F56.ze2 : tzero Try.prog 2 = some [(.int .i64 (0 : Int))] := by kernel_rfl
theorem impl_parents_ok {fr : List Pc} {H : Heap} (v0 : AV) (l0 : List (Int)) (hs : Sep H (fr)) (g0 : ∀ H, Sep H fr → Shows H v0 1 (enc (eInt .i64) l0)) (K : (List (Int)) → Prop) (h : impl_parents.wp l0 K) : OkQ Try.prog 56 [(.v v0)] H (fun r H2 => ∃ (y0 : List (Int)), K y0 ∧ ∃ (w0_ : AV), r = (.v w0_) ∧ Sep H2 (Pc.osl w0_ 1 (enc (eInt .i64) y0) :: fr)) := by
  unfold impl_parents.wp at h
  refine of_body Try.f56 F.hm Try.func56 rfl Try.call56 (by kernel_rfl) (by simp) ?_
  refine fi_seq ?_
  refine fi_region ?_
  refine so_assign rfl ?_
  refine so_nil ?_
  refine fi_seq ?_
  refine fi_region ?_
  refine so_move rfl ?_
  refine sv_len (g0 _ hs) (fun _ => rfl) (by decide) rfl F56.ti22 ?_
  refine so_bin rfl rfl ab_sub ?_
  refine so_assign rfl ?_
  refine so_nil ?_
  refine fi_seq ?_
  refine fi_region ?_
  refine sv_bslice hs (eInt .i64) ([] : List (Int)) [] F56.te22 F56.sz2 F56.ze2 rfl rfl rfl rfl (fun _ => rfl) rfl (by decide) nofun (fun v101 H102 nv101 hs => ?_)
  refine so_assign rfl ?_
  refine so_nil ?_
  refine fi_seq ?_
  refine fi_region ?_
  refine so_assign rfl ?_
  refine so_nil ?_
  refine fi_seq ?_
  refine fi_seq ?_
  refine fi_region ?_
  refine so_move rfl ?_
  refine so_assign rfl ?_
  refine so_nil ?_
  refine fi_block ?_
  refine fi_loop ?_
  refine fi_at [(0, (.v v0)), (3, (.v (.int .i64 (IntKind.i64.wrap ((l0.length : Int) - (1 : Int)))))), (4, (.v v101)), (5, (.v (.int .i64 (0 : Int)))), (6, (.v (.int .i64 (IntKind.i64.wrap ((l0.length : Int) - (1 : Int))))))] ⟨rfl, rfl, rfl, rfl, rfl, trivial⟩ ?_
  refine h (fun (out152 : List (Int)) (start154 : Int) (b155 : Int) => ∀ (s : Nat → TV) (H : Heap) (v153 : AV) (nv153 : v153 ≠ .nilsl), Sep H (Pc.osl v153 1 (enc (eInt .i64) out152) :: fr) → Fin _ _ (updL s [(0, (.v v0)), (3, (.v (.int .i64 (IntKind.i64.wrap ((l0.length : Int) - (1 : Int)))))), (4, (.v v153)), (5, (.v (.int .i64 start154))), (6, (.v (.int .i64 b155)))]) H _) ?_ _ _ _ nv101 hs
  intro out152 start154 b155 h s198 H199 v153 nv153 hs
  refine fi_inLoop ?_
  refine fi_seq ?_
  refine fi_seq ?_
  refine fi_region ?_
  refine so_move rfl ?_
  refine so_bin rfl rfl ab_geq ?_
  refine so_nil ?_
  replace h := ofP h; rcases h with ⟨c156, h⟩ | ⟨c156, h⟩
  · refine fi_true rfl (decide_eq_true c156) ?_
    refine fi_skip ?_
    refine fi_seq ?_
    refine fi_block ?_
    refine fi_seq ?_
    refine fi_seq ?_
    refine fi_region ?_
    refine so_move rfl ?_
    refine so_move rfl ?_
    obtain ⟨c157, h⟩ := h
    refine sv_idx (g0 _ hs.tl) c157 (fun _ => rfl) (by decide) rfl rfl F56.tl22 ?_
    refine sv_cell (g0 _ hs.tl) c157 (0 : Int) 0 (fun x => (AV.int .i64 x)) (fun _ => rfl) (fun _ => rfl) rfl F56.ag2 ?_
    refine so_move rfl ?_
    refine so_nil ?_
    refine fi_block ?_
    refine fi_loop ?_
    refine fi_at [(0, (.v v0)), (3, (.v (.int .i64 (IntKind.i64.wrap ((l0.length : Int) - (1 : Int)))))), (4, (.v v153)), (5, (.v (.int .i64 start154))), (6, (.v (.int .i64 b155))), (20, (.v (.int .i64 (l0.getD (b155).toNat (0 : Int))))), (21, (.v (.int .i64 (0 : Int))))] ⟨rfl, rfl, rfl, rfl, rfl, rfl, rfl, trivial⟩ ?_
    refine h (fun (out178 : List (Int)) (x180 : Int) => ∀ (s : Nat → TV) (H : Heap) (v179 : AV) (nv179 : v179 ≠ .nilsl), Sep H (Pc.osl v179 1 (enc (eInt .i64) out178) :: fr) → Fin _ _ (updL s [(0, (.v v0)), (3, (.v (.int .i64 (IntKind.i64.wrap ((l0.length : Int) - (1 : Int)))))), (4, (.v v179)), (5, (.v (.int .i64 start154))), (6, (.v (.int .i64 b155))), (20, (.v (.int .i64 (l0.getD (b155).toNat (0 : Int))))), (21, (.v (.int .i64 x180)))]) H _) ?_ _ _ _ nv153 hs
    intro out178 x180 h s196 H197 v179 nv179 hs
    refine fi_inLoop ?_
    refine fi_seq ?_
    refine fi_region ?_
    refine so_bin rfl rfl ab_lss ?_
    refine so_nil ?_
    refine fi_seq ?_
    replace h := ofP h; rcases h with ⟨c181, h⟩ | ⟨c181, h⟩
    · refine fi_true rfl (decide_eq_true c181) ?_
      refine fi_skip ?_
      refine fi_seq ?_
      refine fi_block ?_
      refine fi_seq ?_
      refine fi_region ?_
      refine so_move rfl ?_
      refine so_assign rfl ?_
      refine so_nil ?_
      refine fi_seq ?_
      refine fi_seq ?_
      refine fi_region ?_
      refine so_move rfl ?_
      refine so_move rfl ?_
      refine so_bin rfl rfl ab_sub ?_
      refine so_bin rfl rfl ab_geq ?_
      refine so_nil ?_
      replace h := ofP h; rcases h with ⟨c182, h⟩ | ⟨c182, h⟩
      · refine fi_true rfl (decide_eq_true c182) ?_
        refine fi_seq ?_
        refine fi_region ?_
        refine so_move rfl ?_
        refine sv_bslice hs (eInt .i64) ([(-1 : Int)] : List (Int)) [[(.int .i64 (-1 : Int))]] F56.te22 F56.sz2 F56.ze2 rfl rfl rfl rfl (fun _ => rfl) rfl (by decide) nofun (fun v183 H184 nv183 hs => ?_)
        obtain ⟨c188, h⟩ := h
        refine sv_app hs 1 rfl (hs.shows 0 rfl) (fun _ => rfl) (by decide) F56.ta22_22 (by decide) c188 rfl rfl nofun (fun v186 H187 kv186 hs => ?_)
        replace hs := hs.del 0
        have nv186 := kv186 nv179
        refine so_assign rfl ?_
        refine so_nil ?_
        refine fi_exit rfl ?_
        refine fi_region ?_
        refine so_bin rfl rfl ab_add ?_
        refine so_move rfl ?_
        refine so_nil ?_
        exact fi_at [(0, (.v v0)), (3, (.v (.int .i64 (IntKind.i64.wrap ((l0.length : Int) - (1 : Int)))))), (4, (.v v186)), (5, (.v (.int .i64 start154))), (6, (.v (.int .i64 b155))), (20, (.v (.int .i64 (l0.getD (b155).toNat (0 : Int))))), (21, (.v (.int .i64 (IntKind.i64.wrap (x180 + (1 : Int))))))] ⟨rfl, rfl, rfl, rfl, rfl, rfl, rfl, trivial⟩ (h _ _ _ nv186 hs)
      · refine fi_false rfl (decide_eq_false c182) ?_
        refine fi_skip ?_
        refine fi_region ?_
        refine so_move rfl ?_
        refine so_move rfl ?_
        refine so_move rfl ?_
        refine so_move rfl ?_
        refine so_bin rfl rfl ab_add ?_
        obtain ⟨c189, h⟩ := h
        refine sv_idx (g0 _ hs.tl) c189 (fun _ => rfl) (by decide) rfl rfl F56.tl22 ?_
        refine sv_cell (g0 _ hs.tl) c189 (0 : Int) 0 (fun x => (AV.int .i64 x)) (fun _ => rfl) (fun _ => rfl) rfl F56.ag2 ?_
        refine so_bin rfl rfl ab_sub ?_
        refine so_move rfl ?_
        refine so_bin rfl rfl (ab_quo (by decide)) ?_
        refine so_move rfl ?_
        refine so_move rfl ?_
        refine so_bin rfl rfl ab_add ?_
        refine sv_idx (g0 _ hs.tl) c189 (fun _ => rfl) (by decide) rfl rfl F56.tl22 ?_
        refine sv_cell (g0 _ hs.tl) c189 (0 : Int) 0 (fun x => (AV.int .i64 x)) (fun _ => rfl) (fun _ => rfl) rfl F56.ag2 ?_
        refine so_bin rfl rfl ab_sub ?_
        refine sv_min rfl rfl ?_
        refine so_bin rfl rfl ab_add ?_
        refine sv_bslice hs (eInt .i64) ([(IntKind.i64.wrap ((IntKind.i64.wrap (start154 - (l0.getD ((IntKind.i64.wrap (b155 + (1 : Int)))).toNat (0 : Int)))) + (mnI (IntKind.i64.wrap (Int.tdiv x180 (2 : Int))) (IntKind.i64.wrap ((l0.getD ((IntKind.i64.wrap (b155 + (1 : Int)))).toNat (0 : Int)) - (1 : Int))))))] : List (Int)) [[(.int .i64 (IntKind.i64.wrap ((IntKind.i64.wrap (start154 - (l0.getD ((IntKind.i64.wrap (b155 + (1 : Int)))).toNat (0 : Int)))) + (mnI (IntKind.i64.wrap (Int.tdiv x180 (2 : Int))) (IntKind.i64.wrap ((l0.getD ((IntKind.i64.wrap (b155 + (1 : Int)))).toNat (0 : Int)) - (1 : Int)))))))]] F56.te22 F56.sz2 F56.ze2 rfl rfl rfl rfl (fun _ => rfl) rfl (by decide) (fun _ => by kernel_rfl) (fun v190 H191 nv190 hs => ?_)
        obtain ⟨c195, h⟩ := h
        refine sv_app hs 1 rfl (hs.shows 0 rfl) (fun _ => rfl) (by decide) F56.ta22_22 (by decide) c195 rfl rfl (fun _ => by kernel_rfl) (fun v193 H194 kv193 hs => ?_)
        replace hs := hs.del 0
        have nv193 := kv193 nv179
        refine so_assign rfl ?_
        refine so_nil ?_
        refine fi_inBlock ?_
        refine fi_region ?_
        refine so_bin rfl rfl ab_add ?_
        refine so_move rfl ?_
        refine so_nil ?_
        exact fi_at [(0, (.v v0)), (3, (.v (.int .i64 (IntKind.i64.wrap ((l0.length : Int) - (1 : Int)))))), (4, (.v v193)), (5, (.v (.int .i64 start154))), (6, (.v (.int .i64 b155))), (20, (.v (.int .i64 (l0.getD (b155).toNat (0 : Int))))), (21, (.v (.int .i64 (IntKind.i64.wrap (x180 + (1 : Int))))))] ⟨rfl, rfl, rfl, rfl, rfl, rfl, rfl, trivial⟩ (h _ _ _ nv193 hs)
    · refine fi_false rfl (decide_eq_false c181) ?_
      refine fi_exit rfl ?_
      refine fi_region ?_
      refine so_move rfl ?_
      refine so_move rfl ?_
      refine so_move rfl ?_
      refine sv_idx (g0 _ hs.tl) c157 (fun _ => rfl) (by decide) rfl rfl F56.tl22 ?_
      refine sv_cell (g0 _ hs.tl) c157 (0 : Int) 0 (fun x => (AV.int .i64 x)) (fun _ => rfl) (fun _ => rfl) rfl F56.ag2 ?_
      refine so_bin rfl rfl ab_add ?_
      refine so_assign rfl ?_
      refine so_nil ?_
      refine fi_inBlock ?_
      refine fi_region ?_
      refine so_move rfl ?_
      refine so_bin rfl rfl ab_sub ?_
      refine so_assign rfl ?_
      refine so_nil ?_
      exact fi_at [(0, (.v v0)), (3, (.v (.int .i64 (IntKind.i64.wrap ((l0.length : Int) - (1 : Int)))))), (4, (.v v179)), (5, (.v (.int .i64 (IntKind.i64.wrap (start154 + (l0.getD (b155).toNat (0 : Int))))))), (6, (.v (.int .i64 (IntKind.i64.wrap (b155 - (1 : Int))))))] ⟨rfl, rfl, rfl, rfl, rfl, trivial⟩ (h _ _ _ nv179 hs)
  · refine fi_false rfl (decide_eq_false c156) ?_
    refine fi_exit rfl ?_
    refine fi_seq ?_
    refine fi_region ?_
    refine so_move rfl ?_
    refine so_assign rfl ?_
    refine so_nil ?_
    exact by_ret rfl ⟨_, h, _, rfl, hs⟩

end Go.Proofs.Ytplfnchoooehgaa.G

namespace Go.Proofs.Ytplfnchoooehgaa.G
open Go Go.Ab Go.Proofs Go.Proofs.Ytplfnchoooehgaa
set_option maxRecDepth 100000
set_option linter.unusedVariables false
set_option linter.unusedSimpArgs false
set_option maxHeartbeats 1000000
theorem impl_parentsOf_ok {fr : List Pc} {H : Heap} (a0 : Int) (a1 : Int) (hs : Sep H (fr))  (K : (List (Int)) → Bool → Prop) (h : impl_parentsOf.wp a0 a1 K) : OkQ Try.prog 34 [(.v (.int .i64 a0)), (.v (.int .i64 a1))] H (fun r H2 => ∃ (y0 : List (Int)) (y1 : Bool), K y0 y1 ∧ ∃ (w0_ : AV), r = (.t [(.v w0_), (.v (.bool y1))]) ∧ Sep H2 (Pc.osl w0_ 1 (enc (eInt .i64) y0) :: fr)) := by
  unfold impl_parentsOf.wp at h
  refine of_body Try.f34 F.hm Try.func34 rfl Try.call34 (by kernel_rfl) (by simp) ?_
  refine fi_seq ?_
  refine fi_region ?_
  refine so_assign rfl ?_
  refine so_assign rfl ?_
  refine so_nil ?_
  refine fi_seq ?_
  refine fi_region ?_
  refine so_move rfl ?_
  refine so_move rfl ?_
  refine sv_call (impl_BandSizes_ok a0 a1 hs  _ h) rfl rfl nofun ?_
  clear h hs
  rintro _ H105 ⟨y101, y104, h, v102, rfl, hs⟩
  refine so_move rfl ?_
  refine so_extract rfl rfl rfl ?_
  refine so_extract rfl rfl rfl ?_
  refine so_assign rfl ?_
  refine so_assign rfl ?_
  refine so_nil ?_
  refine fi_seq ?_
  refine fi_seq ?_
  refine fi_region ?_
  refine so_move rfl ?_
  refine so_un rfl au_not ?_
  refine so_nil ?_
  replace h := ofT h; rcases h with ⟨c106, h⟩ | ⟨c106, h⟩
  · refine fi_false rfl (not_f c106) ?_
    refine fi_skip ?_
    refine fi_seq ?_
    refine fi_region ?_
    refine so_move rfl ?_
    refine sv_call (impl_parents_ok v102 y101 hs (fun _ hs => (hs.shows 0 rfl)) _ h) rfl rfl nofun ?_
    clear h hs
    rintro _ H110 ⟨y107, h, v108, rfl, hs⟩
    refine so_assign rfl ?_
    refine so_assign rfl ?_
    refine so_nil ?_
    exact by_ret rfl ⟨_, _, h, _, rfl, (Sep.del 1 hs)⟩
  · refine fi_true rfl (not_t c106) ?_
    refine fi_seq ?_
    refine fi_region ?_
    refine so_assign rfl ?_
    refine so_assign rfl ?_
    refine so_nil ?_
    exact by_ret rfl ⟨_, _, h, _, rfl, (Sep.nil (Sep.del 0 hs) 1)⟩

end Go.Proofs.Ytplfnchoooehgaa.G

namespace Go.Proofs.Ytplfnchoooehgaa.G
open Go Go.Ab Go.Proofs Go.Proofs.Ytplfnchoooehgaa
set_option maxRecDepth 100000
set_option linter.unusedVariables false
set_option linter.unusedSimpArgs false
set_option maxHeartbeats 1000000
theorem F57.ag2 : tagg Try.prog 2 = some false := by kernel_rfl
theorem F57.ti22 : (telem Try.prog 22).isSome = true := by kernel_rfl
theorem F57.tl22 : (telem Try.prog 22).bind (tsz Try.prog) = some 1 := by kernel_rfl
theorem impl_areWithin_ok {fr : List Pc} {H : Heap} (v0 : AV) (l0 : List (Int)) (a1 : Int) (hs : Sep H (fr)) (g0 : ∀ H, Sep H fr → Shows H v0 1 (enc (eInt .i64) l0)) (K : Bool → Prop) (h : impl_areWithin.wp l0 a1 K) : OkQ Try.prog 57 [(.v v0), (.v (.int .i64 a1))] H (fun r H2 => ∃ (y0 : Bool), K y0 ∧ r = (.v (.bool y0)) ∧ Sep H2 (fr)) := by
  unfold impl_areWithin.wp at h
  refine of_body Try.f57 F.hm Try.func57 rfl Try.call57 (by kernel_rfl) (by simp) ?_
  refine fi_seq ?_
  refine fi_region ?_
  refine so_assign rfl ?_
  refine so_nil ?_
  refine fi_seq ?_
  refine fi_seq ?_
  refine fi_region ?_
  refine so_move rfl ?_
  refine sv_len (g0 _ hs) (fun _ => rfl) (by decide) rfl F57.ti22 ?_
  refine so_move rfl ?_
  refine so_nil ?_
  refine fi_block ?_
  refine fi_loop ?_
  refine fi_at [(1, (.v (.int .i64 a1))), (7, (.v v0)), (8, (.v (.int .i64 (l0.length : Int)))), (9, (.v (.int .i64 (0 : Int))))] ⟨rfl, rfl, rfl, rfl, trivial⟩ ?_
  refine h (fun (x102 : Int) => ∀ (s : Nat → TV) (H : Heap), Sep H (fr) → Fin _ _ (updL s [(1, (.v (.int .i64 a1))), (7, (.v v0)), (8, (.v (.int .i64 (l0.length : Int)))), (9, (.v (.int .i64 x102)))]) H _) ?_ _ _ hs
  intro x102 h s108 H109 hs
  refine fi_inLoop ?_
  refine fi_seq ?_
  refine fi_region ?_
  refine so_bin rfl rfl ab_lss ?_
  refine so_nil ?_
  refine fi_seq ?_
  replace h := ofP h; rcases h with ⟨c103, h⟩ | ⟨c103, h⟩
  · refine fi_true rfl (decide_eq_true c103) ?_
    refine fi_skip ?_
    refine fi_seq ?_
    refine fi_block ?_
    refine fi_seq ?_
    refine fi_region ?_
    obtain ⟨c104, h⟩ := h
    refine sv_idx (g0 _ hs) c104 (fun _ => rfl) (by decide) rfl rfl F57.tl22 ?_
    refine sv_cell (g0 _ hs) c104 (0 : Int) 0 (fun x => (AV.int .i64 x)) (fun _ => rfl) (fun _ => rfl) rfl F57.ag2 ?_
    refine so_assign rfl ?_
    refine so_nil ?_
    refine fi_seq ?_
    refine fi_region ?_
    refine so_move rfl ?_
    refine so_move rfl ?_
    refine so_un rfl au_neg ?_
    refine so_move rfl ?_
    refine sv_call (impl_within_ok (l0.getD (x102).toNat (0 : Int)) (IntKind.i64.wrap (0 - a1)) a1 hs  _ h) rfl rfl nofun ?_
    clear h hs
    rintro _ H106 ⟨y105, h, rfl, hs⟩
    refine so_un rfl au_not ?_
    refine so_nil ?_
    replace h := ofT h; rcases h with ⟨c107, h⟩ | ⟨c107, h⟩
    · refine fi_false rfl (not_f c107) ?_
      refine fi_skip ?_
      refine fi_inBlock ?_
      refine fi_region ?_
      refine so_bin rfl rfl ab_add ?_
      refine so_move rfl ?_
      refine so_nil ?_
      exact fi_at [(1, (.v (.int .i64 a1))), (7, (.v v0)), (8, (.v (.int .i64 (l0.length : Int)))), (9, (.v (.int .i64 (IntKind.i64.wrap (x102 + (1 : Int))))))] ⟨rfl, rfl, rfl, rfl, trivial⟩ (h _ _  hs)
    · refine fi_true rfl (not_t c107) ?_
      refine fi_seq ?_
      refine fi_region ?_
      refine so_assign rfl ?_
      refine so_nil ?_
      exact by_ret rfl ⟨_, h, rfl, hs⟩
  · refine fi_false rfl (decide_eq_false c103) ?_
    refine fi_exit rfl ?_
    refine fi_seq ?_
    refine fi_region ?_
    refine so_assign rfl ?_
    refine so_nil ?_
    exact by_ret rfl ⟨_, h, rfl, hs⟩

end Go.Proofs.Ytplfnchoooehgaa.G

namespace Go.Proofs.Ytplfnchoooehgaa.G
open Go Go.Ab Go.Proofs Go.Proofs.Ytplfnchoooehgaa
set_option maxRecDepth 100000
set_option linter.unusedVariables false
set_option linter.unusedSimpArgs false
set_option maxHeartbeats 1000000
theorem F35.ti22 : (telem Try.prog 22).isSome = true := by kernel_rfl
theorem impl_AreIntegers_ok {fr : List Pc} {H : Heap} (v0 : AV) (l0 : List (Int)) (hs : Sep H (fr)) (g0 : ∀ H, Sep H fr → Shows H v0 1 (enc (eInt .i64) l0)) (K : Bool → Prop) (h : impl_AreIntegers.wp l0 K) : OkQ Try.prog 35 [(.v v0)] H (fun r H2 => ∃ (y0 : Bool), K y0 ∧ r = (.v (.bool y0)) ∧ Sep H2 (fr)) := by
  unfold impl_AreIntegers.wp at h
  refine of_body Try.f35 F.hm Try.func35 rfl Try.call35 (by kernel_rfl) (by simp) ?_
  refine fi_seq ?_
  refine fi_region ?_
  refine so_assign rfl ?_
  refine so_nil ?_
  refine fi_seq ?_
  refine fi_region ?_
  refine so_move rfl ?_
  refine sv_len (g0 _ hs) (fun _ => rfl) (by decide) rfl F35.ti22 ?_
  refine sv_call (impl_within_ok (l0.length : Int) (1 : Int) (128 : Int) hs  _ h) rfl rfl nofun ?_
  clear h hs
  rintro _ H102 ⟨y101, h, rfl, hs⟩
  refine so_move rfl ?_
  replace h := ofT h; rcases h with ⟨c103, h⟩ | ⟨c103, h⟩
  · refine so_gyes rfl c103 ?_
    refine so_move rfl ?_
    refine so_gyes rfl c103 ?_
    refine sv_call (impl_areWithin_ok v0 l0 (1000000 : Int) hs (fun _ hs => (g0 _ hs)) _ h) rfl rfl nofun ?_
    clear h hs
    rintro _ H105 ⟨y104, h, rfl, hs⟩
    refine so_pick_t rfl c103 rfl ?_
    refine so_assign rfl ?_
    refine so_nil ?_
    exact by_ret rfl ⟨_, h, rfl, hs⟩
  · refine so_gno rfl c103 ?_
    refine so_gno rfl c103 ?_
    refine so_pick_f rfl c103 rfl ?_
    refine so_assign rfl ?_
    refine so_nil ?_
    exact by_ret rfl ⟨_, h, rfl, hs⟩

end Go.Proofs.Ytplfnchoooehgaa.G

namespace Go.Proofs.Ytplfnchoooehgaa.G
open Go Go.Ab Go.Proofs Go.Proofs.Ytplfnchoooehgaa
set_option maxRecDepth 100000
set_option linter.unusedVariables false
set_option linter.unusedSimpArgs false
set_option maxHeartbeats 1000000
theorem impl_far_ok {fr : List Pc} {H : Heap} (a0 : Int) (hs : Sep H (fr))  (K : Int → Prop) (h : impl_far.wp a0 K) : OkQ Try.prog 37 [(.v (.int .i64 a0))] H (fun r H2 => ∃ (y0 : Int), K y0 ∧ r = (.v (.int .i64 y0)) ∧ Sep H2 (fr)) := by
  unfold impl_far.wp at h
  refine of_body Try.f37 F.hm Try.func37 rfl Try.call37 (by kernel_rfl) (by simp) ?_
  refine fi_seq ?_
  refine fi_region ?_
  refine so_assign rfl ?_
  refine so_nil ?_
  refine fi_seq ?_
  refine fi_region ?_
  refine so_move rfl ?_
  refine so_move rfl ?_
  refine so_un rfl au_neg ?_
  refine sv_max rfl rfl ?_
  refine so_assign rfl ?_
  refine so_nil ?_
  exact by_ret rfl ⟨_, h, rfl, hs⟩

end Go.Proofs.Ytplfnchoooehgaa.G

namespace Go.Proofs.Ytplfnchoooehgaa.G
open Go Go.Ab Go.Proofs Go.Proofs.Ytplfnchoooehgaa
set_option maxRecDepth 100000
set_option linter.unusedVariables false
set_option linter.unusedSimpArgs false
set_option maxHeartbeats 1000000
theorem F9.ag2 : tagg Try.prog 2 = some false := by kernel_rfl
theorem F9.ag4 : tagg Try.prog 4 = some false := by kernel_rfl
theorem F9.by4 : tbytes Try.prog 4 = some 1 := by kernel_rfl
theorem F9.sz2 : tsz Try.prog 2 = some 1 := by kernel_rfl
theorem F9.sz4 : tsz Try.prog 4 = some 1 := by kernel_rfl
theorem F9.ta22_22 : tapp Try.prog 22 22 = some (1, 8) := by kernel_rfl
theorem F9.te22 : telem Try.prog 22 = some 2 := by kernel_rfl
theorem F9.te29 : telem Try.prog 29 = some 4 := by kernel_rfl
theorem F9.ti22 : (telem Try.prog 22).isSome = true := by kernel_rfl
theorem F9.ti29 : (telem Try.prog 29).isSome = true := by kernel_rfl
theorem F9.tl22 : (telem Try.prog 22).bind (tsz Try.prog) = some 1 := by kernel_rfl
theorem F9.tl29 : (telem Try.prog 29).bind (tsz Try.prog) = some 1 := by kernel_rfl
theorem F9.ze2 : tzero Try.prog 2 = some [(.int .i64 (0 : Int))] := by kernel_rfl
theorem F9.ze4 : tzero Try.prog 4 = some [(.bool false)] := by kernel_rfl
theorem impl_ZeroTrees_ok {fr : List Pc} {H : Heap} (v0 : AV) (l0 : List (Int)) (a1 : Int) (a2 : Int) (hs : Sep H (fr)) (g0 : ∀ H, Sep H fr → Shows H v0 1 (enc (eInt .i64) l0)) (K : (List (Int)) → Bool → Prop) (h : impl_ZeroTrees.wp l0 a1 a2 K) : OkQ Try.prog 9 [(.v v0), (.v (.int .i64 a1)), (.v (.int .i64 a2))] H (fun r H2 => ∃ (y0 : List (Int)) (y1 : Bool), K y0 y1 ∧ ∃ (w0_ : AV), r = (.t [(.v w0_), (.v (.bool y1))]) ∧ Sep H2 (Pc.osl w0_ 1 (enc (eInt .i64) y0) :: fr)) := by
  unfold impl_ZeroTrees.wp at h
  refine of_body Try.f9 F.hm Try.func9 rfl Try.call9 (by kernel_rfl) (by simp) ?_
  refine fi_seq ?_
  refine fi_region ?_
  refine so_assign rfl ?_
  refine so_assign rfl ?_
  refine so_nil ?_
  refine fi_seq ?_
  refine fi_region ?_
  refine so_move rfl ?_
  refine sv_len (g0 _ hs) (fun _ => rfl) (by decide) rfl F9.ti22 ?_
  refine so_move rfl ?_
  refine sv_call (impl_parentsOf_ok (l0.length : Int) a1 hs  _ h) rfl rfl nofun ?_
  clear h hs
  rintro _ H105 ⟨y101, y104, h, v102, rfl, hs⟩
  refine so_move rfl ?_
  refine so_extract rfl rfl rfl ?_
  refine so_extract rfl rfl rfl ?_
  refine so_assign rfl ?_
  refine so_assign rfl ?_
  refine so_nil ?_
  refine fi_seq ?_
  refine fi_seq ?_
  refine fi_region ?_
  refine so_move rfl ?_
  refine so_un rfl au_not ?_
  refine so_move rfl ?_
  replace h := ofT h; rcases h with ⟨c106, h⟩ | ⟨c106, h⟩
  · refine so_gyes rfl (not_f c106) ?_
    refine so_move rfl ?_
    refine so_gyes rfl (not_f c106) ?_
    refine sv_call (impl_AreIntegers_ok v0 l0 hs (fun _ hs => (g0 _ hs.tl)) _ h) rfl rfl nofun ?_
    clear h hs
    rintro _ H108 ⟨y107, h, rfl, hs⟩
    refine so_gyes rfl (not_f c106) ?_
    refine so_un rfl au_not ?_
    refine so_pick_f rfl (not_f c106) rfl ?_
    refine so_move rfl ?_
    replace h := ofT h; rcases h with ⟨c109, h⟩ | ⟨c109, h⟩
    · refine so_gyes rfl (not_f c109) ?_
      refine so_move rfl ?_
      refine so_gyes rfl (not_f c109) ?_
      refine sv_call (impl_within_ok a2 (0 : Int) (24 : Int) hs  _ h) rfl rfl nofun ?_
      clear h hs
      rintro _ H111 ⟨y110, h, rfl, hs⟩
      refine so_gyes rfl (not_f c109) ?_
      refine so_un rfl au_not ?_
      refine so_pick_f rfl (not_f c109) rfl ?_
      refine so_nil ?_
      replace h := ofT h; rcases h with ⟨c112, h⟩ | ⟨c112, h⟩
      · refine fi_false rfl (not_f c112) ?_
        refine fi_skip ?_
        refine fi_seq ?_
        refine fi_region ?_
        refine so_move rfl ?_
        refine sv_len (g0 _ hs.tl) (fun _ => rfl) (by decide) rfl F9.ti22 ?_
        obtain ⟨c113, h⟩ := h
        refine sv_make hs eBool false c113 (fun _ => rfl) rfl rfl F9.te29 F9.sz4 F9.by4 F9.ze4 rfl rfl nofun (fun v114 H115 nv114 hs => ?_)
        refine so_assign rfl ?_
        refine so_nil ?_
        refine fi_seq ?_
        refine fi_seq ?_
        refine fi_region ?_
        refine so_move rfl ?_
        refine sv_len (g0 _ hs.tl.tl) (fun _ => rfl) (by decide) rfl F9.ti22 ?_
        refine so_move rfl ?_
        refine so_nil ?_
        refine fi_block ?_
        refine fi_loop ?_
        refine fi_at [(0, (.v v0)), (2, (.v (.int .i64 a2))), (8, (.v v102)), (10, (.v v114)), (39, (.v v0)), (40, (.v (.int .i64 (l0.length : Int)))), (41, (.v (.int .i64 (0 : Int))))] ⟨rfl, rfl, rfl, rfl, rfl, rfl, rfl, trivial⟩ ?_
        refine h (fun (zero250 : List (Bool)) (x251 : Int) => ∀ (s : Nat → TV) (H : Heap), Sep H (Pc.osl v114 1 (enc eBool zero250) :: Pc.osl v102 1 (enc (eInt .i64) y101) :: fr) → Fin _ _ (updL s [(0, (.v v0)), (2, (.v (.int .i64 a2))), (8, (.v v102)), (10, (.v v114)), (39, (.v v0)), (40, (.v (.int .i64 (l0.length : Int)))), (41, (.v (.int .i64 x251)))]) H _) ?_ _ _ hs
        intro zero250 x251 h s382 H383 hs
        refine fi_inLoop ?_
        refine fi_seq ?_
        refine fi_region ?_
        refine so_bin rfl rfl ab_lss ?_
        refine so_nil ?_
        refine fi_seq ?_
        replace h := ofP h; rcases h with ⟨c252, h⟩ | ⟨c252, h⟩
        · refine fi_true rfl (decide_eq_true c252) ?_
          refine fi_skip ?_
          refine fi_seq ?_
          refine fi_block ?_
          refine fi_seq ?_
          refine fi_region ?_
          refine so_move rfl ?_
          obtain ⟨c253, h⟩ := h
          refine sv_idx (g0 _ hs.tl.tl) c253 (fun _ => rfl) (by decide) rfl rfl F9.tl22 ?_
          refine sv_cell (g0 _ hs.tl.tl) c253 (0 : Int) 0 (fun x => (AV.int .i64 x)) (fun _ => rfl) (fun _ => rfl) rfl F9.ag2 ?_
          refine so_assign rfl ?_
          refine so_assign rfl ?_
          refine so_nil ?_
          refine fi_region ?_
          refine so_move rfl ?_
          refine so_move rfl ?_
          refine so_move rfl ?_
          refine sv_call (impl_far_ok (l0.getD (x251).toNat (0 : Int)) hs  _ h) rfl rfl nofun ?_
          clear h hs
          rintro _ H255 ⟨y254, h, rfl, hs⟩
          refine so_move rfl ?_
          obtain ⟨c256, h⟩ := h
          refine so_bin rfl rfl (ab_shr c256) ?_
          refine so_bin rfl rfl ab_eql ?_
          obtain ⟨c257, h⟩ := h
          refine sv_idx (hs.shows 0 rfl) c257 (fun _ => rfl) (by decide) rfl rfl F9.tl29 ?_
          refine sv_set hs 0 rfl c257 (decide ((Int.fdiv y254 (2 ^ (min (a2).toNat IntKind.i64.bits))) = (0 : Int))) (fun _ => rfl) (by decide) rfl rfl rfl rfl F9.sz4 nofun (fun H258 hs => ?_)
          refine so_nil ?_
          refine fi_inBlock ?_
          refine fi_region ?_
          refine so_bin rfl rfl ab_add ?_
          refine so_move rfl ?_
          refine so_nil ?_
          exact fi_at [(0, (.v v0)), (2, (.v (.int .i64 a2))), (8, (.v v102)), (10, (.v v114)), (39, (.v v0)), (40, (.v (.int .i64 (l0.length : Int)))), (41, (.v (.int .i64 (IntKind.i64.wrap (x251 + (1 : Int))))))] ⟨rfl, rfl, rfl, rfl, rfl, rfl, rfl, trivial⟩ (h _ _  hs)
        · refine fi_false rfl (decide_eq_false c252) ?_
          refine fi_exit rfl ?_
          refine fi_seq ?_
          refine fi_seq ?_
          refine fi_region ?_
          refine so_move rfl ?_
          refine sv_len (g0 _ hs.tl.tl) (fun _ => rfl) (by decide) rfl F9.ti22 ?_
          refine so_bin rfl rfl ab_sub ?_
          refine so_assign rfl ?_
          refine so_nil ?_
          refine fi_block ?_
          refine fi_loop ?_
          refine fi_at [(8, (.v v102)), (10, (.v v114)), (13, (.v (.int .i64 (IntKind.i64.wrap ((l0.length : Int) - (1 : Int))))))] ⟨rfl, rfl, rfl, trivial⟩ ?_
          refine h (fun (zero320 : List (Bool)) (i321 : Int) => ∀ (s : Nat → TV) (H : Heap), Sep H (Pc.osl v114 1 (enc eBool zero320) :: Pc.osl v102 1 (enc (eInt .i64) y101) :: fr) → Fin _ _ (updL s [(8, (.v v102)), (10, (.v v114)), (13, (.v (.int .i64 i321)))]) H _) ?_ _ _ hs
          intro zero320 i321 h s380 H381 hs
          refine fi_inLoop ?_
          refine fi_seq ?_
          refine fi_seq ?_
          refine fi_region ?_
          refine so_move rfl ?_
          refine so_bin rfl rfl ab_geq ?_
          refine so_nil ?_
          replace h := ofP h; rcases h with ⟨c322, h⟩ | ⟨c322, h⟩
          · refine fi_true rfl (decide_eq_true c322) ?_
            refine fi_skip ?_
            refine fi_seq ?_
            refine fi_block ?_
            refine fi_seq ?_
            refine fi_region ?_
            refine so_move rfl ?_
            refine so_move rfl ?_
            obtain ⟨c323, h⟩ := h
            refine sv_idx (hs.shows 1 rfl) c323 (fun _ => rfl) (by decide) rfl rfl F9.tl22 ?_
            refine sv_cell (hs.shows 1 rfl) c323 (0 : Int) 0 (fun x => (AV.int .i64 x)) (fun _ => rfl) (fun _ => rfl) rfl F9.ag2 ?_
            refine so_bin rfl rfl ab_geq ?_
            refine so_move rfl ?_
            replace h := ofP h; rcases h with ⟨c324, h⟩ | ⟨c324, h⟩
            · refine so_gyes rfl (decide_eq_true c324) ?_
              refine so_move rfl ?_
              refine so_gyes rfl (decide_eq_true c324) ?_
              refine so_move rfl ?_
              refine so_gyes rfl (decide_eq_true c324) ?_
              obtain ⟨c325, h⟩ := h
              refine sv_idx (hs.shows 0 rfl) c325 (fun _ => rfl) (by decide) rfl rfl F9.tl29 ?_
              refine so_gyes rfl (decide_eq_true c324) ?_
              refine sv_cell (hs.shows 0 rfl) c325 false 0 (fun x => (AV.bool x)) (fun _ => rfl) (fun _ => rfl) rfl F9.ag4 ?_
              refine so_gyes rfl (decide_eq_true c324) ?_
              refine so_un rfl au_not ?_
              refine so_pick_t rfl (decide_eq_true c324) rfl ?_
              refine so_nil ?_
              replace h := ofT h; rcases h with ⟨c326, h⟩ | ⟨c326, h⟩
              · refine fi_false rfl (not_f c326) ?_
                refine fi_skip ?_
                refine fi_inBlock ?_
                refine fi_region ?_
                refine so_move rfl ?_
                refine so_bin rfl rfl ab_sub ?_
                refine so_assign rfl ?_
                refine so_nil ?_
                exact fi_at [(8, (.v v102)), (10, (.v v114)), (13, (.v (.int .i64 (IntKind.i64.wrap (i321 - (1 : Int))))))] ⟨rfl, rfl, rfl, trivial⟩ (h _ _  hs)
              · refine fi_true rfl (not_t c326) ?_
                refine fi_region ?_
                refine so_move rfl ?_
                refine so_move rfl ?_
                refine so_move rfl ?_
                refine sv_idx (hs.shows 1 rfl) c323 (fun _ => rfl) (by decide) rfl rfl F9.tl22 ?_
                refine sv_cell (hs.shows 1 rfl) c323 (0 : Int) 0 (fun x => (AV.int .i64 x)) (fun _ => rfl) (fun _ => rfl) rfl F9.ag2 ?_
                obtain ⟨c327, h⟩ := h
                refine sv_idx (hs.shows 0 rfl) c327 (fun _ => rfl) (by decide) rfl rfl F9.tl29 ?_
                refine sv_set hs 0 rfl c327 false (fun _ => rfl) (by decide) rfl rfl rfl rfl F9.sz4 nofun (fun H328 hs => ?_)
                refine so_nil ?_
                refine fi_inBlock ?_
                refine fi_region ?_
                refine so_move rfl ?_
                refine so_bin rfl rfl ab_sub ?_
                refine so_assign rfl ?_
                refine so_nil ?_
                exact fi_at [(8, (.v v102)), (10, (.v v114)), (13, (.v (.int .i64 (IntKind.i64.wrap (i321 - (1 : Int))))))] ⟨rfl, rfl, rfl, trivial⟩ (h _ _  hs)
            · refine so_gno rfl (decide_eq_false c324) ?_
              refine so_gno rfl (decide_eq_false c324) ?_
              refine so_gno rfl (decide_eq_false c324) ?_
              refine so_gno rfl (decide_eq_false c324) ?_
              refine so_gno rfl (decide_eq_false c324) ?_
              refine so_pick_f rfl (decide_eq_false c324) rfl ?_
              refine so_nil ?_
              refine fi_false rfl rfl ?_
              refine fi_skip ?_
              refine fi_inBlock ?_
              refine fi_region ?_
              refine so_move rfl ?_
              refine so_bin rfl rfl ab_sub ?_
              refine so_assign rfl ?_
              refine so_nil ?_
              exact fi_at [(8, (.v v102)), (10, (.v v114)), (13, (.v (.int .i64 (IntKind.i64.wrap (i321 - (1 : Int))))))] ⟨rfl, rfl, rfl, trivial⟩ (h _ _  hs)
          · refine fi_false rfl (decide_eq_false c322) ?_
            refine fi_exit rfl ?_
            refine fi_seq ?_
            refine fi_region ?_
            refine sv_bslice hs (eInt .i64) ([] : List (Int)) [] F9.te22 F9.sz2 F9.ze2 rfl rfl rfl rfl (fun _ => rfl) rfl (by decide) nofun (fun v329 H330 nv329 hs => ?_)
            refine so_assign rfl ?_
            refine so_nil ?_
            refine fi_seq ?_
            refine fi_seq ?_
            refine fi_region ?_
            refine so_move rfl ?_
            refine sv_len (hs.shows 1 rfl) (fun _ => rfl) (by decide) rfl F9.ti29 ?_
            refine so_move rfl ?_
            refine so_nil ?_
            refine fi_block ?_
            refine fi_loop ?_
            refine fi_at [(8, (.v v102)), (10, (.v v114)), (14, (.v v329)), (81, (.v v114)), (82, (.v (.int .i64 (zero320.length : Int)))), (83, (.v (.int .i64 (0 : Int))))] ⟨rfl, rfl, rfl, rfl, rfl, rfl, trivial⟩ ?_
            refine h (fun (out356 : List (Int)) (x358 : Int) => ∀ (s : Nat → TV) (H : Heap) (v357 : AV) (nv357 : v357 ≠ .nilsl), Sep H (Pc.osl v357 1 (enc (eInt .i64) out356) :: Pc.osl v114 1 (enc eBool zero320) :: Pc.osl v102 1 (enc (eInt .i64) y101) :: fr) → Fin _ _ (updL s [(8, (.v v102)), (10, (.v v114)), (14, (.v v357)), (81, (.v v114)), (82, (.v (.int .i64 (zero320.length : Int)))), (83, (.v (.int .i64 x358)))]) H _) ?_ _ _ _ nv329 hs
            intro out356 x358 h s378 H379 v357 nv357 hs
            refine fi_inLoop ?_
            refine fi_seq ?_
            refine fi_region ?_
            refine so_bin rfl rfl ab_lss ?_
            refine so_nil ?_
            refine fi_seq ?_
            replace h := ofP h; rcases h with ⟨c359, h⟩ | ⟨c359, h⟩
            · refine fi_true rfl (decide_eq_true c359) ?_
              refine fi_skip ?_
              refine fi_seq ?_
              refine fi_block ?_
              refine fi_seq ?_
              refine fi_region ?_
              refine so_move rfl ?_
              obtain ⟨c360, h⟩ := h
              refine sv_idx (hs.shows 1 rfl) c360 (fun _ => rfl) (by decide) rfl rfl F9.tl29 ?_
              refine sv_cell (hs.shows 1 rfl) c360 false 0 (fun x => (AV.bool x)) (fun _ => rfl) (fun _ => rfl) rfl F9.ag4 ?_
              refine so_assign rfl ?_
              refine so_assign rfl ?_
              refine so_nil ?_
              refine fi_seq ?_
              refine fi_region ?_
              refine so_move rfl ?_
              refine so_move rfl ?_
              replace h := ofT h; rcases h with ⟨c361, h⟩ | ⟨c361, h⟩
              · refine so_gyes rfl c361 ?_
                refine so_move rfl ?_
                refine so_gyes rfl c361 ?_
                refine so_move rfl ?_
                refine so_gyes rfl c361 ?_
                obtain ⟨c362, h⟩ := h
                refine sv_idx (hs.shows 2 rfl) c362 (fun _ => rfl) (by decide) rfl rfl F9.tl22 ?_
                refine so_gyes rfl c361 ?_
                refine sv_cell (hs.shows 2 rfl) c362 (0 : Int) 0 (fun x => (AV.int .i64 x)) (fun _ => rfl) (fun _ => rfl) rfl F9.ag2 ?_
                refine so_gyes rfl c361 ?_
                refine so_bin rfl rfl ab_lss ?_
                refine so_gyes rfl c361 ?_
                refine so_move rfl ?_
                replace h := ofP h; rcases h with ⟨c363, h⟩ | ⟨c363, h⟩
                · refine so_gno rfl (decide_eq_true c363) ?_
                  refine so_gno rfl (decide_eq_true c363) ?_
                  refine so_gno rfl (decide_eq_true c363) ?_
                  refine so_gno rfl (decide_eq_true c363) ?_
                  refine so_gno rfl (decide_eq_true c363) ?_
                  refine so_gno rfl (decide_eq_true c363) ?_
                  refine so_gno rfl (decide_eq_true c363) ?_
                  refine so_gno rfl (decide_eq_true c363) ?_
                  refine so_gyes rfl c361 ?_
                  refine so_pick_t rfl (decide_eq_true c363) rfl ?_
                  refine so_pick_t rfl c361 rfl ?_
                  refine so_nil ?_
                  refine fi_true rfl rfl ?_
                  refine fi_region ?_
                  refine so_move rfl ?_
                  refine so_move rfl ?_
                  refine sv_bslice hs (eInt .i64) ([x358] : List (Int)) [[(.int .i64 x358)]] F9.te22 F9.sz2 F9.ze2 rfl rfl rfl rfl (fun _ => rfl) rfl (by decide) nofun (fun v364 H365 nv364 hs => ?_)
                  obtain ⟨c369, h⟩ := h
                  refine sv_app hs 1 rfl (hs.shows 0 rfl) (fun _ => rfl) (by decide) F9.ta22_22 (by decide) c369 rfl rfl nofun (fun v367 H368 kv367 hs => ?_)
                  replace hs := hs.del 0
                  have nv367 := kv367 nv357
                  refine so_assign rfl ?_
                  refine so_nil ?_
                  refine fi_inBlock ?_
                  refine fi_region ?_
                  refine so_bin rfl rfl ab_add ?_
                  refine so_move rfl ?_
                  refine so_nil ?_
                  exact fi_at [(8, (.v v102)), (10, (.v v114)), (14, (.v v367)), (81, (.v v114)), (82, (.v (.int .i64 (zero320.length : Int)))), (83, (.v (.int .i64 (IntKind.i64.wrap (x358 + (1 : Int))))))] ⟨rfl, rfl, rfl, rfl, rfl, rfl, trivial⟩ (h _ _ _ nv367 hs)
                · refine so_gyes rfl (decide_eq_false c363) ?_
                  refine so_move rfl ?_
                  refine so_gyes rfl (decide_eq_false c363) ?_
                  refine so_move rfl ?_
                  refine so_gyes rfl (decide_eq_false c363) ?_
                  refine so_move rfl ?_
                  refine so_gyes rfl (decide_eq_false c363) ?_
                  refine sv_idx (hs.shows 2 rfl) c362 (fun _ => rfl) (by decide) rfl rfl F9.tl22 ?_
                  refine so_gyes rfl (decide_eq_false c363) ?_
                  refine sv_cell (hs.shows 2 rfl) c362 (0 : Int) 0 (fun x => (AV.int .i64 x)) (fun _ => rfl) (fun _ => rfl) rfl F9.ag2 ?_
                  refine so_gyes rfl (decide_eq_false c363) ?_
                  obtain ⟨c370, h⟩ := h
                  refine sv_idx (hs.shows 1 rfl) c370 (fun _ => rfl) (by decide) rfl rfl F9.tl29 ?_
                  refine so_gyes rfl (decide_eq_false c363) ?_
                  refine sv_cell (hs.shows 1 rfl) c370 false 0 (fun x => (AV.bool x)) (fun _ => rfl) (fun _ => rfl) rfl F9.ag4 ?_
                  refine so_gyes rfl (decide_eq_false c363) ?_
                  refine so_un rfl au_not ?_
                  refine so_gyes rfl c361 ?_
                  refine so_pick_f rfl (decide_eq_false c363) rfl ?_
                  refine so_pick_t rfl c361 rfl ?_
                  refine so_nil ?_
                  replace h := ofT h; rcases h with ⟨c371, h⟩ | ⟨c371, h⟩
                  · refine fi_false rfl (not_f c371) ?_
                    refine fi_skip ?_
                    refine fi_inBlock ?_
                    refine fi_region ?_
                    refine so_bin rfl rfl ab_add ?_
                    refine so_move rfl ?_
                    refine so_nil ?_
                    exact fi_at [(8, (.v v102)), (10, (.v v114)), (14, (.v v357)), (81, (.v v114)), (82, (.v (.int .i64 (zero320.length : Int)))), (83, (.v (.int .i64 (IntKind.i64.wrap (x358 + (1 : Int))))))] ⟨rfl, rfl, rfl, rfl, rfl, rfl, trivial⟩ (h _ _ _ nv357 hs)
                  · refine fi_true rfl (not_t c371) ?_
                    refine fi_region ?_
                    refine so_move rfl ?_
                    refine so_move rfl ?_
                    refine sv_bslice hs (eInt .i64) ([x358] : List (Int)) [[(.int .i64 x358)]] F9.te22 F9.sz2 F9.ze2 rfl rfl rfl rfl (fun _ => rfl) rfl (by decide) nofun (fun v372 H373 nv372 hs => ?_)
                    obtain ⟨c377, h⟩ := h
                    refine sv_app hs 1 rfl (hs.shows 0 rfl) (fun _ => rfl) (by decide) F9.ta22_22 (by decide) c377 rfl rfl nofun (fun v375 H376 kv375 hs => ?_)
                    replace hs := hs.del 0
                    have nv375 := kv375 nv357
                    refine so_assign rfl ?_
                    refine so_nil ?_
                    refine fi_inBlock ?_
                    refine fi_region ?_
                    refine so_bin rfl rfl ab_add ?_
                    refine so_move rfl ?_
                    refine so_nil ?_
                    exact fi_at [(8, (.v v102)), (10, (.v v114)), (14, (.v v375)), (81, (.v v114)), (82, (.v (.int .i64 (zero320.length : Int)))), (83, (.v (.int .i64 (IntKind.i64.wrap (x358 + (1 : Int))))))] ⟨rfl, rfl, rfl, rfl, rfl, rfl, trivial⟩ (h _ _ _ nv375 hs)
              · refine so_gno rfl c361 ?_
                refine so_gno rfl c361 ?_
                refine so_gno rfl c361 ?_
                refine so_gno rfl c361 ?_
                refine so_gno rfl c361 ?_
                refine so_gno rfl c361 ?_
                refine so_gund rfl ?_
                refine so_gund rfl ?_
                refine so_gund rfl ?_
                refine so_gund rfl ?_
                refine so_gund rfl ?_
                refine so_gund rfl ?_
                refine so_gund rfl ?_
                refine so_gund rfl ?_
                refine so_gno rfl c361 ?_
                refine so_pick_f rfl c361 rfl ?_
                refine so_nil ?_
                refine fi_false rfl rfl ?_
                refine fi_skip ?_
                refine fi_inBlock ?_
                refine fi_region ?_
                refine so_bin rfl rfl ab_add ?_
                refine so_move rfl ?_
                refine so_nil ?_
                exact fi_at [(8, (.v v102)), (10, (.v v114)), (14, (.v v357)), (81, (.v v114)), (82, (.v (.int .i64 (zero320.length : Int)))), (83, (.v (.int .i64 (IntKind.i64.wrap (x358 + (1 : Int))))))] ⟨rfl, rfl, rfl, rfl, rfl, rfl, trivial⟩ (h _ _ _ nv357 hs)
            · refine fi_false rfl (decide_eq_false c359) ?_
              refine fi_exit rfl ?_
              refine fi_seq ?_
              refine fi_region ?_
              refine so_move rfl ?_
              refine so_assign rfl ?_
              refine so_assign rfl ?_
              refine so_nil ?_
              exact by_ret rfl ⟨_, _, h, _, rfl, (Sep.del 1 (Sep.del 1 hs))⟩
      · refine fi_true rfl (not_t c112) ?_
        refine fi_seq ?_
        refine fi_region ?_
        refine so_assign rfl ?_
        refine so_assign rfl ?_
        refine so_nil ?_
        exact by_ret rfl ⟨_, _, h, _, rfl, (Sep.nil (Sep.del 0 hs) 1)⟩
    · refine so_gno rfl (not_t c109) ?_
      refine so_gno rfl (not_t c109) ?_
      refine so_gno rfl (not_t c109) ?_
      refine so_pick_t rfl (not_t c109) rfl ?_
      refine so_nil ?_
      refine fi_true rfl rfl ?_
      refine fi_seq ?_
      refine fi_region ?_
      refine so_assign rfl ?_
      refine so_assign rfl ?_
      refine so_nil ?_
      exact by_ret rfl ⟨_, _, h, _, rfl, (Sep.nil (Sep.del 0 hs) 1)⟩
  · refine so_gno rfl (not_t c106) ?_
    refine so_gno rfl (not_t c106) ?_
    refine so_gno rfl (not_t c106) ?_
    refine so_pick_t rfl (not_t c106) rfl ?_
    refine so_move rfl ?_
    refine so_gno rfl rfl ?_
    refine so_gno rfl rfl ?_
    refine so_gno rfl rfl ?_
    refine so_pick_t rfl rfl rfl ?_
    refine so_nil ?_
    refine fi_true rfl rfl ?_
    refine fi_seq ?_
    refine fi_region ?_
    refine so_assign rfl ?_
    refine so_assign rfl ?_
    refine so_nil ?_
    exact by_ret rfl ⟨_, _, h, _, rfl, (Sep.nil (Sep.del 0 hs) 1)⟩

end Go.Proofs.Ytplfnchoooehgaa.G

namespace Go.Proofs.Ytplfnchoooehgaa.G
open Go Go.Ab Go.Proofs Go.Proofs.Ytplfnchoooehgaa
set_option maxRecDepth 100000
set_option linter.unusedVariables false
set_option linter.unusedSimpArgs false
set_option maxHeartbeats 1000000
theorem F3.tb4 : tbool Try.prog 4 = true := by kernel_rfl
theorem F3.ti22 : (telem Try.prog 22).isSome = true := by kernel_rfl
theorem laws_FnExactZeroTrees_ok {fr : List Pc} {H : Heap} (v0 : AV) (l0 : List (Int)) (a1 : Int) (a2 : Int) (hs : Sep H (fr)) (g0 : ∀ H, Sep H fr → Shows H v0 1 (enc (eInt .i64) l0)) (K : Bool → Prop) (h : laws_FnExactZeroTrees.wp l0 a1 a2 K) : OkQ Try.prog 3 [(.v v0), (.v (.int .i64 a1)), (.v (.int .i64 a2))] H (fun r H2 => ∃ (y0 : Bool), K y0 ∧ r = (.v (.bool y0)) ∧ Sep H2 (fr)) := by
  unfold laws_FnExactZeroTrees.wp at h
  refine of_body Try.f3 F.hm Try.func3 rfl Try.call3 (by kernel_rfl) (by simp) ?_
  refine fi_seq ?_
  refine fi_region ?_
  refine so_assign rfl ?_
  refine so_nil ?_
  refine fi_seq ?_
  refine fi_seq ?_
  refine fi_region ?_
  refine so_move rfl ?_
  refine sv_len (g0 _ hs) (fun _ => rfl) (by decide) rfl F3.ti22 ?_
  refine so_bin rfl rfl ab_gtr ?_
  refine so_nil ?_
  replace h := ofP h; rcases h with ⟨c101, h⟩ | ⟨c101, h⟩
  · refine fi_true rfl (decide_eq_true c101) ?_
    refine fi_seq ?_
    refine fi_region ?_
    refine so_assign rfl ?_
    refine so_nil ?_
    exact by_ret rfl ⟨_, h, rfl, hs⟩
  · refine fi_false rfl (decide_eq_false c101) ?_
    refine fi_skip ?_
    refine fi_seq ?_
    refine fi_region ?_
    refine so_move rfl ?_
    refine sv_call (laws_toInt64S_ok v0 l0 hs (fun _ hs => (g0 _ hs)) _ h) rfl rfl nofun ?_
    clear h hs
    rintro _ H105 ⟨y102, h, v103, rfl, hs⟩
    refine so_move rfl ?_
    refine so_move rfl ?_
    refine sv_call (spec_ZeroTrees_ok v103 y102 a1 a2 hs (fun _ hs => (hs.shows 0 rfl)) _ h) rfl rfl nofun ?_
    clear h hs
    rintro _ H110 ⟨y106, y109, h, v107, rfl, hs⟩
    refine so_move rfl ?_
    refine so_extract rfl rfl rfl ?_
    refine so_extract rfl rfl rfl ?_
    refine so_assign rfl ?_
    refine so_assign rfl ?_
    refine so_nil ?_
    refine fi_seq ?_
    refine fi_region ?_
    refine so_move rfl ?_
    refine sv_call (laws_toInt64S_ok v0 l0 hs (fun _ hs => (g0 _ hs.tl.tl)) _ h) rfl rfl nofun ?_
    clear h hs
    rintro _ H114 ⟨y111, h, v112, rfl, hs⟩
    refine so_assign rfl ?_
    refine so_nil ?_
    refine fi_seq ?_
    refine fi_region ?_
    refine so_move rfl ?_
    refine so_move rfl ?_
    refine so_move rfl ?_
    refine sv_call (impl_ZeroTrees_ok v112 y111 a1 a2 hs (fun _ hs => (hs.shows 0 rfl)) _ h) rfl rfl nofun ?_
    clear h hs
    rintro _ H119 ⟨y115, y118, h, v116, rfl, hs⟩
    refine so_move rfl ?_
    refine so_extract rfl rfl rfl ?_
    refine so_extract rfl rfl rfl ?_
    refine so_assign rfl ?_
    refine so_assign rfl ?_
    refine so_nil ?_
    refine fi_seq ?_
    refine fi_seq ?_
    refine fi_region ?_
    refine so_move rfl ?_
    refine so_move rfl ?_
    refine sv_call (laws_eqInt64S_ok v116 y115 v107 y106 hs (fun _ hs => (hs.shows 0 rfl)) (fun _ hs => (hs.shows 2 rfl)) _ h) rfl rfl nofun ?_
    clear h hs
    rintro _ H121 ⟨y120, h, rfl, hs⟩
    refine so_un rfl au_not ?_
    refine so_move rfl ?_
    replace h := ofT h; rcases h with ⟨c122, h⟩ | ⟨c122, h⟩
    · refine so_gyes rfl (not_f c122) ?_
      refine so_move rfl ?_
      refine so_gyes rfl (not_f c122) ?_
      refine so_move rfl ?_
      refine so_gyes rfl (not_f c122) ?_
      refine so_bin rfl rfl (ab_bneq F3.tb4) ?_
      refine so_pick_f rfl (not_f c122) rfl ?_
      refine so_nil ?_
      replace h := ofT h; rcases h with ⟨c123, h⟩ | ⟨c123, h⟩
      · refine fi_false rfl (not_f c123) ?_
        refine fi_skip ?_
        refine fi_seq ?_
        refine fi_seq ?_
        refine fi_region ?_
        refine so_move rfl ?_
        refine so_move rfl ?_
        refine sv_call (laws_toInt64S_ok v0 l0 hs (fun _ hs => (g0 _ hs.tl.tl.tl.tl)) _ h) rfl rfl nofun ?_
        clear h hs
        rintro _ H127 ⟨y124, h, v125, rfl, hs⟩
        refine sv_call (laws_eqInt64S_ok v112 y111 v125 y124 hs (fun _ hs => (hs.shows 2 rfl)) (fun _ hs => (hs.shows 0 rfl)) _ h) rfl rfl nofun ?_
        clear h hs
        rintro _ H129 ⟨y128, h, rfl, hs⟩
        refine so_un rfl au_not ?_
        refine so_nil ?_
        replace h := ofT h; rcases h with ⟨c130, h⟩ | ⟨c130, h⟩
        · refine fi_false rfl (not_f c130) ?_
          refine fi_skip ?_
          refine fi_seq ?_
          refine fi_region ?_
          refine so_assign rfl ?_
          refine so_nil ?_
          refine fi_seq ?_
          refine fi_region ?_
          refine so_move rfl ?_
          refine so_move rfl ?_
          replace hs := (Sep.front 2 hs rfl)
          refine sv_call (laws_markInt64S_ok v112 y111 (1 : Int) hs  _ h) rfl rfl nofun ?_
          clear h hs
          rintro _ H133 ⟨y131, y132, h, rfl, hs⟩
          refine so_assign rfl ?_
          refine so_nil ?_
          refine fi_seq ?_
          refine fi_seq ?_
          refine fi_region ?_
          refine so_move rfl ?_
          refine so_bin rfl rfl ab_lss ?_
          refine so_move rfl ?_
          replace h := ofP h; rcases h with ⟨c134, h⟩ | ⟨c134, h⟩
          · refine so_gno rfl (decide_eq_true c134) ?_
            refine so_gno rfl (decide_eq_true c134) ?_
            refine so_gno rfl (decide_eq_true c134) ?_
            refine so_gno rfl (decide_eq_true c134) ?_
            refine so_pick_t rfl (decide_eq_true c134) rfl ?_
            refine so_move rfl ?_
            refine so_gno rfl rfl ?_
            refine so_gno rfl rfl ?_
            refine so_gno rfl rfl ?_
            refine so_pick_t rfl rfl rfl ?_
            refine so_nil ?_
            refine fi_true rfl rfl ?_
            refine fi_seq ?_
            refine fi_region ?_
            refine so_assign rfl ?_
            refine so_nil ?_
            exact by_ret rfl ⟨_, h, rfl, (Sep.del 0 (Sep.del 0 (Sep.del 0 (Sep.del 0 (Sep.del 0 hs)))))⟩
          · refine so_gyes rfl (decide_eq_false c134) ?_
            refine so_move rfl ?_
            refine so_gyes rfl (decide_eq_false c134) ?_
            refine so_move rfl ?_
            refine so_gyes rfl (decide_eq_false c134) ?_
            refine sv_call (laws_eqInt64S_ok v116 y115 v107 y106 hs (fun _ hs => (hs.shows 2 rfl)) (fun _ hs => (hs.shows 3 rfl)) _ h) rfl rfl nofun ?_
            clear h hs
            rintro _ H136 ⟨y135, h, rfl, hs⟩
            refine so_gyes rfl (decide_eq_false c134) ?_
            refine so_un rfl au_not ?_
            refine so_pick_f rfl (decide_eq_false c134) rfl ?_
            refine so_move rfl ?_
            replace h := ofT h; rcases h with ⟨c137, h⟩ | ⟨c137, h⟩
            · refine so_gyes rfl (not_f c137) ?_
              refine so_move rfl ?_
              refine so_gyes rfl (not_f c137) ?_
              refine so_move rfl ?_
              refine so_gyes rfl (not_f c137) ?_
              refine so_bin rfl rfl (ab_bneq F3.tb4) ?_
              refine so_pick_f rfl (not_f c137) rfl ?_
              refine so_nil ?_
              refine fi_false rfl (not_f c123) ?_
              refine fi_skip ?_
              refine fi_seq ?_
              refine fi_region ?_
              refine so_assign rfl ?_
              refine so_nil ?_
              refine fi_seq ?_
              refine fi_region ?_
              refine so_move rfl ?_
              refine so_move rfl ?_
              replace hs := (Sep.front 2 hs rfl)
              refine sv_call (laws_markInt64S_ok v116 y115 (1 : Int) hs  _ h) rfl rfl nofun ?_
              clear h hs
              rintro _ H140 ⟨y138, y139, h, rfl, hs⟩
              refine so_assign rfl ?_
              refine so_nil ?_
              refine fi_seq ?_
              refine fi_region ?_
              refine so_assign rfl ?_
              refine so_nil ?_
              refine fi_seq ?_
              refine fi_region ?_
              refine so_move rfl ?_
              refine so_move rfl ?_
              refine sv_call (laws_heldInt64S_ok v116 y139 (1 : Int) hs (fun _ hs => (hs.shows 0 rfl)) _ h) rfl rfl nofun ?_
              clear h hs
              rintro _ H142 ⟨y141, h, rfl, hs⟩
              refine so_assign rfl ?_
              refine so_nil ?_
              refine fi_seq ?_
              refine fi_seq ?_
              refine fi_region ?_
              refine so_move rfl ?_
              refine so_bin rfl rfl ab_lss ?_
              refine so_nil ?_
              replace h := ofP h; rcases h with ⟨c143, h⟩ | ⟨c143, h⟩
              · refine fi_true rfl (decide_eq_true c143) ?_
                refine fi_seq ?_
                refine fi_region ?_
                refine so_assign rfl ?_
                refine so_nil ?_
                exact by_ret rfl ⟨_, h, rfl, (Sep.del 0 (Sep.del 0 (Sep.del 0 (Sep.del 0 (Sep.del 0 hs)))))⟩
              · refine fi_false rfl (decide_eq_false c143) ?_
                refine fi_skip ?_
                refine fi_seq ?_
                refine fi_seq ?_
                refine fi_region ?_
                refine so_move rfl ?_
                refine so_move rfl ?_
                refine so_bin rfl rfl ab_neq ?_
                refine so_nil ?_
                replace h := ofP h; rcases h with ⟨c144, h⟩ | ⟨c144, h⟩
                · refine fi_false rfl (not_f (decide_eq_true c144)) ?_
                  refine fi_skip ?_
                  refine fi_seq ?_
                  refine fi_region ?_
                  refine so_move rfl ?_
                  refine sv_call (laws_toInt64S_ok v0 l0 hs (fun _ hs => (g0 _ hs.tl.tl.tl.tl.tl)) _ h) rfl rfl nofun ?_
                  clear h hs
                  rintro _ H148 ⟨y145, h, v146, rfl, hs⟩
                  refine so_move rfl ?_
                  refine so_move rfl ?_
                  refine sv_call (impl_ZeroTrees_ok v146 y145 a1 a2 hs (fun _ hs => (hs.shows 0 rfl)) _ h) rfl rfl nofun ?_
                  clear h hs
                  rintro _ H153 ⟨y149, y152, h, v150, rfl, hs⟩
                  refine so_move rfl ?_
                  refine so_extract rfl rfl rfl ?_
                  refine so_extract rfl rfl rfl ?_
                  refine so_assign rfl ?_
                  refine so_assign rfl ?_
                  refine so_nil ?_
                  refine fi_seq ?_
                  refine fi_seq ?_
                  refine fi_region ?_
                  refine so_move rfl ?_
                  refine so_move rfl ?_
                  refine sv_call (laws_eqInt64S_ok v150 y149 v107 y106 hs (fun _ hs => (hs.shows 0 rfl)) (fun _ hs => (hs.shows 5 rfl)) _ h) rfl rfl nofun ?_
                  clear h hs
                  rintro _ H155 ⟨y154, h, rfl, hs⟩
                  refine so_un rfl au_not ?_
                  refine so_move rfl ?_
                  replace h := ofT h; rcases h with ⟨c156, h⟩ | ⟨c156, h⟩
                  · refine so_gyes rfl (not_f c156) ?_
                    refine so_move rfl ?_
                    refine so_gyes rfl (not_f c156) ?_
                    refine so_move rfl ?_
                    refine so_gyes rfl (not_f c156) ?_
                    refine so_bin rfl rfl (ab_bneq F3.tb4) ?_
                    refine so_pick_f rfl (not_f c156) rfl ?_
                    refine so_nil ?_
                    replace h := ofT h; rcases h with ⟨c157, h⟩ | ⟨c157, h⟩
                    · refine fi_false rfl (not_f c157) ?_
                      refine fi_skip ?_
                      refine fi_seq ?_
                      refine fi_region ?_
                      refine so_assign rfl ?_
                      refine so_nil ?_
                      refine fi_seq ?_
                      refine fi_region ?_
                      refine so_move rfl ?_
                      refine so_move rfl ?_
                      refine sv_call (laws_heldInt64S_ok v116 y139 (1 : Int) hs (fun _ hs => (hs.shows 2 rfl)) _ h) rfl rfl nofun ?_
                      clear h hs
                      rintro _ H159 ⟨y158, h, rfl, hs⟩
                      refine so_assign rfl ?_
                      refine so_nil ?_
                      refine fi_seq ?_
                      refine fi_seq ?_
                      refine fi_region ?_
                      refine so_move rfl ?_
                      refine so_bin rfl rfl ab_lss ?_
                      refine so_nil ?_
                      replace h := ofP h; rcases h with ⟨c160, h⟩ | ⟨c160, h⟩
                      · refine fi_true rfl (decide_eq_true c160) ?_
                        refine fi_seq ?_
                        refine fi_region ?_
                        refine so_assign rfl ?_
                        refine so_nil ?_
                        exact by_ret rfl ⟨_, h, rfl, (Sep.del 0 (Sep.del 0 (Sep.del 0 (Sep.del 0 (Sep.del 0 (Sep.del 0 (Sep.del 0 hs)))))))⟩
                      · refine fi_false rfl (decide_eq_false c160) ?_
                        refine fi_skip ?_
                        refine fi_seq ?_
                        refine fi_seq ?_
                        refine fi_region ?_
                        refine so_move rfl ?_
                        refine so_move rfl ?_
                        refine so_bin rfl rfl ab_neq ?_
                        refine so_nil ?_
                        replace h := ofP h; rcases h with ⟨c161, h⟩ | ⟨c161, h⟩
                        · refine fi_false rfl (not_f (decide_eq_true c161)) ?_
                          refine fi_skip ?_
                          refine fi_seq ?_
                          refine fi_region ?_
                          refine so_assign rfl ?_
                          refine so_nil ?_
                          exact by_ret rfl ⟨_, h, rfl, (Sep.del 0 (Sep.del 0 (Sep.del 0 (Sep.del 0 (Sep.del 0 (Sep.del 0 (Sep.del 0 hs)))))))⟩
                        · refine fi_true rfl (not_t (decide_eq_false c161)) ?_
                          refine fi_seq ?_
                          refine fi_region ?_
                          refine so_assign rfl ?_
                          refine so_nil ?_
                          exact by_ret rfl ⟨_, h, rfl, (Sep.del 0 (Sep.del 0 (Sep.del 0 (Sep.del 0 (Sep.del 0 (Sep.del 0 (Sep.del 0 hs)))))))⟩
                    · refine fi_true rfl (not_t c157) ?_
                      refine fi_seq ?_
                      refine fi_region ?_
                      refine so_assign rfl ?_
                      refine so_nil ?_
                      exact by_ret rfl ⟨_, h, rfl, (Sep.del 0 (Sep.del 0 (Sep.del 0 (Sep.del 0 (Sep.del 0 (Sep.del 0 (Sep.del 0 hs)))))))⟩
                  · refine so_gno rfl (not_t c156) ?_
                    refine so_gno rfl (not_t c156) ?_
                    refine so_gno rfl (not_t c156) ?_
                    refine so_pick_t rfl (not_t c156) rfl ?_
                    refine so_nil ?_
                    refine fi_true rfl rfl ?_
                    refine fi_seq ?_
                    refine fi_region ?_
                    refine so_assign rfl ?_
                    refine so_nil ?_
                    exact by_ret rfl ⟨_, h, rfl, (Sep.del 0 (Sep.del 0 (Sep.del 0 (Sep.del 0 (Sep.del 0 (Sep.del 0 (Sep.del 0 hs)))))))⟩
                · refine fi_true rfl (not_t (decide_eq_false c144)) ?_
                  refine fi_seq ?_
                  refine fi_region ?_
                  refine so_assign rfl ?_
                  refine so_nil ?_
                  exact by_ret rfl ⟨_, h, rfl, (Sep.del 0 (Sep.del 0 (Sep.del 0 (Sep.del 0 (Sep.del 0 hs)))))⟩
            · refine so_gno rfl (not_t c137) ?_
              refine so_gno rfl (not_t c137) ?_
              refine so_gno rfl (not_t c137) ?_
              refine so_pick_t rfl (not_t c137) rfl ?_
              refine so_nil ?_
              refine fi_true rfl rfl ?_
              refine fi_seq ?_
              refine fi_region ?_
              refine so_assign rfl ?_
              refine so_nil ?_
              exact by_ret rfl ⟨_, h, rfl, (Sep.del 0 (Sep.del 0 (Sep.del 0 (Sep.del 0 (Sep.del 0 hs)))))⟩
        · refine fi_true rfl (not_t c130) ?_
          refine fi_seq ?_
          refine fi_region ?_
          refine so_assign rfl ?_
          refine so_nil ?_
          exact by_ret rfl ⟨_, h, rfl, (Sep.del 0 (Sep.del 0 (Sep.del 0 (Sep.del 0 (Sep.del 0 hs)))))⟩
      · refine fi_true rfl (not_t c123) ?_
        refine fi_seq ?_
        refine fi_region ?_
        refine so_assign rfl ?_
        refine so_nil ?_
        exact by_ret rfl ⟨_, h, rfl, (Sep.del 0 (Sep.del 0 (Sep.del 0 (Sep.del 0 hs))))⟩
    · refine so_gno rfl (not_t c122) ?_
      refine so_gno rfl (not_t c122) ?_
      refine so_gno rfl (not_t c122) ?_
      refine so_pick_t rfl (not_t c122) rfl ?_
      refine so_nil ?_
      refine fi_true rfl rfl ?_
      refine fi_seq ?_
      refine fi_region ?_
      refine so_assign rfl ?_
      refine so_nil ?_
      exact by_ret rfl ⟨_, h, rfl, (Sep.del 0 (Sep.del 0 (Sep.del 0 (Sep.del 0 hs))))⟩

end Go.Proofs.Ytplfnchoooehgaa.G

