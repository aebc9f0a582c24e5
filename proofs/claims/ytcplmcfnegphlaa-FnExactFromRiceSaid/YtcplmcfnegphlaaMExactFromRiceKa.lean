/-
  The model ends so. Printed by a program of the session; nothing here is trusted.
-/
import Derived.Test.YtcplmcfnegphlaaProg
import Derived.KernelRfl
import Derived.Test.YtcplmcfnegphlaaMExactFromRiceWa
namespace Go.Proofs.Ytcplmcfnegphlaa.F
open Go Go.Ab Go.Proofs
set_option maxRecDepth 100000
set_option linter.unusedVariables false
set_option linter.unusedSimpArgs false
set_option maxHeartbeats 1000000
theorem hm : Try.prog.follows .mixedOrders = true := by kernel_rfl
end Go.Proofs.Ytcplmcfnegphlaa.F

namespace Go.Proofs.Ytcplmcfnegphlaa.G
open Go Go.Ab Go.Proofs Go.Proofs.Ytcplmcfnegphlaa
set_option maxRecDepth 100000
set_option linter.unusedVariables false
set_option linter.unusedSimpArgs false
set_option maxHeartbeats 1000000
theorem F20.ag4 : tagg Try.prog 4 = some false := by kernel_rfl
theorem F20.tb4 : tbool Try.prog 4 = true := by kernel_rfl
theorem F20.ti30 : (telem Try.prog 30).isSome = true := by kernel_rfl
theorem F20.tl30 : (telem Try.prog 30).bind (tsz Try.prog) = some 1 := by kernel_rfl
theorem laws_eqBoolS_ok {fr : List Pc} {H : Heap} (v0 : AV) (l0 : List (Bool)) (v1 : AV) (l1 : List (Bool)) (hs : Sep H (fr)) (g0 : ∀ H, Sep H fr → Shows H v0 1 (enc eBool l0)) (g1 : ∀ H, Sep H fr → Shows H v1 1 (enc eBool l1)) (K : Bool → Prop) (h : laws_eqBoolS.wp l0 l1 K) : OkQ Try.prog 20 [(.v v0), (.v v1)] H (fun r H2 => ∃ (y0 : Bool), K y0 ∧ r = (.v (.bool y0)) ∧ Sep H2 (fr)) := by
  unfold laws_eqBoolS.wp at h
  refine of_body Try.f20 F.hm Try.func20 rfl Try.call20 (by kernel_rfl) (by simp) ?_
  refine fi_seq ?_
  refine fi_region ?_
  refine so_assign rfl ?_
  refine so_nil ?_
  refine fi_seq ?_
  refine fi_seq ?_
  refine fi_region ?_
  refine so_move rfl ?_
  refine sv_len (g0 _ hs) (fun _ => rfl) (by decide) rfl F20.ti30 ?_
  refine so_move rfl ?_
  refine sv_len (g1 _ hs) (fun _ => rfl) (by decide) rfl F20.ti30 ?_
  refine so_bin rfl rfl ab_neq ?_
  refine so_nil ?_
  replace h := ofP h; rcases h with ⟨c101, h⟩ | ⟨c101, h⟩
  · refine fi_false rfl (not_f (decide_eq_true c101)) ?_
    refine fi_skip ?_
    refine fi_seq ?_
    refine fi_seq ?_
    refine fi_region ?_
    refine so_assign rfl ?_
    refine so_nil ?_
    refine fi_block ?_
    refine fi_loop ?_
    refine fi_at [(0, (.v v0)), (1, (.v v1)), (5, (.v (.int .i64 (0 : Int))))] ⟨rfl, rfl, rfl, trivial⟩ ?_
    refine h (fun (i103 : Int) => ∀ (s : Nat → TV) (H : Heap), Sep H (fr) → Fin _ _ (updL s [(0, (.v v0)), (1, (.v v1)), (5, (.v (.int .i64 i103)))]) H _) ?_ _ _ hs
    intro i103 h s108 H109 hs
    refine fi_inLoop ?_
    refine fi_seq ?_
    refine fi_seq ?_
    refine fi_region ?_
    refine so_move rfl ?_
    refine so_move rfl ?_
    refine sv_len (g0 _ hs) (fun _ => rfl) (by decide) rfl F20.ti30 ?_
    refine so_bin rfl rfl ab_lss ?_
    refine so_nil ?_
    replace h := ofP h; rcases h with ⟨c104, h⟩ | ⟨c104, h⟩
    · refine fi_true rfl (decide_eq_true c104) ?_
      refine fi_skip ?_
      refine fi_seq ?_
      refine fi_block ?_
      refine fi_seq ?_
      refine fi_region ?_
      refine so_move rfl ?_
      refine so_move rfl ?_
      obtain ⟨c105, h⟩ := h
      refine sv_idx (g0 _ hs) c105 (fun _ => rfl) (by decide) rfl rfl F20.tl30 ?_
      refine sv_cell (g0 _ hs) c105 false 0 (fun x => (AV.bool x)) (fun _ => rfl) (fun _ => rfl) rfl F20.ag4 ?_
      refine so_move rfl ?_
      refine so_move rfl ?_
      obtain ⟨c106, h⟩ := h
      refine sv_idx (g1 _ hs) c106 (fun _ => rfl) (by decide) rfl rfl F20.tl30 ?_
      refine sv_cell (g1 _ hs) c106 false 0 (fun x => (AV.bool x)) (fun _ => rfl) (fun _ => rfl) rfl F20.ag4 ?_
      refine so_bin rfl rfl (ab_bneq F20.tb4) ?_
      refine so_nil ?_
      replace h := ofT h; rcases h with ⟨c107, h⟩ | ⟨c107, h⟩
      · refine fi_false rfl (not_f c107) ?_
        refine fi_skip ?_
        refine fi_inBlock ?_
        refine fi_region ?_
        refine so_move rfl ?_
        refine so_bin rfl rfl ab_add ?_
        refine so_assign rfl ?_
        refine so_nil ?_
        exact fi_at [(0, (.v v0)), (1, (.v v1)), (5, (.v (.int .i64 (IntKind.i64.wrap (i103 + (1 : Int))))))] ⟨rfl, rfl, rfl, trivial⟩ (h _ _  hs)
      · refine fi_true rfl (not_t c107) ?_
        refine fi_seq ?_
        refine fi_region ?_
        refine so_assign rfl ?_
        refine so_nil ?_
        exact by_ret rfl ⟨_, h, rfl, hs⟩
    · refine fi_false rfl (decide_eq_false c104) ?_
      refine fi_exit rfl ?_
      refine fi_seq ?_
      refine fi_region ?_
      refine so_assign rfl ?_
      refine so_nil ?_
      exact by_ret rfl ⟨_, h, rfl, hs⟩
  · refine fi_true rfl (not_t (decide_eq_false c101)) ?_
    refine fi_seq ?_
    refine fi_region ?_
    refine so_assign rfl ?_
    refine so_nil ?_
    exact by_ret rfl ⟨_, h, rfl, hs⟩

end Go.Proofs.Ytcplmcfnegphlaa.G

namespace Go.Proofs.Ytcplmcfnegphlaa.G
open Go Go.Ab Go.Proofs Go.Proofs.Ytcplmcfnegphlaa
set_option maxRecDepth 100000
set_option linter.unusedVariables false
set_option linter.unusedSimpArgs false
set_option maxHeartbeats 1000000
theorem F21.ag2 : tagg Try.prog 2 = some false := by kernel_rfl
theorem F21.ti24 : (telem Try.prog 24).isSome = true := by kernel_rfl
theorem F21.tl24 : (telem Try.prog 24).bind (tsz Try.prog) = some 1 := by kernel_rfl
theorem laws_eqInt64S_ok {fr : List Pc} {H : Heap} (v0 : AV) (l0 : List (Int)) (v1 : AV) (l1 : List (Int)) (hs : Sep H (fr)) (g0 : ∀ H, Sep H fr → Shows H v0 1 (enc (eInt .i64) l0)) (g1 : ∀ H, Sep H fr → Shows H v1 1 (enc (eInt .i64) l1)) (K : Bool → Prop) (h : laws_eqInt64S.wp l0 l1 K) : OkQ Try.prog 21 [(.v v0), (.v v1)] H (fun r H2 => ∃ (y0 : Bool), K y0 ∧ r = (.v (.bool y0)) ∧ Sep H2 (fr)) := by
  unfold laws_eqInt64S.wp at h
  refine of_body Try.f21 F.hm Try.func21 rfl Try.call21 (by kernel_rfl) (by simp) ?_
  refine fi_seq ?_
  refine fi_region ?_
  refine so_assign rfl ?_
  refine so_nil ?_
  refine fi_seq ?_
  refine fi_seq ?_
  refine fi_region ?_
  refine so_move rfl ?_
  refine sv_len (g0 _ hs) (fun _ => rfl) (by decide) rfl F21.ti24 ?_
  refine so_move rfl ?_
  refine sv_len (g1 _ hs) (fun _ => rfl) (by decide) rfl F21.ti24 ?_
  refine so_bin rfl rfl ab_neq ?_
  refine so_nil ?_
  replace h := ofP h; rcases h with ⟨c101, h⟩ | ⟨c101, h⟩
  · refine fi_false rfl (not_f (decide_eq_true c101)) ?_
    refine fi_skip ?_
    refine fi_seq ?_
    refine fi_seq ?_
    refine fi_region ?_
    refine so_assign rfl ?_
    refine so_nil ?_
    refine fi_block ?_
    refine fi_loop ?_
    refine fi_at [(0, (.v v0)), (1, (.v v1)), (5, (.v (.int .i64 (0 : Int))))] ⟨rfl, rfl, rfl, trivial⟩ ?_
    refine h (fun (i103 : Int) => ∀ (s : Nat → TV) (H : Heap), Sep H (fr) → Fin _ _ (updL s [(0, (.v v0)), (1, (.v v1)), (5, (.v (.int .i64 i103)))]) H _) ?_ _ _ hs
    intro i103 h s108 H109 hs
    refine fi_inLoop ?_
    refine fi_seq ?_
    refine fi_seq ?_
    refine fi_region ?_
    refine so_move rfl ?_
    refine so_move rfl ?_
    refine sv_len (g0 _ hs) (fun _ => rfl) (by decide) rfl F21.ti24 ?_
    refine so_bin rfl rfl ab_lss ?_
    refine so_nil ?_
    replace h := ofP h; rcases h with ⟨c104, h⟩ | ⟨c104, h⟩
    · refine fi_true rfl (decide_eq_true c104) ?_
      refine fi_skip ?_
      refine fi_seq ?_
      refine fi_block ?_
      refine fi_seq ?_
      refine fi_region ?_
      refine so_move rfl ?_
      refine so_move rfl ?_
      obtain ⟨c105, h⟩ := h
      refine sv_idx (g0 _ hs) c105 (fun _ => rfl) (by decide) rfl rfl F21.tl24 ?_
      refine sv_cell (g0 _ hs) c105 (0 : Int) 0 (fun x => (AV.int .i64 x)) (fun _ => rfl) (fun _ => rfl) rfl F21.ag2 ?_
      refine so_move rfl ?_
      refine so_move rfl ?_
      obtain ⟨c106, h⟩ := h
      refine sv_idx (g1 _ hs) c106 (fun _ => rfl) (by decide) rfl rfl F21.tl24 ?_
      refine sv_cell (g1 _ hs) c106 (0 : Int) 0 (fun x => (AV.int .i64 x)) (fun _ => rfl) (fun _ => rfl) rfl F21.ag2 ?_
      refine so_bin rfl rfl ab_neq ?_
      refine so_nil ?_
      replace h := ofP h; rcases h with ⟨c107, h⟩ | ⟨c107, h⟩
      · refine fi_false rfl (not_f (decide_eq_true c107)) ?_
        refine fi_skip ?_
        refine fi_inBlock ?_
        refine fi_region ?_
        refine so_move rfl ?_
        refine so_bin rfl rfl ab_add ?_
        refine so_assign rfl ?_
        refine so_nil ?_
        exact fi_at [(0, (.v v0)), (1, (.v v1)), (5, (.v (.int .i64 (IntKind.i64.wrap (i103 + (1 : Int))))))] ⟨rfl, rfl, rfl, trivial⟩ (h _ _  hs)
      · refine fi_true rfl (not_t (decide_eq_false c107)) ?_
        refine fi_seq ?_
        refine fi_region ?_
        refine so_assign rfl ?_
        refine so_nil ?_
        exact by_ret rfl ⟨_, h, rfl, hs⟩
    · refine fi_false rfl (decide_eq_false c104) ?_
      refine fi_exit rfl ?_
      refine fi_seq ?_
      refine fi_region ?_
      refine so_assign rfl ?_
      refine so_nil ?_
      exact by_ret rfl ⟨_, h, rfl, hs⟩
  · refine fi_true rfl (not_t (decide_eq_false c101)) ?_
    refine fi_seq ?_
    refine fi_region ?_
    refine so_assign rfl ?_
    refine so_nil ?_
    exact by_ret rfl ⟨_, h, rfl, hs⟩

end Go.Proofs.Ytcplmcfnegphlaa.G

namespace Go.Proofs.Ytcplmcfnegphlaa.G
open Go Go.Ab Go.Proofs Go.Proofs.Ytcplmcfnegphlaa
set_option maxRecDepth 100000
set_option linter.unusedVariables false
set_option linter.unusedSimpArgs false
set_option maxHeartbeats 1000000
theorem F22.sz2 : tsz Try.prog 2 = some 1 := by kernel_rfl
theorem F22.ti24 : (telem Try.prog 24).isSome = true := by kernel_rfl
theorem F22.tl24 : (telem Try.prog 24).bind (tsz Try.prog) = some 1 := by kernel_rfl
theorem laws_markInt64S_ok {fr : List Pc} {H : Heap} (v0 : AV) (l0 : List (Int)) (a1 : Int) (hs : Sep H (Pc.osl v0 1 (enc (eInt .i64) l0) :: fr))  (K : Int → (List (Int)) → Prop) (h : laws_markInt64S.wp l0 a1 K) : OkQ Try.prog 22 [(.v v0), (.v (.int .i64 a1))] H (fun r H2 => ∃ (y0 : Int) (y1 : List (Int)), K y0 y1 ∧ r = (.v (.int .i64 y0)) ∧ Sep H2 (Pc.osl v0 1 (enc (eInt .i64) y1) :: fr)) := by
  unfold laws_markInt64S.wp at h
  refine of_body Try.f22 F.hm Try.func22 rfl Try.call22 (by kernel_rfl) (by simp) ?_
  refine fi_seq ?_
  refine fi_region ?_
  refine so_assign rfl ?_
  refine so_nil ?_
  refine fi_seq ?_
  refine fi_seq ?_
  refine fi_region ?_
  refine so_assign rfl ?_
  refine so_nil ?_
  refine fi_block ?_
  refine fi_loop ?_
  refine fi_at [(0, (.v v0)), (1, (.v (.int .i64 a1))), (5, (.v (.int .i64 (0 : Int))))] ⟨rfl, rfl, rfl, trivial⟩ ?_
  refine h (fun (a109 : List (Int)) (k110 : Int) (i111 : Int) => ∀ (s : Nat → TV) (H : Heap), Sep H (Pc.osl v0 1 (enc (eInt .i64) a109) :: fr) → Fin _ _ (updL s [(0, (.v v0)), (1, (.v (.int .i64 k110))), (5, (.v (.int .i64 i111)))]) H _) ?_ _ _ hs
  intro a109 k110 i111 h s115 H116 hs
  refine fi_inLoop ?_
  refine fi_seq ?_
  refine fi_seq ?_
  refine fi_region ?_
  refine so_move rfl ?_
  refine so_move rfl ?_
  refine sv_len (hs.shows 0 rfl) (fun _ => rfl) (by decide) rfl F22.ti24 ?_
  refine so_bin rfl rfl ab_lss ?_
  refine so_nil ?_
  replace h := ofP h; rcases h with ⟨c112, h⟩ | ⟨c112, h⟩
  · refine fi_true rfl (decide_eq_true c112) ?_
    refine fi_skip ?_
    refine fi_seq ?_
    refine fi_block ?_
    refine fi_seq ?_
    refine fi_region ?_
    refine so_move rfl ?_
    refine so_move rfl ?_
    refine so_move rfl ?_
    obtain ⟨c113, h⟩ := h
    refine sv_idx (hs.shows 0 rfl) c113 (fun _ => rfl) (by decide) rfl rfl F22.tl24 ?_
    refine sv_set hs 0 rfl c113 k110 (fun _ => rfl) (by decide) rfl rfl rfl rfl F22.sz2 nofun (fun H114 hs => ?_)
    refine so_nil ?_
    refine fi_region ?_
    refine so_move rfl ?_
    refine so_bin rfl rfl ab_add ?_
    refine so_assign rfl ?_
    refine so_nil ?_
    refine fi_inBlock ?_
    refine fi_region ?_
    refine so_move rfl ?_
    refine so_bin rfl rfl ab_add ?_
    refine so_assign rfl ?_
    refine so_nil ?_
    exact fi_at [(0, (.v v0)), (1, (.v (.int .i64 (IntKind.i64.wrap (k110 + (1 : Int)))))), (5, (.v (.int .i64 (IntKind.i64.wrap (i111 + (1 : Int))))))] ⟨rfl, rfl, rfl, trivial⟩ (h _ _  hs)
  · refine fi_false rfl (decide_eq_false c112) ?_
    refine fi_exit rfl ?_
    refine fi_seq ?_
    refine fi_region ?_
    refine so_move rfl ?_
    refine so_assign rfl ?_
    refine so_nil ?_
    exact by_ret rfl ⟨_, _, h, rfl, hs⟩

end Go.Proofs.Ytcplmcfnegphlaa.G

namespace Go.Proofs.Ytcplmcfnegphlaa.G
open Go Go.Ab Go.Proofs Go.Proofs.Ytcplmcfnegphlaa
set_option maxRecDepth 100000
set_option linter.unusedVariables false
set_option linter.unusedSimpArgs false
set_option maxHeartbeats 1000000
theorem F23.sz4 : tsz Try.prog 4 = some 1 := by kernel_rfl
theorem F23.ti30 : (telem Try.prog 30).isSome = true := by kernel_rfl
theorem F23.tl30 : (telem Try.prog 30).bind (tsz Try.prog) = some 1 := by kernel_rfl
theorem laws_markBoolS_ok {fr : List Pc} {H : Heap} (v0 : AV) (l0 : List (Bool)) (a1 : Int) (hs : Sep H (Pc.osl v0 1 (enc eBool l0) :: fr))  (K : Int → (List (Bool)) → Prop) (h : laws_markBoolS.wp l0 a1 K) : OkQ Try.prog 23 [(.v v0), (.v (.int .i64 a1))] H (fun r H2 => ∃ (y0 : Int) (y1 : List (Bool)), K y0 y1 ∧ r = (.v (.int .i64 y0)) ∧ Sep H2 (Pc.osl v0 1 (enc eBool y1) :: fr)) := by
  unfold laws_markBoolS.wp at h
  refine of_body Try.f23 F.hm Try.func23 rfl Try.call23 (by kernel_rfl) (by simp) ?_
  refine fi_seq ?_
  refine fi_region ?_
  refine so_assign rfl ?_
  refine so_nil ?_
  refine fi_seq ?_
  refine fi_seq ?_
  refine fi_region ?_
  refine so_assign rfl ?_
  refine so_nil ?_
  refine fi_block ?_
  refine fi_loop ?_
  refine fi_at [(0, (.v v0)), (1, (.v (.int .i64 a1))), (5, (.v (.int .i64 (0 : Int))))] ⟨rfl, rfl, rfl, trivial⟩ ?_
  refine h (fun (a109 : List (Bool)) (k110 : Int) (i111 : Int) => ∀ (s : Nat → TV) (H : Heap), Sep H (Pc.osl v0 1 (enc eBool a109) :: fr) → Fin _ _ (updL s [(0, (.v v0)), (1, (.v (.int .i64 k110))), (5, (.v (.int .i64 i111)))]) H _) ?_ _ _ hs
  intro a109 k110 i111 h s115 H116 hs
  refine fi_inLoop ?_
  refine fi_seq ?_
  refine fi_seq ?_
  refine fi_region ?_
  refine so_move rfl ?_
  refine so_move rfl ?_
  refine sv_len (hs.shows 0 rfl) (fun _ => rfl) (by decide) rfl F23.ti30 ?_
  refine so_bin rfl rfl ab_lss ?_
  refine so_nil ?_
  replace h := ofP h; rcases h with ⟨c112, h⟩ | ⟨c112, h⟩
  · refine fi_true rfl (decide_eq_true c112) ?_
    refine fi_skip ?_
    refine fi_seq ?_
    refine fi_block ?_
    refine fi_seq ?_
    refine fi_region ?_
    refine so_move rfl ?_
    refine so_move rfl ?_
    refine so_move rfl ?_
    refine so_bin rfl rfl (ab_rem (by decide)) ?_
    refine so_bin rfl rfl ab_eql ?_
    obtain ⟨c113, h⟩ := h
    refine sv_idx (hs.shows 0 rfl) c113 (fun _ => rfl) (by decide) rfl rfl F23.tl30 ?_
    refine sv_set hs 0 rfl c113 (decide ((Int.tmod k110 (3 : Int)) = (0 : Int))) (fun _ => rfl) (by decide) rfl rfl rfl rfl F23.sz4 nofun (fun H114 hs => ?_)
    refine so_nil ?_
    refine fi_region ?_
    refine so_move rfl ?_
    refine so_bin rfl rfl ab_add ?_
    refine so_assign rfl ?_
    refine so_nil ?_
    refine fi_inBlock ?_
    refine fi_region ?_
    refine so_move rfl ?_
    refine so_bin rfl rfl ab_add ?_
    refine so_assign rfl ?_
    refine so_nil ?_
    exact fi_at [(0, (.v v0)), (1, (.v (.int .i64 (IntKind.i64.wrap (k110 + (1 : Int)))))), (5, (.v (.int .i64 (IntKind.i64.wrap (i111 + (1 : Int))))))] ⟨rfl, rfl, rfl, trivial⟩ (h _ _  hs)
  · refine fi_false rfl (decide_eq_false c112) ?_
    refine fi_exit rfl ?_
    refine fi_seq ?_
    refine fi_region ?_
    refine so_move rfl ?_
    refine so_assign rfl ?_
    refine so_nil ?_
    exact by_ret rfl ⟨_, _, h, rfl, hs⟩

end Go.Proofs.Ytcplmcfnegphlaa.G

namespace Go.Proofs.Ytcplmcfnegphlaa.G
open Go Go.Ab Go.Proofs Go.Proofs.Ytcplmcfnegphlaa
set_option maxRecDepth 100000
set_option linter.unusedVariables false
set_option linter.unusedSimpArgs false
set_option maxHeartbeats 1000000
theorem F26.ag2 : tagg Try.prog 2 = some false := by kernel_rfl
theorem F26.ti24 : (telem Try.prog 24).isSome = true := by kernel_rfl
theorem F26.tl24 : (telem Try.prog 24).bind (tsz Try.prog) = some 1 := by kernel_rfl
theorem laws_heldInt64S_ok {fr : List Pc} {H : Heap} (v0 : AV) (l0 : List (Int)) (a1 : Int) (hs : Sep H (fr)) (g0 : ∀ H, Sep H fr → Shows H v0 1 (enc (eInt .i64) l0)) (K : Int → Prop) (h : laws_heldInt64S.wp l0 a1 K) : OkQ Try.prog 26 [(.v v0), (.v (.int .i64 a1))] H (fun r H2 => ∃ (y0 : Int), K y0 ∧ r = (.v (.int .i64 y0)) ∧ Sep H2 (fr)) := by
  unfold laws_heldInt64S.wp at h
  refine of_body Try.f26 F.hm Try.func26 rfl Try.call26 (by kernel_rfl) (by simp) ?_
  refine fi_seq ?_
  refine fi_region ?_
  refine so_assign rfl ?_
  refine so_nil ?_
  refine fi_seq ?_
  refine fi_seq ?_
  refine fi_region ?_
  refine so_assign rfl ?_
  refine so_nil ?_
  refine fi_block ?_
  refine fi_loop ?_
  refine fi_at [(0, (.v v0)), (1, (.v (.int .i64 a1))), (5, (.v (.int .i64 (0 : Int))))] ⟨rfl, rfl, rfl, trivial⟩ ?_
  refine h (fun (k102 : Int) (i103 : Int) => ∀ (s : Nat → TV) (H : Heap), Sep H (fr) → Fin _ _ (updL s [(0, (.v v0)), (1, (.v (.int .i64 k102))), (5, (.v (.int .i64 i103)))]) H _) ?_ _ _ hs
  intro k102 i103 h s107 H108 hs
  refine fi_inLoop ?_
  refine fi_seq ?_
  refine fi_seq ?_
  refine fi_region ?_
  refine so_move rfl ?_
  refine so_move rfl ?_
  refine sv_len (g0 _ hs) (fun _ => rfl) (by decide) rfl F26.ti24 ?_
  refine so_bin rfl rfl ab_lss ?_
  refine so_nil ?_
  replace h := ofP h; rcases h with ⟨c104, h⟩ | ⟨c104, h⟩
  · refine fi_true rfl (decide_eq_true c104) ?_
    refine fi_skip ?_
    refine fi_seq ?_
    refine fi_block ?_
    refine fi_seq ?_
    refine fi_seq ?_
    refine fi_region ?_
    refine so_move rfl ?_
    refine so_move rfl ?_
    obtain ⟨c105, h⟩ := h
    refine sv_idx (g0 _ hs) c105 (fun _ => rfl) (by decide) rfl rfl F26.tl24 ?_
    refine sv_cell (g0 _ hs) c105 (0 : Int) 0 (fun x => (AV.int .i64 x)) (fun _ => rfl) (fun _ => rfl) rfl F26.ag2 ?_
    refine so_move rfl ?_
    refine so_bin rfl rfl ab_neq ?_
    refine so_nil ?_
    replace h := ofP h; rcases h with ⟨c106, h⟩ | ⟨c106, h⟩
    · refine fi_false rfl (not_f (decide_eq_true c106)) ?_
      refine fi_skip ?_
      refine fi_region ?_
      refine so_move rfl ?_
      refine so_bin rfl rfl ab_add ?_
      refine so_assign rfl ?_
      refine so_nil ?_
      refine fi_inBlock ?_
      refine fi_region ?_
      refine so_move rfl ?_
      refine so_bin rfl rfl ab_add ?_
      refine so_assign rfl ?_
      refine so_nil ?_
      exact fi_at [(0, (.v v0)), (1, (.v (.int .i64 (IntKind.i64.wrap (k102 + (1 : Int)))))), (5, (.v (.int .i64 (IntKind.i64.wrap (i103 + (1 : Int))))))] ⟨rfl, rfl, rfl, trivial⟩ (h _ _  hs)
    · refine fi_true rfl (not_t (decide_eq_false c106)) ?_
      refine fi_seq ?_
      refine fi_region ?_
      refine so_assign rfl ?_
      refine so_nil ?_
      exact by_ret rfl ⟨_, h, rfl, hs⟩
  · refine fi_false rfl (decide_eq_false c104) ?_
    refine fi_exit rfl ?_
    refine fi_seq ?_
    refine fi_region ?_
    refine so_move rfl ?_
    refine so_assign rfl ?_
    refine so_nil ?_
    exact by_ret rfl ⟨_, h, rfl, hs⟩

end Go.Proofs.Ytcplmcfnegphlaa.G

namespace Go.Proofs.Ytcplmcfnegphlaa.G
open Go Go.Ab Go.Proofs Go.Proofs.Ytcplmcfnegphlaa
set_option maxRecDepth 100000
set_option linter.unusedVariables false
set_option linter.unusedSimpArgs false
set_option maxHeartbeats 1000000
theorem spec_l00In_ok {fr : List Pc} {H : Heap} (a0 : Int) (a1 : Int) (a2 : Int) (hs : Sep H (fr))  (K : Bool → Prop) (h : spec_l00In.wp a0 a1 a2 K) : OkQ Try.prog 59 [(.v (.int .i64 a0)), (.v (.int .i64 a1)), (.v (.int .i64 a2))] H (fun r H2 => ∃ (y0 : Bool), K y0 ∧ r = (.v (.bool y0)) ∧ Sep H2 (fr)) := by
  unfold spec_l00In.wp at h
  refine of_body Try.f59 F.hm Try.func59 rfl Try.call59 (by kernel_rfl) (by simp) ?_
  refine fi_seq ?_
  refine fi_region ?_
  refine so_assign rfl ?_
  refine so_nil ?_
  refine fi_seq ?_
  refine fi_region ?_
  refine so_move rfl ?_
  refine so_move rfl ?_
  refine so_bin rfl rfl ab_geq ?_
  refine so_move rfl ?_
  replace h := ofP h; rcases h with ⟨c101, h⟩ | ⟨c101, h⟩
  · refine so_gyes rfl (decide_eq_true c101) ?_
    refine so_move rfl ?_
    refine so_gyes rfl (decide_eq_true c101) ?_
    refine so_move rfl ?_
    refine so_gyes rfl (decide_eq_true c101) ?_
    refine so_bin rfl rfl ab_leq ?_
    refine so_pick_t rfl (decide_eq_true c101) rfl ?_
    refine so_assign rfl ?_
    refine so_nil ?_
    exact by_ret rfl ⟨_, h, rfl, hs⟩
  · refine so_gno rfl (decide_eq_false c101) ?_
    refine so_gno rfl (decide_eq_false c101) ?_
    refine so_gno rfl (decide_eq_false c101) ?_
    refine so_pick_f rfl (decide_eq_false c101) rfl ?_
    refine so_assign rfl ?_
    refine so_nil ?_
    exact by_ret rfl ⟨_, h, rfl, hs⟩

end Go.Proofs.Ytcplmcfnegphlaa.G

namespace Go.Proofs.Ytcplmcfnegphlaa.G
open Go Go.Ab Go.Proofs Go.Proofs.Ytcplmcfnegphlaa
set_option maxRecDepth 100000
set_option linter.unusedVariables false
set_option linter.unusedSimpArgs false
set_option maxHeartbeats 1000000
theorem F71.ag2 : tagg Try.prog 2 = some false := by kernel_rfl
theorem F71.ti24 : (telem Try.prog 24).isSome = true := by kernel_rfl
theorem F71.tl24 : (telem Try.prog 24).bind (tsz Try.prog) = some 1 := by kernel_rfl
theorem spec_l02Bound_ok {fr : List Pc} {H : Heap} (v0 : AV) (l0 : List (Int)) (a1 : Int) (hs : Sep H (fr)) (g0 : ∀ H, Sep H fr → Shows H v0 1 (enc (eInt .i64) l0)) (K : Bool → Prop) (h : spec_l02Bound.wp l0 a1 K) : OkQ Try.prog 71 [(.v v0), (.v (.int .i64 a1))] H (fun r H2 => ∃ (y0 : Bool), K y0 ∧ r = (.v (.bool y0)) ∧ Sep H2 (fr)) := by
  unfold spec_l02Bound.wp at h
  refine of_body Try.f71 F.hm Try.func71 rfl Try.call71 (by kernel_rfl) (by simp) ?_
  refine fi_seq ?_
  refine fi_region ?_
  refine so_assign rfl ?_
  refine so_nil ?_
  refine fi_seq ?_
  refine fi_seq ?_
  refine fi_region ?_
  refine so_assign rfl ?_
  refine so_nil ?_
  refine fi_block ?_
  refine fi_loop ?_
  refine fi_at [(0, (.v v0)), (1, (.v (.int .i64 a1))), (5, (.v (.int .i64 (0 : Int))))] ⟨rfl, rfl, rfl, trivial⟩ ?_
  refine h (fun (i102 : Int) => ∀ (s : Nat → TV) (H : Heap), Sep H (fr) → Fin _ _ (updL s [(0, (.v v0)), (1, (.v (.int .i64 a1))), (5, (.v (.int .i64 i102)))]) H _) ?_ _ _ hs
  intro i102 h s108 H109 hs
  refine fi_inLoop ?_
  refine fi_seq ?_
  refine fi_seq ?_
  refine fi_region ?_
  refine so_move rfl ?_
  refine so_move rfl ?_
  refine sv_len (g0 _ hs) (fun _ => rfl) (by decide) rfl F71.ti24 ?_
  refine so_bin rfl rfl ab_lss ?_
  refine so_nil ?_
  replace h := ofP h; rcases h with ⟨c103, h⟩ | ⟨c103, h⟩
  · refine fi_true rfl (decide_eq_true c103) ?_
    refine fi_skip ?_
    refine fi_seq ?_
    refine fi_block ?_
    refine fi_seq ?_
    refine fi_region ?_
    refine so_move rfl ?_
    refine so_move rfl ?_
    obtain ⟨c104, h⟩ := h
    refine sv_idx (g0 _ hs) c104 (fun _ => rfl) (by decide) rfl rfl F71.tl24 ?_
    refine sv_cell (g0 _ hs) c104 (0 : Int) 0 (fun x => (AV.int .i64 x)) (fun _ => rfl) (fun _ => rfl) rfl F71.ag2 ?_
    refine so_move rfl ?_
    refine so_un rfl au_neg ?_
    refine so_move rfl ?_
    refine sv_call (spec_l00In_ok (l0.getD (i102).toNat (0 : Int)) (IntKind.i64.wrap (0 - a1)) a1 hs  _ h) rfl rfl nofun ?_
    clear h hs
    rintro _ H106 ⟨y105, h, rfl, hs⟩
    refine so_un rfl au_not ?_
    refine so_nil ?_
    replace h := ofT h; rcases h with ⟨c107, h⟩ | ⟨c107, h⟩
    · refine fi_false rfl (not_f c107) ?_
      refine fi_skip ?_
      refine fi_inBlock ?_
      refine fi_region ?_
      refine so_move rfl ?_
      refine so_bin rfl rfl ab_add ?_
      refine so_assign rfl ?_
      refine so_nil ?_
      exact fi_at [(0, (.v v0)), (1, (.v (.int .i64 a1))), (5, (.v (.int .i64 (IntKind.i64.wrap (i102 + (1 : Int))))))] ⟨rfl, rfl, rfl, trivial⟩ (h _ _  hs)
    · refine fi_true rfl (not_t c107) ?_
      refine fi_seq ?_
      refine fi_region ?_
      refine so_assign rfl ?_
      refine so_nil ?_
      exact by_ret rfl ⟨_, h, rfl, hs⟩
  · refine fi_false rfl (decide_eq_false c103) ?_
    refine fi_exit rfl ?_
    refine fi_seq ?_
    refine fi_region ?_
    refine so_assign rfl ?_
    refine so_nil ?_
    exact by_ret rfl ⟨_, h, rfl, hs⟩

end Go.Proofs.Ytcplmcfnegphlaa.G

namespace Go.Proofs.Ytcplmcfnegphlaa.G
open Go Go.Ab Go.Proofs Go.Proofs.Ytcplmcfnegphlaa
set_option maxRecDepth 100000
set_option linter.unusedVariables false
set_option linter.unusedSimpArgs false
set_option maxHeartbeats 1000000
theorem F51.ti24 : (telem Try.prog 24).isSome = true := by kernel_rfl
theorem spec_l02Integers_ok {fr : List Pc} {H : Heap} (v0 : AV) (l0 : List (Int)) (hs : Sep H (fr)) (g0 : ∀ H, Sep H fr → Shows H v0 1 (enc (eInt .i64) l0)) (K : Bool → Prop) (h : spec_l02Integers.wp l0 K) : OkQ Try.prog 51 [(.v v0)] H (fun r H2 => ∃ (y0 : Bool), K y0 ∧ r = (.v (.bool y0)) ∧ Sep H2 (fr)) := by
  unfold spec_l02Integers.wp at h
  refine of_body Try.f51 F.hm Try.func51 rfl Try.call51 (by kernel_rfl) (by simp) ?_
  refine fi_seq ?_
  refine fi_region ?_
  refine so_assign rfl ?_
  refine so_nil ?_
  refine fi_seq ?_
  refine fi_region ?_
  refine so_move rfl ?_
  refine sv_len (g0 _ hs) (fun _ => rfl) (by decide) rfl F51.ti24 ?_
  refine so_bin rfl rfl ab_geq ?_
  refine so_move rfl ?_
  replace h := ofP h; rcases h with ⟨c101, h⟩ | ⟨c101, h⟩
  · refine so_gyes rfl (decide_eq_true c101) ?_
    refine so_move rfl ?_
    refine so_gyes rfl (decide_eq_true c101) ?_
    refine sv_len (g0 _ hs) (fun _ => rfl) (by decide) rfl F51.ti24 ?_
    refine so_gyes rfl (decide_eq_true c101) ?_
    refine so_bin rfl rfl ab_leq ?_
    refine so_pick_t rfl (decide_eq_true c101) rfl ?_
    refine so_move rfl ?_
    replace h := ofP h; rcases h with ⟨c102, h⟩ | ⟨c102, h⟩
    · refine so_gyes rfl (decide_eq_true c102) ?_
      refine so_move rfl ?_
      refine so_gyes rfl (decide_eq_true c102) ?_
      refine sv_call (spec_l02Bound_ok v0 l0 (1000000 : Int) hs (fun _ hs => (g0 _ hs)) _ h) rfl rfl nofun ?_
      clear h hs
      rintro _ H104 ⟨y103, h, rfl, hs⟩
      refine so_pick_t rfl (decide_eq_true c102) rfl ?_
      refine so_assign rfl ?_
      refine so_nil ?_
      exact by_ret rfl ⟨_, h, rfl, hs⟩
    · refine so_gno rfl (decide_eq_false c102) ?_
      refine so_gno rfl (decide_eq_false c102) ?_
      refine so_pick_f rfl (decide_eq_false c102) rfl ?_
      refine so_assign rfl ?_
      refine so_nil ?_
      exact by_ret rfl ⟨_, h, rfl, hs⟩
  · refine so_gno rfl (decide_eq_false c101) ?_
    refine so_gno rfl (decide_eq_false c101) ?_
    refine so_gno rfl (decide_eq_false c101) ?_
    refine so_pick_f rfl (decide_eq_false c101) rfl ?_
    refine so_move rfl ?_
    refine so_gno rfl rfl ?_
    refine so_gno rfl rfl ?_
    refine so_pick_f rfl rfl rfl ?_
    refine so_assign rfl ?_
    refine so_nil ?_
    exact by_ret rfl ⟨_, h, rfl, hs⟩

end Go.Proofs.Ytcplmcfnegphlaa.G

namespace Go.Proofs.Ytcplmcfnegphlaa.G
open Go Go.Ab Go.Proofs Go.Proofs.Ytcplmcfnegphlaa
set_option maxRecDepth 100000
set_option linter.unusedVariables false
set_option linter.unusedSimpArgs false
set_option maxHeartbeats 1000000
theorem spec_l06Zag_ok {fr : List Pc} {H : Heap} (a0 : Int) (hs : Sep H (fr))  (K : Int → Prop) (h : spec_l06Zag.wp a0 K) : OkQ Try.prog 60 [(.v (.int .i64 a0))] H (fun r H2 => ∃ (y0 : Int), K y0 ∧ r = (.v (.int .i64 y0)) ∧ Sep H2 (fr)) := by
  unfold spec_l06Zag.wp at h
  refine of_body Try.f60 F.hm Try.func60 rfl Try.call60 (by kernel_rfl) (by simp) ?_
  refine fi_seq ?_
  refine fi_region ?_
  refine so_assign rfl ?_
  refine so_nil ?_
  refine fi_seq ?_
  refine fi_seq ?_
  refine fi_region ?_
  refine so_move rfl ?_
  refine so_bin rfl rfl (ab_rem (by decide)) ?_
  refine so_bin rfl rfl ab_eql ?_
  refine so_nil ?_
  replace h := ofP h; rcases h with ⟨c101, h⟩ | ⟨c101, h⟩
  · refine fi_true rfl (decide_eq_true c101) ?_
    refine fi_seq ?_
    refine fi_region ?_
    refine so_move rfl ?_
    refine so_bin rfl rfl ab_add ?_
    refine so_un rfl au_neg ?_
    refine so_bin rfl rfl (ab_quo (by decide)) ?_
    refine so_assign rfl ?_
    refine so_nil ?_
    exact by_ret rfl ⟨_, h, rfl, hs⟩
  · refine fi_false rfl (decide_eq_false c101) ?_
    refine fi_skip ?_
    refine fi_seq ?_
    refine fi_region ?_
    refine so_move rfl ?_
    refine so_bin rfl rfl (ab_quo (by decide)) ?_
    refine so_assign rfl ?_
    refine so_nil ?_
    exact by_ret rfl ⟨_, h, rfl, hs⟩

end Go.Proofs.Ytcplmcfnegphlaa.G

namespace Go.Proofs.Ytcplmcfnegphlaa.G
open Go Go.Ab Go.Proofs Go.Proofs.Ytcplmcfnegphlaa
set_option maxRecDepth 100000
set_option linter.unusedVariables false
set_option linter.unusedSimpArgs false
set_option maxHeartbeats 1000000
theorem F32.ag4 : tagg Try.prog 4 = some false := by kernel_rfl
theorem F32.sz2 : tsz Try.prog 2 = some 1 := by kernel_rfl
theorem F32.ta24_24 : tapp Try.prog 24 24 = some (1, 8) := by kernel_rfl
theorem F32.te24 : telem Try.prog 24 = some 2 := by kernel_rfl
theorem F32.ti30 : (telem Try.prog 30).isSome = true := by kernel_rfl
theorem F32.tl30 : (telem Try.prog 30).bind (tsz Try.prog) = some 1 := by kernel_rfl
theorem F32.ze2 : tzero Try.prog 2 = some [(.int .i64 (0 : Int))] := by kernel_rfl
theorem spec_FromRice_ok {fr : List Pc} {H : Heap} (v0 : AV) (l0 : List (Bool)) (a1 : Int) (a2 : Int) (hs : Sep H (fr)) (g0 : ∀ H, Sep H fr → Shows H v0 1 (enc eBool l0)) (K : (List (Int)) → Bool → Prop) (h : spec_FromRice.wp l0 a1 a2 K) : OkQ Try.prog 32 [(.v v0), (.v (.int .i64 a1)), (.v (.int .i64 a2))] H (fun r H2 => ∃ (y0 : List (Int)) (y1 : Bool), K y0 y1 ∧ ∃ (w0_ : AV), r = (.t [(.v w0_), (.v (.bool y1))]) ∧ Sep H2 (Pc.osl w0_ 1 (enc (eInt .i64) y0) :: fr)) := by
  unfold spec_FromRice.wp at h
  refine of_body Try.f32 F.hm Try.func32 rfl Try.call32 (by kernel_rfl) (by simp) ?_
  refine fi_seq ?_
  refine fi_region ?_
  refine so_assign rfl ?_
  refine so_assign rfl ?_
  refine so_nil ?_
  refine fi_seq ?_
  refine fi_seq ?_
  refine fi_region ?_
  refine so_move rfl ?_
  refine sv_len (g0 _ hs) (fun _ => rfl) (by decide) rfl F32.ti30 ?_
  refine so_bin rfl rfl ab_gtr ?_
  refine so_move rfl ?_
  replace h := ofP h; rcases h with ⟨c101, h⟩ | ⟨c101, h⟩
  · refine so_gno rfl (decide_eq_true c101) ?_
    refine so_gno rfl (decide_eq_true c101) ?_
    refine so_gno rfl (decide_eq_true c101) ?_
    refine so_pick_t rfl (decide_eq_true c101) rfl ?_
    refine so_move rfl ?_
    refine so_gno rfl rfl ?_
    refine so_gno rfl rfl ?_
    refine so_gno rfl rfl ?_
    refine so_pick_t rfl rfl rfl ?_
    refine so_nil ?_
    refine fi_true rfl rfl ?_
    refine fi_seq ?_
    refine fi_region ?_
    refine so_assign rfl ?_
    refine so_assign rfl ?_
    refine so_nil ?_
    exact by_ret rfl ⟨_, _, h, _, rfl, (Sep.nil hs 1)⟩
  · refine so_gyes rfl (decide_eq_false c101) ?_
    refine so_move rfl ?_
    refine so_gyes rfl (decide_eq_false c101) ?_
    refine sv_call (spec_l00In_ok a1 (1 : Int) (128 : Int) hs  _ h) rfl rfl nofun ?_
    clear h hs
    rintro _ H103 ⟨y102, h, rfl, hs⟩
    refine so_gyes rfl (decide_eq_false c101) ?_
    refine so_un rfl au_not ?_
    refine so_pick_f rfl (decide_eq_false c101) rfl ?_
    refine so_move rfl ?_
    replace h := ofT h; rcases h with ⟨c104, h⟩ | ⟨c104, h⟩
    · refine so_gyes rfl (not_f c104) ?_
      refine so_move rfl ?_
      refine so_gyes rfl (not_f c104) ?_
      refine sv_call (spec_l00In_ok a2 (0 : Int) (20 : Int) hs  _ h) rfl rfl nofun ?_
      clear h hs
      rintro _ H106 ⟨y105, h, rfl, hs⟩
      refine so_gyes rfl (not_f c104) ?_
      refine so_un rfl au_not ?_
      refine so_pick_f rfl (not_f c104) rfl ?_
      refine so_nil ?_
      replace h := ofT h; rcases h with ⟨c107, h⟩ | ⟨c107, h⟩
      · refine fi_false rfl (not_f c107) ?_
        refine fi_skip ?_
        refine fi_seq ?_
        refine fi_region ?_
        refine sv_bslice hs (eInt .i64) ([] : List (Int)) [] F32.te24 F32.sz2 F32.ze2 rfl rfl rfl rfl (fun _ => rfl) rfl (by decide) nofun (fun v108 H109 nv108 hs => ?_)
        refine so_assign rfl ?_
        refine so_nil ?_
        refine fi_seq ?_
        refine fi_region ?_
        refine so_assign rfl ?_
        refine so_nil ?_
        refine fi_seq ?_
        refine fi_seq ?_
        refine fi_region ?_
        refine so_assign rfl ?_
        refine so_nil ?_
        refine fi_block ?_
        refine fi_loop ?_
        refine fi_at [(0, (.v v0)), (1, (.v (.int .i64 a1))), (2, (.v (.int .i64 a2))), (8, (.v v108)), (9, (.v (.int .i64 (0 : Int)))), (10, (.v (.int .i64 (0 : Int))))] ⟨rfl, rfl, rfl, rfl, rfl, rfl, trivial⟩ ?_
        refine h (fun (out168 : List (Int)) (atq170 : Int) (n171 : Int) => ∀ (s : Nat → TV) (H : Heap) (v169 : AV) (nv169 : v169 ≠ .nilsl), Sep H (Pc.osl v169 1 (enc (eInt .i64) out168) :: fr) → Fin _ _ (updL s [(0, (.v v0)), (1, (.v (.int .i64 a1))), (2, (.v (.int .i64 a2))), (8, (.v v169)), (9, (.v (.int .i64 atq170))), (10, (.v (.int .i64 n171)))]) H _) ?_ _ _ _ nv108 hs
        intro out168 atq170 n171 h s223 H224 v169 nv169 hs
        refine fi_inLoop ?_
        refine fi_seq ?_
        refine fi_seq ?_
        refine fi_region ?_
        refine so_move rfl ?_
        refine so_move rfl ?_
        refine so_bin rfl rfl ab_lss ?_
        refine so_nil ?_
        replace h := ofP h; rcases h with ⟨c172, h⟩ | ⟨c172, h⟩
        · refine fi_true rfl (decide_eq_true c172) ?_
          refine fi_skip ?_
          refine fi_seq ?_
          refine fi_block ?_
          refine fi_seq ?_
          refine fi_region ?_
          refine so_assign rfl ?_
          refine so_nil ?_
          refine fi_seq ?_
          refine fi_block ?_
          refine fi_loop ?_
          refine fi_at [(0, (.v v0)), (1, (.v (.int .i64 a1))), (2, (.v (.int .i64 a2))), (8, (.v v169)), (9, (.v (.int .i64 atq170))), (10, (.v (.int .i64 n171))), (11, (.v (.int .i64 (0 : Int))))] ⟨rfl, rfl, rfl, rfl, rfl, rfl, rfl, trivial⟩ ?_
          refine h (fun (atq174 : Int) (z175 : Int) => ∀ (s : Nat → TV) (H : Heap), Sep H (Pc.osl v169 1 (enc (eInt .i64) out168) :: fr) → Fin _ _ (updL s [(0, (.v v0)), (1, (.v (.int .i64 a1))), (2, (.v (.int .i64 a2))), (8, (.v v169)), (9, (.v (.int .i64 atq174))), (10, (.v (.int .i64 n171))), (11, (.v (.int .i64 z175)))]) H _) ?_ _ _ hs
          intro atq174 z175 h s217 H218 hs
          refine fi_inLoop ?_
          refine fi_seq ?_
          refine fi_seq ?_
          refine fi_region ?_
          refine so_move rfl ?_
          refine so_move rfl ?_
          refine sv_len (g0 _ hs.tl) (fun _ => rfl) (by decide) rfl F32.ti30 ?_
          refine so_bin rfl rfl ab_lss ?_
          refine so_move rfl ?_
          replace h := ofP h; rcases h with ⟨c176, h⟩ | ⟨c176, h⟩
          · refine so_gyes rfl (decide_eq_true c176) ?_
            refine so_move rfl ?_
            refine so_gyes rfl (decide_eq_true c176) ?_
            refine so_move rfl ?_
            refine so_gyes rfl (decide_eq_true c176) ?_
            obtain ⟨c177, h⟩ := h
            refine sv_idx (g0 _ hs.tl) c177 (fun _ => rfl) (by decide) rfl rfl F32.tl30 ?_
            refine so_gyes rfl (decide_eq_true c176) ?_
            refine sv_cell (g0 _ hs.tl) c177 false 0 (fun x => (AV.bool x)) (fun _ => rfl) (fun _ => rfl) rfl F32.ag4 ?_
            refine so_pick_t rfl (decide_eq_true c176) rfl ?_
            refine so_nil ?_
            replace h := ofT h; rcases h with ⟨c178, h⟩ | ⟨c178, h⟩
            · refine fi_true rfl c178 ?_
              refine fi_skip ?_
              refine fi_block ?_
              refine fi_seq ?_
              refine fi_region ?_
              refine so_move rfl ?_
              refine so_bin rfl rfl ab_add ?_
              refine so_assign rfl ?_
              refine so_nil ?_
              refine fi_region ?_
              refine so_move rfl ?_
              refine so_bin rfl rfl ab_add ?_
              refine so_assign rfl ?_
              refine so_nil ?_
              refine fi_inBlock ?_
              exact fi_at [(0, (.v v0)), (1, (.v (.int .i64 a1))), (2, (.v (.int .i64 a2))), (8, (.v v169)), (9, (.v (.int .i64 (IntKind.i64.wrap (atq174 + (1 : Int)))))), (10, (.v (.int .i64 n171))), (11, (.v (.int .i64 (IntKind.i64.wrap (z175 + (1 : Int))))))] ⟨rfl, rfl, rfl, rfl, rfl, rfl, rfl, trivial⟩ (h _ _  hs)
            · refine fi_false rfl c178 ?_
              refine fi_exit rfl ?_
              refine fi_seq ?_
              refine fi_region ?_
              refine so_move rfl ?_
              refine so_bin rfl rfl ab_add ?_
              refine so_assign rfl ?_
              refine so_nil ?_
              refine fi_seq ?_
              refine fi_seq ?_
              refine fi_region ?_
              refine so_assign rfl ?_
              refine so_nil ?_
              refine fi_block ?_
              refine fi_loop ?_
              refine fi_at [(0, (.v v0)), (1, (.v (.int .i64 a1))), (2, (.v (.int .i64 a2))), (8, (.v v169)), (9, (.v (.int .i64 (IntKind.i64.wrap (atq174 + (1 : Int)))))), (10, (.v (.int .i64 n171))), (11, (.v (.int .i64 z175))), (12, (.v (.int .i64 (0 : Int))))] ⟨rfl, rfl, rfl, rfl, rfl, rfl, rfl, rfl, trivial⟩ ?_
              refine h (fun (atq180 : Int) (z181 : Int) (j182 : Int) => ∀ (s : Nat → TV) (H : Heap), Sep H (Pc.osl v169 1 (enc (eInt .i64) out168) :: fr) → Fin _ _ (updL s [(0, (.v v0)), (1, (.v (.int .i64 a1))), (2, (.v (.int .i64 a2))), (8, (.v v169)), (9, (.v (.int .i64 atq180))), (10, (.v (.int .i64 n171))), (11, (.v (.int .i64 z181))), (12, (.v (.int .i64 j182)))]) H _) ?_ _ _ hs
              intro atq180 z181 j182 h s196 H197 hs
              refine fi_inLoop ?_
              refine fi_seq ?_
              refine fi_seq ?_
              refine fi_region ?_
              refine so_move rfl ?_
              refine so_move rfl ?_
              refine so_bin rfl rfl ab_lss ?_
              refine so_nil ?_
              replace h := ofP h; rcases h with ⟨c183, h⟩ | ⟨c183, h⟩
              · refine fi_true rfl (decide_eq_true c183) ?_
                refine fi_skip ?_
                refine fi_seq ?_
                refine fi_block ?_
                refine fi_seq ?_
                refine fi_region ?_
                refine so_move rfl ?_
                refine so_bin rfl rfl ab_mul ?_
                refine so_assign rfl ?_
                refine so_nil ?_
                refine fi_seq ?_
                refine fi_seq ?_
                refine fi_region ?_
                refine so_move rfl ?_
                refine so_move rfl ?_
                refine sv_len (g0 _ hs.tl) (fun _ => rfl) (by decide) rfl F32.ti30 ?_
                refine so_bin rfl rfl ab_lss ?_
                refine so_move rfl ?_
                replace h := ofP h; rcases h with ⟨c184, h⟩ | ⟨c184, h⟩
                · refine so_gyes rfl (decide_eq_true c184) ?_
                  refine so_move rfl ?_
                  refine so_gyes rfl (decide_eq_true c184) ?_
                  refine so_move rfl ?_
                  refine so_gyes rfl (decide_eq_true c184) ?_
                  obtain ⟨c185, h⟩ := h
                  refine sv_idx (g0 _ hs.tl) c185 (fun _ => rfl) (by decide) rfl rfl F32.tl30 ?_
                  refine so_gyes rfl (decide_eq_true c184) ?_
                  refine sv_cell (g0 _ hs.tl) c185 false 0 (fun x => (AV.bool x)) (fun _ => rfl) (fun _ => rfl) rfl F32.ag4 ?_
                  refine so_pick_t rfl (decide_eq_true c184) rfl ?_
                  refine so_nil ?_
                  replace h := ofT h; rcases h with ⟨c186, h⟩ | ⟨c186, h⟩
                  · refine fi_true rfl c186 ?_
                    refine fi_region ?_
                    refine so_move rfl ?_
                    refine so_bin rfl rfl ab_add ?_
                    refine so_assign rfl ?_
                    refine so_nil ?_
                    refine fi_region ?_
                    refine so_move rfl ?_
                    refine so_bin rfl rfl ab_add ?_
                    refine so_assign rfl ?_
                    refine so_nil ?_
                    refine fi_inBlock ?_
                    refine fi_region ?_
                    refine so_move rfl ?_
                    refine so_bin rfl rfl ab_add ?_
                    refine so_assign rfl ?_
                    refine so_nil ?_
                    exact fi_at [(0, (.v v0)), (1, (.v (.int .i64 a1))), (2, (.v (.int .i64 a2))), (8, (.v v169)), (9, (.v (.int .i64 (IntKind.i64.wrap (atq180 + (1 : Int)))))), (10, (.v (.int .i64 n171))), (11, (.v (.int .i64 (IntKind.i64.wrap ((IntKind.i64.wrap ((2 : Int) * z181)) + (1 : Int)))))), (12, (.v (.int .i64 (IntKind.i64.wrap (j182 + (1 : Int))))))] ⟨rfl, rfl, rfl, rfl, rfl, rfl, rfl, rfl, trivial⟩ (h _ _  hs)
                  · refine fi_false rfl c186 ?_
                    refine fi_skip ?_
                    refine fi_region ?_
                    refine so_move rfl ?_
                    refine so_bin rfl rfl ab_add ?_
                    refine so_assign rfl ?_
                    refine so_nil ?_
                    refine fi_inBlock ?_
                    refine fi_region ?_
                    refine so_move rfl ?_
                    refine so_bin rfl rfl ab_add ?_
                    refine so_assign rfl ?_
                    refine so_nil ?_
                    exact fi_at [(0, (.v v0)), (1, (.v (.int .i64 a1))), (2, (.v (.int .i64 a2))), (8, (.v v169)), (9, (.v (.int .i64 (IntKind.i64.wrap (atq180 + (1 : Int)))))), (10, (.v (.int .i64 n171))), (11, (.v (.int .i64 (IntKind.i64.wrap ((2 : Int) * z181))))), (12, (.v (.int .i64 (IntKind.i64.wrap (j182 + (1 : Int))))))] ⟨rfl, rfl, rfl, rfl, rfl, rfl, rfl, rfl, trivial⟩ (h _ _  hs)
                · refine so_gno rfl (decide_eq_false c184) ?_
                  refine so_gno rfl (decide_eq_false c184) ?_
                  refine so_gno rfl (decide_eq_false c184) ?_
                  refine so_gno rfl (decide_eq_false c184) ?_
                  refine so_pick_f rfl (decide_eq_false c184) rfl ?_
                  refine so_nil ?_
                  refine fi_false rfl rfl ?_
                  refine fi_skip ?_
                  refine fi_region ?_
                  refine so_move rfl ?_
                  refine so_bin rfl rfl ab_add ?_
                  refine so_assign rfl ?_
                  refine so_nil ?_
                  refine fi_inBlock ?_
                  refine fi_region ?_
                  refine so_move rfl ?_
                  refine so_bin rfl rfl ab_add ?_
                  refine so_assign rfl ?_
                  refine so_nil ?_
                  exact fi_at [(0, (.v v0)), (1, (.v (.int .i64 a1))), (2, (.v (.int .i64 a2))), (8, (.v v169)), (9, (.v (.int .i64 (IntKind.i64.wrap (atq180 + (1 : Int)))))), (10, (.v (.int .i64 n171))), (11, (.v (.int .i64 (IntKind.i64.wrap ((2 : Int) * z181))))), (12, (.v (.int .i64 (IntKind.i64.wrap (j182 + (1 : Int))))))] ⟨rfl, rfl, rfl, rfl, rfl, rfl, rfl, rfl, trivial⟩ (h _ _  hs)
              · refine fi_false rfl (decide_eq_false c183) ?_
                refine fi_exit rfl ?_
                refine fi_seq ?_
                refine fi_seq ?_
                refine fi_region ?_
                refine so_move rfl ?_
                refine so_move rfl ?_
                refine sv_len (g0 _ hs.tl) (fun _ => rfl) (by decide) rfl F32.ti30 ?_
                refine so_bin rfl rfl ab_gtr ?_
                refine so_nil ?_
                replace h := ofP h; rcases h with ⟨c187, h⟩ | ⟨c187, h⟩
                · refine fi_true rfl (decide_eq_true c187) ?_
                  refine fi_seq ?_
                  refine fi_region ?_
                  refine so_assign rfl ?_
                  refine so_assign rfl ?_
                  refine so_nil ?_
                  exact by_ret rfl ⟨_, _, h, _, rfl, (Sep.nil (Sep.del 0 hs) 1)⟩
                · refine fi_false rfl (decide_eq_false c187) ?_
                  refine fi_skip ?_
                  refine fi_region ?_
                  refine so_move rfl ?_
                  refine so_move rfl ?_
                  refine sv_call (spec_l06Zag_ok z181 hs  _ h) rfl rfl nofun ?_
                  clear h hs
                  rintro _ H189 ⟨y188, h, rfl, hs⟩
                  refine sv_bslice hs (eInt .i64) ([y188] : List (Int)) [[(.int .i64 y188)]] F32.te24 F32.sz2 F32.ze2 rfl rfl rfl rfl (fun _ => rfl) rfl (by decide) nofun (fun v190 H191 nv190 hs => ?_)
                  obtain ⟨c195, h⟩ := h
                  refine sv_app hs 1 rfl (hs.shows 0 rfl) (fun _ => rfl) (by decide) F32.ta24_24 (by decide) c195 rfl rfl nofun (fun v193 H194 kv193 hs => ?_)
                  replace hs := hs.del 0
                  have nv193 := kv193 nv169
                  refine so_assign rfl ?_
                  refine so_nil ?_
                  refine fi_inBlock ?_
                  refine fi_region ?_
                  refine so_move rfl ?_
                  refine so_bin rfl rfl ab_add ?_
                  refine so_assign rfl ?_
                  refine so_nil ?_
                  exact fi_at [(0, (.v v0)), (1, (.v (.int .i64 a1))), (2, (.v (.int .i64 a2))), (8, (.v v193)), (9, (.v (.int .i64 atq180))), (10, (.v (.int .i64 (IntKind.i64.wrap (n171 + (1 : Int))))))] ⟨rfl, rfl, rfl, rfl, rfl, rfl, trivial⟩ (h _ _ _ nv193 hs)
          · refine so_gno rfl (decide_eq_false c176) ?_
            refine so_gno rfl (decide_eq_false c176) ?_
            refine so_gno rfl (decide_eq_false c176) ?_
            refine so_gno rfl (decide_eq_false c176) ?_
            refine so_pick_f rfl (decide_eq_false c176) rfl ?_
            refine so_nil ?_
            refine fi_false rfl rfl ?_
            refine fi_exit rfl ?_
            refine fi_seq ?_
            refine fi_region ?_
            refine so_move rfl ?_
            refine so_bin rfl rfl ab_add ?_
            refine so_assign rfl ?_
            refine so_nil ?_
            refine fi_seq ?_
            refine fi_seq ?_
            refine fi_region ?_
            refine so_assign rfl ?_
            refine so_nil ?_
            refine fi_block ?_
            refine fi_loop ?_
            refine fi_at [(0, (.v v0)), (1, (.v (.int .i64 a1))), (2, (.v (.int .i64 a2))), (8, (.v v169)), (9, (.v (.int .i64 (IntKind.i64.wrap (atq174 + (1 : Int)))))), (10, (.v (.int .i64 n171))), (11, (.v (.int .i64 z175))), (12, (.v (.int .i64 (0 : Int))))] ⟨rfl, rfl, rfl, rfl, rfl, rfl, rfl, rfl, trivial⟩ ?_
            refine h (fun (atq199 : Int) (z200 : Int) (j201 : Int) => ∀ (s : Nat → TV) (H : Heap), Sep H (Pc.osl v169 1 (enc (eInt .i64) out168) :: fr) → Fin _ _ (updL s [(0, (.v v0)), (1, (.v (.int .i64 a1))), (2, (.v (.int .i64 a2))), (8, (.v v169)), (9, (.v (.int .i64 atq199))), (10, (.v (.int .i64 n171))), (11, (.v (.int .i64 z200))), (12, (.v (.int .i64 j201)))]) H _) ?_ _ _ hs
            intro atq199 z200 j201 h s215 H216 hs
            refine fi_inLoop ?_
            refine fi_seq ?_
            refine fi_seq ?_
            refine fi_region ?_
            refine so_move rfl ?_
            refine so_move rfl ?_
            refine so_bin rfl rfl ab_lss ?_
            refine so_nil ?_
            replace h := ofP h; rcases h with ⟨c202, h⟩ | ⟨c202, h⟩
            · refine fi_true rfl (decide_eq_true c202) ?_
              refine fi_skip ?_
              refine fi_seq ?_
              refine fi_block ?_
              refine fi_seq ?_
              refine fi_region ?_
              refine so_move rfl ?_
              refine so_bin rfl rfl ab_mul ?_
              refine so_assign rfl ?_
              refine so_nil ?_
              refine fi_seq ?_
              refine fi_seq ?_
              refine fi_region ?_
              refine so_move rfl ?_
              refine so_move rfl ?_
              refine sv_len (g0 _ hs.tl) (fun _ => rfl) (by decide) rfl F32.ti30 ?_
              refine so_bin rfl rfl ab_lss ?_
              refine so_move rfl ?_
              replace h := ofP h; rcases h with ⟨c203, h⟩ | ⟨c203, h⟩
              · refine so_gyes rfl (decide_eq_true c203) ?_
                refine so_move rfl ?_
                refine so_gyes rfl (decide_eq_true c203) ?_
                refine so_move rfl ?_
                refine so_gyes rfl (decide_eq_true c203) ?_
                obtain ⟨c204, h⟩ := h
                refine sv_idx (g0 _ hs.tl) c204 (fun _ => rfl) (by decide) rfl rfl F32.tl30 ?_
                refine so_gyes rfl (decide_eq_true c203) ?_
                refine sv_cell (g0 _ hs.tl) c204 false 0 (fun x => (AV.bool x)) (fun _ => rfl) (fun _ => rfl) rfl F32.ag4 ?_
                refine so_pick_t rfl (decide_eq_true c203) rfl ?_
                refine so_nil ?_
                replace h := ofT h; rcases h with ⟨c205, h⟩ | ⟨c205, h⟩
                · refine fi_true rfl c205 ?_
                  refine fi_region ?_
                  refine so_move rfl ?_
                  refine so_bin rfl rfl ab_add ?_
                  refine so_assign rfl ?_
                  refine so_nil ?_
                  refine fi_region ?_
                  refine so_move rfl ?_
                  refine so_bin rfl rfl ab_add ?_
                  refine so_assign rfl ?_
                  refine so_nil ?_
                  refine fi_inBlock ?_
                  refine fi_region ?_
                  refine so_move rfl ?_
                  refine so_bin rfl rfl ab_add ?_
                  refine so_assign rfl ?_
                  refine so_nil ?_
                  exact fi_at [(0, (.v v0)), (1, (.v (.int .i64 a1))), (2, (.v (.int .i64 a2))), (8, (.v v169)), (9, (.v (.int .i64 (IntKind.i64.wrap (atq199 + (1 : Int)))))), (10, (.v (.int .i64 n171))), (11, (.v (.int .i64 (IntKind.i64.wrap ((IntKind.i64.wrap ((2 : Int) * z200)) + (1 : Int)))))), (12, (.v (.int .i64 (IntKind.i64.wrap (j201 + (1 : Int))))))] ⟨rfl, rfl, rfl, rfl, rfl, rfl, rfl, rfl, trivial⟩ (h _ _  hs)
                · refine fi_false rfl c205 ?_
                  refine fi_skip ?_
                  refine fi_region ?_
                  refine so_move rfl ?_
                  refine so_bin rfl rfl ab_add ?_
                  refine so_assign rfl ?_
                  refine so_nil ?_
                  refine fi_inBlock ?_
                  refine fi_region ?_
                  refine so_move rfl ?_
                  refine so_bin rfl rfl ab_add ?_
                  refine so_assign rfl ?_
                  refine so_nil ?_
                  exact fi_at [(0, (.v v0)), (1, (.v (.int .i64 a1))), (2, (.v (.int .i64 a2))), (8, (.v v169)), (9, (.v (.int .i64 (IntKind.i64.wrap (atq199 + (1 : Int)))))), (10, (.v (.int .i64 n171))), (11, (.v (.int .i64 (IntKind.i64.wrap ((2 : Int) * z200))))), (12, (.v (.int .i64 (IntKind.i64.wrap (j201 + (1 : Int))))))] ⟨rfl, rfl, rfl, rfl, rfl, rfl, rfl, rfl, trivial⟩ (h _ _  hs)
              · refine so_gno rfl (decide_eq_false c203) ?_
                refine so_gno rfl (decide_eq_false c203) ?_
                refine so_gno rfl (decide_eq_false c203) ?_
                refine so_gno rfl (decide_eq_false c203) ?_
                refine so_pick_f rfl (decide_eq_false c203) rfl ?_
                refine so_nil ?_
                refine fi_false rfl rfl ?_
                refine fi_skip ?_
                refine fi_region ?_
                refine so_move rfl ?_
                refine so_bin rfl rfl ab_add ?_
                refine so_assign rfl ?_
                refine so_nil ?_
                refine fi_inBlock ?_
                refine fi_region ?_
                refine so_move rfl ?_
                refine so_bin rfl rfl ab_add ?_
                refine so_assign rfl ?_
                refine so_nil ?_
                exact fi_at [(0, (.v v0)), (1, (.v (.int .i64 a1))), (2, (.v (.int .i64 a2))), (8, (.v v169)), (9, (.v (.int .i64 (IntKind.i64.wrap (atq199 + (1 : Int)))))), (10, (.v (.int .i64 n171))), (11, (.v (.int .i64 (IntKind.i64.wrap ((2 : Int) * z200))))), (12, (.v (.int .i64 (IntKind.i64.wrap (j201 + (1 : Int))))))] ⟨rfl, rfl, rfl, rfl, rfl, rfl, rfl, rfl, trivial⟩ (h _ _  hs)
            · refine fi_false rfl (decide_eq_false c202) ?_
              refine fi_exit rfl ?_
              refine fi_seq ?_
              refine fi_seq ?_
              refine fi_region ?_
              refine so_move rfl ?_
              refine so_move rfl ?_
              refine sv_len (g0 _ hs.tl) (fun _ => rfl) (by decide) rfl F32.ti30 ?_
              refine so_bin rfl rfl ab_gtr ?_
              refine so_nil ?_
              replace h := ofP h; rcases h with ⟨c206, h⟩ | ⟨c206, h⟩
              · refine fi_true rfl (decide_eq_true c206) ?_
                refine fi_seq ?_
                refine fi_region ?_
                refine so_assign rfl ?_
                refine so_assign rfl ?_
                refine so_nil ?_
                exact by_ret rfl ⟨_, _, h, _, rfl, (Sep.nil (Sep.del 0 hs) 1)⟩
              · refine fi_false rfl (decide_eq_false c206) ?_
                refine fi_skip ?_
                refine fi_region ?_
                refine so_move rfl ?_
                refine so_move rfl ?_
                refine sv_call (spec_l06Zag_ok z200 hs  _ h) rfl rfl nofun ?_
                clear h hs
                rintro _ H208 ⟨y207, h, rfl, hs⟩
                refine sv_bslice hs (eInt .i64) ([y207] : List (Int)) [[(.int .i64 y207)]] F32.te24 F32.sz2 F32.ze2 rfl rfl rfl rfl (fun _ => rfl) rfl (by decide) nofun (fun v209 H210 nv209 hs => ?_)
                obtain ⟨c214, h⟩ := h
                refine sv_app hs 1 rfl (hs.shows 0 rfl) (fun _ => rfl) (by decide) F32.ta24_24 (by decide) c214 rfl rfl nofun (fun v212 H213 kv212 hs => ?_)
                replace hs := hs.del 0
                have nv212 := kv212 nv169
                refine so_assign rfl ?_
                refine so_nil ?_
                refine fi_inBlock ?_
                refine fi_region ?_
                refine so_move rfl ?_
                refine so_bin rfl rfl ab_add ?_
                refine so_assign rfl ?_
                refine so_nil ?_
                exact fi_at [(0, (.v v0)), (1, (.v (.int .i64 a1))), (2, (.v (.int .i64 a2))), (8, (.v v212)), (9, (.v (.int .i64 atq199))), (10, (.v (.int .i64 (IntKind.i64.wrap (n171 + (1 : Int))))))] ⟨rfl, rfl, rfl, rfl, rfl, rfl, trivial⟩ (h _ _ _ nv212 hs)
        · refine fi_false rfl (decide_eq_false c172) ?_
          refine fi_exit rfl ?_
          refine fi_seq ?_
          refine fi_seq ?_
          refine fi_region ?_
          refine so_move rfl ?_
          refine so_move rfl ?_
          refine sv_len (g0 _ hs.tl) (fun _ => rfl) (by decide) rfl F32.ti30 ?_
          refine so_bin rfl rfl ab_neq ?_
          refine so_move rfl ?_
          replace h := ofP h; rcases h with ⟨c219, h⟩ | ⟨c219, h⟩
          · refine so_gyes rfl (not_f (decide_eq_true c219)) ?_
            refine so_move rfl ?_
            refine so_gyes rfl (not_f (decide_eq_true c219)) ?_
            refine sv_call (spec_l02Integers_ok v169 out168 hs (fun _ hs => (hs.shows 0 rfl)) _ h) rfl rfl nofun ?_
            clear h hs
            rintro _ H221 ⟨y220, h, rfl, hs⟩
            refine so_gyes rfl (not_f (decide_eq_true c219)) ?_
            refine so_un rfl au_not ?_
            refine so_pick_f rfl (not_f (decide_eq_true c219)) rfl ?_
            refine so_nil ?_
            replace h := ofT h; rcases h with ⟨c222, h⟩ | ⟨c222, h⟩
            · refine fi_false rfl (not_f c222) ?_
              refine fi_skip ?_
              refine fi_seq ?_
              refine fi_region ?_
              refine so_move rfl ?_
              refine so_assign rfl ?_
              refine so_assign rfl ?_
              refine so_nil ?_
              exact by_ret rfl ⟨_, _, h, _, rfl, hs⟩
            · refine fi_true rfl (not_t c222) ?_
              refine fi_seq ?_
              refine fi_region ?_
              refine so_assign rfl ?_
              refine so_assign rfl ?_
              refine so_nil ?_
              exact by_ret rfl ⟨_, _, h, _, rfl, (Sep.nil (Sep.del 0 hs) 1)⟩
          · refine so_gno rfl (not_t (decide_eq_false c219)) ?_
            refine so_gno rfl (not_t (decide_eq_false c219)) ?_
            refine so_gno rfl (not_t (decide_eq_false c219)) ?_
            refine so_pick_t rfl (not_t (decide_eq_false c219)) rfl ?_
            refine so_nil ?_
            refine fi_true rfl rfl ?_
            refine fi_seq ?_
            refine fi_region ?_
            refine so_assign rfl ?_
            refine so_assign rfl ?_
            refine so_nil ?_
            exact by_ret rfl ⟨_, _, h, _, rfl, (Sep.nil (Sep.del 0 hs) 1)⟩
      · refine fi_true rfl (not_t c107) ?_
        refine fi_seq ?_
        refine fi_region ?_
        refine so_assign rfl ?_
        refine so_assign rfl ?_
        refine so_nil ?_
        exact by_ret rfl ⟨_, _, h, _, rfl, (Sep.nil hs 1)⟩
    · refine so_gno rfl (not_t c104) ?_
      refine so_gno rfl (not_t c104) ?_
      refine so_gno rfl (not_t c104) ?_
      refine so_pick_t rfl (not_t c104) rfl ?_
      refine so_nil ?_
      refine fi_true rfl rfl ?_
      refine fi_seq ?_
      refine fi_region ?_
      refine so_assign rfl ?_
      refine so_assign rfl ?_
      refine so_nil ?_
      exact by_ret rfl ⟨_, _, h, _, rfl, (Sep.nil hs 1)⟩

end Go.Proofs.Ytcplmcfnegphlaa.G

namespace Go.Proofs.Ytcplmcfnegphlaa.G
open Go Go.Ab Go.Proofs Go.Proofs.Ytcplmcfnegphlaa
set_option maxRecDepth 100000
set_option linter.unusedVariables false
set_option linter.unusedSimpArgs false
set_option maxHeartbeats 1000000
theorem F33.ag4 : tagg Try.prog 4 = some false := by kernel_rfl
theorem F33.by4 : tbytes Try.prog 4 = some 1 := by kernel_rfl
theorem F33.sz4 : tsz Try.prog 4 = some 1 := by kernel_rfl
theorem F33.te30 : telem Try.prog 30 = some 4 := by kernel_rfl
theorem F33.ti30 : (telem Try.prog 30).isSome = true := by kernel_rfl
theorem F33.tl30 : (telem Try.prog 30).bind (tsz Try.prog) = some 1 := by kernel_rfl
theorem F33.ze4 : tzero Try.prog 4 = some [(.bool false)] := by kernel_rfl
theorem laws_toBoolS_ok {fr : List Pc} {H : Heap} (v0 : AV) (l0 : List (Bool)) (hs : Sep H (fr)) (g0 : ∀ H, Sep H fr → Shows H v0 1 (enc eBool l0)) (K : (List (Bool)) → Prop) (h : laws_toBoolS.wp l0 K) : OkQ Try.prog 33 [(.v v0)] H (fun r H2 => ∃ (y0 : List (Bool)), K y0 ∧ ∃ (w0_ : AV), r = (.v w0_) ∧ Sep H2 (Pc.osl w0_ 1 (enc eBool y0) :: fr)) := by
  unfold laws_toBoolS.wp at h
  refine of_body Try.f33 F.hm Try.func33 rfl Try.call33 (by kernel_rfl) (by simp) ?_
  refine fi_seq ?_
  refine fi_region ?_
  refine so_assign rfl ?_
  refine so_nil ?_
  refine fi_seq ?_
  refine fi_region ?_
  refine so_move rfl ?_
  refine sv_len (g0 _ hs) (fun _ => rfl) (by decide) rfl F33.ti30 ?_
  obtain ⟨c101, h⟩ := h
  refine sv_make hs eBool false c101 (fun _ => rfl) rfl rfl F33.te30 F33.sz4 F33.by4 F33.ze4 rfl rfl nofun (fun v102 H103 nv102 hs => ?_)
  refine so_assign rfl ?_
  refine so_nil ?_
  refine fi_seq ?_
  refine fi_seq ?_
  refine fi_region ?_
  refine so_assign rfl ?_
  refine so_nil ?_
  refine fi_block ?_
  refine fi_loop ?_
  refine fi_at [(0, (.v v0)), (3, (.v v102)), (4, (.v (.int .i64 (0 : Int))))] ⟨rfl, rfl, rfl, trivial⟩ ?_
  refine h (fun (out112 : List (Bool)) (i113 : Int) => ∀ (s : Nat → TV) (H : Heap), Sep H (Pc.osl v102 1 (enc eBool out112) :: fr) → Fin _ _ (updL s [(0, (.v v0)), (3, (.v v102)), (4, (.v (.int .i64 i113)))]) H _) ?_ _ _ hs
  intro out112 i113 h s118 H119 hs
  refine fi_inLoop ?_
  refine fi_seq ?_
  refine fi_seq ?_
  refine fi_region ?_
  refine so_move rfl ?_
  refine so_move rfl ?_
  refine sv_len (g0 _ hs.tl) (fun _ => rfl) (by decide) rfl F33.ti30 ?_
  refine so_bin rfl rfl ab_lss ?_
  refine so_nil ?_
  replace h := ofP h; rcases h with ⟨c114, h⟩ | ⟨c114, h⟩
  · refine fi_true rfl (decide_eq_true c114) ?_
    refine fi_skip ?_
    refine fi_seq ?_
    refine fi_block ?_
    refine fi_region ?_
    refine so_move rfl ?_
    refine so_move rfl ?_
    refine so_move rfl ?_
    refine so_move rfl ?_
    obtain ⟨c115, h⟩ := h
    refine sv_idx (g0 _ hs.tl) c115 (fun _ => rfl) (by decide) rfl rfl F33.tl30 ?_
    refine sv_cell (g0 _ hs.tl) c115 false 0 (fun x => (AV.bool x)) (fun _ => rfl) (fun _ => rfl) rfl F33.ag4 ?_
    obtain ⟨c116, h⟩ := h
    refine sv_idx (hs.shows 0 rfl) c116 (fun _ => rfl) (by decide) rfl rfl F33.tl30 ?_
    refine sv_set hs 0 rfl c116 (l0.getD (i113).toNat false) (fun _ => rfl) (by decide) rfl rfl rfl rfl F33.sz4 nofun (fun H117 hs => ?_)
    refine so_nil ?_
    refine fi_inBlock ?_
    refine fi_region ?_
    refine so_move rfl ?_
    refine so_bin rfl rfl ab_add ?_
    refine so_assign rfl ?_
    refine so_nil ?_
    exact fi_at [(0, (.v v0)), (3, (.v v102)), (4, (.v (.int .i64 (IntKind.i64.wrap (i113 + (1 : Int))))))] ⟨rfl, rfl, rfl, trivial⟩ (h _ _  hs)
  · refine fi_false rfl (decide_eq_false c114) ?_
    refine fi_exit rfl ?_
    refine fi_seq ?_
    refine fi_region ?_
    refine so_move rfl ?_
    refine so_assign rfl ?_
    refine so_nil ?_
    exact by_ret rfl ⟨_, h, _, rfl, hs⟩

end Go.Proofs.Ytcplmcfnegphlaa.G

namespace Go.Proofs.Ytcplmcfnegphlaa.G
open Go Go.Ab Go.Proofs Go.Proofs.Ytcplmcfnegphlaa
set_option maxRecDepth 100000
set_option linter.unusedVariables false
set_option linter.unusedSimpArgs false
set_option maxHeartbeats 1000000
theorem impl_within_ok {fr : List Pc} {H : Heap} (a0 : Int) (a1 : Int) (a2 : Int) (hs : Sep H (fr))  (K : Bool → Prop) (h : impl_within.wp a0 a1 a2 K) : OkQ Try.prog 42 [(.v (.int .i64 a0)), (.v (.int .i64 a1)), (.v (.int .i64 a2))] H (fun r H2 => ∃ (y0 : Bool), K y0 ∧ r = (.v (.bool y0)) ∧ Sep H2 (fr)) := by
  unfold impl_within.wp at h
  refine of_body Try.f42 F.hm Try.func42 rfl Try.call42 (by kernel_rfl) (by simp) ?_
  refine fi_seq ?_
  refine fi_region ?_
  refine so_assign rfl ?_
  refine so_nil ?_
  refine fi_seq ?_
  refine fi_region ?_
  refine so_move rfl ?_
  refine so_move rfl ?_
  refine so_bin rfl rfl ab_geq ?_
  refine so_move rfl ?_
  replace h := ofP h; rcases h with ⟨c101, h⟩ | ⟨c101, h⟩
  · refine so_gyes rfl (decide_eq_true c101) ?_
    refine so_move rfl ?_
    refine so_gyes rfl (decide_eq_true c101) ?_
    refine so_move rfl ?_
    refine so_gyes rfl (decide_eq_true c101) ?_
    refine so_bin rfl rfl ab_leq ?_
    refine so_pick_t rfl (decide_eq_true c101) rfl ?_
    refine so_assign rfl ?_
    refine so_nil ?_
    exact by_ret rfl ⟨_, h, rfl, hs⟩
  · refine so_gno rfl (decide_eq_false c101) ?_
    refine so_gno rfl (decide_eq_false c101) ?_
    refine so_gno rfl (decide_eq_false c101) ?_
    refine so_pick_f rfl (decide_eq_false c101) rfl ?_
    refine so_assign rfl ?_
    refine so_nil ?_
    exact by_ret rfl ⟨_, h, rfl, hs⟩

end Go.Proofs.Ytcplmcfnegphlaa.G

namespace Go.Proofs.Ytcplmcfnegphlaa.G
open Go Go.Ab Go.Proofs Go.Proofs.Ytcplmcfnegphlaa
set_option maxRecDepth 100000
set_option linter.unusedVariables false
set_option linter.unusedSimpArgs false
set_option maxHeartbeats 1000000
theorem impl_fromZigZag_ok {fr : List Pc} {H : Heap} (a0 : Int) (hs : Sep H (fr))  (K : Int → Prop) (h : impl_fromZigZag.wp a0 K) : OkQ Try.prog 61 [(.v (.int .i64 a0))] H (fun r H2 => ∃ (y0 : Int), K y0 ∧ r = (.v (.int .i64 y0)) ∧ Sep H2 (fr)) := by
  unfold impl_fromZigZag.wp at h
  refine of_body Try.f61 F.hm Try.func61 rfl Try.call61 (by kernel_rfl) (by simp) ?_
  refine fi_seq ?_
  refine fi_region ?_
  refine so_assign rfl ?_
  refine so_nil ?_
  refine fi_seq ?_
  refine fi_seq ?_
  refine fi_region ?_
  refine so_move rfl ?_
  refine so_bin rfl rfl (ab_rem (by decide)) ?_
  refine so_bin rfl rfl ab_eql ?_
  refine so_nil ?_
  replace h := ofP h; rcases h with ⟨c101, h⟩ | ⟨c101, h⟩
  · refine fi_true rfl (decide_eq_true c101) ?_
    refine fi_seq ?_
    refine fi_region ?_
    refine so_move rfl ?_
    refine so_bin rfl rfl (ab_quo (by decide)) ?_
    refine so_assign rfl ?_
    refine so_nil ?_
    exact by_ret rfl ⟨_, h, rfl, hs⟩
  · refine fi_false rfl (decide_eq_false c101) ?_
    refine fi_skip ?_
    refine fi_seq ?_
    refine fi_region ?_
    refine so_move rfl ?_
    refine so_bin rfl rfl ab_add ?_
    refine so_un rfl au_neg ?_
    refine so_bin rfl rfl (ab_quo (by decide)) ?_
    refine so_assign rfl ?_
    refine so_nil ?_
    exact by_ret rfl ⟨_, h, rfl, hs⟩

end Go.Proofs.Ytcplmcfnegphlaa.G

namespace Go.Proofs.Ytcplmcfnegphlaa.G
open Go Go.Ab Go.Proofs Go.Proofs.Ytcplmcfnegphlaa
set_option maxRecDepth 100000
set_option linter.unusedVariables false
set_option linter.unusedSimpArgs false
set_option maxHeartbeats 1000000
theorem F34.ag4 : tagg Try.prog 4 = some false := by kernel_rfl
theorem F34.sz2 : tsz Try.prog 2 = some 1 := by kernel_rfl
theorem F34.ta24_24 : tapp Try.prog 24 24 = some (1, 8) := by kernel_rfl
theorem F34.te24 : telem Try.prog 24 = some 2 := by kernel_rfl
theorem F34.ti30 : (telem Try.prog 30).isSome = true := by kernel_rfl
theorem F34.tl30 : (telem Try.prog 30).bind (tsz Try.prog) = some 1 := by kernel_rfl
theorem F34.ze2 : tzero Try.prog 2 = some [(.int .i64 (0 : Int))] := by kernel_rfl
theorem impl_FromRice_ok {fr : List Pc} {H : Heap} (v0 : AV) (l0 : List (Bool)) (a1 : Int) (a2 : Int) (hs : Sep H (fr)) (g0 : ∀ H, Sep H fr → Shows H v0 1 (enc eBool l0)) (K : (List (Int)) → Bool → Prop) (h : impl_FromRice.wp l0 a1 a2 K) : OkQ Try.prog 34 [(.v v0), (.v (.int .i64 a1)), (.v (.int .i64 a2))] H (fun r H2 => ∃ (y0 : List (Int)) (y1 : Bool), K y0 y1 ∧ ∃ (w0_ : AV), r = (.t [(.v w0_), (.v (.bool y1))]) ∧ Sep H2 (Pc.osl w0_ 1 (enc (eInt .i64) y0) :: fr)) := by
  unfold impl_FromRice.wp at h
  refine of_body Try.f34 F.hm Try.func34 rfl Try.call34 (by kernel_rfl) (by simp) ?_
  refine fi_seq ?_
  refine fi_region ?_
  refine so_assign rfl ?_
  refine so_assign rfl ?_
  refine so_nil ?_
  refine fi_seq ?_
  refine fi_seq ?_
  refine fi_region ?_
  refine so_move rfl ?_
  refine sv_len (g0 _ hs) (fun _ => rfl) (by decide) rfl F34.ti30 ?_
  refine so_bin rfl rfl ab_gtr ?_
  refine so_move rfl ?_
  replace h := ofP h; rcases h with ⟨c101, h⟩ | ⟨c101, h⟩
  · refine so_gno rfl (decide_eq_true c101) ?_
    refine so_gno rfl (decide_eq_true c101) ?_
    refine so_gno rfl (decide_eq_true c101) ?_
    refine so_pick_t rfl (decide_eq_true c101) rfl ?_
    refine so_move rfl ?_
    refine so_gno rfl rfl ?_
    refine so_gno rfl rfl ?_
    refine so_gno rfl rfl ?_
    refine so_pick_t rfl rfl rfl ?_
    refine so_nil ?_
    refine fi_true rfl rfl ?_
    refine fi_seq ?_
    refine fi_region ?_
    refine so_assign rfl ?_
    refine so_assign rfl ?_
    refine so_nil ?_
    exact by_ret rfl ⟨_, _, h, _, rfl, (Sep.nil hs 1)⟩
  · refine so_gyes rfl (decide_eq_false c101) ?_
    refine so_move rfl ?_
    refine so_gyes rfl (decide_eq_false c101) ?_
    refine sv_call (impl_within_ok a1 (1 : Int) (128 : Int) hs  _ h) rfl rfl nofun ?_
    clear h hs
    rintro _ H103 ⟨y102, h, rfl, hs⟩
    refine so_gyes rfl (decide_eq_false c101) ?_
    refine so_un rfl au_not ?_
    refine so_pick_f rfl (decide_eq_false c101) rfl ?_
    refine so_move rfl ?_
    replace h := ofT h; rcases h with ⟨c104, h⟩ | ⟨c104, h⟩
    · refine so_gyes rfl (not_f c104) ?_
      refine so_move rfl ?_
      refine so_gyes rfl (not_f c104) ?_
      refine sv_call (impl_within_ok a2 (0 : Int) (20 : Int) hs  _ h) rfl rfl nofun ?_
      clear h hs
      rintro _ H106 ⟨y105, h, rfl, hs⟩
      refine so_gyes rfl (not_f c104) ?_
      refine so_un rfl au_not ?_
      refine so_pick_f rfl (not_f c104) rfl ?_
      refine so_nil ?_
      replace h := ofT h; rcases h with ⟨c107, h⟩ | ⟨c107, h⟩
      · refine fi_false rfl (not_f c107) ?_
        refine fi_skip ?_
        refine fi_seq ?_
        refine fi_region ?_
        refine sv_bslice hs (eInt .i64) ([] : List (Int)) [] F34.te24 F34.sz2 F34.ze2 rfl rfl rfl rfl (fun _ => rfl) rfl (by decide) nofun (fun v108 H109 nv108 hs => ?_)
        refine so_assign rfl ?_
        refine so_assign rfl ?_
        refine so_nil ?_
        refine fi_seq ?_
        refine fi_seq ?_
        refine fi_region ?_
        refine so_move rfl ?_
        refine so_move rfl ?_
        refine so_nil ?_
        refine fi_block ?_
        refine fi_loop ?_
        refine fi_at [(0, (.v v0)), (2, (.v (.int .i64 a2))), (8, (.v v108)), (9, (.v (.int .i64 (0 : Int)))), (25, (.v (.int .i64 a1))), (26, (.v (.int .i64 (0 : Int))))] ⟨rfl, rfl, rfl, rfl, rfl, rfl, trivial⟩ ?_
        refine h (fun (out167 : List (Int)) (atq169 : Int) (x170 : Int) => ∀ (s : Nat → TV) (H : Heap) (v168 : AV) (nv168 : v168 ≠ .nilsl), Sep H (Pc.osl v168 1 (enc (eInt .i64) out167) :: fr) → Fin _ _ (updL s [(0, (.v v0)), (2, (.v (.int .i64 a2))), (8, (.v v168)), (9, (.v (.int .i64 atq169))), (25, (.v (.int .i64 a1))), (26, (.v (.int .i64 x170)))]) H _) ?_ _ _ _ nv108 hs
        intro out167 atq169 x170 h s221 H222 v168 nv168 hs
        refine fi_inLoop ?_
        refine fi_seq ?_
        refine fi_region ?_
        refine so_bin rfl rfl ab_lss ?_
        refine so_nil ?_
        refine fi_seq ?_
        replace h := ofP h; rcases h with ⟨c171, h⟩ | ⟨c171, h⟩
        · refine fi_true rfl (decide_eq_true c171) ?_
          refine fi_skip ?_
          refine fi_seq ?_
          refine fi_block ?_
          refine fi_seq ?_
          refine fi_region ?_
          refine so_assign rfl ?_
          refine so_nil ?_
          refine fi_seq ?_
          refine fi_block ?_
          refine fi_loop ?_
          refine fi_at [(0, (.v v0)), (2, (.v (.int .i64 a2))), (8, (.v v168)), (9, (.v (.int .i64 atq169))), (10, (.v (.int .i64 (0 : Int)))), (25, (.v (.int .i64 a1))), (26, (.v (.int .i64 x170)))] ⟨rfl, rfl, rfl, rfl, rfl, rfl, rfl, trivial⟩ ?_
          refine h (fun (atq173 : Int) (z174 : Int) => ∀ (s : Nat → TV) (H : Heap), Sep H (Pc.osl v168 1 (enc (eInt .i64) out167) :: fr) → Fin _ _ (updL s [(0, (.v v0)), (2, (.v (.int .i64 a2))), (8, (.v v168)), (9, (.v (.int .i64 atq173))), (10, (.v (.int .i64 z174))), (25, (.v (.int .i64 a1))), (26, (.v (.int .i64 x170)))]) H _) ?_ _ _ hs
          intro atq173 z174 h s218 H219 hs
          refine fi_inLoop ?_
          refine fi_seq ?_
          refine fi_seq ?_
          refine fi_region ?_
          refine so_move rfl ?_
          refine so_move rfl ?_
          refine sv_len (g0 _ hs.tl) (fun _ => rfl) (by decide) rfl F34.ti30 ?_
          refine so_bin rfl rfl ab_lss ?_
          refine so_move rfl ?_
          replace h := ofP h; rcases h with ⟨c175, h⟩ | ⟨c175, h⟩
          · refine so_gyes rfl (decide_eq_true c175) ?_
            refine so_move rfl ?_
            refine so_gyes rfl (decide_eq_true c175) ?_
            refine so_move rfl ?_
            refine so_gyes rfl (decide_eq_true c175) ?_
            obtain ⟨c176, h⟩ := h
            refine sv_idx (g0 _ hs.tl) c176 (fun _ => rfl) (by decide) rfl rfl F34.tl30 ?_
            refine so_gyes rfl (decide_eq_true c175) ?_
            refine sv_cell (g0 _ hs.tl) c176 false 0 (fun x => (AV.bool x)) (fun _ => rfl) (fun _ => rfl) rfl F34.ag4 ?_
            refine so_pick_t rfl (decide_eq_true c175) rfl ?_
            refine so_nil ?_
            replace h := ofT h; rcases h with ⟨c177, h⟩ | ⟨c177, h⟩
            · refine fi_true rfl c177 ?_
              refine fi_skip ?_
              refine fi_block ?_
              refine fi_seq ?_
              refine fi_region ?_
              refine so_move rfl ?_
              refine so_bin rfl rfl ab_add ?_
              refine so_assign rfl ?_
              refine so_nil ?_
              refine fi_region ?_
              refine so_move rfl ?_
              refine so_bin rfl rfl ab_add ?_
              refine so_assign rfl ?_
              refine so_nil ?_
              refine fi_inBlock ?_
              exact fi_at [(0, (.v v0)), (2, (.v (.int .i64 a2))), (8, (.v v168)), (9, (.v (.int .i64 (IntKind.i64.wrap (atq173 + (1 : Int)))))), (10, (.v (.int .i64 (IntKind.i64.wrap (z174 + (1 : Int)))))), (25, (.v (.int .i64 a1))), (26, (.v (.int .i64 x170)))] ⟨rfl, rfl, rfl, rfl, rfl, rfl, rfl, trivial⟩ (h _ _  hs)
            · refine fi_false rfl c177 ?_
              refine fi_exit rfl ?_
              refine fi_seq ?_
              refine fi_region ?_
              refine so_move rfl ?_
              refine so_bin rfl rfl ab_add ?_
              refine so_assign rfl ?_
              refine so_nil ?_
              refine fi_seq ?_
              refine fi_seq ?_
              refine fi_region ?_
              refine so_move rfl ?_
              refine so_move rfl ?_
              refine so_nil ?_
              refine fi_block ?_
              refine fi_loop ?_
              refine fi_at [(0, (.v v0)), (2, (.v (.int .i64 a2))), (8, (.v v168)), (9, (.v (.int .i64 (IntKind.i64.wrap (atq173 + (1 : Int)))))), (10, (.v (.int .i64 z174))), (25, (.v (.int .i64 a1))), (26, (.v (.int .i64 x170))), (44, (.v (.int .i64 a2))), (45, (.v (.int .i64 (0 : Int))))] ⟨rfl, rfl, rfl, rfl, rfl, rfl, rfl, rfl, rfl, trivial⟩ ?_
              refine h (fun (atq179 : Int) (z180 : Int) (x181 : Int) => ∀ (s : Nat → TV) (H : Heap), Sep H (Pc.osl v168 1 (enc (eInt .i64) out167) :: fr) → Fin _ _ (updL s [(0, (.v v0)), (2, (.v (.int .i64 a2))), (8, (.v v168)), (9, (.v (.int .i64 atq179))), (10, (.v (.int .i64 z180))), (25, (.v (.int .i64 a1))), (26, (.v (.int .i64 x170))), (44, (.v (.int .i64 a2))), (45, (.v (.int .i64 x181)))]) H _) ?_ _ _ hs
              intro atq179 z180 x181 h s196 H197 hs
              refine fi_inLoop ?_
              refine fi_seq ?_
              refine fi_region ?_
              refine so_bin rfl rfl ab_lss ?_
              refine so_nil ?_
              refine fi_seq ?_
              replace h := ofP h; rcases h with ⟨c182, h⟩ | ⟨c182, h⟩
              · refine fi_true rfl (decide_eq_true c182) ?_
                refine fi_skip ?_
                refine fi_seq ?_
                refine fi_block ?_
                refine fi_seq ?_
                refine fi_region ?_
                refine so_move rfl ?_
                refine so_bin rfl rfl (ab_shl (by decide)) ?_
                refine so_assign rfl ?_
                refine so_nil ?_
                refine fi_seq ?_
                refine fi_seq ?_
                refine fi_region ?_
                refine so_move rfl ?_
                refine so_move rfl ?_
                refine sv_len (g0 _ hs.tl) (fun _ => rfl) (by decide) rfl F34.ti30 ?_
                refine so_bin rfl rfl ab_lss ?_
                refine so_move rfl ?_
                replace h := ofP h; rcases h with ⟨c183, h⟩ | ⟨c183, h⟩
                · refine so_gyes rfl (decide_eq_true c183) ?_
                  refine so_move rfl ?_
                  refine so_gyes rfl (decide_eq_true c183) ?_
                  refine so_move rfl ?_
                  refine so_gyes rfl (decide_eq_true c183) ?_
                  obtain ⟨c184, h⟩ := h
                  refine sv_idx (g0 _ hs.tl) c184 (fun _ => rfl) (by decide) rfl rfl F34.tl30 ?_
                  refine so_gyes rfl (decide_eq_true c183) ?_
                  refine sv_cell (g0 _ hs.tl) c184 false 0 (fun x => (AV.bool x)) (fun _ => rfl) (fun _ => rfl) rfl F34.ag4 ?_
                  refine so_pick_t rfl (decide_eq_true c183) rfl ?_
                  refine so_nil ?_
                  replace h := ofT h; rcases h with ⟨c185, h⟩ | ⟨c185, h⟩
                  · refine fi_true rfl c185 ?_
                    refine fi_region ?_
                    refine so_move rfl ?_
                    refine so_bin rfl rfl ab_add ?_
                    refine so_assign rfl ?_
                    refine so_nil ?_
                    refine fi_region ?_
                    refine so_move rfl ?_
                    refine so_bin rfl rfl ab_add ?_
                    refine so_assign rfl ?_
                    refine so_nil ?_
                    refine fi_inBlock ?_
                    refine fi_region ?_
                    refine so_bin rfl rfl ab_add ?_
                    refine so_move rfl ?_
                    refine so_nil ?_
                    exact fi_at [(0, (.v v0)), (2, (.v (.int .i64 a2))), (8, (.v v168)), (9, (.v (.int .i64 (IntKind.i64.wrap (atq179 + (1 : Int)))))), (10, (.v (.int .i64 (IntKind.i64.wrap ((IntKind.i64.wrap (z180 * (2 ^ (min ((1 : Int)).toNat IntKind.i64.bits)))) + (1 : Int)))))), (25, (.v (.int .i64 a1))), (26, (.v (.int .i64 x170))), (44, (.v (.int .i64 a2))), (45, (.v (.int .i64 (IntKind.i64.wrap (x181 + (1 : Int))))))] ⟨rfl, rfl, rfl, rfl, rfl, rfl, rfl, rfl, rfl, trivial⟩ (h _ _  hs)
                  · refine fi_false rfl c185 ?_
                    refine fi_skip ?_
                    refine fi_region ?_
                    refine so_move rfl ?_
                    refine so_bin rfl rfl ab_add ?_
                    refine so_assign rfl ?_
                    refine so_nil ?_
                    refine fi_inBlock ?_
                    refine fi_region ?_
                    refine so_bin rfl rfl ab_add ?_
                    refine so_move rfl ?_
                    refine so_nil ?_
                    exact fi_at [(0, (.v v0)), (2, (.v (.int .i64 a2))), (8, (.v v168)), (9, (.v (.int .i64 (IntKind.i64.wrap (atq179 + (1 : Int)))))), (10, (.v (.int .i64 (IntKind.i64.wrap (z180 * (2 ^ (min ((1 : Int)).toNat IntKind.i64.bits))))))), (25, (.v (.int .i64 a1))), (26, (.v (.int .i64 x170))), (44, (.v (.int .i64 a2))), (45, (.v (.int .i64 (IntKind.i64.wrap (x181 + (1 : Int))))))] ⟨rfl, rfl, rfl, rfl, rfl, rfl, rfl, rfl, rfl, trivial⟩ (h _ _  hs)
                · refine so_gno rfl (decide_eq_false c183) ?_
                  refine so_gno rfl (decide_eq_false c183) ?_
                  refine so_gno rfl (decide_eq_false c183) ?_
                  refine so_gno rfl (decide_eq_false c183) ?_
                  refine so_pick_f rfl (decide_eq_false c183) rfl ?_
                  refine so_nil ?_
                  refine fi_false rfl rfl ?_
                  refine fi_skip ?_
                  refine fi_region ?_
                  refine so_move rfl ?_
                  refine so_bin rfl rfl ab_add ?_
                  refine so_assign rfl ?_
                  refine so_nil ?_
                  refine fi_inBlock ?_
                  refine fi_region ?_
                  refine so_bin rfl rfl ab_add ?_
                  refine so_move rfl ?_
                  refine so_nil ?_
                  exact fi_at [(0, (.v v0)), (2, (.v (.int .i64 a2))), (8, (.v v168)), (9, (.v (.int .i64 (IntKind.i64.wrap (atq179 + (1 : Int)))))), (10, (.v (.int .i64 (IntKind.i64.wrap (z180 * (2 ^ (min ((1 : Int)).toNat IntKind.i64.bits))))))), (25, (.v (.int .i64 a1))), (26, (.v (.int .i64 x170))), (44, (.v (.int .i64 a2))), (45, (.v (.int .i64 (IntKind.i64.wrap (x181 + (1 : Int))))))] ⟨rfl, rfl, rfl, rfl, rfl, rfl, rfl, rfl, rfl, trivial⟩ (h _ _  hs)
              · refine fi_false rfl (decide_eq_false c182) ?_
                refine fi_exit rfl ?_
                refine fi_seq ?_
                refine fi_seq ?_
                refine fi_region ?_
                refine so_move rfl ?_
                refine so_move rfl ?_
                refine sv_len (g0 _ hs.tl) (fun _ => rfl) (by decide) rfl F34.ti30 ?_
                refine so_bin rfl rfl ab_gtr ?_
                refine so_move rfl ?_
                replace h := ofP h; rcases h with ⟨c186, h⟩ | ⟨c186, h⟩
                · refine so_gno rfl (decide_eq_true c186) ?_
                  refine so_gno rfl (decide_eq_true c186) ?_
                  refine so_pick_t rfl (decide_eq_true c186) rfl ?_
                  refine so_nil ?_
                  refine fi_true rfl rfl ?_
                  refine fi_seq ?_
                  refine fi_region ?_
                  refine so_assign rfl ?_
                  refine so_assign rfl ?_
                  refine so_nil ?_
                  exact by_ret rfl ⟨_, _, h, _, rfl, (Sep.nil (Sep.del 0 hs) 1)⟩
                · refine so_gyes rfl (decide_eq_false c186) ?_
                  refine so_move rfl ?_
                  refine so_gyes rfl (decide_eq_false c186) ?_
                  refine so_bin rfl rfl ab_gtr ?_
                  refine so_pick_f rfl (decide_eq_false c186) rfl ?_
                  refine so_nil ?_
                  replace h := ofP h; rcases h with ⟨c187, h⟩ | ⟨c187, h⟩
                  · refine fi_true rfl (decide_eq_true c187) ?_
                    refine fi_seq ?_
                    refine fi_region ?_
                    refine so_assign rfl ?_
                    refine so_assign rfl ?_
                    refine so_nil ?_
                    exact by_ret rfl ⟨_, _, h, _, rfl, (Sep.nil (Sep.del 0 hs) 1)⟩
                  · refine fi_false rfl (decide_eq_false c187) ?_
                    refine fi_skip ?_
                    refine fi_region ?_
                    refine so_move rfl ?_
                    refine so_move rfl ?_
                    refine sv_call (impl_fromZigZag_ok z180 hs  _ h) rfl rfl nofun ?_
                    clear h hs
                    rintro _ H189 ⟨y188, h, rfl, hs⟩
                    refine sv_bslice hs (eInt .i64) ([y188] : List (Int)) [[(.int .i64 y188)]] F34.te24 F34.sz2 F34.ze2 rfl rfl rfl rfl (fun _ => rfl) rfl (by decide) nofun (fun v190 H191 nv190 hs => ?_)
                    obtain ⟨c195, h⟩ := h
                    refine sv_app hs 1 rfl (hs.shows 0 rfl) (fun _ => rfl) (by decide) F34.ta24_24 (by decide) c195 rfl rfl nofun (fun v193 H194 kv193 hs => ?_)
                    replace hs := hs.del 0
                    have nv193 := kv193 nv168
                    refine so_assign rfl ?_
                    refine so_nil ?_
                    refine fi_inBlock ?_
                    refine fi_region ?_
                    refine so_bin rfl rfl ab_add ?_
                    refine so_move rfl ?_
                    refine so_nil ?_
                    exact fi_at [(0, (.v v0)), (2, (.v (.int .i64 a2))), (8, (.v v193)), (9, (.v (.int .i64 atq179))), (25, (.v (.int .i64 a1))), (26, (.v (.int .i64 (IntKind.i64.wrap (x170 + (1 : Int))))))] ⟨rfl, rfl, rfl, rfl, rfl, rfl, trivial⟩ (h _ _ _ nv193 hs)
          · refine so_gno rfl (decide_eq_false c175) ?_
            refine so_gno rfl (decide_eq_false c175) ?_
            refine so_gno rfl (decide_eq_false c175) ?_
            refine so_gno rfl (decide_eq_false c175) ?_
            refine so_pick_f rfl (decide_eq_false c175) rfl ?_
            refine so_nil ?_
            refine fi_false rfl rfl ?_
            refine fi_exit rfl ?_
            refine fi_seq ?_
            refine fi_region ?_
            refine so_move rfl ?_
            refine so_bin rfl rfl ab_add ?_
            refine so_assign rfl ?_
            refine so_nil ?_
            refine fi_seq ?_
            refine fi_seq ?_
            refine fi_region ?_
            refine so_move rfl ?_
            refine so_move rfl ?_
            refine so_nil ?_
            refine fi_block ?_
            refine fi_loop ?_
            refine fi_at [(0, (.v v0)), (2, (.v (.int .i64 a2))), (8, (.v v168)), (9, (.v (.int .i64 (IntKind.i64.wrap (atq173 + (1 : Int)))))), (10, (.v (.int .i64 z174))), (25, (.v (.int .i64 a1))), (26, (.v (.int .i64 x170))), (44, (.v (.int .i64 a2))), (45, (.v (.int .i64 (0 : Int))))] ⟨rfl, rfl, rfl, rfl, rfl, rfl, rfl, rfl, rfl, trivial⟩ ?_
            refine h (fun (atq199 : Int) (z200 : Int) (x201 : Int) => ∀ (s : Nat → TV) (H : Heap), Sep H (Pc.osl v168 1 (enc (eInt .i64) out167) :: fr) → Fin _ _ (updL s [(0, (.v v0)), (2, (.v (.int .i64 a2))), (8, (.v v168)), (9, (.v (.int .i64 atq199))), (10, (.v (.int .i64 z200))), (25, (.v (.int .i64 a1))), (26, (.v (.int .i64 x170))), (44, (.v (.int .i64 a2))), (45, (.v (.int .i64 x201)))]) H _) ?_ _ _ hs
            intro atq199 z200 x201 h s216 H217 hs
            refine fi_inLoop ?_
            refine fi_seq ?_
            refine fi_region ?_
            refine so_bin rfl rfl ab_lss ?_
            refine so_nil ?_
            refine fi_seq ?_
            replace h := ofP h; rcases h with ⟨c202, h⟩ | ⟨c202, h⟩
            · refine fi_true rfl (decide_eq_true c202) ?_
              refine fi_skip ?_
              refine fi_seq ?_
              refine fi_block ?_
              refine fi_seq ?_
              refine fi_region ?_
              refine so_move rfl ?_
              refine so_bin rfl rfl (ab_shl (by decide)) ?_
              refine so_assign rfl ?_
              refine so_nil ?_
              refine fi_seq ?_
              refine fi_seq ?_
              refine fi_region ?_
              refine so_move rfl ?_
              refine so_move rfl ?_
              refine sv_len (g0 _ hs.tl) (fun _ => rfl) (by decide) rfl F34.ti30 ?_
              refine so_bin rfl rfl ab_lss ?_
              refine so_move rfl ?_
              replace h := ofP h; rcases h with ⟨c203, h⟩ | ⟨c203, h⟩
              · refine so_gyes rfl (decide_eq_true c203) ?_
                refine so_move rfl ?_
                refine so_gyes rfl (decide_eq_true c203) ?_
                refine so_move rfl ?_
                refine so_gyes rfl (decide_eq_true c203) ?_
                obtain ⟨c204, h⟩ := h
                refine sv_idx (g0 _ hs.tl) c204 (fun _ => rfl) (by decide) rfl rfl F34.tl30 ?_
                refine so_gyes rfl (decide_eq_true c203) ?_
                refine sv_cell (g0 _ hs.tl) c204 false 0 (fun x => (AV.bool x)) (fun _ => rfl) (fun _ => rfl) rfl F34.ag4 ?_
                refine so_pick_t rfl (decide_eq_true c203) rfl ?_
                refine so_nil ?_
                replace h := ofT h; rcases h with ⟨c205, h⟩ | ⟨c205, h⟩
                · refine fi_true rfl c205 ?_
                  refine fi_region ?_
                  refine so_move rfl ?_
                  refine so_bin rfl rfl ab_add ?_
                  refine so_assign rfl ?_
                  refine so_nil ?_
                  refine fi_region ?_
                  refine so_move rfl ?_
                  refine so_bin rfl rfl ab_add ?_
                  refine so_assign rfl ?_
                  refine so_nil ?_
                  refine fi_inBlock ?_
                  refine fi_region ?_
                  refine so_bin rfl rfl ab_add ?_
                  refine so_move rfl ?_
                  refine so_nil ?_
                  exact fi_at [(0, (.v v0)), (2, (.v (.int .i64 a2))), (8, (.v v168)), (9, (.v (.int .i64 (IntKind.i64.wrap (atq199 + (1 : Int)))))), (10, (.v (.int .i64 (IntKind.i64.wrap ((IntKind.i64.wrap (z200 * (2 ^ (min ((1 : Int)).toNat IntKind.i64.bits)))) + (1 : Int)))))), (25, (.v (.int .i64 a1))), (26, (.v (.int .i64 x170))), (44, (.v (.int .i64 a2))), (45, (.v (.int .i64 (IntKind.i64.wrap (x201 + (1 : Int))))))] ⟨rfl, rfl, rfl, rfl, rfl, rfl, rfl, rfl, rfl, trivial⟩ (h _ _  hs)
                · refine fi_false rfl c205 ?_
                  refine fi_skip ?_
                  refine fi_region ?_
                  refine so_move rfl ?_
                  refine so_bin rfl rfl ab_add ?_
                  refine so_assign rfl ?_
                  refine so_nil ?_
                  refine fi_inBlock ?_
                  refine fi_region ?_
                  refine so_bin rfl rfl ab_add ?_
                  refine so_move rfl ?_
                  refine so_nil ?_
                  exact fi_at [(0, (.v v0)), (2, (.v (.int .i64 a2))), (8, (.v v168)), (9, (.v (.int .i64 (IntKind.i64.wrap (atq199 + (1 : Int)))))), (10, (.v (.int .i64 (IntKind.i64.wrap (z200 * (2 ^ (min ((1 : Int)).toNat IntKind.i64.bits))))))), (25, (.v (.int .i64 a1))), (26, (.v (.int .i64 x170))), (44, (.v (.int .i64 a2))), (45, (.v (.int .i64 (IntKind.i64.wrap (x201 + (1 : Int))))))] ⟨rfl, rfl, rfl, rfl, rfl, rfl, rfl, rfl, rfl, trivial⟩ (h _ _  hs)
              · refine so_gno rfl (decide_eq_false c203) ?_
                refine so_gno rfl (decide_eq_false c203) ?_
                refine so_gno rfl (decide_eq_false c203) ?_
                refine so_gno rfl (decide_eq_false c203) ?_
                refine so_pick_f rfl (decide_eq_false c203) rfl ?_
                refine so_nil ?_
                refine fi_false rfl rfl ?_
                refine fi_skip ?_
                refine fi_region ?_
                refine so_move rfl ?_
                refine so_bin rfl rfl ab_add ?_
                refine so_assign rfl ?_
                refine so_nil ?_
                refine fi_inBlock ?_
                refine fi_region ?_
                refine so_bin rfl rfl ab_add ?_
                refine so_move rfl ?_
                refine so_nil ?_
                exact fi_at [(0, (.v v0)), (2, (.v (.int .i64 a2))), (8, (.v v168)), (9, (.v (.int .i64 (IntKind.i64.wrap (atq199 + (1 : Int)))))), (10, (.v (.int .i64 (IntKind.i64.wrap (z200 * (2 ^ (min ((1 : Int)).toNat IntKind.i64.bits))))))), (25, (.v (.int .i64 a1))), (26, (.v (.int .i64 x170))), (44, (.v (.int .i64 a2))), (45, (.v (.int .i64 (IntKind.i64.wrap (x201 + (1 : Int))))))] ⟨rfl, rfl, rfl, rfl, rfl, rfl, rfl, rfl, rfl, trivial⟩ (h _ _  hs)
            · refine fi_false rfl (decide_eq_false c202) ?_
              refine fi_exit rfl ?_
              refine fi_seq ?_
              refine fi_seq ?_
              refine fi_region ?_
              refine so_move rfl ?_
              refine so_move rfl ?_
              refine sv_len (g0 _ hs.tl) (fun _ => rfl) (by decide) rfl F34.ti30 ?_
              refine so_bin rfl rfl ab_gtr ?_
              refine so_move rfl ?_
              replace h := ofP h; rcases h with ⟨c206, h⟩ | ⟨c206, h⟩
              · refine so_gno rfl (decide_eq_true c206) ?_
                refine so_gno rfl (decide_eq_true c206) ?_
                refine so_pick_t rfl (decide_eq_true c206) rfl ?_
                refine so_nil ?_
                refine fi_true rfl rfl ?_
                refine fi_seq ?_
                refine fi_region ?_
                refine so_assign rfl ?_
                refine so_assign rfl ?_
                refine so_nil ?_
                exact by_ret rfl ⟨_, _, h, _, rfl, (Sep.nil (Sep.del 0 hs) 1)⟩
              · refine so_gyes rfl (decide_eq_false c206) ?_
                refine so_move rfl ?_
                refine so_gyes rfl (decide_eq_false c206) ?_
                refine so_bin rfl rfl ab_gtr ?_
                refine so_pick_f rfl (decide_eq_false c206) rfl ?_
                refine so_nil ?_
                replace h := ofP h; rcases h with ⟨c207, h⟩ | ⟨c207, h⟩
                · refine fi_true rfl (decide_eq_true c207) ?_
                  refine fi_seq ?_
                  refine fi_region ?_
                  refine so_assign rfl ?_
                  refine so_assign rfl ?_
                  refine so_nil ?_
                  exact by_ret rfl ⟨_, _, h, _, rfl, (Sep.nil (Sep.del 0 hs) 1)⟩
                · refine fi_false rfl (decide_eq_false c207) ?_
                  refine fi_skip ?_
                  refine fi_region ?_
                  refine so_move rfl ?_
                  refine so_move rfl ?_
                  refine sv_call (impl_fromZigZag_ok z200 hs  _ h) rfl rfl nofun ?_
                  clear h hs
                  rintro _ H209 ⟨y208, h, rfl, hs⟩
                  refine sv_bslice hs (eInt .i64) ([y208] : List (Int)) [[(.int .i64 y208)]] F34.te24 F34.sz2 F34.ze2 rfl rfl rfl rfl (fun _ => rfl) rfl (by decide) nofun (fun v210 H211 nv210 hs => ?_)
                  obtain ⟨c215, h⟩ := h
                  refine sv_app hs 1 rfl (hs.shows 0 rfl) (fun _ => rfl) (by decide) F34.ta24_24 (by decide) c215 rfl rfl nofun (fun v213 H214 kv213 hs => ?_)
                  replace hs := hs.del 0
                  have nv213 := kv213 nv168
                  refine so_assign rfl ?_
                  refine so_nil ?_
                  refine fi_inBlock ?_
                  refine fi_region ?_
                  refine so_bin rfl rfl ab_add ?_
                  refine so_move rfl ?_
                  refine so_nil ?_
                  exact fi_at [(0, (.v v0)), (2, (.v (.int .i64 a2))), (8, (.v v213)), (9, (.v (.int .i64 atq199))), (25, (.v (.int .i64 a1))), (26, (.v (.int .i64 (IntKind.i64.wrap (x170 + (1 : Int))))))] ⟨rfl, rfl, rfl, rfl, rfl, rfl, trivial⟩ (h _ _ _ nv213 hs)
        · refine fi_false rfl (decide_eq_false c171) ?_
          refine fi_exit rfl ?_
          refine fi_seq ?_
          refine fi_seq ?_
          refine fi_region ?_
          refine so_move rfl ?_
          refine so_move rfl ?_
          refine sv_len (g0 _ hs.tl) (fun _ => rfl) (by decide) rfl F34.ti30 ?_
          refine so_bin rfl rfl ab_neq ?_
          refine so_nil ?_
          replace h := ofP h; rcases h with ⟨c220, h⟩ | ⟨c220, h⟩
          · refine fi_false rfl (not_f (decide_eq_true c220)) ?_
            refine fi_skip ?_
            refine fi_seq ?_
            refine fi_region ?_
            refine so_move rfl ?_
            refine so_assign rfl ?_
            refine so_assign rfl ?_
            refine so_nil ?_
            exact by_ret rfl ⟨_, _, h, _, rfl, hs⟩
          · refine fi_true rfl (not_t (decide_eq_false c220)) ?_
            refine fi_seq ?_
            refine fi_region ?_
            refine so_assign rfl ?_
            refine so_assign rfl ?_
            refine so_nil ?_
            exact by_ret rfl ⟨_, _, h, _, rfl, (Sep.nil (Sep.del 0 hs) 1)⟩
      · refine fi_true rfl (not_t c107) ?_
        refine fi_seq ?_
        refine fi_region ?_
        refine so_assign rfl ?_
        refine so_assign rfl ?_
        refine so_nil ?_
        exact by_ret rfl ⟨_, _, h, _, rfl, (Sep.nil hs 1)⟩
    · refine so_gno rfl (not_t c104) ?_
      refine so_gno rfl (not_t c104) ?_
      refine so_gno rfl (not_t c104) ?_
      refine so_pick_t rfl (not_t c104) rfl ?_
      refine so_nil ?_
      refine fi_true rfl rfl ?_
      refine fi_seq ?_
      refine fi_region ?_
      refine so_assign rfl ?_
      refine so_assign rfl ?_
      refine so_nil ?_
      exact by_ret rfl ⟨_, _, h, _, rfl, (Sep.nil hs 1)⟩

end Go.Proofs.Ytcplmcfnegphlaa.G

namespace Go.Proofs.Ytcplmcfnegphlaa.G
open Go Go.Ab Go.Proofs Go.Proofs.Ytcplmcfnegphlaa
set_option maxRecDepth 100000
set_option linter.unusedVariables false
set_option linter.unusedSimpArgs false
set_option maxHeartbeats 1000000
theorem F7.tb4 : tbool Try.prog 4 = true := by kernel_rfl
theorem F7.ti30 : (telem Try.prog 30).isSome = true := by kernel_rfl
theorem laws_FnExactFromRice_ok {fr : List Pc} {H : Heap} (v0 : AV) (l0 : List (Bool)) (a1 : Int) (a2 : Int) (hs : Sep H (fr)) (g0 : ∀ H, Sep H fr → Shows H v0 1 (enc eBool l0)) (K : Bool → Prop) (h : laws_FnExactFromRice.wp l0 a1 a2 K) : OkQ Try.prog 7 [(.v v0), (.v (.int .i64 a1)), (.v (.int .i64 a2))] H (fun r H2 => ∃ (y0 : Bool), K y0 ∧ r = (.v (.bool y0)) ∧ Sep H2 (fr)) := by
  unfold laws_FnExactFromRice.wp at h
  refine of_body Try.f7 F.hm Try.func7 rfl Try.call7 (by kernel_rfl) (by simp) ?_
  refine fi_seq ?_
  refine fi_region ?_
  refine so_assign rfl ?_
  refine so_nil ?_
  refine fi_seq ?_
  refine fi_seq ?_
  refine fi_region ?_
  refine so_move rfl ?_
  refine sv_len (g0 _ hs) (fun _ => rfl) (by decide) rfl F7.ti30 ?_
  refine so_bin rfl rfl ab_gtr ?_
  refine so_nil ?_
  replace h := ofP h; rcases h with ⟨c101, h⟩ | ⟨c101, h⟩
  · refine fi_true rfl (decide_eq_true c101) ?_
    refine fi_seq ?_
    refine fi_region ?_
    refine so_assign rfl ?_
    refine so_nil ?_
    exact by_ret rfl ⟨_, h, rfl, hs⟩
  · refine fi_false rfl (decide_eq_false c101) ?_
    refine fi_skip ?_
    refine fi_seq ?_
    refine fi_region ?_
    refine so_move rfl ?_
    refine sv_call (laws_toBoolS_ok v0 l0 hs (fun _ hs => (g0 _ hs)) _ h) rfl rfl nofun ?_
    clear h hs
    rintro _ H105 ⟨y102, h, v103, rfl, hs⟩
    refine so_move rfl ?_
    refine so_move rfl ?_
    refine sv_call (spec_FromRice_ok v103 y102 a1 a2 hs (fun _ hs => (hs.shows 0 rfl)) _ h) rfl rfl nofun ?_
    clear h hs
    rintro _ H110 ⟨y106, y109, h, v107, rfl, hs⟩
    refine so_move rfl ?_
    refine so_extract rfl rfl rfl ?_
    refine so_extract rfl rfl rfl ?_
    refine so_assign rfl ?_
    refine so_assign rfl ?_
    refine so_nil ?_
    refine fi_seq ?_
    refine fi_region ?_
    refine so_move rfl ?_
    refine sv_call (laws_toBoolS_ok v0 l0 hs (fun _ hs => (g0 _ hs.tl.tl)) _ h) rfl rfl nofun ?_
    clear h hs
    rintro _ H114 ⟨y111, h, v112, rfl, hs⟩
    refine so_assign rfl ?_
    refine so_nil ?_
    refine fi_seq ?_
    refine fi_region ?_
    refine so_move rfl ?_
    refine so_move rfl ?_
    refine so_move rfl ?_
    refine sv_call (impl_FromRice_ok v112 y111 a1 a2 hs (fun _ hs => (hs.shows 0 rfl)) _ h) rfl rfl nofun ?_
    clear h hs
    rintro _ H119 ⟨y115, y118, h, v116, rfl, hs⟩
    refine so_move rfl ?_
    refine so_extract rfl rfl rfl ?_
    refine so_extract rfl rfl rfl ?_
    refine so_assign rfl ?_
    refine so_assign rfl ?_
    refine so_nil ?_
    refine fi_seq ?_
    refine fi_seq ?_
    refine fi_region ?_
    refine so_move rfl ?_
    refine so_move rfl ?_
    refine sv_call (laws_eqInt64S_ok v116 y115 v107 y106 hs (fun _ hs => (hs.shows 0 rfl)) (fun _ hs => (hs.shows 2 rfl)) _ h) rfl rfl nofun ?_
    clear h hs
    rintro _ H121 ⟨y120, h, rfl, hs⟩
    refine so_un rfl au_not ?_
    refine so_move rfl ?_
    replace h := ofT h; rcases h with ⟨c122, h⟩ | ⟨c122, h⟩
    · refine so_gyes rfl (not_f c122) ?_
      refine so_move rfl ?_
      refine so_gyes rfl (not_f c122) ?_
      refine so_move rfl ?_
      refine so_gyes rfl (not_f c122) ?_
      refine so_bin rfl rfl (ab_bneq F7.tb4) ?_
      refine so_pick_f rfl (not_f c122) rfl ?_
      refine so_nil ?_
      replace h := ofT h; rcases h with ⟨c123, h⟩ | ⟨c123, h⟩
      · refine fi_false rfl (not_f c123) ?_
        refine fi_skip ?_
        refine fi_seq ?_
        refine fi_seq ?_
        refine fi_region ?_
        refine so_move rfl ?_
        refine so_move rfl ?_
        refine sv_call (laws_toBoolS_ok v0 l0 hs (fun _ hs => (g0 _ hs.tl.tl.tl.tl)) _ h) rfl rfl nofun ?_
        clear h hs
        rintro _ H127 ⟨y124, h, v125, rfl, hs⟩
        refine sv_call (laws_eqBoolS_ok v112 y111 v125 y124 hs (fun _ hs => (hs.shows 2 rfl)) (fun _ hs => (hs.shows 0 rfl)) _ h) rfl rfl nofun ?_
        clear h hs
        rintro _ H129 ⟨y128, h, rfl, hs⟩
        refine so_un rfl au_not ?_
        refine so_nil ?_
        replace h := ofT h; rcases h with ⟨c130, h⟩ | ⟨c130, h⟩
        · refine fi_false rfl (not_f c130) ?_
          refine fi_skip ?_
          refine fi_seq ?_
          refine fi_region ?_
          refine so_assign rfl ?_
          refine so_nil ?_
          refine fi_seq ?_
          refine fi_region ?_
          refine so_move rfl ?_
          refine so_move rfl ?_
          replace hs := (Sep.front 2 hs rfl)
          refine sv_call (laws_markBoolS_ok v112 y111 (1 : Int) hs  _ h) rfl rfl nofun ?_
          clear h hs
          rintro _ H133 ⟨y131, y132, h, rfl, hs⟩
          refine so_assign rfl ?_
          refine so_nil ?_
          refine fi_seq ?_
          refine fi_seq ?_
          refine fi_region ?_
          refine so_move rfl ?_
          refine so_bin rfl rfl ab_lss ?_
          refine so_move rfl ?_
          replace h := ofP h; rcases h with ⟨c134, h⟩ | ⟨c134, h⟩
          · refine so_gno rfl (decide_eq_true c134) ?_
            refine so_gno rfl (decide_eq_true c134) ?_
            refine so_gno rfl (decide_eq_true c134) ?_
            refine so_gno rfl (decide_eq_true c134) ?_
            refine so_pick_t rfl (decide_eq_true c134) rfl ?_
            refine so_move rfl ?_
            refine so_gno rfl rfl ?_
            refine so_gno rfl rfl ?_
            refine so_gno rfl rfl ?_
            refine so_pick_t rfl rfl rfl ?_
            refine so_nil ?_
            refine fi_true rfl rfl ?_
            refine fi_seq ?_
            refine fi_region ?_
            refine so_assign rfl ?_
            refine so_nil ?_
            exact by_ret rfl ⟨_, h, rfl, (Sep.del 0 (Sep.del 0 (Sep.del 0 (Sep.del 0 (Sep.del 0 hs)))))⟩
          · refine so_gyes rfl (decide_eq_false c134) ?_
            refine so_move rfl ?_
            refine so_gyes rfl (decide_eq_false c134) ?_
            refine so_move rfl ?_
            refine so_gyes rfl (decide_eq_false c134) ?_
            refine sv_call (laws_eqInt64S_ok v116 y115 v107 y106 hs (fun _ hs => (hs.shows 2 rfl)) (fun _ hs => (hs.shows 3 rfl)) _ h) rfl rfl nofun ?_
            clear h hs
            rintro _ H136 ⟨y135, h, rfl, hs⟩
            refine so_gyes rfl (decide_eq_false c134) ?_
            refine so_un rfl au_not ?_
            refine so_pick_f rfl (decide_eq_false c134) rfl ?_
            refine so_move rfl ?_
            replace h := ofT h; rcases h with ⟨c137, h⟩ | ⟨c137, h⟩
            · refine so_gyes rfl (not_f c137) ?_
              refine so_move rfl ?_
              refine so_gyes rfl (not_f c137) ?_
              refine so_move rfl ?_
              refine so_gyes rfl (not_f c137) ?_
              refine so_bin rfl rfl (ab_bneq F7.tb4) ?_
              refine so_pick_f rfl (not_f c137) rfl ?_
              refine so_nil ?_
              refine fi_false rfl (not_f c123) ?_
              refine fi_skip ?_
              refine fi_seq ?_
              refine fi_region ?_
              refine so_assign rfl ?_
              refine so_nil ?_
              refine fi_seq ?_
              refine fi_region ?_
              refine so_move rfl ?_
              refine so_move rfl ?_
              replace hs := (Sep.front 2 hs rfl)
              refine sv_call (laws_markInt64S_ok v116 y115 (1 : Int) hs  _ h) rfl rfl nofun ?_
              clear h hs
              rintro _ H140 ⟨y138, y139, h, rfl, hs⟩
              refine so_assign rfl ?_
              refine so_nil ?_
              refine fi_seq ?_
              refine fi_region ?_
              refine so_assign rfl ?_
              refine so_nil ?_
              refine fi_seq ?_
              refine fi_region ?_
              refine so_move rfl ?_
              refine so_move rfl ?_
              refine sv_call (laws_heldInt64S_ok v116 y139 (1 : Int) hs (fun _ hs => (hs.shows 0 rfl)) _ h) rfl rfl nofun ?_
              clear h hs
              rintro _ H142 ⟨y141, h, rfl, hs⟩
              refine so_assign rfl ?_
              refine so_nil ?_
              refine fi_seq ?_
              refine fi_seq ?_
              refine fi_region ?_
              refine so_move rfl ?_
              refine so_bin rfl rfl ab_lss ?_
              refine so_nil ?_
              replace h := ofP h; rcases h with ⟨c143, h⟩ | ⟨c143, h⟩
              · refine fi_true rfl (decide_eq_true c143) ?_
                refine fi_seq ?_
                refine fi_region ?_
                refine so_assign rfl ?_
                refine so_nil ?_
                exact by_ret rfl ⟨_, h, rfl, (Sep.del 0 (Sep.del 0 (Sep.del 0 (Sep.del 0 (Sep.del 0 hs)))))⟩
              · refine fi_false rfl (decide_eq_false c143) ?_
                refine fi_skip ?_
                refine fi_seq ?_
                refine fi_seq ?_
                refine fi_region ?_
                refine so_move rfl ?_
                refine so_move rfl ?_
                refine so_bin rfl rfl ab_neq ?_
                refine so_nil ?_
                replace h := ofP h; rcases h with ⟨c144, h⟩ | ⟨c144, h⟩
                · refine fi_false rfl (not_f (decide_eq_true c144)) ?_
                  refine fi_skip ?_
                  refine fi_seq ?_
                  refine fi_region ?_
                  refine so_move rfl ?_
                  refine sv_call (laws_toBoolS_ok v0 l0 hs (fun _ hs => (g0 _ hs.tl.tl.tl.tl.tl)) _ h) rfl rfl nofun ?_
                  clear h hs
                  rintro _ H148 ⟨y145, h, v146, rfl, hs⟩
                  refine so_move rfl ?_
                  refine so_move rfl ?_
                  refine sv_call (impl_FromRice_ok v146 y145 a1 a2 hs (fun _ hs => (hs.shows 0 rfl)) _ h) rfl rfl nofun ?_
                  clear h hs
                  rintro _ H153 ⟨y149, y152, h, v150, rfl, hs⟩
                  refine so_move rfl ?_
                  refine so_extract rfl rfl rfl ?_
                  refine so_extract rfl rfl rfl ?_
                  refine so_assign rfl ?_
                  refine so_assign rfl ?_
                  refine so_nil ?_
                  refine fi_seq ?_
                  refine fi_seq ?_
                  refine fi_region ?_
                  refine so_move rfl ?_
                  refine so_move rfl ?_
                  refine sv_call (laws_eqInt64S_ok v150 y149 v107 y106 hs (fun _ hs => (hs.shows 0 rfl)) (fun _ hs => (hs.shows 5 rfl)) _ h) rfl rfl nofun ?_
                  clear h hs
                  rintro _ H155 ⟨y154, h, rfl, hs⟩
                  refine so_un rfl au_not ?_
                  refine so_move rfl ?_
                  replace h := ofT h; rcases h with ⟨c156, h⟩ | ⟨c156, h⟩
                  · refine so_gyes rfl (not_f c156) ?_
                    refine so_move rfl ?_
                    refine so_gyes rfl (not_f c156) ?_
                    refine so_move rfl ?_
                    refine so_gyes rfl (not_f c156) ?_
                    refine so_bin rfl rfl (ab_bneq F7.tb4) ?_
                    refine so_pick_f rfl (not_f c156) rfl ?_
                    refine so_nil ?_
                    replace h := ofT h; rcases h with ⟨c157, h⟩ | ⟨c157, h⟩
                    · refine fi_false rfl (not_f c157) ?_
                      refine fi_skip ?_
                      refine fi_seq ?_
                      refine fi_region ?_
                      refine so_assign rfl ?_
                      refine so_nil ?_
                      refine fi_seq ?_
                      refine fi_region ?_
                      refine so_move rfl ?_
                      refine so_move rfl ?_
                      refine sv_call (laws_heldInt64S_ok v116 y139 (1 : Int) hs (fun _ hs => (hs.shows 2 rfl)) _ h) rfl rfl nofun ?_
                      clear h hs
                      rintro _ H159 ⟨y158, h, rfl, hs⟩
                      refine so_assign rfl ?_
                      refine so_nil ?_
                      refine fi_seq ?_
                      refine fi_seq ?_
                      refine fi_region ?_
                      refine so_move rfl ?_
                      refine so_bin rfl rfl ab_lss ?_
                      refine so_nil ?_
                      replace h := ofP h; rcases h with ⟨c160, h⟩ | ⟨c160, h⟩
                      · refine fi_true rfl (decide_eq_true c160) ?_
                        refine fi_seq ?_
                        refine fi_region ?_
                        refine so_assign rfl ?_
                        refine so_nil ?_
                        exact by_ret rfl ⟨_, h, rfl, (Sep.del 0 (Sep.del 0 (Sep.del 0 (Sep.del 0 (Sep.del 0 (Sep.del 0 (Sep.del 0 hs)))))))⟩
                      · refine fi_false rfl (decide_eq_false c160) ?_
                        refine fi_skip ?_
                        refine fi_seq ?_
                        refine fi_seq ?_
                        refine fi_region ?_
                        refine so_move rfl ?_
                        refine so_move rfl ?_
                        refine so_bin rfl rfl ab_neq ?_
                        refine so_nil ?_
                        replace h := ofP h; rcases h with ⟨c161, h⟩ | ⟨c161, h⟩
                        · refine fi_false rfl (not_f (decide_eq_true c161)) ?_
                          refine fi_skip ?_
                          refine fi_seq ?_
                          refine fi_region ?_
                          refine so_assign rfl ?_
                          refine so_nil ?_
                          exact by_ret rfl ⟨_, h, rfl, (Sep.del 0 (Sep.del 0 (Sep.del 0 (Sep.del 0 (Sep.del 0 (Sep.del 0 (Sep.del 0 hs)))))))⟩
                        · refine fi_true rfl (not_t (decide_eq_false c161)) ?_
                          refine fi_seq ?_
                          refine fi_region ?_
                          refine so_assign rfl ?_
                          refine so_nil ?_
                          exact by_ret rfl ⟨_, h, rfl, (Sep.del 0 (Sep.del 0 (Sep.del 0 (Sep.del 0 (Sep.del 0 (Sep.del 0 (Sep.del 0 hs)))))))⟩
                    · refine fi_true rfl (not_t c157) ?_
                      refine fi_seq ?_
                      refine fi_region ?_
                      refine so_assign rfl ?_
                      refine so_nil ?_
                      exact by_ret rfl ⟨_, h, rfl, (Sep.del 0 (Sep.del 0 (Sep.del 0 (Sep.del 0 (Sep.del 0 (Sep.del 0 (Sep.del 0 hs)))))))⟩
                  · refine so_gno rfl (not_t c156) ?_
                    refine so_gno rfl (not_t c156) ?_
                    refine so_gno rfl (not_t c156) ?_
                    refine so_pick_t rfl (not_t c156) rfl ?_
                    refine so_nil ?_
                    refine fi_true rfl rfl ?_
                    refine fi_seq ?_
                    refine fi_region ?_
                    refine so_assign rfl ?_
                    refine so_nil ?_
                    exact by_ret rfl ⟨_, h, rfl, (Sep.del 0 (Sep.del 0 (Sep.del 0 (Sep.del 0 (Sep.del 0 (Sep.del 0 (Sep.del 0 hs)))))))⟩
                · refine fi_true rfl (not_t (decide_eq_false c144)) ?_
                  refine fi_seq ?_
                  refine fi_region ?_
                  refine so_assign rfl ?_
                  refine so_nil ?_
                  exact by_ret rfl ⟨_, h, rfl, (Sep.del 0 (Sep.del 0 (Sep.del 0 (Sep.del 0 (Sep.del 0 hs)))))⟩
            · refine so_gno rfl (not_t c137) ?_
              refine so_gno rfl (not_t c137) ?_
              refine so_gno rfl (not_t c137) ?_
              refine so_pick_t rfl (not_t c137) rfl ?_
              refine so_nil ?_
              refine fi_true rfl rfl ?_
              refine fi_seq ?_
              refine fi_region ?_
              refine so_assign rfl ?_
              refine so_nil ?_
              exact by_ret rfl ⟨_, h, rfl, (Sep.del 0 (Sep.del 0 (Sep.del 0 (Sep.del 0 (Sep.del 0 hs)))))⟩
        · refine fi_true rfl (not_t c130) ?_
          refine fi_seq ?_
          refine fi_region ?_
          refine so_assign rfl ?_
          refine so_nil ?_
          exact by_ret rfl ⟨_, h, rfl, (Sep.del 0 (Sep.del 0 (Sep.del 0 (Sep.del 0 (Sep.del 0 hs)))))⟩
      · refine fi_true rfl (not_t c123) ?_
        refine fi_seq ?_
        refine fi_region ?_
        refine so_assign rfl ?_
        refine so_nil ?_
        exact by_ret rfl ⟨_, h, rfl, (Sep.del 0 (Sep.del 0 (Sep.del 0 (Sep.del 0 hs))))⟩
    · refine so_gno rfl (not_t c122) ?_
      refine so_gno rfl (not_t c122) ?_
      refine so_gno rfl (not_t c122) ?_
      refine so_pick_t rfl (not_t c122) rfl ?_
      refine so_nil ?_
      refine fi_true rfl rfl ?_
      refine fi_seq ?_
      refine fi_region ?_
      refine so_assign rfl ?_
      refine so_nil ?_
      exact by_ret rfl ⟨_, h, rfl, (Sep.del 0 (Sep.del 0 (Sep.del 0 (Sep.del 0 hs))))⟩

end Go.Proofs.Ytcplmcfnegphlaa.G

