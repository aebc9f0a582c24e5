/-
  The model ends so. Printed by a program of the session; nothing here is trusted.
-/
import Derived.Test.YtfieljajhmpbiaaProg
import Derived.KernelRfl
import Derived.Test.YtfieljajhmpbiaaMExactUnpackTakeWa
namespace Go.Proofs.Ytfieljajhmpbiaa.F
open Go Go.Ab Go.Proofs
set_option maxRecDepth 100000
set_option linter.unusedVariables false
set_option linter.unusedSimpArgs false
set_option maxHeartbeats 1000000
theorem hm : Try.prog.follows .mixedOrders = true := by kernel_rfl
end Go.Proofs.Ytfieljajhmpbiaa.F

namespace Go.Proofs.Ytfieljajhmpbiaa.G
open Go Go.Ab Go.Proofs Go.Proofs.Ytfieljajhmpbiaa
set_option maxRecDepth 100000
set_option linter.unusedVariables false
set_option linter.unusedSimpArgs false
set_option maxHeartbeats 1000000
theorem F67.tb4 : tbool Try.prog 4 = true := by kernel_rfl
theorem laws_sameFloat_ok {fr : List Pc} {H : Heap} (a0 : Nat) (a1 : Nat) (hs : Sep H (fr))  (K : Bool → Prop) (h : laws_sameFloat.wp a0 a1 K) : OkQ Try.prog 67 [(.v (.flt .f64 a0)), (.v (.flt .f64 a1))] H (fun r H2 => ∃ (y0 : Bool), K y0 ∧ r = (.v (.bool y0)) ∧ Sep H2 (fr)) := by
  unfold laws_sameFloat.wp at h
  refine of_body Try.f67 F.hm Try.func67 rfl Try.call67 (by kernel_rfl) (by simp) ?_
  refine fi_seq ?_
  refine fi_region ?_
  refine so_assign rfl ?_
  refine so_nil ?_
  refine fi_seq ?_
  refine fi_seq ?_
  refine fi_region ?_
  refine so_move rfl ?_
  refine so_move rfl ?_
  refine so_bin rfl rfl ab_fneq ?_
  refine so_move rfl ?_
  replace h := ofT h; rcases h with ⟨c101, h⟩ | ⟨c101, h⟩
  · refine so_gno rfl c101 ?_
    refine so_gno rfl c101 ?_
    refine so_gno rfl c101 ?_
    refine so_pick_t rfl c101 rfl ?_
    refine so_nil ?_
    refine fi_true rfl rfl ?_
    refine fi_seq ?_
    refine fi_region ?_
    refine so_move rfl ?_
    refine so_move rfl ?_
    refine so_bin rfl rfl ab_fneq ?_
    refine so_move rfl ?_
    refine so_gyes rfl c101 ?_
    refine so_move rfl ?_
    refine so_gyes rfl c101 ?_
    refine so_move rfl ?_
    refine so_gyes rfl c101 ?_
    refine so_bin rfl rfl ab_fneq ?_
    refine so_pick_t rfl c101 rfl ?_
    refine so_assign rfl ?_
    refine so_nil ?_
    exact by_ret rfl ⟨_, h, rfl, hs⟩
  · refine so_gyes rfl c101 ?_
    refine so_move rfl ?_
    refine so_gyes rfl c101 ?_
    refine so_move rfl ?_
    refine so_gyes rfl c101 ?_
    refine so_bin rfl rfl ab_fneq ?_
    refine so_pick_f rfl c101 rfl ?_
    refine so_nil ?_
    replace h := ofT h; rcases h with ⟨c102, h⟩ | ⟨c102, h⟩
    · refine fi_true rfl c102 ?_
      refine fi_seq ?_
      refine fi_region ?_
      refine so_move rfl ?_
      refine so_move rfl ?_
      refine so_bin rfl rfl ab_fneq ?_
      refine so_move rfl ?_
      refine so_gno rfl c101 ?_
      refine so_gno rfl c101 ?_
      refine so_gno rfl c101 ?_
      refine so_pick_f rfl c101 rfl ?_
      refine so_assign rfl ?_
      refine so_nil ?_
      exact by_ret rfl ⟨_, h, rfl, hs⟩
    · refine fi_false rfl c102 ?_
      refine fi_skip ?_
      refine fi_seq ?_
      refine fi_seq ?_
      refine fi_region ?_
      refine so_move rfl ?_
      refine so_bin rfl rfl ab_feql ?_
      refine so_move rfl ?_
      replace h := ofT h; rcases h with ⟨c103, h⟩ | ⟨c103, h⟩
      · refine so_gyes rfl c103 ?_
        refine so_move rfl ?_
        refine so_gyes rfl c103 ?_
        refine so_bin rfl rfl ab_feql ?_
        refine so_pick_t rfl c103 rfl ?_
        refine so_nil ?_
        replace h := ofT h; rcases h with ⟨c104, h⟩ | ⟨c104, h⟩
        · refine fi_true rfl c104 ?_
          refine fi_seq ?_
          refine fi_region ?_
          refine so_move rfl ?_
          refine so_bin rfl rfl ab_fquo ?_
          refine so_bin rfl rfl ab_fgtr ?_
          refine so_move rfl ?_
          refine so_bin rfl rfl ab_fquo ?_
          refine so_bin rfl rfl ab_fgtr ?_
          refine so_bin rfl rfl (ab_beql F67.tb4) ?_
          refine so_assign rfl ?_
          refine so_nil ?_
          exact by_ret rfl ⟨_, h, rfl, hs⟩
        · refine fi_false rfl c104 ?_
          refine fi_skip ?_
          refine fi_seq ?_
          refine fi_region ?_
          refine so_move rfl ?_
          refine so_move rfl ?_
          refine so_bin rfl rfl ab_feql ?_
          refine so_assign rfl ?_
          refine so_nil ?_
          exact by_ret rfl ⟨_, h, rfl, hs⟩
      · refine so_gno rfl c103 ?_
        refine so_gno rfl c103 ?_
        refine so_pick_f rfl c103 rfl ?_
        refine so_nil ?_
        refine fi_false rfl rfl ?_
        refine fi_skip ?_
        refine fi_seq ?_
        refine fi_region ?_
        refine so_move rfl ?_
        refine so_move rfl ?_
        refine so_bin rfl rfl ab_feql ?_
        refine so_assign rfl ?_
        refine so_nil ?_
        exact by_ret rfl ⟨_, h, rfl, hs⟩

end Go.Proofs.Ytfieljajhmpbiaa.G

namespace Go.Proofs.Ytfieljajhmpbiaa.G
open Go Go.Ab Go.Proofs Go.Proofs.Ytfieljajhmpbiaa
set_option maxRecDepth 100000
set_option linter.unusedVariables false
set_option linter.unusedSimpArgs false
set_option maxHeartbeats 1000000
theorem F23.ag36 : tagg Try.prog 36 = some false := by kernel_rfl
theorem F23.fl94 : tflt Try.prog 94 = some .f64 := by kernel_rfl
theorem F23.in94 : tint Try.prog 94 = none := by kernel_rfl
theorem F23.ti22 : (telem Try.prog 22).isSome = true := by kernel_rfl
theorem F23.tl22 : (telem Try.prog 22).bind (tsz Try.prog) = some 1 := by kernel_rfl
theorem F23.us36 : (Try.prog.underlying 36).isSome = true := by kernel_rfl
theorem laws_eqFloat32S_ok {fr : List Pc} {H : Heap} (v0 : AV) (l0 : List (Nat)) (v1 : AV) (l1 : List (Nat)) (hs : Sep H (fr)) (g0 : ∀ H, Sep H fr → Shows H v0 1 (enc (eFlt .f32) l0)) (g1 : ∀ H, Sep H fr → Shows H v1 1 (enc (eFlt .f32) l1)) (K : Bool → Prop) (h : laws_eqFloat32S.wp l0 l1 K) : OkQ Try.prog 23 [(.v v0), (.v v1)] H (fun r H2 => ∃ (y0 : Bool), K y0 ∧ r = (.v (.bool y0)) ∧ Sep H2 (fr)) := by
  unfold laws_eqFloat32S.wp at h
  refine of_body Try.f23 F.hm Try.func23 rfl Try.call23 (by kernel_rfl) (by simp) ?_
  refine fi_seq ?_
  refine fi_region ?_
  refine so_assign rfl ?_
  refine so_nil ?_
  refine fi_seq ?_
  refine fi_seq ?_
  refine fi_region ?_
  refine so_move rfl ?_
  refine sv_len (g0 _ hs) (fun _ => rfl) (by decide) rfl F23.ti22 ?_
  refine so_move rfl ?_
  refine sv_len (g1 _ hs) (fun _ => rfl) (by decide) rfl F23.ti22 ?_
  refine so_bin rfl rfl ab_neq ?_
  refine so_nil ?_
  replace h := ofP h; rcases h with ⟨c101, h⟩ | ⟨c101, h⟩
  · refine fi_false rfl (not_f (decide_eq_true c101)) ?_
    refine fi_skip ?_
    refine fi_seq ?_
    refine fi_seq ?_
    refine fi_region ?_
    refine so_assign rfl ?_
    refine so_nil ?_
    refine fi_block ?_
    refine fi_loop ?_
    refine fi_at [(0, (.v v0)), (1, (.v v1)), (5, (.v (.int .i64 (0 : Int))))] ⟨rfl, rfl, rfl, trivial⟩ ?_
    refine h (fun (i103 : Int) => ∀ (s : Nat → TV) (H : Heap), Sep H (fr) → Fin _ _ (updL s [(0, (.v v0)), (1, (.v v1)), (5, (.v (.int .i64 i103)))]) H _) ?_ _ _ hs
    intro i103 h s110 H111 hs
    refine fi_inLoop ?_
    refine fi_seq ?_
    refine fi_seq ?_
    refine fi_region ?_
    refine so_move rfl ?_
    refine so_move rfl ?_
    refine sv_len (g0 _ hs) (fun _ => rfl) (by decide) rfl F23.ti22 ?_
    refine so_bin rfl rfl ab_lss ?_
    refine so_nil ?_
    replace h := ofP h; rcases h with ⟨c104, h⟩ | ⟨c104, h⟩
    · refine fi_true rfl (decide_eq_true c104) ?_
      refine fi_skip ?_
      refine fi_seq ?_
      refine fi_block ?_
      refine fi_seq ?_
      refine fi_region ?_
      refine so_move rfl ?_
      refine so_move rfl ?_
      obtain ⟨c105, h⟩ := h
      refine sv_idx (g0 _ hs) c105 (fun _ => rfl) (by decide) rfl rfl F23.tl22 ?_
      refine sv_cell (g0 _ hs) c105 (0 : Nat) 0 (fun x => (AV.flt .f32 x)) (fun _ => rfl) (fun _ => rfl) rfl F23.ag36 ?_
      refine sv_ffw rfl F23.us36 F23.in94 F23.fl94 ?_
      refine so_move rfl ?_
      refine so_move rfl ?_
      obtain ⟨c106, h⟩ := h
      refine sv_idx (g1 _ hs) c106 (fun _ => rfl) (by decide) rfl rfl F23.tl22 ?_
      refine sv_cell (g1 _ hs) c106 (0 : Nat) 0 (fun x => (AV.flt .f32 x)) (fun _ => rfl) (fun _ => rfl) rfl F23.ag36 ?_
      refine sv_ffw rfl F23.us36 F23.in94 F23.fl94 ?_
      refine sv_call (laws_sameFloat_ok (widen (l0.getD (i103).toNat (0 : Nat))) (widen (l1.getD (i103).toNat (0 : Nat))) hs  _ h) rfl rfl (fun _ => by kernel_rfl) ?_
      clear h hs
      rintro _ H108 ⟨y107, h, rfl, hs⟩
      refine so_un rfl au_not ?_
      refine so_nil ?_
      replace h := ofT h; rcases h with ⟨c109, h⟩ | ⟨c109, h⟩
      · refine fi_false rfl (not_f c109) ?_
        refine fi_skip ?_
        refine fi_inBlock ?_
        refine fi_region ?_
        refine so_move rfl ?_
        refine so_bin rfl rfl ab_add ?_
        refine so_assign rfl ?_
        refine so_nil ?_
        exact fi_at [(0, (.v v0)), (1, (.v v1)), (5, (.v (.int .i64 (IntKind.i64.wrap (i103 + (1 : Int))))))] ⟨rfl, rfl, rfl, trivial⟩ (h _ _  hs)
      · refine fi_true rfl (not_t c109) ?_
        refine fi_seq ?_
        refine fi_region ?_
        refine so_assign rfl ?_
        refine so_nil ?_
        exact by_ret rfl ⟨_, h, rfl, hs⟩
    · refine fi_false rfl (decide_eq_false c104) ?_
      refine fi_exit rfl ?_
      refine fi_seq ?_
      refine fi_region ?_
      refine so_assign rfl ?_
      refine so_nil ?_
      exact by_ret rfl ⟨_, h, rfl, hs⟩
  · refine fi_true rfl (not_t (decide_eq_false c101)) ?_
    refine fi_seq ?_
    refine fi_region ?_
    refine so_assign rfl ?_
    refine so_nil ?_
    exact by_ret rfl ⟨_, h, rfl, hs⟩

end Go.Proofs.Ytfieljajhmpbiaa.G

namespace Go.Proofs.Ytfieljajhmpbiaa.G
open Go Go.Ab Go.Proofs Go.Proofs.Ytfieljajhmpbiaa
set_option maxRecDepth 100000
set_option linter.unusedVariables false
set_option linter.unusedSimpArgs false
set_option maxHeartbeats 1000000
theorem F26.fl36 : tflt Try.prog 36 = some .f32 := by kernel_rfl
theorem F26.in36 : tint Try.prog 36 = none := by kernel_rfl
theorem F26.sz36 : tsz Try.prog 36 = some 1 := by kernel_rfl
theorem F26.ti22 : (telem Try.prog 22).isSome = true := by kernel_rfl
theorem F26.tl22 : (telem Try.prog 22).bind (tsz Try.prog) = some 1 := by kernel_rfl
theorem F26.us3 : (Try.prog.underlying 3).isSome = true := by kernel_rfl
theorem laws_markFloat32S_ok {fr : List Pc} {H : Heap} (v0 : AV) (l0 : List (Nat)) (a1 : Int) (hs : Sep H (Pc.osl v0 1 (enc (eFlt .f32) l0) :: fr))  (K : Int → (List (Nat)) → Prop) (h : laws_markFloat32S.wp l0 a1 K) : OkQ Try.prog 26 [(.v v0), (.v (.int .i64 a1))] H (fun r H2 => ∃ (y0 : Int) (y1 : List (Nat)), K y0 y1 ∧ r = (.v (.int .i64 y0)) ∧ Sep H2 (Pc.osl v0 1 (enc (eFlt .f32) y1) :: fr)) := by
  unfold laws_markFloat32S.wp at h
  refine of_body Try.f26 F.hm Try.func26 rfl Try.call26 (by kernel_rfl) (by simp) ?_
  refine fi_seq ?_
  refine fi_region ?_
  refine so_assign rfl ?_
  refine so_nil ?_
  refine fi_seq ?_
  refine fi_seq ?_
  refine fi_region ?_
  refine so_assign rfl ?_
  refine so_nil ?_
  refine fi_block ?_
  refine fi_loop ?_
  refine fi_at [(0, (.v v0)), (1, (.v (.int .i64 a1))), (5, (.v (.int .i64 (0 : Int))))] ⟨rfl, rfl, rfl, trivial⟩ ?_
  refine h (fun (a109 : List (Nat)) (k110 : Int) (i111 : Int) => ∀ (s : Nat → TV) (H : Heap), Sep H (Pc.osl v0 1 (enc (eFlt .f32) a109) :: fr) → Fin _ _ (updL s [(0, (.v v0)), (1, (.v (.int .i64 k110))), (5, (.v (.int .i64 i111)))]) H _) ?_ _ _ hs
  intro a109 k110 i111 h s115 H116 hs
  refine fi_inLoop ?_
  refine fi_seq ?_
  refine fi_seq ?_
  refine fi_region ?_
  refine so_move rfl ?_
  refine so_move rfl ?_
  refine sv_len (hs.shows 0 rfl) (fun _ => rfl) (by decide) rfl F26.ti22 ?_
  refine so_bin rfl rfl ab_lss ?_
  refine so_nil ?_
  replace h := ofP h; rcases h with ⟨c112, h⟩ | ⟨c112, h⟩
  · refine fi_true rfl (decide_eq_true c112) ?_
    refine fi_skip ?_
    refine fi_seq ?_
    refine fi_block ?_
    refine fi_seq ?_
    refine fi_region ?_
    refine so_move rfl ?_
    refine so_move rfl ?_
    refine so_move rfl ?_
    refine sv_if rfl F26.us3 F26.in36 F26.fl36 ?_
    obtain ⟨c113, h⟩ := h
    refine sv_idx (hs.shows 0 rfl) c113 (fun _ => rfl) (by decide) rfl rfl F26.tl22 ?_
    refine sv_set hs 0 rfl c113 (itof .f32 k110) (fun _ => rfl) (by decide) rfl rfl rfl rfl F26.sz36 nofun (fun H114 hs => ?_)
    refine so_nil ?_
    refine fi_region ?_
    refine so_move rfl ?_
    refine so_bin rfl rfl ab_add ?_
    refine so_assign rfl ?_
    refine so_nil ?_
    refine fi_inBlock ?_
    refine fi_region ?_
    refine so_move rfl ?_
    refine so_bin rfl rfl ab_add ?_
    refine so_assign rfl ?_
    refine so_nil ?_
    exact fi_at [(0, (.v v0)), (1, (.v (.int .i64 (IntKind.i64.wrap (k110 + (1 : Int)))))), (5, (.v (.int .i64 (IntKind.i64.wrap (i111 + (1 : Int))))))] ⟨rfl, rfl, rfl, trivial⟩ (h _ _  hs)
  · refine fi_false rfl (decide_eq_false c112) ?_
    refine fi_exit rfl ?_
    refine fi_seq ?_
    refine fi_region ?_
    refine so_move rfl ?_
    refine so_assign rfl ?_
    refine so_nil ?_
    exact by_ret rfl ⟨_, _, h, rfl, hs⟩

end Go.Proofs.Ytfieljajhmpbiaa.G

namespace Go.Proofs.Ytfieljajhmpbiaa.G
open Go Go.Ab Go.Proofs Go.Proofs.Ytfieljajhmpbiaa
set_option maxRecDepth 100000
set_option linter.unusedVariables false
set_option linter.unusedSimpArgs false
set_option maxHeartbeats 1000000
theorem F27.ag36 : tagg Try.prog 36 = some false := by kernel_rfl
theorem F27.fl36 : tflt Try.prog 36 = some .f32 := by kernel_rfl
theorem F27.in36 : tint Try.prog 36 = none := by kernel_rfl
theorem F27.ti22 : (telem Try.prog 22).isSome = true := by kernel_rfl
theorem F27.tl22 : (telem Try.prog 22).bind (tsz Try.prog) = some 1 := by kernel_rfl
theorem F27.us3 : (Try.prog.underlying 3).isSome = true := by kernel_rfl
theorem laws_heldFloat32S_ok {fr : List Pc} {H : Heap} (v0 : AV) (l0 : List (Nat)) (a1 : Int) (hs : Sep H (fr)) (g0 : ∀ H, Sep H fr → Shows H v0 1 (enc (eFlt .f32) l0)) (K : Int → Prop) (h : laws_heldFloat32S.wp l0 a1 K) : OkQ Try.prog 27 [(.v v0), (.v (.int .i64 a1))] H (fun r H2 => ∃ (y0 : Int), K y0 ∧ r = (.v (.int .i64 y0)) ∧ Sep H2 (fr)) := by
  unfold laws_heldFloat32S.wp at h
  refine of_body Try.f27 F.hm Try.func27 rfl Try.call27 (by kernel_rfl) (by simp) ?_
  refine fi_seq ?_
  refine fi_region ?_
  refine so_assign rfl ?_
  refine so_nil ?_
  refine fi_seq ?_
  refine fi_seq ?_
  refine fi_region ?_
  refine so_assign rfl ?_
  refine so_nil ?_
  refine fi_block ?_
  refine fi_loop ?_
  refine fi_at [(0, (.v v0)), (1, (.v (.int .i64 a1))), (5, (.v (.int .i64 (0 : Int))))] ⟨rfl, rfl, rfl, trivial⟩ ?_
  refine h (fun (k102 : Int) (i103 : Int) => ∀ (s : Nat → TV) (H : Heap), Sep H (fr) → Fin _ _ (updL s [(0, (.v v0)), (1, (.v (.int .i64 k102))), (5, (.v (.int .i64 i103)))]) H _) ?_ _ _ hs
  intro k102 i103 h s107 H108 hs
  refine fi_inLoop ?_
  refine fi_seq ?_
  refine fi_seq ?_
  refine fi_region ?_
  refine so_move rfl ?_
  refine so_move rfl ?_
  refine sv_len (g0 _ hs) (fun _ => rfl) (by decide) rfl F27.ti22 ?_
  refine so_bin rfl rfl ab_lss ?_
  refine so_nil ?_
  replace h := ofP h; rcases h with ⟨c104, h⟩ | ⟨c104, h⟩
  · refine fi_true rfl (decide_eq_true c104) ?_
    refine fi_skip ?_
    refine fi_seq ?_
    refine fi_block ?_
    refine fi_seq ?_
    refine fi_seq ?_
    refine fi_region ?_
    refine so_move rfl ?_
    refine so_move rfl ?_
    obtain ⟨c105, h⟩ := h
    refine sv_idx (g0 _ hs) c105 (fun _ => rfl) (by decide) rfl rfl F27.tl22 ?_
    refine sv_cell (g0 _ hs) c105 (0 : Nat) 0 (fun x => (AV.flt .f32 x)) (fun _ => rfl) (fun _ => rfl) rfl F27.ag36 ?_
    refine so_move rfl ?_
    refine sv_if rfl F27.us3 F27.in36 F27.fl36 ?_
    refine so_bin rfl rfl ab_fneq ?_
    refine so_nil ?_
    replace h := ofT h; rcases h with ⟨c106, h⟩ | ⟨c106, h⟩
    · refine fi_true rfl c106 ?_
      refine fi_seq ?_
      refine fi_region ?_
      refine so_assign rfl ?_
      refine so_nil ?_
      exact by_ret rfl ⟨_, h, rfl, hs⟩
    · refine fi_false rfl c106 ?_
      refine fi_skip ?_
      refine fi_region ?_
      refine so_move rfl ?_
      refine so_bin rfl rfl ab_add ?_
      refine so_assign rfl ?_
      refine so_nil ?_
      refine fi_inBlock ?_
      refine fi_region ?_
      refine so_move rfl ?_
      refine so_bin rfl rfl ab_add ?_
      refine so_assign rfl ?_
      refine so_nil ?_
      exact fi_at [(0, (.v v0)), (1, (.v (.int .i64 (IntKind.i64.wrap (k102 + (1 : Int)))))), (5, (.v (.int .i64 (IntKind.i64.wrap (i103 + (1 : Int))))))] ⟨rfl, rfl, rfl, trivial⟩ (h _ _  hs)
  · refine fi_false rfl (decide_eq_false c104) ?_
    refine fi_exit rfl ?_
    refine fi_seq ?_
    refine fi_region ?_
    refine so_move rfl ?_
    refine so_assign rfl ?_
    refine so_nil ?_
    exact by_ret rfl ⟨_, h, rfl, hs⟩

end Go.Proofs.Ytfieljajhmpbiaa.G

namespace Go.Proofs.Ytfieljajhmpbiaa.G
open Go Go.Ab Go.Proofs Go.Proofs.Ytfieljajhmpbiaa
set_option maxRecDepth 100000
set_option linter.unusedVariables false
set_option linter.unusedSimpArgs false
set_option maxHeartbeats 1000000
theorem F125.xb125 : Try.f125.body = none := rfl
theorem F125.xe125 : Extern.find Try.f125 = some Extern.MathFloatBits.float32frombits := by rfl
theorem F125.xf125 : (Extern.findNext Try.f125).isNone = true := by kernel_rfl
theorem F125.xn125 : (Try.f125.name == "runtime.NumGoroutine") = false := by kernel_rfl
theorem math_Float32frombits_ok {fr : List Pc} {H : Heap} (x : Int) (hs : Sep H fr) (K : Nat → Prop) (h : math_Float32frombits.wp x K) : OkQ Try.prog 125 [(.v (.int .u32 x))] H (fun r H2 => ∃ y0 : Nat, K y0 ∧ r = (.v (.flt .f32 y0)) ∧ Sep H2 fr) := ⟨_, _, f32from_ok Try.func125 F125.xn125 F125.xb125 F125.xf125 F125.xe125 x, _, h, rfl, hs⟩

end Go.Proofs.Ytfieljajhmpbiaa.G

namespace Go.Proofs.Ytfieljajhmpbiaa.G
open Go Go.Ab Go.Proofs Go.Proofs.Ytfieljajhmpbiaa
set_option maxRecDepth 100000
set_option linter.unusedVariables false
set_option linter.unusedSimpArgs false
set_option maxHeartbeats 1000000
theorem F124.it135 : tint Try.prog 135 = some .u32 := by kernel_rfl
theorem F124.us2 : (Try.prog.underlying 2).isSome = true := by kernel_rfl
theorem spec_l01From_ok {fr : List Pc} {H : Heap} (a0 : Int) (hs : Sep H (fr))  (K : Nat → Prop) (h : spec_l01From.wp a0 K) : OkQ Try.prog 124 [(.v (.int .i64 a0))] H (fun r H2 => ∃ (y0 : Nat), K y0 ∧ r = (.v (.flt .f32 y0)) ∧ Sep H2 (fr)) := by
  unfold spec_l01From.wp at h
  refine of_body Try.f124 F.hm Try.func124 rfl Try.call124 (by kernel_rfl) (by simp) ?_
  refine fi_seq ?_
  refine fi_region ?_
  refine so_assign rfl ?_
  refine so_nil ?_
  refine fi_seq ?_
  refine fi_region ?_
  refine so_move rfl ?_
  refine sv_ii rfl F124.us2 F124.it135 ?_
  refine sv_call (math_Float32frombits_ok (IntKind.u32.wrap a0) hs  _ h) rfl rfl nofun ?_
  clear h hs
  rintro _ H102 ⟨y101, h, rfl, hs⟩
  refine so_assign rfl ?_
  refine so_nil ?_
  exact by_ret rfl ⟨_, h, rfl, hs⟩

end Go.Proofs.Ytfieljajhmpbiaa.G

namespace Go.Proofs.Ytfieljajhmpbiaa.G
open Go Go.Ab Go.Proofs Go.Proofs.Ytfieljajhmpbiaa
set_option maxRecDepth 100000
set_option linter.unusedVariables false
set_option linter.unusedSimpArgs false
set_option maxHeartbeats 1000000
theorem F64.ti22 : (telem Try.prog 22).isSome = true := by kernel_rfl
theorem spec_l07Values_ok {fr : List Pc} {H : Heap} (v0 : AV) (l0 : List (Nat)) (hs : Sep H (fr)) (g0 : ∀ H, Sep H fr → Shows H v0 1 (enc (eFlt .f32) l0)) (K : Bool → Prop) (h : spec_l07Values.wp l0 K) : OkQ Try.prog 64 [(.v v0)] H (fun r H2 => ∃ (y0 : Bool), K y0 ∧ r = (.v (.bool y0)) ∧ Sep H2 (fr)) := by
  unfold spec_l07Values.wp at h
  refine of_body Try.f64 F.hm Try.func64 rfl Try.call64 (by kernel_rfl) (by simp) ?_
  refine fi_seq ?_
  refine fi_region ?_
  refine so_assign rfl ?_
  refine so_nil ?_
  refine fi_seq ?_
  refine fi_region ?_
  refine so_move rfl ?_
  refine sv_len (g0 _ hs) (fun _ => rfl) (by decide) rfl F64.ti22 ?_
  refine so_bin rfl rfl ab_geq ?_
  refine so_move rfl ?_
  replace h := ofP h; rcases h with ⟨c101, h⟩ | ⟨c101, h⟩
  · refine so_gyes rfl (decide_eq_true c101) ?_
    refine so_move rfl ?_
    refine so_gyes rfl (decide_eq_true c101) ?_
    refine sv_len (g0 _ hs) (fun _ => rfl) (by decide) rfl F64.ti22 ?_
    refine so_gyes rfl (decide_eq_true c101) ?_
    refine so_bin rfl rfl ab_leq ?_
    refine so_pick_t rfl (decide_eq_true c101) rfl ?_
    refine so_assign rfl ?_
    refine so_nil ?_
    exact by_ret rfl ⟨_, h, rfl, hs⟩
  · refine so_gno rfl (decide_eq_false c101) ?_
    refine so_gno rfl (decide_eq_false c101) ?_
    refine so_gno rfl (decide_eq_false c101) ?_
    refine so_pick_f rfl (decide_eq_false c101) rfl ?_
    refine so_assign rfl ?_
    refine so_nil ?_
    exact by_ret rfl ⟨_, h, rfl, hs⟩

end Go.Proofs.Ytfieljajhmpbiaa.G

namespace Go.Proofs.Ytfieljajhmpbiaa.G
open Go Go.Ab Go.Proofs Go.Proofs.Ytfieljajhmpbiaa
set_option maxRecDepth 100000
set_option linter.unusedVariables false
set_option linter.unusedSimpArgs false
set_option maxHeartbeats 1000000
theorem F141.xb141 : Try.f141.body = none := rfl
theorem F141.xe141 : Extern.find Try.f141 = some Extern.MathFloatBits.float32bits := by rfl
theorem F141.xf141 : (Extern.findNext Try.f141).isNone = true := by kernel_rfl
theorem F141.xn141 : (Try.f141.name == "runtime.NumGoroutine") = false := by kernel_rfl
theorem math_Float32bits_ok {fr : List Pc} {H : Heap} (x : Nat) (hs : Sep H fr) (K : Int → Prop) (h : math_Float32bits.wp x K) : OkQ Try.prog 141 [(.v (.flt .f32 x))] H (fun r H2 => ∃ y0 : Int, K y0 ∧ r = (.v (.int .u32 y0)) ∧ Sep H2 fr) := ⟨_, _, f32bits_ok Try.func141 F141.xn141 F141.xb141 F141.xf141 F141.xe141 x h.1, _, h.2, rfl, hs⟩

end Go.Proofs.Ytfieljajhmpbiaa.G

namespace Go.Proofs.Ytfieljajhmpbiaa.G
open Go Go.Ab Go.Proofs Go.Proofs.Ytfieljajhmpbiaa
set_option maxRecDepth 100000
set_option linter.unusedVariables false
set_option linter.unusedSimpArgs false
set_option maxHeartbeats 1000000
theorem F119.it2 : tint Try.prog 2 = some .i64 := by kernel_rfl
theorem F119.us135 : (Try.prog.underlying 135).isSome = true := by kernel_rfl
theorem spec_l01Bits_ok {fr : List Pc} {H : Heap} (a0 : Nat) (hs : Sep H (fr))  (K : Int → Prop) (h : spec_l01Bits.wp a0 K) : OkQ Try.prog 119 [(.v (.flt .f32 a0))] H (fun r H2 => ∃ (y0 : Int), K y0 ∧ r = (.v (.int .i64 y0)) ∧ Sep H2 (fr)) := by
  unfold spec_l01Bits.wp at h
  refine of_body Try.f119 F.hm Try.func119 rfl Try.call119 (by kernel_rfl) (by simp) ?_
  refine fi_seq ?_
  refine fi_region ?_
  refine so_assign rfl ?_
  refine so_nil ?_
  refine fi_seq ?_
  refine fi_seq ?_
  refine fi_region ?_
  refine so_move rfl ?_
  refine so_move rfl ?_
  refine so_bin rfl rfl ab_fneq ?_
  refine so_nil ?_
  replace h := ofT h; rcases h with ⟨c101, h⟩ | ⟨c101, h⟩
  · refine fi_true rfl c101 ?_
    refine fi_seq ?_
    refine fi_region ?_
    refine so_assign rfl ?_
    refine so_nil ?_
    exact by_ret rfl ⟨_, h, rfl, hs⟩
  · refine fi_false rfl c101 ?_
    refine fi_skip ?_
    refine fi_seq ?_
    refine fi_region ?_
    refine so_move rfl ?_
    refine sv_call (math_Float32bits_ok a0 hs  _ h) rfl rfl nofun ?_
    clear h hs
    rintro _ H103 ⟨y102, h, rfl, hs⟩
    refine sv_ii rfl F119.us135 F119.it2 ?_
    refine so_assign rfl ?_
    refine so_nil ?_
    exact by_ret rfl ⟨_, h, rfl, hs⟩

end Go.Proofs.Ytfieljajhmpbiaa.G

namespace Go.Proofs.Ytfieljajhmpbiaa.G
open Go Go.Ab Go.Proofs Go.Proofs.Ytfieljajhmpbiaa
set_option maxRecDepth 100000
set_option linter.unusedVariables false
set_option linter.unusedSimpArgs false
set_option maxHeartbeats 1000000
theorem F65.ag36 : tagg Try.prog 36 = some false := by kernel_rfl
theorem F65.it5 : tint Try.prog 5 = some .u8 := by kernel_rfl
theorem F65.sr9 : tstr Try.prog 9 = true := by kernel_rfl
theorem F65.sz5 : tsz Try.prog 5 = some 1 := by kernel_rfl
theorem F65.ta112_112 : tapp Try.prog 112 112 = some (1, 1) := by kernel_rfl
theorem F65.te112 : telem Try.prog 112 = some 5 := by kernel_rfl
theorem F65.ti22 : (telem Try.prog 22).isSome = true := by kernel_rfl
theorem F65.tl22 : (telem Try.prog 22).bind (tsz Try.prog) = some 1 := by kernel_rfl
theorem F65.us112 : (Try.prog.underlying 112).isSome = true := by kernel_rfl
theorem F65.us2 : (Try.prog.underlying 2).isSome = true := by kernel_rfl
theorem F65.ze5 : tzero Try.prog 5 = some [(.int .u8 (0 : Int))] := by kernel_rfl
theorem spec_l07Pack_ok {fr : List Pc} {H : Heap} (v0 : AV) (l0 : List (Nat)) (hs : Sep H (fr)) (g0 : ∀ H, Sep H fr → Shows H v0 1 (enc (eFlt .f32) l0)) (K : (List UInt8) → Prop) (h : spec_l07Pack.wp l0 K) : OkQ Try.prog 65 [(.v v0)] H (fun r H2 => ∃ (y0 : List UInt8), K y0 ∧ r = (.v (.str (pk y0))) ∧ Sep H2 (fr)) := by
  unfold spec_l07Pack.wp at h
  refine of_body Try.f65 F.hm Try.func65 rfl Try.call65 (by kernel_rfl) (by simp) ?_
  refine fi_seq ?_
  refine fi_region ?_
  refine so_assign rfl ?_
  refine so_nil ?_
  refine fi_seq ?_
  refine fi_region ?_
  refine sv_bslice hs (eInt .u8) ([] : List (Int)) [] F65.te112 F65.sz5 F65.ze5 rfl rfl rfl rfl (fun _ => rfl) rfl (by decide) nofun (fun v101 H102 nv101 hs => ?_)
  refine so_assign rfl ?_
  refine so_nil ?_
  refine fi_seq ?_
  refine fi_region ?_
  refine so_assign rfl ?_
  refine so_nil ?_
  refine fi_seq ?_
  refine fi_seq ?_
  refine fi_region ?_
  refine so_move rfl ?_
  refine sv_len (g0 _ hs.tl) (fun _ => rfl) (by decide) rfl F65.ti22 ?_
  refine so_move rfl ?_
  refine so_nil ?_
  refine fi_block ?_
  refine fi_loop ?_
  refine fi_at [(0, (.v v0)), (3, (.v v101)), (4, (.v (.int .i64 (0 : Int)))), (13, (.v (.int .i64 (l0.length : Int)))), (14, (.v (.int .i64 (0 : Int))))] ⟨rfl, rfl, rfl, rfl, rfl, trivial⟩ ?_
  refine h (fun (out219 : List (Int)) (before221 : Int) (x222 : Int) => ∀ (s : Nat → TV) (H : Heap) (v220 : AV) (nv220 : v220 ≠ .nilsl), Sep H (Pc.osl v220 1 (enc (eInt .u8) out219) :: fr) → Fin _ _ (updL s [(0, (.v v0)), (3, (.v v220)), (4, (.v (.int .i64 before221))), (13, (.v (.int .i64 (l0.length : Int)))), (14, (.v (.int .i64 x222)))]) H _) ?_ _ _ _ nv101 hs
  intro out219 before221 x222 h s332 H333 v220 nv220 hs
  refine fi_inLoop ?_
  refine fi_seq ?_
  refine fi_region ?_
  refine so_bin rfl rfl ab_lss ?_
  refine so_nil ?_
  refine fi_seq ?_
  replace h := ofP h; rcases h with ⟨c223, h⟩ | ⟨c223, h⟩
  · refine fi_true rfl (decide_eq_true c223) ?_
    refine fi_skip ?_
    refine fi_seq ?_
    refine fi_block ?_
    refine fi_seq ?_
    refine fi_region ?_
    refine so_move rfl ?_
    refine so_assign rfl ?_
    refine so_nil ?_
    refine fi_seq ?_
    refine fi_region ?_
    refine so_move rfl ?_
    refine so_move rfl ?_
    obtain ⟨c224, h⟩ := h
    refine sv_idx (g0 _ hs.tl) c224 (fun _ => rfl) (by decide) rfl rfl F65.tl22 ?_
    refine sv_cell (g0 _ hs.tl) c224 (0 : Nat) 0 (fun x => (AV.flt .f32 x)) (fun _ => rfl) (fun _ => rfl) rfl F65.ag36 ?_
    refine sv_call (spec_l01Bits_ok (l0.getD (x222).toNat (0 : Nat)) hs  _ h) rfl rfl nofun ?_
    clear h hs
    rintro _ H226 ⟨y225, h, rfl, hs⟩
    refine so_assign rfl ?_
    refine so_nil ?_
    refine fi_seq ?_
    refine fi_region ?_
    refine so_move rfl ?_
    refine so_move rfl ?_
    refine so_bin rfl rfl ab_xor ?_
    refine so_assign rfl ?_
    refine so_nil ?_
    refine fi_seq ?_
    refine fi_region ?_
    refine so_move rfl ?_
    refine so_assign rfl ?_
    refine so_nil ?_
    refine fi_seq ?_
    refine fi_region ?_
    refine so_assign rfl ?_
    refine so_nil ?_
    refine fi_seq ?_
    refine fi_seq ?_
    refine fi_region ?_
    refine so_assign rfl ?_
    refine so_nil ?_
    refine fi_block ?_
    refine fi_loop ?_
    refine fi_at [(0, (.v v0)), (3, (.v v220)), (4, (.v (.int .i64 y225))), (7, (.v (.int .i64 (ibits .xor .i64 y225 before221)))), (8, (.v (.int .i64 (0 : Int)))), (9, (.v (.int .i64 (16777216 : Int)))), (13, (.v (.int .i64 (l0.length : Int)))), (14, (.v (.int .i64 x222)))] ⟨rfl, rfl, rfl, rfl, rfl, rfl, rfl, rfl, trivial⟩ ?_
    refine h (fun (z228 : Int) (scale229 : Int) => ∀ (s : Nat → TV) (H : Heap), Sep H (Pc.osl v220 1 (enc (eInt .u8) out219) :: fr) → Fin _ _ (updL s [(0, (.v v0)), (3, (.v v220)), (4, (.v (.int .i64 y225))), (7, (.v (.int .i64 (ibits .xor .i64 y225 before221)))), (8, (.v (.int .i64 z228))), (9, (.v (.int .i64 scale229))), (13, (.v (.int .i64 (l0.length : Int)))), (14, (.v (.int .i64 x222)))]) H _) ?_ _ _ hs
    intro z228 scale229 h s330 H331 hs
    refine fi_inLoop ?_
    refine fi_seq ?_
    refine fi_seq ?_
    refine fi_region ?_
    refine so_move rfl ?_
    refine so_bin rfl rfl ab_lss ?_
    refine so_move rfl ?_
    replace h := ofP h; rcases h with ⟨c230, h⟩ | ⟨c230, h⟩
    · refine so_gyes rfl (decide_eq_true c230) ?_
      refine so_move rfl ?_
      refine so_gyes rfl (decide_eq_true c230) ?_
      refine so_move rfl ?_
      refine so_gyes rfl (decide_eq_true c230) ?_
      obtain ⟨c231, h⟩ := h
      refine so_bin rfl rfl (ab_quo c231) ?_
      refine so_gyes rfl (decide_eq_true c230) ?_
      refine so_bin rfl rfl ab_eql ?_
      refine so_pick_t rfl (decide_eq_true c230) rfl ?_
      refine so_nil ?_
      replace h := ofP h; rcases h with ⟨c232, h⟩ | ⟨c232, h⟩
      · refine fi_true rfl (decide_eq_true c232) ?_
        refine fi_skip ?_
        refine fi_seq ?_
        refine fi_block ?_
        refine fi_seq ?_
        refine fi_region ?_
        refine so_move rfl ?_
        refine so_bin rfl rfl ab_add ?_
        refine so_assign rfl ?_
        refine so_nil ?_
        refine fi_seq ?_
        refine fi_region ?_
        refine so_move rfl ?_
        refine so_bin rfl rfl ab_eql ?_
        refine so_nil ?_
        replace h := ofP h; rcases h with ⟨c233, h⟩ | ⟨c233, h⟩
        · refine fi_true rfl (decide_eq_true c233) ?_
          refine fi_exit rfl ?_
          refine fi_seq ?_
          refine fi_region ?_
          refine so_move rfl ?_
          refine so_move rfl ?_
          refine sv_ii rfl F65.us2 F65.it5 ?_
          refine sv_bslice hs (eInt .u8) ([(IntKind.u8.wrap (IntKind.i64.wrap (z228 + (1 : Int))))] : List (Int)) [[(.int .u8 (IntKind.u8.wrap (IntKind.i64.wrap (z228 + (1 : Int)))))]] F65.te112 F65.sz5 F65.ze5 rfl rfl rfl rfl (fun _ => rfl) rfl (by decide) nofun (fun v234 H235 nv234 hs => ?_)
          obtain ⟨c239, h⟩ := h
          refine sv_app hs 1 rfl (hs.shows 0 rfl) (fun _ => rfl) (by decide) F65.ta112_112 (by decide) c239 rfl rfl nofun (fun v237 H238 kv237 hs => ?_)
          replace hs := hs.del 0
          have nv237 := kv237 nv220
          refine so_assign rfl ?_
          refine so_nil ?_
          refine fi_seq ?_
          refine fi_region ?_
          refine so_move rfl ?_
          refine so_assign rfl ?_
          refine so_nil ?_
          refine fi_block ?_
          refine fi_loop ?_
          refine fi_at [(0, (.v v0)), (3, (.v v237)), (4, (.v (.int .i64 y225))), (7, (.v (.int .i64 (ibits .xor .i64 y225 before221)))), (10, (.v (.int .i64 (IntKind.i64.wrap (z228 + (1 : Int)))))), (13, (.v (.int .i64 (l0.length : Int)))), (14, (.v (.int .i64 x222))), (29, (.v (.int .i64 (ibits .xor .i64 y225 before221)))), (30, (.v (.int .i64 scale229))), (31, (.v (.int .i64 (IntKind.i64.wrap (Int.tdiv (ibits .xor .i64 y225 before221) scale229))))), (32, (.v (.bool (decide ((IntKind.i64.wrap (Int.tdiv (ibits .xor .i64 y225 before221) scale229)) = (0 : Int))))))] ⟨rfl, rfl, rfl, rfl, rfl, rfl, rfl, rfl, rfl, rfl, rfl, trivial⟩ ?_
          refine h (fun (out253 : List (Int)) (x255 : Int) (k256 : Int) => ∀ (s : Nat → TV) (H : Heap) (v254 : AV) (nv254 : v254 ≠ .nilsl), Sep H (Pc.osl v254 1 (enc (eInt .u8) out253) :: fr) → Fin _ _ (updL s [(0, (.v v0)), (3, (.v v254)), (4, (.v (.int .i64 y225))), (7, (.v (.int .i64 x255))), (10, (.v (.int .i64 k256))), (13, (.v (.int .i64 (l0.length : Int)))), (14, (.v (.int .i64 x222))), (29, (.v (.int .i64 (ibits .xor .i64 y225 before221)))), (30, (.v (.int .i64 scale229))), (31, (.v (.int .i64 (IntKind.i64.wrap (Int.tdiv (ibits .xor .i64 y225 before221) scale229))))), (32, (.v (.bool (decide ((IntKind.i64.wrap (Int.tdiv (ibits .xor .i64 y225 before221) scale229)) = (0 : Int))))))]) H _) ?_ _ _ _ nv237 hs
          intro out253 x255 k256 h s264 H265 v254 nv254 hs
          refine fi_inLoop ?_
          refine fi_seq ?_
          refine fi_seq ?_
          refine fi_region ?_
          refine so_move rfl ?_
          refine so_bin rfl rfl ab_lss ?_
          refine so_nil ?_
          replace h := ofP h; rcases h with ⟨c257, h⟩ | ⟨c257, h⟩
          · refine fi_true rfl (decide_eq_true c257) ?_
            refine fi_skip ?_
            refine fi_seq ?_
            refine fi_block ?_
            refine fi_seq ?_
            refine fi_region ?_
            refine so_move rfl ?_
            refine so_move rfl ?_
            refine so_bin rfl rfl (ab_rem (by decide)) ?_
            refine sv_ii rfl F65.us2 F65.it5 ?_
            refine sv_bslice hs (eInt .u8) ([(IntKind.u8.wrap (Int.tmod x255 (256 : Int)))] : List (Int)) [[(.int .u8 (IntKind.u8.wrap (Int.tmod x255 (256 : Int))))]] F65.te112 F65.sz5 F65.ze5 rfl rfl rfl rfl (fun _ => rfl) rfl (by decide) nofun (fun v258 H259 nv258 hs => ?_)
            obtain ⟨c263, h⟩ := h
            refine sv_app hs 1 rfl (hs.shows 0 rfl) (fun _ => rfl) (by decide) F65.ta112_112 (by decide) c263 rfl rfl nofun (fun v261 H262 kv261 hs => ?_)
            replace hs := hs.del 0
            have nv261 := kv261 nv254
            refine so_assign rfl ?_
            refine so_nil ?_
            refine fi_region ?_
            refine so_move rfl ?_
            refine so_bin rfl rfl (ab_quo (by decide)) ?_
            refine so_assign rfl ?_
            refine so_nil ?_
            refine fi_inBlock ?_
            refine fi_region ?_
            refine so_move rfl ?_
            refine so_bin rfl rfl ab_add ?_
            refine so_assign rfl ?_
            refine so_nil ?_
            exact fi_at [(0, (.v v0)), (3, (.v v261)), (4, (.v (.int .i64 y225))), (7, (.v (.int .i64 (IntKind.i64.wrap (Int.tdiv x255 (256 : Int)))))), (10, (.v (.int .i64 (IntKind.i64.wrap (k256 + (1 : Int)))))), (13, (.v (.int .i64 (l0.length : Int)))), (14, (.v (.int .i64 x222))), (29, (.v (.int .i64 (ibits .xor .i64 y225 before221)))), (30, (.v (.int .i64 scale229))), (31, (.v (.int .i64 (IntKind.i64.wrap (Int.tdiv (ibits .xor .i64 y225 before221) scale229))))), (32, (.v (.bool (decide ((IntKind.i64.wrap (Int.tdiv (ibits .xor .i64 y225 before221) scale229)) = (0 : Int))))))] ⟨rfl, rfl, rfl, rfl, rfl, rfl, rfl, rfl, rfl, rfl, rfl, trivial⟩ (h _ _ _ nv261 hs)
          · refine fi_false rfl (decide_eq_false c257) ?_
            refine fi_exit rfl ?_
            refine fi_inBlock ?_
            refine fi_region ?_
            refine so_bin rfl rfl ab_add ?_
            refine so_move rfl ?_
            refine so_nil ?_
            exact fi_at [(0, (.v v0)), (3, (.v v254)), (4, (.v (.int .i64 y225))), (13, (.v (.int .i64 (l0.length : Int)))), (14, (.v (.int .i64 (IntKind.i64.wrap (x222 + (1 : Int))))))] ⟨rfl, rfl, rfl, rfl, rfl, trivial⟩ (h _ _ _ nv254 hs)
        · refine fi_false rfl (decide_eq_false c233) ?_
          refine fi_skip ?_
          refine fi_inBlock ?_
          refine fi_region ?_
          refine so_move rfl ?_
          refine so_bin rfl rfl (ab_quo (by decide)) ?_
          refine so_assign rfl ?_
          refine so_nil ?_
          exact fi_at [(0, (.v v0)), (3, (.v v220)), (4, (.v (.int .i64 y225))), (7, (.v (.int .i64 (ibits .xor .i64 y225 before221)))), (8, (.v (.int .i64 (IntKind.i64.wrap (z228 + (1 : Int)))))), (9, (.v (.int .i64 (IntKind.i64.wrap (Int.tdiv scale229 (256 : Int)))))), (13, (.v (.int .i64 (l0.length : Int)))), (14, (.v (.int .i64 x222)))] ⟨rfl, rfl, rfl, rfl, rfl, rfl, rfl, rfl, trivial⟩ (h _ _  hs)
      · refine fi_false rfl (decide_eq_false c232) ?_
        refine fi_exit rfl ?_
        refine fi_seq ?_
        refine fi_region ?_
        refine so_move rfl ?_
        refine so_move rfl ?_
        refine sv_ii rfl F65.us2 F65.it5 ?_
        refine sv_bslice hs (eInt .u8) ([(IntKind.u8.wrap z228)] : List (Int)) [[(.int .u8 (IntKind.u8.wrap z228))]] F65.te112 F65.sz5 F65.ze5 rfl rfl rfl rfl (fun _ => rfl) rfl (by decide) nofun (fun v266 H267 nv266 hs => ?_)
        obtain ⟨c271, h⟩ := h
        refine sv_app hs 1 rfl (hs.shows 0 rfl) (fun _ => rfl) (by decide) F65.ta112_112 (by decide) c271 rfl rfl nofun (fun v269 H270 kv269 hs => ?_)
        replace hs := hs.del 0
        have nv269 := kv269 nv220
        refine so_assign rfl ?_
        refine so_nil ?_
        refine fi_seq ?_
        refine fi_region ?_
        refine so_move rfl ?_
        refine so_assign rfl ?_
        refine so_nil ?_
        refine fi_block ?_
        refine fi_loop ?_
        refine fi_at [(0, (.v v0)), (3, (.v v269)), (4, (.v (.int .i64 y225))), (7, (.v (.int .i64 (ibits .xor .i64 y225 before221)))), (10, (.v (.int .i64 z228))), (13, (.v (.int .i64 (l0.length : Int)))), (14, (.v (.int .i64 x222))), (29, (.v (.int .i64 (ibits .xor .i64 y225 before221)))), (30, (.v (.int .i64 scale229))), (31, (.v (.int .i64 (IntKind.i64.wrap (Int.tdiv (ibits .xor .i64 y225 before221) scale229))))), (32, (.v (.bool (decide ((IntKind.i64.wrap (Int.tdiv (ibits .xor .i64 y225 before221) scale229)) = (0 : Int))))))] ⟨rfl, rfl, rfl, rfl, rfl, rfl, rfl, rfl, rfl, rfl, rfl, trivial⟩ ?_
        refine h (fun (out285 : List (Int)) (x287 : Int) (k288 : Int) => ∀ (s : Nat → TV) (H : Heap) (v286 : AV) (nv286 : v286 ≠ .nilsl), Sep H (Pc.osl v286 1 (enc (eInt .u8) out285) :: fr) → Fin _ _ (updL s [(0, (.v v0)), (3, (.v v286)), (4, (.v (.int .i64 y225))), (7, (.v (.int .i64 x287))), (10, (.v (.int .i64 k288))), (13, (.v (.int .i64 (l0.length : Int)))), (14, (.v (.int .i64 x222))), (29, (.v (.int .i64 (ibits .xor .i64 y225 before221)))), (30, (.v (.int .i64 scale229))), (31, (.v (.int .i64 (IntKind.i64.wrap (Int.tdiv (ibits .xor .i64 y225 before221) scale229))))), (32, (.v (.bool (decide ((IntKind.i64.wrap (Int.tdiv (ibits .xor .i64 y225 before221) scale229)) = (0 : Int))))))]) H _) ?_ _ _ _ nv269 hs
        intro out285 x287 k288 h s296 H297 v286 nv286 hs
        refine fi_inLoop ?_
        refine fi_seq ?_
        refine fi_seq ?_
        refine fi_region ?_
        refine so_move rfl ?_
        refine so_bin rfl rfl ab_lss ?_
        refine so_nil ?_
        replace h := ofP h; rcases h with ⟨c289, h⟩ | ⟨c289, h⟩
        · refine fi_true rfl (decide_eq_true c289) ?_
          refine fi_skip ?_
          refine fi_seq ?_
          refine fi_block ?_
          refine fi_seq ?_
          refine fi_region ?_
          refine so_move rfl ?_
          refine so_move rfl ?_
          refine so_bin rfl rfl (ab_rem (by decide)) ?_
          refine sv_ii rfl F65.us2 F65.it5 ?_
          refine sv_bslice hs (eInt .u8) ([(IntKind.u8.wrap (Int.tmod x287 (256 : Int)))] : List (Int)) [[(.int .u8 (IntKind.u8.wrap (Int.tmod x287 (256 : Int))))]] F65.te112 F65.sz5 F65.ze5 rfl rfl rfl rfl (fun _ => rfl) rfl (by decide) nofun (fun v290 H291 nv290 hs => ?_)
          obtain ⟨c295, h⟩ := h
          refine sv_app hs 1 rfl (hs.shows 0 rfl) (fun _ => rfl) (by decide) F65.ta112_112 (by decide) c295 rfl rfl nofun (fun v293 H294 kv293 hs => ?_)
          replace hs := hs.del 0
          have nv293 := kv293 nv286
          refine so_assign rfl ?_
          refine so_nil ?_
          refine fi_region ?_
          refine so_move rfl ?_
          refine so_bin rfl rfl (ab_quo (by decide)) ?_
          refine so_assign rfl ?_
          refine so_nil ?_
          refine fi_inBlock ?_
          refine fi_region ?_
          refine so_move rfl ?_
          refine so_bin rfl rfl ab_add ?_
          refine so_assign rfl ?_
          refine so_nil ?_
          exact fi_at [(0, (.v v0)), (3, (.v v293)), (4, (.v (.int .i64 y225))), (7, (.v (.int .i64 (IntKind.i64.wrap (Int.tdiv x287 (256 : Int)))))), (10, (.v (.int .i64 (IntKind.i64.wrap (k288 + (1 : Int)))))), (13, (.v (.int .i64 (l0.length : Int)))), (14, (.v (.int .i64 x222))), (29, (.v (.int .i64 (ibits .xor .i64 y225 before221)))), (30, (.v (.int .i64 scale229))), (31, (.v (.int .i64 (IntKind.i64.wrap (Int.tdiv (ibits .xor .i64 y225 before221) scale229))))), (32, (.v (.bool (decide ((IntKind.i64.wrap (Int.tdiv (ibits .xor .i64 y225 before221) scale229)) = (0 : Int))))))] ⟨rfl, rfl, rfl, rfl, rfl, rfl, rfl, rfl, rfl, rfl, rfl, trivial⟩ (h _ _ _ nv293 hs)
        · refine fi_false rfl (decide_eq_false c289) ?_
          refine fi_exit rfl ?_
          refine fi_inBlock ?_
          refine fi_region ?_
          refine so_bin rfl rfl ab_add ?_
          refine so_move rfl ?_
          refine so_nil ?_
          exact fi_at [(0, (.v v0)), (3, (.v v286)), (4, (.v (.int .i64 y225))), (13, (.v (.int .i64 (l0.length : Int)))), (14, (.v (.int .i64 (IntKind.i64.wrap (x222 + (1 : Int))))))] ⟨rfl, rfl, rfl, rfl, rfl, trivial⟩ (h _ _ _ nv286 hs)
    · refine so_gno rfl (decide_eq_false c230) ?_
      refine so_gno rfl (decide_eq_false c230) ?_
      refine so_gno rfl (decide_eq_false c230) ?_
      refine so_gno rfl (decide_eq_false c230) ?_
      refine so_pick_f rfl (decide_eq_false c230) rfl ?_
      refine so_nil ?_
      refine fi_false rfl rfl ?_
      refine fi_exit rfl ?_
      refine fi_seq ?_
      refine fi_region ?_
      refine so_move rfl ?_
      refine so_move rfl ?_
      refine sv_ii rfl F65.us2 F65.it5 ?_
      refine sv_bslice hs (eInt .u8) ([(IntKind.u8.wrap z228)] : List (Int)) [[(.int .u8 (IntKind.u8.wrap z228))]] F65.te112 F65.sz5 F65.ze5 rfl rfl rfl rfl (fun _ => rfl) rfl (by decide) nofun (fun v298 H299 nv298 hs => ?_)
      obtain ⟨c303, h⟩ := h
      refine sv_app hs 1 rfl (hs.shows 0 rfl) (fun _ => rfl) (by decide) F65.ta112_112 (by decide) c303 rfl rfl nofun (fun v301 H302 kv301 hs => ?_)
      replace hs := hs.del 0
      have nv301 := kv301 nv220
      refine so_assign rfl ?_
      refine so_nil ?_
      refine fi_seq ?_
      refine fi_region ?_
      refine so_move rfl ?_
      refine so_assign rfl ?_
      refine so_nil ?_
      refine fi_block ?_
      refine fi_loop ?_
      refine fi_at [(0, (.v v0)), (3, (.v v301)), (4, (.v (.int .i64 y225))), (7, (.v (.int .i64 (ibits .xor .i64 y225 before221)))), (10, (.v (.int .i64 z228))), (13, (.v (.int .i64 (l0.length : Int)))), (14, (.v (.int .i64 x222)))] ⟨rfl, rfl, rfl, rfl, rfl, rfl, rfl, trivial⟩ ?_
      refine h (fun (out317 : List (Int)) (x319 : Int) (k320 : Int) => ∀ (s : Nat → TV) (H : Heap) (v318 : AV) (nv318 : v318 ≠ .nilsl), Sep H (Pc.osl v318 1 (enc (eInt .u8) out317) :: fr) → Fin _ _ (updL s [(0, (.v v0)), (3, (.v v318)), (4, (.v (.int .i64 y225))), (7, (.v (.int .i64 x319))), (10, (.v (.int .i64 k320))), (13, (.v (.int .i64 (l0.length : Int)))), (14, (.v (.int .i64 x222)))]) H _) ?_ _ _ _ nv301 hs
      intro out317 x319 k320 h s328 H329 v318 nv318 hs
      refine fi_inLoop ?_
      refine fi_seq ?_
      refine fi_seq ?_
      refine fi_region ?_
      refine so_move rfl ?_
      refine so_bin rfl rfl ab_lss ?_
      refine so_nil ?_
      replace h := ofP h; rcases h with ⟨c321, h⟩ | ⟨c321, h⟩
      · refine fi_true rfl (decide_eq_true c321) ?_
        refine fi_skip ?_
        refine fi_seq ?_
        refine fi_block ?_
        refine fi_seq ?_
        refine fi_region ?_
        refine so_move rfl ?_
        refine so_move rfl ?_
        refine so_bin rfl rfl (ab_rem (by decide)) ?_
        refine sv_ii rfl F65.us2 F65.it5 ?_
        refine sv_bslice hs (eInt .u8) ([(IntKind.u8.wrap (Int.tmod x319 (256 : Int)))] : List (Int)) [[(.int .u8 (IntKind.u8.wrap (Int.tmod x319 (256 : Int))))]] F65.te112 F65.sz5 F65.ze5 rfl rfl rfl rfl (fun _ => rfl) rfl (by decide) nofun (fun v322 H323 nv322 hs => ?_)
        obtain ⟨c327, h⟩ := h
        refine sv_app hs 1 rfl (hs.shows 0 rfl) (fun _ => rfl) (by decide) F65.ta112_112 (by decide) c327 rfl rfl nofun (fun v325 H326 kv325 hs => ?_)
        replace hs := hs.del 0
        have nv325 := kv325 nv318
        refine so_assign rfl ?_
        refine so_nil ?_
        refine fi_region ?_
        refine so_move rfl ?_
        refine so_bin rfl rfl (ab_quo (by decide)) ?_
        refine so_assign rfl ?_
        refine so_nil ?_
        refine fi_inBlock ?_
        refine fi_region ?_
        refine so_move rfl ?_
        refine so_bin rfl rfl ab_add ?_
        refine so_assign rfl ?_
        refine so_nil ?_
        exact fi_at [(0, (.v v0)), (3, (.v v325)), (4, (.v (.int .i64 y225))), (7, (.v (.int .i64 (IntKind.i64.wrap (Int.tdiv x319 (256 : Int)))))), (10, (.v (.int .i64 (IntKind.i64.wrap (k320 + (1 : Int)))))), (13, (.v (.int .i64 (l0.length : Int)))), (14, (.v (.int .i64 x222)))] ⟨rfl, rfl, rfl, rfl, rfl, rfl, rfl, trivial⟩ (h _ _ _ nv325 hs)
      · refine fi_false rfl (decide_eq_false c321) ?_
        refine fi_exit rfl ?_
        refine fi_inBlock ?_
        refine fi_region ?_
        refine so_bin rfl rfl ab_add ?_
        refine so_move rfl ?_
        refine so_nil ?_
        exact fi_at [(0, (.v v0)), (3, (.v v318)), (4, (.v (.int .i64 y225))), (13, (.v (.int .i64 (l0.length : Int)))), (14, (.v (.int .i64 (IntKind.i64.wrap (x222 + (1 : Int))))))] ⟨rfl, rfl, rfl, rfl, rfl, trivial⟩ (h _ _ _ nv318 hs)
  · refine fi_false rfl (decide_eq_false c223) ?_
    refine fi_exit rfl ?_
    refine fi_seq ?_
    refine fi_region ?_
    refine so_move rfl ?_
    refine sv_bs (hs.shows 0 rfl) nv220 rfl F65.te112 F65.it5 F65.sr9 ?_
    refine so_assign rfl ?_
    refine so_nil ?_
    exact by_ret rfl ⟨_, h, rfl, (Sep.del 0 hs)⟩

end Go.Proofs.Ytfieljajhmpbiaa.G

namespace Go.Proofs.Ytfieljajhmpbiaa.G
open Go Go.Ab Go.Proofs Go.Proofs.Ytfieljajhmpbiaa
set_option maxRecDepth 100000
set_option linter.unusedVariables false
set_option linter.unusedSimpArgs false
set_option maxHeartbeats 1000000
theorem F75.it2 : tint Try.prog 2 = some .i64 := by kernel_rfl
theorem F75.it3 : tint Try.prog 3 = some .i64 := by kernel_rfl
theorem F75.sr9 : tstr Try.prog 9 = true := by kernel_rfl
theorem F75.sz36 : tsz Try.prog 36 = some 1 := by kernel_rfl
theorem F75.ta22_22 : tapp Try.prog 22 22 = some (1, 4) := by kernel_rfl
theorem F75.te22 : telem Try.prog 22 = some 36 := by kernel_rfl
theorem F75.ti22 : (telem Try.prog 22).isSome = true := by kernel_rfl
theorem F75.us5 : (Try.prog.underlying 5).isSome = true := by kernel_rfl
theorem F75.ze36 : tzero Try.prog 36 = some [(.flt .f32 (0 : Nat))] := by kernel_rfl
theorem spec_l07Unpack_ok {fr : List Pc} {H : Heap} (a0 : List UInt8) (hs : Sep H (fr))  (K : (List (Nat)) → Bool → Prop) (h : spec_l07Unpack.wp a0 K) : OkQ Try.prog 75 [(.v (.str (pk a0)))] H (fun r H2 => ∃ (y0 : List (Nat)) (y1 : Bool), K y0 y1 ∧ ∃ (w0_ : AV), r = (.t [(.v w0_), (.v (.bool y1))]) ∧ Sep H2 (Pc.osl w0_ 1 (enc (eFlt .f32) y0) :: fr)) := by
  unfold spec_l07Unpack.wp at h
  refine of_body Try.f75 F.hm Try.func75 rfl Try.call75 (by kernel_rfl) (by simp) ?_
  refine fi_seq ?_
  refine fi_region ?_
  refine so_assign rfl ?_
  refine so_assign rfl ?_
  refine so_nil ?_
  refine fi_seq ?_
  refine fi_region ?_
  refine sv_bslice hs (eFlt .f32) ([] : List (Nat)) [] F75.te22 F75.sz36 F75.ze36 rfl rfl rfl rfl (fun _ => rfl) rfl (by decide) nofun (fun v101 H102 nv101 hs => ?_)
  refine so_assign rfl ?_
  refine so_nil ?_
  refine fi_seq ?_
  refine fi_region ?_
  refine so_assign rfl ?_
  refine so_nil ?_
  refine fi_seq ?_
  refine fi_region ?_
  refine so_assign rfl ?_
  refine so_nil ?_
  refine fi_seq ?_
  refine fi_block ?_
  refine fi_loop ?_
  refine fi_at [(0, (.v (.str (pk a0)))), (4, (.v v101)), (5, (.v (.int .i64 (0 : Int)))), (6, (.v (.int .i64 (0 : Int))))] ⟨rfl, rfl, rfl, rfl, trivial⟩ ?_
  refine h (fun (out144 : List (Nat)) (before146 : Int) (atq147 : Int) => ∀ (s : Nat → TV) (H : Heap) (v145 : AV) (nv145 : v145 ≠ .nilsl), Sep H (Pc.osl v145 1 (enc (eFlt .f32) out144) :: fr) → Fin _ _ (updL s [(0, (.v (.str (pk a0)))), (4, (.v v145)), (5, (.v (.int .i64 before146))), (6, (.v (.int .i64 atq147)))]) H _) ?_ _ _ _ nv101 hs
  intro out144 before146 atq147 h s182 H183 v145 nv145 hs
  refine fi_inLoop ?_
  refine fi_seq ?_
  refine fi_seq ?_
  refine fi_region ?_
  refine so_move rfl ?_
  refine so_move rfl ?_
  refine so_slen rfl F75.sr9 ?_
  refine so_bin rfl rfl ab_lss ?_
  refine so_move rfl ?_
  replace h := ofP h; rcases h with ⟨c148, h⟩ | ⟨c148, h⟩
  · refine so_gyes rfl (decide_eq_true c148) ?_
    refine so_move rfl ?_
    refine so_gyes rfl (decide_eq_true c148) ?_
    refine sv_len (hs.shows 0 rfl) (fun _ => rfl) (by decide) rfl F75.ti22 ?_
    refine so_gyes rfl (decide_eq_true c148) ?_
    refine so_bin rfl rfl ab_leq ?_
    refine so_pick_t rfl (decide_eq_true c148) rfl ?_
    refine so_nil ?_
    replace h := ofP h; rcases h with ⟨c149, h⟩ | ⟨c149, h⟩
    · refine fi_true rfl (decide_eq_true c149) ?_
      refine fi_skip ?_
      refine fi_block ?_
      refine fi_seq ?_
      refine fi_region ?_
      refine so_move rfl ?_
      refine so_move rfl ?_
      obtain ⟨c150, h⟩ := h
      refine so_index rfl rfl F75.sr9 c150 ?_
      refine sv_ii rfl F75.us5 F75.it3 ?_
      refine so_assign rfl ?_
      refine so_nil ?_
      refine fi_seq ?_
      refine fi_region ?_
      refine so_move rfl ?_
      refine so_bin rfl rfl ab_add ?_
      refine so_assign rfl ?_
      refine so_nil ?_
      refine fi_seq ?_
      refine fi_seq ?_
      refine fi_region ?_
      refine so_move rfl ?_
      refine so_bin rfl rfl ab_gtr ?_
      refine so_move rfl ?_
      replace h := ofP h; rcases h with ⟨c151, h⟩ | ⟨c151, h⟩
      · refine so_gno rfl (decide_eq_true c151) ?_
        refine so_gno rfl (decide_eq_true c151) ?_
        refine so_gno rfl (decide_eq_true c151) ?_
        refine so_gno rfl (decide_eq_true c151) ?_
        refine so_gno rfl (decide_eq_true c151) ?_
        refine so_gno rfl (decide_eq_true c151) ?_
        refine so_gno rfl (decide_eq_true c151) ?_
        refine so_pick_t rfl (decide_eq_true c151) rfl ?_
        refine so_nil ?_
        refine fi_true rfl rfl ?_
        refine fi_seq ?_
        refine fi_region ?_
        refine so_assign rfl ?_
        refine so_assign rfl ?_
        refine so_nil ?_
        exact by_ret rfl ⟨_, _, h, _, rfl, (Sep.nil (Sep.del 0 hs) 1)⟩
      · refine so_gyes rfl (decide_eq_false c151) ?_
        refine so_move rfl ?_
        refine so_gyes rfl (decide_eq_false c151) ?_
        refine so_bin rfl rfl ab_add ?_
        refine so_gyes rfl (decide_eq_false c151) ?_
        refine so_move rfl ?_
        refine so_gyes rfl (decide_eq_false c151) ?_
        refine so_bin rfl rfl ab_sub ?_
        refine so_gyes rfl (decide_eq_false c151) ?_
        refine so_move rfl ?_
        refine so_gyes rfl (decide_eq_false c151) ?_
        refine so_slen rfl F75.sr9 ?_
        refine so_gyes rfl (decide_eq_false c151) ?_
        refine so_bin rfl rfl ab_gtr ?_
        refine so_pick_f rfl (decide_eq_false c151) rfl ?_
        refine so_nil ?_
        replace h := ofP h; rcases h with ⟨c152, h⟩ | ⟨c152, h⟩
        · refine fi_true rfl (decide_eq_true c152) ?_
          refine fi_seq ?_
          refine fi_region ?_
          refine so_assign rfl ?_
          refine so_assign rfl ?_
          refine so_nil ?_
          exact by_ret rfl ⟨_, _, h, _, rfl, (Sep.nil (Sep.del 0 hs) 1)⟩
        · refine fi_false rfl (decide_eq_false c152) ?_
          refine fi_skip ?_
          refine fi_seq ?_
          refine fi_region ?_
          refine so_assign rfl ?_
          refine so_nil ?_
          refine fi_seq ?_
          refine fi_region ?_
          refine so_assign rfl ?_
          refine so_nil ?_
          refine fi_seq ?_
          refine fi_seq ?_
          refine fi_region ?_
          refine so_move rfl ?_
          refine so_assign rfl ?_
          refine so_nil ?_
          refine fi_block ?_
          refine fi_loop ?_
          refine fi_at [(0, (.v (.str (pk a0)))), (4, (.v v145)), (5, (.v (.int .i64 before146))), (6, (.v (.int .i64 (IntKind.i64.wrap (atq147 + (1 : Int)))))), (8, (.v (.int .i64 (0 : Int)))), (9, (.v (.int .i64 (1 : Int)))), (10, (.v (.int .i64 (IntKind.i64.wrap (bt a0 atq147))))), (17, (.v v145)), (18, (.v (.int .i64 (out144.length : Int)))), (19, (.v (.bool (decide ((out144.length : Int) ≤ (128 : Int)))))), (30, (.v (.int .i64 (IntKind.i64.wrap (atq147 + (1 : Int)))))), (31, (.v (.int .i64 (IntKind.i64.wrap ((IntKind.i64.wrap (atq147 + (1 : Int))) + (4 : Int)))))), (32, (.v (.int .i64 (IntKind.i64.wrap (bt a0 atq147))))), (33, (.v (.int .i64 (IntKind.i64.wrap ((IntKind.i64.wrap ((IntKind.i64.wrap (atq147 + (1 : Int))) + (4 : Int))) - (IntKind.i64.wrap (bt a0 atq147))))))), (34, (.v (.str (pk a0)))), (35, (.v (.int .i64 (a0.length : Int)))), (36, (.v (.bool (decide ((a0.length : Int) < (IntKind.i64.wrap ((IntKind.i64.wrap ((IntKind.i64.wrap (atq147 + (1 : Int))) + (4 : Int))) - (IntKind.i64.wrap (bt a0 atq147)))))))))] ⟨rfl, rfl, rfl, rfl, rfl, rfl, rfl, rfl, rfl, rfl, rfl, rfl, rfl, rfl, rfl, rfl, rfl, trivial⟩ ?_
          refine h (fun (atq154 : Int) (x155 : Int) (scale156 : Int) (k157 : Int) => ∀ (s : Nat → TV) (H : Heap), Sep H (Pc.osl v145 1 (enc (eFlt .f32) out144) :: fr) → Fin _ _ (updL s [(0, (.v (.str (pk a0)))), (4, (.v v145)), (5, (.v (.int .i64 before146))), (6, (.v (.int .i64 atq154))), (8, (.v (.int .i64 x155))), (9, (.v (.int .i64 scale156))), (10, (.v (.int .i64 k157))), (17, (.v v145)), (18, (.v (.int .i64 (out144.length : Int)))), (19, (.v (.bool (decide ((out144.length : Int) ≤ (128 : Int)))))), (30, (.v (.int .i64 (IntKind.i64.wrap (atq147 + (1 : Int)))))), (31, (.v (.int .i64 (IntKind.i64.wrap ((IntKind.i64.wrap (atq147 + (1 : Int))) + (4 : Int)))))), (32, (.v (.int .i64 (IntKind.i64.wrap (bt a0 atq147))))), (33, (.v (.int .i64 (IntKind.i64.wrap ((IntKind.i64.wrap ((IntKind.i64.wrap (atq147 + (1 : Int))) + (4 : Int))) - (IntKind.i64.wrap (bt a0 atq147))))))), (34, (.v (.str (pk a0)))), (35, (.v (.int .i64 (a0.length : Int)))), (36, (.v (.bool (decide ((a0.length : Int) < (IntKind.i64.wrap ((IntKind.i64.wrap ((IntKind.i64.wrap (atq147 + (1 : Int))) + (4 : Int))) - (IntKind.i64.wrap (bt a0 atq147)))))))))]) H _) ?_ _ _ hs
          intro atq154 x155 scale156 k157 h s168 H169 hs
          refine fi_inLoop ?_
          refine fi_seq ?_
          refine fi_seq ?_
          refine fi_region ?_
          refine so_move rfl ?_
          refine so_bin rfl rfl ab_lss ?_
          refine so_nil ?_
          replace h := ofP h; rcases h with ⟨c158, h⟩ | ⟨c158, h⟩
          · refine fi_true rfl (decide_eq_true c158) ?_
            refine fi_skip ?_
            refine fi_seq ?_
            refine fi_block ?_
            refine fi_seq ?_
            refine fi_region ?_
            refine so_move rfl ?_
            refine so_move rfl ?_
            refine so_move rfl ?_
            obtain ⟨c159, h⟩ := h
            refine so_index rfl rfl F75.sr9 c159 ?_
            refine sv_ii rfl F75.us5 F75.it2 ?_
            refine so_move rfl ?_
            refine so_bin rfl rfl ab_mul ?_
            refine so_bin rfl rfl ab_add ?_
            refine so_assign rfl ?_
            refine so_nil ?_
            refine fi_seq ?_
            refine fi_region ?_
            refine so_move rfl ?_
            refine so_bin rfl rfl ab_mul ?_
            refine so_assign rfl ?_
            refine so_nil ?_
            refine fi_region ?_
            refine so_move rfl ?_
            refine so_bin rfl rfl ab_add ?_
            refine so_assign rfl ?_
            refine so_nil ?_
            refine fi_inBlock ?_
            refine fi_region ?_
            refine so_move rfl ?_
            refine so_bin rfl rfl ab_add ?_
            refine so_assign rfl ?_
            refine so_nil ?_
            exact fi_at [(0, (.v (.str (pk a0)))), (4, (.v v145)), (5, (.v (.int .i64 before146))), (6, (.v (.int .i64 (IntKind.i64.wrap (atq154 + (1 : Int)))))), (8, (.v (.int .i64 (IntKind.i64.wrap (x155 + (IntKind.i64.wrap ((IntKind.i64.wrap (bt a0 atq154)) * scale156))))))), (9, (.v (.int .i64 (IntKind.i64.wrap (scale156 * (256 : Int)))))), (10, (.v (.int .i64 (IntKind.i64.wrap (k157 + (1 : Int)))))), (17, (.v v145)), (18, (.v (.int .i64 (out144.length : Int)))), (19, (.v (.bool (decide ((out144.length : Int) ≤ (128 : Int)))))), (30, (.v (.int .i64 (IntKind.i64.wrap (atq147 + (1 : Int)))))), (31, (.v (.int .i64 (IntKind.i64.wrap ((IntKind.i64.wrap (atq147 + (1 : Int))) + (4 : Int)))))), (32, (.v (.int .i64 (IntKind.i64.wrap (bt a0 atq147))))), (33, (.v (.int .i64 (IntKind.i64.wrap ((IntKind.i64.wrap ((IntKind.i64.wrap (atq147 + (1 : Int))) + (4 : Int))) - (IntKind.i64.wrap (bt a0 atq147))))))), (34, (.v (.str (pk a0)))), (35, (.v (.int .i64 (a0.length : Int)))), (36, (.v (.bool (decide ((a0.length : Int) < (IntKind.i64.wrap ((IntKind.i64.wrap ((IntKind.i64.wrap (atq147 + (1 : Int))) + (4 : Int))) - (IntKind.i64.wrap (bt a0 atq147)))))))))] ⟨rfl, rfl, rfl, rfl, rfl, rfl, rfl, rfl, rfl, rfl, rfl, rfl, rfl, rfl, rfl, rfl, rfl, trivial⟩ (h _ _  hs)
          · refine fi_false rfl (decide_eq_false c158) ?_
            refine fi_exit rfl ?_
            refine fi_seq ?_
            refine fi_region ?_
            refine so_move rfl ?_
            refine so_move rfl ?_
            refine so_bin rfl rfl ab_xor ?_
            refine so_assign rfl ?_
            refine so_nil ?_
            refine fi_region ?_
            refine so_move rfl ?_
            refine so_move rfl ?_
            refine sv_call (spec_l01From_ok (ibits .xor .i64 before146 x155) hs  _ h) rfl rfl nofun ?_
            clear h hs
            rintro _ H161 ⟨y160, h, rfl, hs⟩
            refine sv_bslice hs (eFlt .f32) ([y160] : List (Nat)) [[(.flt .f32 y160)]] F75.te22 F75.sz36 F75.ze36 rfl rfl rfl rfl (fun _ => rfl) rfl (by decide) nofun (fun v162 H163 nv162 hs => ?_)
            obtain ⟨c167, h⟩ := h
            refine sv_app hs 1 rfl (hs.shows 0 rfl) (fun _ => rfl) (by decide) F75.ta22_22 (by decide) c167 rfl rfl nofun (fun v165 H166 kv165 hs => ?_)
            replace hs := hs.del 0
            have nv165 := kv165 nv145
            refine so_assign rfl ?_
            refine so_nil ?_
            refine fi_inBlock ?_
            exact fi_at [(0, (.v (.str (pk a0)))), (4, (.v v165)), (5, (.v (.int .i64 (ibits .xor .i64 before146 x155)))), (6, (.v (.int .i64 atq154)))] ⟨rfl, rfl, rfl, rfl, trivial⟩ (h _ _ _ nv165 hs)
    · refine fi_false rfl (decide_eq_false c149) ?_
      refine fi_exit rfl ?_
      refine fi_seq ?_
      refine fi_seq ?_
      refine fi_region ?_
      refine so_move rfl ?_
      refine sv_call (spec_l07Values_ok v145 out144 hs (fun _ hs => (hs.shows 0 rfl)) _ h) rfl rfl nofun ?_
      clear h hs
      rintro _ H171 ⟨y170, h, rfl, hs⟩
      refine so_un rfl au_not ?_
      refine so_move rfl ?_
      replace h := ofT h; rcases h with ⟨c172, h⟩ | ⟨c172, h⟩
      · refine so_gyes rfl (not_f c172) ?_
        refine so_move rfl ?_
        refine so_gyes rfl (not_f c172) ?_
        refine sv_call (spec_l07Pack_ok v145 out144 hs (fun _ hs => (hs.shows 0 rfl)) _ h) rfl rfl nofun ?_
        clear h hs
        rintro _ H174 ⟨y173, h, rfl, hs⟩
        refine so_gyes rfl (not_f c172) ?_
        refine so_move rfl ?_
        refine so_gyes rfl (not_f c172) ?_
        refine so_bin rfl rfl ab_sneq ?_
        refine so_pick_f rfl (not_f c172) rfl ?_
        refine so_nil ?_
        replace h := ofP h; rcases h with ⟨c175, h⟩ | ⟨c175, h⟩
        · refine fi_false rfl (not_f (decide_eq_true c175)) ?_
          refine fi_skip ?_
          refine fi_seq ?_
          refine fi_region ?_
          refine so_move rfl ?_
          refine so_assign rfl ?_
          refine so_assign rfl ?_
          refine so_nil ?_
          exact by_ret rfl ⟨_, _, h, _, rfl, hs⟩
        · refine fi_true rfl (not_t (decide_eq_false c175)) ?_
          refine fi_seq ?_
          refine fi_region ?_
          refine so_assign rfl ?_
          refine so_assign rfl ?_
          refine so_nil ?_
          exact by_ret rfl ⟨_, _, h, _, rfl, (Sep.nil (Sep.del 0 hs) 1)⟩
      · refine so_gno rfl (not_t c172) ?_
        refine so_gno rfl (not_t c172) ?_
        refine so_gno rfl (not_t c172) ?_
        refine so_gno rfl (not_t c172) ?_
        refine so_pick_t rfl (not_t c172) rfl ?_
        refine so_nil ?_
        refine fi_true rfl rfl ?_
        refine fi_seq ?_
        refine fi_region ?_
        refine so_assign rfl ?_
        refine so_assign rfl ?_
        refine so_nil ?_
        exact by_ret rfl ⟨_, _, h, _, rfl, (Sep.nil (Sep.del 0 hs) 1)⟩
  · refine so_gno rfl (decide_eq_false c148) ?_
    refine so_gno rfl (decide_eq_false c148) ?_
    refine so_gno rfl (decide_eq_false c148) ?_
    refine so_pick_f rfl (decide_eq_false c148) rfl ?_
    refine so_nil ?_
    refine fi_false rfl rfl ?_
    refine fi_exit rfl ?_
    refine fi_seq ?_
    refine fi_seq ?_
    refine fi_region ?_
    refine so_move rfl ?_
    refine sv_call (spec_l07Values_ok v145 out144 hs (fun _ hs => (hs.shows 0 rfl)) _ h) rfl rfl nofun ?_
    clear h hs
    rintro _ H177 ⟨y176, h, rfl, hs⟩
    refine so_un rfl au_not ?_
    refine so_move rfl ?_
    replace h := ofT h; rcases h with ⟨c178, h⟩ | ⟨c178, h⟩
    · refine so_gyes rfl (not_f c178) ?_
      refine so_move rfl ?_
      refine so_gyes rfl (not_f c178) ?_
      refine sv_call (spec_l07Pack_ok v145 out144 hs (fun _ hs => (hs.shows 0 rfl)) _ h) rfl rfl nofun ?_
      clear h hs
      rintro _ H180 ⟨y179, h, rfl, hs⟩
      refine so_gyes rfl (not_f c178) ?_
      refine so_move rfl ?_
      refine so_gyes rfl (not_f c178) ?_
      refine so_bin rfl rfl ab_sneq ?_
      refine so_pick_f rfl (not_f c178) rfl ?_
      refine so_nil ?_
      replace h := ofP h; rcases h with ⟨c181, h⟩ | ⟨c181, h⟩
      · refine fi_false rfl (not_f (decide_eq_true c181)) ?_
        refine fi_skip ?_
        refine fi_seq ?_
        refine fi_region ?_
        refine so_move rfl ?_
        refine so_assign rfl ?_
        refine so_assign rfl ?_
        refine so_nil ?_
        exact by_ret rfl ⟨_, _, h, _, rfl, hs⟩
      · refine fi_true rfl (not_t (decide_eq_false c181)) ?_
        refine fi_seq ?_
        refine fi_region ?_
        refine so_assign rfl ?_
        refine so_assign rfl ?_
        refine so_nil ?_
        exact by_ret rfl ⟨_, _, h, _, rfl, (Sep.nil (Sep.del 0 hs) 1)⟩
    · refine so_gno rfl (not_t c178) ?_
      refine so_gno rfl (not_t c178) ?_
      refine so_gno rfl (not_t c178) ?_
      refine so_gno rfl (not_t c178) ?_
      refine so_pick_t rfl (not_t c178) rfl ?_
      refine so_nil ?_
      refine fi_true rfl rfl ?_
      refine fi_seq ?_
      refine fi_region ?_
      refine so_assign rfl ?_
      refine so_assign rfl ?_
      refine so_nil ?_
      exact by_ret rfl ⟨_, _, h, _, rfl, (Sep.nil (Sep.del 0 hs) 1)⟩

end Go.Proofs.Ytfieljajhmpbiaa.G

namespace Go.Proofs.Ytfieljajhmpbiaa.G
open Go Go.Ab Go.Proofs Go.Proofs.Ytfieljajhmpbiaa
set_option maxRecDepth 100000
set_option linter.unusedVariables false
set_option linter.unusedSimpArgs false
set_option maxHeartbeats 1000000
theorem spec_UnpackTake_ok {fr : List Pc} {H : Heap} (a0 : List UInt8) (hs : Sep H (fr))  (K : (List (Nat)) → Bool → Prop) (h : spec_UnpackTake.wp a0 K) : OkQ Try.prog 28 [(.v (.str (pk a0)))] H (fun r H2 => ∃ (y0 : List (Nat)) (y1 : Bool), K y0 y1 ∧ ∃ (w0_ : AV), r = (.t [(.v w0_), (.v (.bool y1))]) ∧ Sep H2 (Pc.osl w0_ 1 (enc (eFlt .f32) y0) :: fr)) := by
  unfold spec_UnpackTake.wp at h
  refine of_body Try.f28 F.hm Try.func28 rfl Try.call28 (by kernel_rfl) (by simp) ?_
  refine fi_seq ?_
  refine fi_region ?_
  refine so_assign rfl ?_
  refine so_assign rfl ?_
  refine so_nil ?_
  refine fi_seq ?_
  refine fi_region ?_
  refine so_move rfl ?_
  refine sv_call (spec_l07Unpack_ok a0 hs  _ h) rfl rfl nofun ?_
  clear h hs
  rintro _ H105 ⟨y101, y104, h, v102, rfl, hs⟩
  refine so_extract rfl rfl rfl ?_
  refine so_extract rfl rfl rfl ?_
  refine so_assign rfl ?_
  refine so_assign rfl ?_
  refine so_nil ?_
  exact by_ret rfl ⟨_, _, h, _, rfl, hs⟩

end Go.Proofs.Ytfieljajhmpbiaa.G

namespace Go.Proofs.Ytfieljajhmpbiaa.G
open Go Go.Ab Go.Proofs Go.Proofs.Ytfieljajhmpbiaa
set_option maxRecDepth 100000
set_option linter.unusedVariables false
set_option linter.unusedSimpArgs false
set_option maxHeartbeats 1000000
theorem F120.it2 : tint Try.prog 2 = some .i64 := by kernel_rfl
theorem F120.us135 : (Try.prog.underlying 135).isSome = true := by kernel_rfl
theorem impl_BitsOf_ok {fr : List Pc} {H : Heap} (a0 : Nat) (hs : Sep H (fr))  (K : Int → Prop) (h : impl_BitsOf.wp a0 K) : OkQ Try.prog 120 [(.v (.flt .f32 a0))] H (fun r H2 => ∃ (y0 : Int), K y0 ∧ r = (.v (.int .i64 y0)) ∧ Sep H2 (fr)) := by
  unfold impl_BitsOf.wp at h
  refine of_body Try.f120 F.hm Try.func120 rfl Try.call120 (by kernel_rfl) (by simp) ?_
  refine fi_seq ?_
  refine fi_region ?_
  refine so_assign rfl ?_
  refine so_nil ?_
  refine fi_seq ?_
  refine fi_seq ?_
  refine fi_region ?_
  refine so_move rfl ?_
  refine so_move rfl ?_
  refine so_bin rfl rfl ab_fneq ?_
  refine so_nil ?_
  replace h := ofT h; rcases h with ⟨c101, h⟩ | ⟨c101, h⟩
  · refine fi_true rfl c101 ?_
    refine fi_seq ?_
    refine fi_region ?_
    refine so_assign rfl ?_
    refine so_nil ?_
    exact by_ret rfl ⟨_, h, rfl, hs⟩
  · refine fi_false rfl c101 ?_
    refine fi_skip ?_
    refine fi_seq ?_
    refine fi_region ?_
    refine so_move rfl ?_
    refine sv_call (math_Float32bits_ok a0 hs  _ h) rfl rfl nofun ?_
    clear h hs
    rintro _ H103 ⟨y102, h, rfl, hs⟩
    refine sv_ii rfl F120.us135 F120.it2 ?_
    refine so_assign rfl ?_
    refine so_nil ?_
    exact by_ret rfl ⟨_, h, rfl, hs⟩

end Go.Proofs.Ytfieljajhmpbiaa.G

namespace Go.Proofs.Ytfieljajhmpbiaa.G
open Go Go.Ab Go.Proofs Go.Proofs.Ytfieljajhmpbiaa
set_option maxRecDepth 100000
set_option linter.unusedVariables false
set_option linter.unusedSimpArgs false
set_option maxHeartbeats 1000000
theorem F66.ag36 : tagg Try.prog 36 = some false := by kernel_rfl
theorem F66.it5 : tint Try.prog 5 = some .u8 := by kernel_rfl
theorem F66.sr9 : tstr Try.prog 9 = true := by kernel_rfl
theorem F66.sz5 : tsz Try.prog 5 = some 1 := by kernel_rfl
theorem F66.ta112_112 : tapp Try.prog 112 112 = some (1, 1) := by kernel_rfl
theorem F66.te112 : telem Try.prog 112 = some 5 := by kernel_rfl
theorem F66.ti22 : (telem Try.prog 22).isSome = true := by kernel_rfl
theorem F66.tl22 : (telem Try.prog 22).bind (tsz Try.prog) = some 1 := by kernel_rfl
theorem F66.us112 : (Try.prog.underlying 112).isSome = true := by kernel_rfl
theorem F66.us2 : (Try.prog.underlying 2).isSome = true := by kernel_rfl
theorem F66.us3 : (Try.prog.underlying 3).isSome = true := by kernel_rfl
theorem F66.ze5 : tzero Try.prog 5 = some [(.int .u8 (0 : Int))] := by kernel_rfl
theorem impl_packed_ok {fr : List Pc} {H : Heap} (v0 : AV) (l0 : List (Nat)) (hs : Sep H (fr)) (g0 : ∀ H, Sep H fr → Shows H v0 1 (enc (eFlt .f32) l0)) (K : (List UInt8) → Prop) (h : impl_packed.wp l0 K) : OkQ Try.prog 66 [(.v v0)] H (fun r H2 => ∃ (y0 : List UInt8), K y0 ∧ r = (.v (.str (pk y0))) ∧ Sep H2 (fr)) := by
  unfold impl_packed.wp at h
  refine of_body Try.f66 F.hm Try.func66 rfl Try.call66 (by kernel_rfl) (by simp) ?_
  refine fi_seq ?_
  refine fi_region ?_
  refine so_assign rfl ?_
  refine so_nil ?_
  refine fi_seq ?_
  refine fi_region ?_
  refine sv_bslice hs (eInt .u8) ([] : List (Int)) [] F66.te112 F66.sz5 F66.ze5 rfl rfl rfl rfl (fun _ => rfl) rfl (by decide) nofun (fun v101 H102 nv101 hs => ?_)
  refine so_assign rfl ?_
  refine so_assign rfl ?_
  refine so_nil ?_
  refine fi_seq ?_
  refine fi_seq ?_
  refine fi_region ?_
  refine so_move rfl ?_
  refine sv_len (g0 _ hs.tl) (fun _ => rfl) (by decide) rfl F66.ti22 ?_
  refine so_move rfl ?_
  refine so_nil ?_
  refine fi_block ?_
  refine fi_loop ?_
  refine fi_at [(3, (.v v101)), (4, (.v (.int .i64 (0 : Int)))), (12, (.v v0)), (13, (.v (.int .i64 (l0.length : Int)))), (14, (.v (.int .i64 (0 : Int))))] ⟨rfl, rfl, rfl, rfl, rfl, trivial⟩ ?_
  refine h (fun (out152 : List (Int)) (last154 : Int) (x155 : Int) => ∀ (s : Nat → TV) (H : Heap) (v153 : AV) (nv153 : v153 ≠ .nilsl), Sep H (Pc.osl v153 1 (enc (eInt .u8) out152) :: fr) → Fin _ _ (updL s [(3, (.v v153)), (4, (.v (.int .i64 last154))), (12, (.v v0)), (13, (.v (.int .i64 (l0.length : Int)))), (14, (.v (.int .i64 x155)))]) H _) ?_ _ _ _ nv101 hs
  intro out152 last154 x155 h s198 H199 v153 nv153 hs
  refine fi_inLoop ?_
  refine fi_seq ?_
  refine fi_region ?_
  refine so_bin rfl rfl ab_lss ?_
  refine so_nil ?_
  refine fi_seq ?_
  replace h := ofP h; rcases h with ⟨c156, h⟩ | ⟨c156, h⟩
  · refine fi_true rfl (decide_eq_true c156) ?_
    refine fi_skip ?_
    refine fi_seq ?_
    refine fi_block ?_
    refine fi_seq ?_
    refine fi_region ?_
    obtain ⟨c157, h⟩ := h
    refine sv_idx (g0 _ hs.tl) c157 (fun _ => rfl) (by decide) rfl rfl F66.tl22 ?_
    refine sv_cell (g0 _ hs.tl) c157 (0 : Nat) 0 (fun x => (AV.flt .f32 x)) (fun _ => rfl) (fun _ => rfl) rfl F66.ag36 ?_
    refine so_assign rfl ?_
    refine so_nil ?_
    refine fi_seq ?_
    refine fi_region ?_
    refine so_move rfl ?_
    refine sv_call (impl_BitsOf_ok (l0.getD (x155).toNat (0 : Nat)) hs  _ h) rfl rfl nofun ?_
    clear h hs
    rintro _ H159 ⟨y158, h, rfl, hs⟩
    refine so_assign rfl ?_
    refine so_nil ?_
    refine fi_seq ?_
    refine fi_region ?_
    refine so_move rfl ?_
    refine so_move rfl ?_
    refine so_bin rfl rfl ab_xor ?_
    refine so_assign rfl ?_
    refine so_nil ?_
    refine fi_seq ?_
    refine fi_region ?_
    refine so_move rfl ?_
    refine so_assign rfl ?_
    refine so_nil ?_
    refine fi_seq ?_
    refine fi_region ?_
    refine so_assign rfl ?_
    refine so_nil ?_
    refine fi_seq ?_
    refine fi_seq ?_
    refine fi_region ?_
    refine so_move rfl ?_
    refine so_assign rfl ?_
    refine so_nil ?_
    refine fi_block ?_
    refine fi_loop ?_
    refine fi_at [(3, (.v v153)), (4, (.v (.int .i64 y158))), (8, (.v (.int .i64 (ibits .xor .i64 y158 last154)))), (9, (.v (.int .i64 (4 : Int)))), (10, (.v (.int .i64 (ibits .xor .i64 y158 last154)))), (12, (.v v0)), (13, (.v (.int .i64 (l0.length : Int)))), (14, (.v (.int .i64 x155)))] ⟨rfl, rfl, rfl, rfl, rfl, rfl, rfl, rfl, trivial⟩ ?_
    refine h (fun (z161 : Int) (m162 : Int) => ∀ (s : Nat → TV) (H : Heap), Sep H (Pc.osl v153 1 (enc (eInt .u8) out152) :: fr) → Fin _ _ (updL s [(3, (.v v153)), (4, (.v (.int .i64 y158))), (8, (.v (.int .i64 (ibits .xor .i64 y158 last154)))), (9, (.v (.int .i64 z161))), (10, (.v (.int .i64 m162))), (12, (.v v0)), (13, (.v (.int .i64 (l0.length : Int)))), (14, (.v (.int .i64 x155)))]) H _) ?_ _ _ hs
    intro z161 m162 h s196 H197 hs
    refine fi_inLoop ?_
    refine fi_seq ?_
    refine fi_seq ?_
    refine fi_region ?_
    refine so_move rfl ?_
    refine so_bin rfl rfl ab_gtr ?_
    refine so_nil ?_
    replace h := ofP h; rcases h with ⟨c163, h⟩ | ⟨c163, h⟩
    · refine fi_true rfl (decide_eq_true c163) ?_
      refine fi_skip ?_
      refine fi_seq ?_
      refine fi_block ?_
      refine fi_region ?_
      refine so_move rfl ?_
      refine so_bin rfl rfl ab_sub ?_
      refine so_assign rfl ?_
      refine so_nil ?_
      refine fi_inBlock ?_
      refine fi_region ?_
      refine so_move rfl ?_
      refine so_bin rfl rfl (ab_shr (by decide)) ?_
      refine so_assign rfl ?_
      refine so_nil ?_
      exact fi_at [(3, (.v v153)), (4, (.v (.int .i64 y158))), (8, (.v (.int .i64 (ibits .xor .i64 y158 last154)))), (9, (.v (.int .i64 (IntKind.i64.wrap (z161 - (1 : Int)))))), (10, (.v (.int .i64 (Int.fdiv m162 (2 ^ (min ((8 : Int)).toNat IntKind.i64.bits)))))), (12, (.v v0)), (13, (.v (.int .i64 (l0.length : Int)))), (14, (.v (.int .i64 x155)))] ⟨rfl, rfl, rfl, rfl, rfl, rfl, rfl, rfl, trivial⟩ (h _ _  hs)
    · refine fi_false rfl (decide_eq_false c163) ?_
      refine fi_exit rfl ?_
      refine fi_seq ?_
      refine fi_region ?_
      refine so_move rfl ?_
      refine so_move rfl ?_
      refine sv_ii rfl F66.us3 F66.it5 ?_
      refine sv_bslice hs (eInt .u8) ([(IntKind.u8.wrap z161)] : List (Int)) [[(.int .u8 (IntKind.u8.wrap z161))]] F66.te112 F66.sz5 F66.ze5 rfl rfl rfl rfl (fun _ => rfl) rfl (by decide) nofun (fun v164 H165 nv164 hs => ?_)
      obtain ⟨c169, h⟩ := h
      refine sv_app hs 1 rfl (hs.shows 0 rfl) (fun _ => rfl) (by decide) F66.ta112_112 (by decide) c169 rfl rfl nofun (fun v167 H168 kv167 hs => ?_)
      replace hs := hs.del 0
      have nv167 := kv167 nv153
      refine so_assign rfl ?_
      refine so_nil ?_
      refine fi_seq ?_
      refine fi_region ?_
      refine so_move rfl ?_
      refine so_bin rfl rfl ab_sub ?_
      refine so_move rfl ?_
      refine so_nil ?_
      refine fi_block ?_
      refine fi_loop ?_
      refine fi_at [(3, (.v v167)), (4, (.v (.int .i64 y158))), (8, (.v (.int .i64 (ibits .xor .i64 y158 last154)))), (12, (.v v0)), (13, (.v (.int .i64 (l0.length : Int)))), (14, (.v (.int .i64 x155))), (37, (.v (.int .i64 (IntKind.i64.wrap ((4 : Int) - z161))))), (38, (.v (.int .i64 (0 : Int))))] ⟨rfl, rfl, rfl, rfl, rfl, rfl, rfl, rfl, trivial⟩ ?_
      refine h (fun (out183 : List (Int)) (more185 : Int) (x186 : Int) => ∀ (s : Nat → TV) (H : Heap) (v184 : AV) (nv184 : v184 ≠ .nilsl), Sep H (Pc.osl v184 1 (enc (eInt .u8) out183) :: fr) → Fin _ _ (updL s [(3, (.v v184)), (4, (.v (.int .i64 y158))), (8, (.v (.int .i64 more185))), (12, (.v v0)), (13, (.v (.int .i64 (l0.length : Int)))), (14, (.v (.int .i64 x155))), (37, (.v (.int .i64 (IntKind.i64.wrap ((4 : Int) - z161))))), (38, (.v (.int .i64 x186)))]) H _) ?_ _ _ _ nv167 hs
      intro out183 more185 x186 h s194 H195 v184 nv184 hs
      refine fi_inLoop ?_
      refine fi_seq ?_
      refine fi_region ?_
      refine so_bin rfl rfl ab_lss ?_
      refine so_nil ?_
      refine fi_seq ?_
      replace h := ofP h; rcases h with ⟨c187, h⟩ | ⟨c187, h⟩
      · refine fi_true rfl (decide_eq_true c187) ?_
        refine fi_skip ?_
        refine fi_seq ?_
        refine fi_block ?_
        refine fi_seq ?_
        refine fi_region ?_
        refine so_move rfl ?_
        refine so_move rfl ?_
        refine sv_ii rfl F66.us2 F66.it5 ?_
        refine sv_bslice hs (eInt .u8) ([(IntKind.u8.wrap more185)] : List (Int)) [[(.int .u8 (IntKind.u8.wrap more185))]] F66.te112 F66.sz5 F66.ze5 rfl rfl rfl rfl (fun _ => rfl) rfl (by decide) nofun (fun v188 H189 nv188 hs => ?_)
        obtain ⟨c193, h⟩ := h
        refine sv_app hs 1 rfl (hs.shows 0 rfl) (fun _ => rfl) (by decide) F66.ta112_112 (by decide) c193 rfl rfl nofun (fun v191 H192 kv191 hs => ?_)
        replace hs := hs.del 0
        have nv191 := kv191 nv184
        refine so_assign rfl ?_
        refine so_nil ?_
        refine fi_region ?_
        refine so_move rfl ?_
        refine so_bin rfl rfl (ab_shr (by decide)) ?_
        refine so_assign rfl ?_
        refine so_nil ?_
        refine fi_inBlock ?_
        refine fi_region ?_
        refine so_bin rfl rfl ab_add ?_
        refine so_move rfl ?_
        refine so_nil ?_
        exact fi_at [(3, (.v v191)), (4, (.v (.int .i64 y158))), (8, (.v (.int .i64 (Int.fdiv more185 (2 ^ (min ((8 : Int)).toNat IntKind.i64.bits)))))), (12, (.v v0)), (13, (.v (.int .i64 (l0.length : Int)))), (14, (.v (.int .i64 x155))), (37, (.v (.int .i64 (IntKind.i64.wrap ((4 : Int) - z161))))), (38, (.v (.int .i64 (IntKind.i64.wrap (x186 + (1 : Int))))))] ⟨rfl, rfl, rfl, rfl, rfl, rfl, rfl, rfl, trivial⟩ (h _ _ _ nv191 hs)
      · refine fi_false rfl (decide_eq_false c187) ?_
        refine fi_exit rfl ?_
        refine fi_inBlock ?_
        refine fi_region ?_
        refine so_bin rfl rfl ab_add ?_
        refine so_move rfl ?_
        refine so_nil ?_
        exact fi_at [(3, (.v v184)), (4, (.v (.int .i64 y158))), (12, (.v v0)), (13, (.v (.int .i64 (l0.length : Int)))), (14, (.v (.int .i64 (IntKind.i64.wrap (x155 + (1 : Int))))))] ⟨rfl, rfl, rfl, rfl, rfl, trivial⟩ (h _ _ _ nv184 hs)
  · refine fi_false rfl (decide_eq_false c156) ?_
    refine fi_exit rfl ?_
    refine fi_seq ?_
    refine fi_region ?_
    refine so_move rfl ?_
    refine sv_bs (hs.shows 0 rfl) nv153 rfl F66.te112 F66.it5 F66.sr9 ?_
    refine so_assign rfl ?_
    refine so_nil ?_
    exact by_ret rfl ⟨_, h, rfl, (Sep.del 0 hs)⟩

end Go.Proofs.Ytfieljajhmpbiaa.G

namespace Go.Proofs.Ytfieljajhmpbiaa.G
open Go Go.Ab Go.Proofs Go.Proofs.Ytfieljajhmpbiaa
set_option maxRecDepth 100000
set_option linter.unusedVariables false
set_option linter.unusedSimpArgs false
set_option maxHeartbeats 1000000
theorem F76.it2 : tint Try.prog 2 = some .i64 := by kernel_rfl
theorem F76.sr9 : tstr Try.prog 9 = true := by kernel_rfl
theorem F76.us5 : (Try.prog.underlying 5).isSome = true := by kernel_rfl
theorem impl_lowNumber_ok {fr : List Pc} {H : Heap} (a0 : List UInt8) (hs : Sep H (fr))  (K : Int → Prop) (h : impl_lowNumber.wp a0 K) : OkQ Try.prog 76 [(.v (.str (pk a0)))] H (fun r H2 => ∃ (y0 : Int), K y0 ∧ r = (.v (.int .i64 y0)) ∧ Sep H2 (fr)) := by
  unfold impl_lowNumber.wp at h
  refine of_body Try.f76 F.hm Try.func76 rfl Try.call76 (by kernel_rfl) (by simp) ?_
  refine fi_seq ?_
  refine fi_region ?_
  refine so_assign rfl ?_
  refine so_nil ?_
  refine fi_seq ?_
  refine fi_region ?_
  refine so_assign rfl ?_
  refine so_nil ?_
  refine fi_seq ?_
  refine fi_seq ?_
  refine fi_region ?_
  refine so_move rfl ?_
  refine so_slen rfl F76.sr9 ?_
  refine so_bin rfl rfl ab_sub ?_
  refine so_assign rfl ?_
  refine so_nil ?_
  refine fi_block ?_
  refine fi_loop ?_
  refine fi_at [(0, (.v (.str (pk a0)))), (3, (.v (.int .i64 (0 : Int)))), (4, (.v (.int .i64 (IntKind.i64.wrap ((a0.length : Int) - (1 : Int))))))] ⟨rfl, rfl, rfl, trivial⟩ ?_
  refine h (fun (n102 : Int) (i103 : Int) => ∀ (s : Nat → TV) (H : Heap), Sep H (fr) → Fin _ _ (updL s [(0, (.v (.str (pk a0)))), (3, (.v (.int .i64 n102))), (4, (.v (.int .i64 i103)))]) H _) ?_ _ _ hs
  intro n102 i103 h s106 H107 hs
  refine fi_inLoop ?_
  refine fi_seq ?_
  refine fi_seq ?_
  refine fi_region ?_
  refine so_move rfl ?_
  refine so_bin rfl rfl ab_geq ?_
  refine so_nil ?_
  replace h := ofP h; rcases h with ⟨c104, h⟩ | ⟨c104, h⟩
  · refine fi_true rfl (decide_eq_true c104) ?_
    refine fi_skip ?_
    refine fi_seq ?_
    refine fi_block ?_
    refine fi_region ?_
    refine so_move rfl ?_
    refine so_bin rfl rfl (ab_shl (by decide)) ?_
    refine so_move rfl ?_
    refine so_move rfl ?_
    obtain ⟨c105, h⟩ := h
    refine so_index rfl rfl F76.sr9 c105 ?_
    refine sv_ii rfl F76.us5 F76.it2 ?_
    refine so_bin rfl rfl ab_or ?_
    refine so_assign rfl ?_
    refine so_nil ?_
    refine fi_inBlock ?_
    refine fi_region ?_
    refine so_move rfl ?_
    refine so_bin rfl rfl ab_sub ?_
    refine so_assign rfl ?_
    refine so_nil ?_
    exact fi_at [(0, (.v (.str (pk a0)))), (3, (.v (.int .i64 (ibits .or .i64 (IntKind.i64.wrap (n102 * (2 ^ (min ((8 : Int)).toNat IntKind.i64.bits)))) (IntKind.i64.wrap (bt a0 i103)))))), (4, (.v (.int .i64 (IntKind.i64.wrap (i103 - (1 : Int))))))] ⟨rfl, rfl, rfl, trivial⟩ (h _ _  hs)
  · refine fi_false rfl (decide_eq_false c104) ?_
    refine fi_exit rfl ?_
    refine fi_seq ?_
    refine fi_region ?_
    refine so_move rfl ?_
    refine so_assign rfl ?_
    refine so_nil ?_
    exact by_ret rfl ⟨_, h, rfl, hs⟩

end Go.Proofs.Ytfieljajhmpbiaa.G

namespace Go.Proofs.Ytfieljajhmpbiaa.G
open Go Go.Ab Go.Proofs Go.Proofs.Ytfieljajhmpbiaa
set_option maxRecDepth 100000
set_option linter.unusedVariables false
set_option linter.unusedSimpArgs false
set_option maxHeartbeats 1000000
theorem impl_within_ok {fr : List Pc} {H : Heap} (a0 : Int) (a1 : Int) (a2 : Int) (hs : Sep H (fr))  (K : Bool → Prop) (h : impl_within.wp a0 a1 a2 K) : OkQ Try.prog 63 [(.v (.int .i64 a0)), (.v (.int .i64 a1)), (.v (.int .i64 a2))] H (fun r H2 => ∃ (y0 : Bool), K y0 ∧ r = (.v (.bool y0)) ∧ Sep H2 (fr)) := by
  unfold impl_within.wp at h
  refine of_body Try.f63 F.hm Try.func63 rfl Try.call63 (by kernel_rfl) (by simp) ?_
  refine fi_seq ?_
  refine fi_region ?_
  refine so_assign rfl ?_
  refine so_nil ?_
  refine fi_seq ?_
  refine fi_region ?_
  refine so_move rfl ?_
  refine so_move rfl ?_
  refine so_bin rfl rfl ab_geq ?_
  refine so_move rfl ?_
  replace h := ofP h; rcases h with ⟨c101, h⟩ | ⟨c101, h⟩
  · refine so_gyes rfl (decide_eq_true c101) ?_
    refine so_move rfl ?_
    refine so_gyes rfl (decide_eq_true c101) ?_
    refine so_move rfl ?_
    refine so_gyes rfl (decide_eq_true c101) ?_
    refine so_bin rfl rfl ab_leq ?_
    refine so_pick_t rfl (decide_eq_true c101) rfl ?_
    refine so_assign rfl ?_
    refine so_nil ?_
    exact by_ret rfl ⟨_, h, rfl, hs⟩
  · refine so_gno rfl (decide_eq_false c101) ?_
    refine so_gno rfl (decide_eq_false c101) ?_
    refine so_gno rfl (decide_eq_false c101) ?_
    refine so_pick_f rfl (decide_eq_false c101) rfl ?_
    refine so_assign rfl ?_
    refine so_nil ?_
    exact by_ret rfl ⟨_, h, rfl, hs⟩

end Go.Proofs.Ytfieljajhmpbiaa.G

namespace Go.Proofs.Ytfieljajhmpbiaa.G
open Go Go.Ab Go.Proofs Go.Proofs.Ytfieljajhmpbiaa
set_option maxRecDepth 100000
set_option linter.unusedVariables false
set_option linter.unusedSimpArgs false
set_option maxHeartbeats 1000000
theorem F77.it135 : tint Try.prog 135 = some .u32 := by kernel_rfl
theorem F77.us2 : (Try.prog.underlying 2).isSome = true := by kernel_rfl
theorem impl_FromBits_ok {fr : List Pc} {H : Heap} (a0 : Int) (hs : Sep H (fr))  (K : Nat → Bool → Prop) (h : impl_FromBits.wp a0 K) : OkQ Try.prog 77 [(.v (.int .i64 a0))] H (fun r H2 => ∃ (y0 : Nat) (y1 : Bool), K y0 y1 ∧ r = (.t [(.v (.flt .f32 y0)), (.v (.bool y1))]) ∧ Sep H2 (fr)) := by
  unfold impl_FromBits.wp at h
  refine of_body Try.f77 F.hm Try.func77 rfl Try.call77 (by kernel_rfl) (by simp) ?_
  refine fi_seq ?_
  refine fi_region ?_
  refine so_assign rfl ?_
  refine so_assign rfl ?_
  refine so_nil ?_
  refine fi_seq ?_
  refine fi_seq ?_
  refine fi_region ?_
  refine so_move rfl ?_
  refine sv_call (impl_within_ok a0 (0 : Int) (4294967295 : Int) hs  _ h) rfl rfl nofun ?_
  clear h hs
  rintro _ H102 ⟨y101, h, rfl, hs⟩
  refine so_un rfl au_not ?_
  refine so_nil ?_
  replace h := ofT h; rcases h with ⟨c103, h⟩ | ⟨c103, h⟩
  · refine fi_false rfl (not_f c103) ?_
    refine fi_skip ?_
    refine fi_seq ?_
    refine fi_region ?_
    refine so_move rfl ?_
    refine sv_ii rfl F77.us2 F77.it135 ?_
    refine sv_call (math_Float32frombits_ok (IntKind.u32.wrap a0) hs  _ h) rfl rfl nofun ?_
    clear h hs
    rintro _ H105 ⟨y104, h, rfl, hs⟩
    refine so_assign rfl ?_
    refine so_assign rfl ?_
    refine so_nil ?_
    exact by_ret rfl ⟨_, _, h, rfl, hs⟩
  · refine fi_true rfl (not_t c103) ?_
    refine fi_seq ?_
    refine fi_region ?_
    refine so_assign rfl ?_
    refine so_assign rfl ?_
    refine so_nil ?_
    exact by_ret rfl ⟨_, _, h, rfl, hs⟩

end Go.Proofs.Ytfieljajhmpbiaa.G

namespace Go.Proofs.Ytfieljajhmpbiaa.G
open Go Go.Ab Go.Proofs Go.Proofs.Ytfieljajhmpbiaa
set_option maxRecDepth 100000
set_option linter.unusedVariables false
set_option linter.unusedSimpArgs false
set_option maxHeartbeats 1000000
theorem F29.it3 : tint Try.prog 3 = some .i64 := by kernel_rfl
theorem F29.sr9 : tstr Try.prog 9 = true := by kernel_rfl
theorem F29.sz36 : tsz Try.prog 36 = some 1 := by kernel_rfl
theorem F29.ta22_22 : tapp Try.prog 22 22 = some (1, 4) := by kernel_rfl
theorem F29.te22 : telem Try.prog 22 = some 36 := by kernel_rfl
theorem F29.ti22 : (telem Try.prog 22).isSome = true := by kernel_rfl
theorem F29.us5 : (Try.prog.underlying 5).isSome = true := by kernel_rfl
theorem F29.ze36 : tzero Try.prog 36 = some [(.flt .f32 (0 : Nat))] := by kernel_rfl
theorem impl_UnpackTake_ok {fr : List Pc} {H : Heap} (a0 : List UInt8) (hs : Sep H (fr))  (K : (List (Nat)) → Bool → Prop) (h : impl_UnpackTake.wp a0 K) : OkQ Try.prog 29 [(.v (.str (pk a0)))] H (fun r H2 => ∃ (y0 : List (Nat)) (y1 : Bool), K y0 y1 ∧ ∃ (w0_ : AV), r = (.t [(.v w0_), (.v (.bool y1))]) ∧ Sep H2 (Pc.osl w0_ 1 (enc (eFlt .f32) y0) :: fr)) := by
  unfold impl_UnpackTake.wp at h
  refine of_body Try.f29 F.hm Try.func29 rfl Try.call29 (by kernel_rfl) (by simp) ?_
  refine fi_seq ?_
  refine fi_region ?_
  refine so_assign rfl ?_
  refine so_assign rfl ?_
  refine so_nil ?_
  refine fi_seq ?_
  refine fi_region ?_
  refine sv_bslice hs (eFlt .f32) ([] : List (Nat)) [] F29.te22 F29.sz36 F29.ze36 rfl rfl rfl rfl (fun _ => rfl) rfl (by decide) nofun (fun v101 H102 nv101 hs => ?_)
  refine so_assign rfl ?_
  refine so_assign rfl ?_
  refine so_nil ?_
  refine fi_seq ?_
  refine fi_seq ?_
  refine fi_region ?_
  refine so_assign rfl ?_
  refine so_nil ?_
  refine fi_block ?_
  refine fi_loop ?_
  refine fi_at [(0, (.v (.str (pk a0)))), (4, (.v v101)), (5, (.v (.int .i64 (0 : Int)))), (6, (.v (.int .i64 (0 : Int))))] ⟨rfl, rfl, rfl, rfl, trivial⟩ ?_
  refine h (fun (out131 : List (Nat)) (last133 : Int) (atq134 : Int) => ∀ (s : Nat → TV) (H : Heap) (v132 : AV) (nv132 : v132 ≠ .nilsl), Sep H (Pc.osl v132 1 (enc (eFlt .f32) out131) :: fr) → Fin _ _ (updL s [(0, (.v (.str (pk a0)))), (4, (.v v132)), (5, (.v (.int .i64 last133))), (6, (.v (.int .i64 atq134)))]) H _) ?_ _ _ _ nv101 hs
  intro out131 last133 atq134 h s156 H157 v132 nv132 hs
  refine fi_inLoop ?_
  refine fi_seq ?_
  refine fi_seq ?_
  refine fi_region ?_
  refine so_move rfl ?_
  refine so_move rfl ?_
  refine so_slen rfl F29.sr9 ?_
  refine so_bin rfl rfl ab_lss ?_
  refine so_nil ?_
  replace h := ofP h; rcases h with ⟨c135, h⟩ | ⟨c135, h⟩
  · refine fi_true rfl (decide_eq_true c135) ?_
    refine fi_skip ?_
    refine fi_block ?_
    refine fi_seq ?_
    refine fi_region ?_
    refine so_move rfl ?_
    refine so_move rfl ?_
    obtain ⟨c136, h⟩ := h
    refine so_index rfl rfl F29.sr9 c136 ?_
    refine sv_ii rfl F29.us5 F29.it3 ?_
    refine so_assign rfl ?_
    refine so_nil ?_
    refine fi_seq ?_
    refine fi_region ?_
    refine so_move rfl ?_
    refine so_bin rfl rfl ab_add ?_
    refine so_move rfl ?_
    refine so_bin rfl rfl ab_sub ?_
    refine so_assign rfl ?_
    refine so_nil ?_
    refine fi_seq ?_
    refine fi_seq ?_
    refine fi_region ?_
    refine so_move rfl ?_
    refine so_bin rfl rfl ab_gtr ?_
    refine so_move rfl ?_
    replace h := ofP h; rcases h with ⟨c137, h⟩ | ⟨c137, h⟩
    · refine so_gno rfl (decide_eq_true c137) ?_
      refine so_gno rfl (decide_eq_true c137) ?_
      refine so_gno rfl (decide_eq_true c137) ?_
      refine so_gno rfl (decide_eq_true c137) ?_
      refine so_pick_t rfl (decide_eq_true c137) rfl ?_
      refine so_move rfl ?_
      refine so_gno rfl rfl ?_
      refine so_gno rfl rfl ?_
      refine so_gno rfl rfl ?_
      refine so_pick_t rfl rfl rfl ?_
      refine so_nil ?_
      refine fi_true rfl rfl ?_
      refine fi_seq ?_
      refine fi_region ?_
      refine so_assign rfl ?_
      refine so_assign rfl ?_
      refine so_nil ?_
      exact by_ret rfl ⟨_, _, h, _, rfl, (Sep.nil (Sep.del 0 hs) 1)⟩
    · refine so_gyes rfl (decide_eq_false c137) ?_
      refine so_move rfl ?_
      refine so_gyes rfl (decide_eq_false c137) ?_
      refine so_move rfl ?_
      refine so_gyes rfl (decide_eq_false c137) ?_
      refine so_slen rfl F29.sr9 ?_
      refine so_gyes rfl (decide_eq_false c137) ?_
      refine so_bin rfl rfl ab_gtr ?_
      refine so_pick_f rfl (decide_eq_false c137) rfl ?_
      refine so_move rfl ?_
      replace h := ofP h; rcases h with ⟨c138, h⟩ | ⟨c138, h⟩
      · refine so_gno rfl (decide_eq_true c138) ?_
        refine so_gno rfl (decide_eq_true c138) ?_
        refine so_gno rfl (decide_eq_true c138) ?_
        refine so_pick_t rfl (decide_eq_true c138) rfl ?_
        refine so_nil ?_
        refine fi_true rfl rfl ?_
        refine fi_seq ?_
        refine fi_region ?_
        refine so_assign rfl ?_
        refine so_assign rfl ?_
        refine so_nil ?_
        exact by_ret rfl ⟨_, _, h, _, rfl, (Sep.nil (Sep.del 0 hs) 1)⟩
      · refine so_gyes rfl (decide_eq_false c138) ?_
        refine so_move rfl ?_
        refine so_gyes rfl (decide_eq_false c138) ?_
        refine sv_len (hs.shows 0 rfl) (fun _ => rfl) (by decide) rfl F29.ti22 ?_
        refine so_gyes rfl (decide_eq_false c138) ?_
        refine so_bin rfl rfl ab_eql ?_
        refine so_pick_f rfl (decide_eq_false c138) rfl ?_
        refine so_nil ?_
        replace h := ofP h; rcases h with ⟨c139, h⟩ | ⟨c139, h⟩
        · refine fi_true rfl (decide_eq_true c139) ?_
          refine fi_seq ?_
          refine fi_region ?_
          refine so_assign rfl ?_
          refine so_assign rfl ?_
          refine so_nil ?_
          exact by_ret rfl ⟨_, _, h, _, rfl, (Sep.nil (Sep.del 0 hs) 1)⟩
        · refine fi_false rfl (decide_eq_false c139) ?_
          refine fi_skip ?_
          refine fi_seq ?_
          refine fi_region ?_
          refine so_move rfl ?_
          refine so_move rfl ?_
          refine so_move rfl ?_
          refine so_bin rfl rfl ab_add ?_
          refine so_move rfl ?_
          obtain ⟨c140, h⟩ := h
          refine so_sslice rfl rfl rfl F29.sr9 rfl rfl c140 ?_
          refine sv_call (impl_lowNumber_ok ((a0.drop ((IntKind.i64.wrap (atq134 + (1 : Int)))).toNat).take (((IntKind.i64.wrap ((IntKind.i64.wrap (atq134 + (5 : Int))) - (IntKind.i64.wrap (bt a0 atq134))))).toNat - ((IntKind.i64.wrap (atq134 + (1 : Int)))).toNat)) hs  _ h) rfl rfl nofun ?_
          clear h hs
          rintro _ H142 ⟨y141, h, rfl, hs⟩
          refine so_bin rfl rfl ab_xor ?_
          refine so_assign rfl ?_
          refine so_nil ?_
          refine fi_seq ?_
          refine fi_region ?_
          refine so_move rfl ?_
          refine sv_call (impl_FromBits_ok (ibits .xor .i64 last133 y141) hs  _ h) rfl rfl nofun ?_
          clear h hs
          rintro _ H145 ⟨y143, y144, h, rfl, hs⟩
          refine so_move rfl ?_
          refine so_extract rfl rfl rfl ?_
          refine so_extract rfl rfl rfl ?_
          refine so_assign rfl ?_
          refine so_assign rfl ?_
          refine so_nil ?_
          refine fi_seq ?_
          refine fi_region ?_
          refine so_move rfl ?_
          refine so_move rfl ?_
          refine sv_bslice hs (eFlt .f32) ([y143] : List (Nat)) [[(.flt .f32 y143)]] F29.te22 F29.sz36 F29.ze36 rfl rfl rfl rfl (fun _ => rfl) rfl (by decide) nofun (fun v146 H147 nv146 hs => ?_)
          obtain ⟨c151, h⟩ := h
          refine sv_app hs 1 rfl (hs.shows 0 rfl) (fun _ => rfl) (by decide) F29.ta22_22 (by decide) c151 rfl rfl nofun (fun v149 H150 kv149 hs => ?_)
          replace hs := hs.del 0
          have nv149 := kv149 nv132
          refine so_assign rfl ?_
          refine so_nil ?_
          refine fi_region ?_
          refine so_move rfl ?_
          refine so_assign rfl ?_
          refine so_nil ?_
          refine fi_inBlock ?_
          exact fi_at [(0, (.v (.str (pk a0)))), (4, (.v v149)), (5, (.v (.int .i64 (ibits .xor .i64 last133 y141)))), (6, (.v (.int .i64 (IntKind.i64.wrap ((IntKind.i64.wrap (atq134 + (5 : Int))) - (IntKind.i64.wrap (bt a0 atq134)))))))] ⟨rfl, rfl, rfl, rfl, trivial⟩ (h _ _ _ nv149 hs)
  · refine fi_false rfl (decide_eq_false c135) ?_
    refine fi_exit rfl ?_
    refine fi_seq ?_
    refine fi_seq ?_
    refine fi_region ?_
    refine so_move rfl ?_
    refine sv_len (hs.shows 0 rfl) (fun _ => rfl) (by decide) rfl F29.ti22 ?_
    refine so_bin rfl rfl ab_eql ?_
    refine so_move rfl ?_
    replace h := ofP h; rcases h with ⟨c152, h⟩ | ⟨c152, h⟩
    · refine so_gno rfl (decide_eq_true c152) ?_
      refine so_gno rfl (decide_eq_true c152) ?_
      refine so_gno rfl (decide_eq_true c152) ?_
      refine so_gno rfl (decide_eq_true c152) ?_
      refine so_pick_t rfl (decide_eq_true c152) rfl ?_
      refine so_nil ?_
      refine fi_true rfl rfl ?_
      refine fi_seq ?_
      refine fi_region ?_
      refine so_assign rfl ?_
      refine so_assign rfl ?_
      refine so_nil ?_
      exact by_ret rfl ⟨_, _, h, _, rfl, (Sep.nil (Sep.del 0 hs) 1)⟩
    · refine so_gyes rfl (decide_eq_false c152) ?_
      refine so_move rfl ?_
      refine so_gyes rfl (decide_eq_false c152) ?_
      refine sv_call (impl_packed_ok v132 out131 hs (fun _ hs => (hs.shows 0 rfl)) _ h) rfl rfl nofun ?_
      clear h hs
      rintro _ H154 ⟨y153, h, rfl, hs⟩
      refine so_gyes rfl (decide_eq_false c152) ?_
      refine so_move rfl ?_
      refine so_gyes rfl (decide_eq_false c152) ?_
      refine so_bin rfl rfl ab_sneq ?_
      refine so_pick_f rfl (decide_eq_false c152) rfl ?_
      refine so_nil ?_
      replace h := ofP h; rcases h with ⟨c155, h⟩ | ⟨c155, h⟩
      · refine fi_false rfl (not_f (decide_eq_true c155)) ?_
        refine fi_skip ?_
        refine fi_seq ?_
        refine fi_region ?_
        refine so_move rfl ?_
        refine so_assign rfl ?_
        refine so_assign rfl ?_
        refine so_nil ?_
        exact by_ret rfl ⟨_, _, h, _, rfl, hs⟩
      · refine fi_true rfl (not_t (decide_eq_false c155)) ?_
        refine fi_seq ?_
        refine fi_region ?_
        refine so_assign rfl ?_
        refine so_assign rfl ?_
        refine so_nil ?_
        exact by_ret rfl ⟨_, _, h, _, rfl, (Sep.nil (Sep.del 0 hs) 1)⟩

end Go.Proofs.Ytfieljajhmpbiaa.G

namespace Go.Proofs.Ytfieljajhmpbiaa.G
open Go Go.Ab Go.Proofs Go.Proofs.Ytfieljajhmpbiaa
set_option maxRecDepth 100000
set_option linter.unusedVariables false
set_option linter.unusedSimpArgs false
set_option maxHeartbeats 1000000
theorem F6.sr9 : tstr Try.prog 9 = true := by kernel_rfl
theorem F6.tb4 : tbool Try.prog 4 = true := by kernel_rfl
theorem laws_FnExactUnpackTake_ok {fr : List Pc} {H : Heap} (a0 : List UInt8) (hs : Sep H (fr))  (K : Bool → Prop) (h : laws_FnExactUnpackTake.wp a0 K) : OkQ Try.prog 6 [(.v (.str (pk a0)))] H (fun r H2 => ∃ (y0 : Bool), K y0 ∧ r = (.v (.bool y0)) ∧ Sep H2 (fr)) := by
  unfold laws_FnExactUnpackTake.wp at h
  refine of_body Try.f6 F.hm Try.func6 rfl Try.call6 (by kernel_rfl) (by simp) ?_
  refine fi_seq ?_
  refine fi_region ?_
  refine so_assign rfl ?_
  refine so_nil ?_
  refine fi_seq ?_
  refine fi_seq ?_
  refine fi_region ?_
  refine so_move rfl ?_
  refine so_slen rfl F6.sr9 ?_
  refine so_bin rfl rfl ab_gtr ?_
  refine so_nil ?_
  replace h := ofP h; rcases h with ⟨c101, h⟩ | ⟨c101, h⟩
  · refine fi_true rfl (decide_eq_true c101) ?_
    refine fi_seq ?_
    refine fi_region ?_
    refine so_assign rfl ?_
    refine so_nil ?_
    exact by_ret rfl ⟨_, h, rfl, hs⟩
  · refine fi_false rfl (decide_eq_false c101) ?_
    refine fi_skip ?_
    refine fi_seq ?_
    refine fi_region ?_
    refine so_move rfl ?_
    refine sv_call (spec_UnpackTake_ok a0 hs  _ h) rfl rfl nofun ?_
    clear h hs
    rintro _ H106 ⟨y102, y105, h, v103, rfl, hs⟩
    refine so_move rfl ?_
    refine so_extract rfl rfl rfl ?_
    refine so_extract rfl rfl rfl ?_
    refine so_assign rfl ?_
    refine so_assign rfl ?_
    refine so_nil ?_
    refine fi_seq ?_
    refine fi_region ?_
    refine so_move rfl ?_
    refine sv_call (impl_UnpackTake_ok a0 hs  _ h) rfl rfl nofun ?_
    clear h hs
    rintro _ H111 ⟨y107, y110, h, v108, rfl, hs⟩
    refine so_move rfl ?_
    refine so_extract rfl rfl rfl ?_
    refine so_extract rfl rfl rfl ?_
    refine so_assign rfl ?_
    refine so_assign rfl ?_
    refine so_nil ?_
    refine fi_seq ?_
    refine fi_seq ?_
    refine fi_region ?_
    refine so_move rfl ?_
    refine so_move rfl ?_
    refine sv_call (laws_eqFloat32S_ok v108 y107 v103 y102 hs (fun _ hs => (hs.shows 0 rfl)) (fun _ hs => (hs.shows 1 rfl)) _ h) rfl rfl nofun ?_
    clear h hs
    rintro _ H113 ⟨y112, h, rfl, hs⟩
    refine so_un rfl au_not ?_
    refine so_move rfl ?_
    replace h := ofT h; rcases h with ⟨c114, h⟩ | ⟨c114, h⟩
    · refine so_gyes rfl (not_f c114) ?_
      refine so_move rfl ?_
      refine so_gyes rfl (not_f c114) ?_
      refine so_move rfl ?_
      refine so_gyes rfl (not_f c114) ?_
      refine so_bin rfl rfl (ab_bneq F6.tb4) ?_
      refine so_pick_f rfl (not_f c114) rfl ?_
      refine so_nil ?_
      replace h := ofT h; rcases h with ⟨c115, h⟩ | ⟨c115, h⟩
      · refine fi_false rfl (not_f c115) ?_
        refine fi_skip ?_
        refine fi_seq ?_
        refine fi_region ?_
        refine so_assign rfl ?_
        refine so_nil ?_
        refine fi_seq ?_
        refine fi_region ?_
        refine so_move rfl ?_
        refine so_move rfl ?_
        refine sv_call (laws_markFloat32S_ok v108 y107 (1 : Int) hs  _ h) rfl rfl nofun ?_
        clear h hs
        rintro _ H118 ⟨y116, y117, h, rfl, hs⟩
        refine so_assign rfl ?_
        refine so_nil ?_
        refine fi_seq ?_
        refine fi_region ?_
        refine so_assign rfl ?_
        refine so_nil ?_
        refine fi_seq ?_
        refine fi_region ?_
        refine so_move rfl ?_
        refine so_move rfl ?_
        refine sv_call (laws_heldFloat32S_ok v108 y117 (1 : Int) hs (fun _ hs => (hs.shows 0 rfl)) _ h) rfl rfl nofun ?_
        clear h hs
        rintro _ H120 ⟨y119, h, rfl, hs⟩
        refine so_assign rfl ?_
        refine so_nil ?_
        refine fi_seq ?_
        refine fi_seq ?_
        refine fi_region ?_
        refine so_move rfl ?_
        refine so_bin rfl rfl ab_lss ?_
        refine so_nil ?_
        replace h := ofP h; rcases h with ⟨c121, h⟩ | ⟨c121, h⟩
        · refine fi_true rfl (decide_eq_true c121) ?_
          refine fi_seq ?_
          refine fi_region ?_
          refine so_assign rfl ?_
          refine so_nil ?_
          exact by_ret rfl ⟨_, h, rfl, (Sep.del 0 (Sep.del 0 hs))⟩
        · refine fi_false rfl (decide_eq_false c121) ?_
          refine fi_skip ?_
          refine fi_seq ?_
          refine fi_seq ?_
          refine fi_region ?_
          refine so_move rfl ?_
          refine so_move rfl ?_
          refine so_bin rfl rfl ab_neq ?_
          refine so_nil ?_
          replace h := ofP h; rcases h with ⟨c122, h⟩ | ⟨c122, h⟩
          · refine fi_false rfl (not_f (decide_eq_true c122)) ?_
            refine fi_skip ?_
            refine fi_seq ?_
            refine fi_region ?_
            refine so_move rfl ?_
            refine sv_call (impl_UnpackTake_ok a0 hs  _ h) rfl rfl nofun ?_
            clear h hs
            rintro _ H127 ⟨y123, y126, h, v124, rfl, hs⟩
            refine so_move rfl ?_
            refine so_extract rfl rfl rfl ?_
            refine so_extract rfl rfl rfl ?_
            refine so_assign rfl ?_
            refine so_assign rfl ?_
            refine so_nil ?_
            refine fi_seq ?_
            refine fi_seq ?_
            refine fi_region ?_
            refine so_move rfl ?_
            refine so_move rfl ?_
            refine sv_call (laws_eqFloat32S_ok v124 y123 v103 y102 hs (fun _ hs => (hs.shows 0 rfl)) (fun _ hs => (hs.shows 2 rfl)) _ h) rfl rfl nofun ?_
            clear h hs
            rintro _ H129 ⟨y128, h, rfl, hs⟩
            refine so_un rfl au_not ?_
            refine so_move rfl ?_
            replace h := ofT h; rcases h with ⟨c130, h⟩ | ⟨c130, h⟩
            · refine so_gyes rfl (not_f c130) ?_
              refine so_move rfl ?_
              refine so_gyes rfl (not_f c130) ?_
              refine so_move rfl ?_
              refine so_gyes rfl (not_f c130) ?_
              refine so_bin rfl rfl (ab_bneq F6.tb4) ?_
              refine so_pick_f rfl (not_f c130) rfl ?_
              refine so_nil ?_
              replace h := ofT h; rcases h with ⟨c131, h⟩ | ⟨c131, h⟩
              · refine fi_false rfl (not_f c131) ?_
                refine fi_skip ?_
                refine fi_seq ?_
                refine fi_region ?_
                refine so_assign rfl ?_
                refine so_nil ?_
                refine fi_seq ?_
                refine fi_region ?_
                refine so_move rfl ?_
                refine so_move rfl ?_
                refine sv_call (laws_heldFloat32S_ok v108 y117 (1 : Int) hs (fun _ hs => (hs.shows 1 rfl)) _ h) rfl rfl nofun ?_
                clear h hs
                rintro _ H133 ⟨y132, h, rfl, hs⟩
                refine so_assign rfl ?_
                refine so_nil ?_
                refine fi_seq ?_
                refine fi_seq ?_
                refine fi_region ?_
                refine so_move rfl ?_
                refine so_bin rfl rfl ab_lss ?_
                refine so_nil ?_
                replace h := ofP h; rcases h with ⟨c134, h⟩ | ⟨c134, h⟩
                · refine fi_true rfl (decide_eq_true c134) ?_
                  refine fi_seq ?_
                  refine fi_region ?_
                  refine so_assign rfl ?_
                  refine so_nil ?_
                  exact by_ret rfl ⟨_, h, rfl, (Sep.del 0 (Sep.del 0 (Sep.del 0 hs)))⟩
                · refine fi_false rfl (decide_eq_false c134) ?_
                  refine fi_skip ?_
                  refine fi_seq ?_
                  refine fi_seq ?_
                  refine fi_region ?_
                  refine so_move rfl ?_
                  refine so_move rfl ?_
                  refine so_bin rfl rfl ab_neq ?_
                  refine so_nil ?_
                  replace h := ofP h; rcases h with ⟨c135, h⟩ | ⟨c135, h⟩
                  · refine fi_false rfl (not_f (decide_eq_true c135)) ?_
                    refine fi_skip ?_
                    refine fi_seq ?_
                    refine fi_region ?_
                    refine so_assign rfl ?_
                    refine so_nil ?_
                    exact by_ret rfl ⟨_, h, rfl, (Sep.del 0 (Sep.del 0 (Sep.del 0 hs)))⟩
                  · refine fi_true rfl (not_t (decide_eq_false c135)) ?_
                    refine fi_seq ?_
                    refine fi_region ?_
                    refine so_assign rfl ?_
                    refine so_nil ?_
                    exact by_ret rfl ⟨_, h, rfl, (Sep.del 0 (Sep.del 0 (Sep.del 0 hs)))⟩
              · refine fi_true rfl (not_t c131) ?_
                refine fi_seq ?_
                refine fi_region ?_
                refine so_assign rfl ?_
                refine so_nil ?_
                exact by_ret rfl ⟨_, h, rfl, (Sep.del 0 (Sep.del 0 (Sep.del 0 hs)))⟩
            · refine so_gno rfl (not_t c130) ?_
              refine so_gno rfl (not_t c130) ?_
              refine so_gno rfl (not_t c130) ?_
              refine so_pick_t rfl (not_t c130) rfl ?_
              refine so_nil ?_
              refine fi_true rfl rfl ?_
              refine fi_seq ?_
              refine fi_region ?_
              refine so_assign rfl ?_
              refine so_nil ?_
              exact by_ret rfl ⟨_, h, rfl, (Sep.del 0 (Sep.del 0 (Sep.del 0 hs)))⟩
          · refine fi_true rfl (not_t (decide_eq_false c122)) ?_
            refine fi_seq ?_
            refine fi_region ?_
            refine so_assign rfl ?_
            refine so_nil ?_
            exact by_ret rfl ⟨_, h, rfl, (Sep.del 0 (Sep.del 0 hs))⟩
      · refine fi_true rfl (not_t c115) ?_
        refine fi_seq ?_
        refine fi_region ?_
        refine so_assign rfl ?_
        refine so_nil ?_
        exact by_ret rfl ⟨_, h, rfl, (Sep.del 0 (Sep.del 0 hs))⟩
    · refine so_gno rfl (not_t c114) ?_
      refine so_gno rfl (not_t c114) ?_
      refine so_gno rfl (not_t c114) ?_
      refine so_pick_t rfl (not_t c114) rfl ?_
      refine so_nil ?_
      refine fi_true rfl rfl ?_
      refine fi_seq ?_
      refine fi_region ?_
      refine so_assign rfl ?_
      refine so_nil ?_
      exact by_ret rfl ⟨_, h, rfl, (Sep.del 0 (Sep.del 0 hs))⟩

end Go.Proofs.Ytfieljajhmpbiaa.G

