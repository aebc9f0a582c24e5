/-
  The model ends so. Printed by a program of the session; nothing here is trusted.
-/
import Derived.Test.YtplfnchoooehgaaProg
import Derived.KernelRfl
import Derived.Test.YtplfnchoooehgaaMTreesWa
namespace Go.Proofs.Ytplfnchoooehgaa.F
open Go Go.Ab Go.Proofs
set_option maxRecDepth 100000
set_option linter.unusedVariables false
set_option linter.unusedSimpArgs false
set_option maxHeartbeats 1000000
theorem hm : Try.prog.follows .mixedOrders = true := by kernel_rfl
end Go.Proofs.Ytplfnchoooehgaa.F

namespace Go.Proofs.Ytplfnchoooehgaa.G
open Go Go.Ab Go.Proofs Go.Proofs.Ytplfnchoooehgaa
set_option maxRecDepth 100000
set_option linter.unusedVariables false
set_option linter.unusedSimpArgs false
set_option maxHeartbeats 1000000
theorem F22.ti42 : (telem Try.prog 42).isSome = true := by kernel_rfl
theorem laws_r8Long_ok {fr : List Pc} {H : Heap} (v0 : AV) (l0 : List (Int)) (v1 : AV) (l1 : List (Int)) (hs : Sep H (fr)) (g0 : ∀ H, Sep H fr → Shows H v0 1 (enc (eInt .u8) l0)) (g1 : ∀ H, Sep H fr → Shows H v1 1 (enc (eInt .u8) l1)) (K : Bool → Prop) (h : laws_r8Long.wp l0 l1 K) : OkQ Try.prog 22 [(.v v0), (.v v1)] H (fun r H2 => ∃ (y0 : Bool), K y0 ∧ r = (.v (.bool y0)) ∧ H = H2) := by
  unfold laws_r8Long.wp at h
  refine of_body Try.f22 F.hm Try.func22 rfl Try.call22 (by kernel_rfl) (by simp) ?_
  refine fi_seq ?_
  refine fi_region ?_
  refine so_assign rfl ?_
  refine so_nil ?_
  refine fi_seq ?_
  refine fi_region ?_
  refine so_move rfl ?_
  refine sv_len (g0 _ hs) (fun _ => rfl) (by decide) rfl F22.ti42 ?_
  refine so_bin rfl rfl ab_gtr ?_
  refine so_move rfl ?_
  replace h := ofP h; rcases h with ⟨c101, h⟩ | ⟨c101, h⟩
  · refine so_gno rfl (decide_eq_true c101) ?_
    refine so_gno rfl (decide_eq_true c101) ?_
    refine so_gno rfl (decide_eq_true c101) ?_
    refine so_pick_t rfl (decide_eq_true c101) rfl ?_
    refine so_assign rfl ?_
    refine so_nil ?_
    exact by_ret rfl ⟨_, h, rfl, rfl⟩
  · refine so_gyes rfl (decide_eq_false c101) ?_
    refine so_move rfl ?_
    refine so_gyes rfl (decide_eq_false c101) ?_
    refine sv_len (g1 _ hs) (fun _ => rfl) (by decide) rfl F22.ti42 ?_
    refine so_gyes rfl (decide_eq_false c101) ?_
    refine so_bin rfl rfl ab_gtr ?_
    refine so_pick_f rfl (decide_eq_false c101) rfl ?_
    refine so_assign rfl ?_
    refine so_nil ?_
    exact by_ret rfl ⟨_, h, rfl, rfl⟩

end Go.Proofs.Ytplfnchoooehgaa.G

namespace Go.Proofs.Ytplfnchoooehgaa.G
open Go Go.Ab Go.Proofs Go.Proofs.Ytplfnchoooehgaa
set_option maxRecDepth 100000
set_option linter.unusedVariables false
set_option linter.unusedSimpArgs false
set_option maxHeartbeats 1000000
theorem F48.bp75 : bplan Try.prog 75 = some ([.nilsl, (.int .i64 (0 : Int)), (.int .u64 (0 : Int))], [(0, 1), (1, 1), (2, 1)]) := by kernel_rfl
theorem F48.inf75 : (Try.prog.info? 75).isSome = true := by kernel_rfl
theorem spec_l00From_ok {fr : List Pc} {H : Heap} (v0 : AV) (l0 : List (Int)) (hs : Sep H (fr)) (g0 : ∀ H, Sep H fr → Shows H v0 1 (enc (eInt .u8) l0)) (K : Bool → Int → Int → Prop) (h : spec_l00From.wp l0 K) : OkQ Try.prog 48 [(.v v0)] H (fun r H2 => ∃ (y0 : Bool) (y1 : Int) (y2 : Int), K y0 y1 y2 ∧ ∃ (w0_ : Nat), r = (.v (.ptr w0_ 0)) ∧ Sep H2 (Pc.box w0_ [(bif y0 then v0 else .nilsl), (.int .i64 y1), (.int .u64 y2)] :: fr)) := by
  unfold spec_l00From.wp at h
  refine of_body Try.f48 F.hm Try.func48 rfl Try.call48 (by kernel_rfl) (by simp) ?_
  refine fi_seq ?_
  refine fi_region ?_
  refine so_assign rfl ?_
  refine so_nil ?_
  refine fi_seq ?_
  refine fi_region ?_
  refine so_move rfl ?_
  refine so_build F48.bp75 (cps := [(0, [v0])]) rfl (fac (stc (g0 _ hs).stor stn) fan) rfl ?_
  refine sv_box hs rfl (c := [v0, (.int .i64 (0 : Int)), (.int .u64 (0 : Int))]) rfl F48.inf75 (stc (g0 _ hs).stor (stc rfl (stc rfl stn))) nofun (fun id101 H102 hs => ?_)
  refine so_assign rfl ?_
  refine so_nil ?_
  exact by_ret rfl ⟨_, _, _, h, _, rfl, hs⟩

end Go.Proofs.Ytplfnchoooehgaa.G

namespace Go.Proofs.Ytplfnchoooehgaa.G
open Go Go.Ab Go.Proofs Go.Proofs.Ytplfnchoooehgaa
set_option maxRecDepth 100000
set_option linter.unusedVariables false
set_option linter.unusedSimpArgs false
set_option maxHeartbeats 1000000
theorem F61.ag3 : tagg Try.prog 3 = some false := by kernel_rfl
theorem F61.ag42 : tagg Try.prog 42 = some false := by kernel_rfl
theorem F61.ag5 : tagg Try.prog 5 = some false := by kernel_rfl
theorem F61.ag73 : tagg Try.prog 73 = some false := by kernel_rfl
theorem F61.fd75_0 : tfield Try.prog 75 0 = some (0, 1, false) := by kernel_rfl
theorem F61.fd75_1 : tfield Try.prog 75 1 = some (1, 1, false) := by kernel_rfl
theorem F61.fd75_2 : tfield Try.prog 75 2 = some (2, 1, false) := by kernel_rfl
theorem F61.it2 : tint Try.prog 2 = some .i64 := by kernel_rfl
theorem F61.it3 : tint Try.prog 3 = some .i64 := by kernel_rfl
theorem F61.it73 : tint Try.prog 73 = some .u64 := by kernel_rfl
theorem F61.sz3 : tsz Try.prog 3 = some 1 := by kernel_rfl
theorem F61.sz73 : tsz Try.prog 73 = some 1 := by kernel_rfl
theorem F61.ti42 : (telem Try.prog 42).isSome = true := by kernel_rfl
theorem F61.tl42 : (telem Try.prog 42).bind (tsz Try.prog) = some 1 := by kernel_rfl
theorem F61.us3 : (Try.prog.underlying 3).isSome = true := by kernel_rfl
theorem F61.us5 : (Try.prog.underlying 5).isSome = true := by kernel_rfl
theorem F61.us73 : (Try.prog.underlying 73).isSome = true := by kernel_rfl
theorem spec_l00Src_next_ok {fr : List Pc} {H : Heap} (i0 : Nat) (v0 : AV) (l0 : List (Int)) (a1 : Int) (a2 : Int) (hs : Sep H (Pc.box i0 [v0, (.int .i64 a1), (.int .u64 a2)] :: fr)) (g0 : ∀ H, Sep H fr → Shows H v0 1 (enc (eInt .u8) l0)) (K : Int → Int → Int → Prop) (h : spec_l00Src_next.wp l0 a1 a2 K) : OkQ Try.prog 61 [(.v (.ptr i0 0))] H (fun r H2 => ∃ (y0 : Int) (y1 : Int) (y2 : Int), K y0 y1 y2 ∧ r = (.v (.int .i64 y0)) ∧ Sep H2 (Pc.box i0 [v0, (.int .i64 y1), (.int .u64 y2)] :: fr)) := by
  unfold spec_l00Src_next.wp at h
  refine of_body Try.f61 F.hm Try.func61 rfl Try.call61 (by kernel_rfl) (by simp) ?_
  refine fi_seq ?_
  refine fi_region ?_
  refine so_assign rfl ?_
  refine so_nil ?_
  refine fi_seq ?_
  refine fi_region ?_
  refine so_assign rfl ?_
  refine so_nil ?_
  refine fi_seq ?_
  refine fi_seq ?_
  refine fi_region ?_
  refine so_move rfl ?_
  refine so_nilCheck rfl ?_
  refine so_fieldAddr rfl F61.fd75_1 ?_
  refine sv_ld hs 0 rfl rfl rfl F61.ag3 ?_
  refine so_move rfl ?_
  refine so_nilCheck rfl ?_
  refine so_fieldAddr rfl F61.fd75_0 ?_
  refine sv_ld hs 0 rfl rfl rfl F61.ag42 ?_
  refine sv_len (g0 _ hs.tl) (fun _ => rfl) (by decide) rfl F61.ti42 ?_
  refine so_bin rfl rfl ab_lss ?_
  refine so_nil ?_
  replace h := ofP h; rcases h with ⟨c102, h⟩ | ⟨c102, h⟩
  · refine fi_true rfl (decide_eq_true c102) ?_
    refine fi_region ?_
    refine so_move rfl ?_
    refine so_nilCheck rfl ?_
    refine so_fieldAddr rfl F61.fd75_0 ?_
    refine sv_ld hs 0 rfl rfl rfl F61.ag42 ?_
    refine so_move rfl ?_
    refine so_nilCheck rfl ?_
    refine so_fieldAddr rfl F61.fd75_1 ?_
    refine sv_ld hs 0 rfl rfl rfl F61.ag3 ?_
    obtain ⟨c103, h⟩ := h
    refine sv_idx (g0 _ hs.tl) c103 (fun _ => rfl) (by decide) rfl rfl F61.tl42 ?_
    refine sv_cell (g0 _ hs.tl) c103 (0 : Int) 0 (fun x => (AV.int .u8 x)) (fun _ => rfl) (fun _ => rfl) rfl F61.ag5 ?_
    refine sv_ii rfl F61.us5 F61.it3 ?_
    refine so_assign rfl ?_
    refine so_nil ?_
    refine fi_seq ?_
    refine fi_region ?_
    refine so_move rfl ?_
    refine so_nilCheck rfl ?_
    refine so_fieldAddr rfl F61.fd75_1 ?_
    refine sv_ld hs 0 rfl rfl rfl F61.ag3 ?_
    refine so_bin rfl rfl ab_add ?_
    refine so_nilCheck rfl ?_
    refine so_fieldAddr rfl F61.fd75_1 ?_
    refine sv_st hs 0 rfl rfl rfl (c := [(.int .i64 (IntKind.i64.wrap (a1 + (1 : Int))))]) rfl F61.sz3 rfl (stc rfl stn) (leb rfl) (cs' := [v0, (.int .i64 (IntKind.i64.wrap (a1 + (1 : Int)))), (.int .u64 a2)]) rfl nofun (fun H104 hs => ?_)
    refine so_nil ?_
    refine fi_seq ?_
    refine fi_region ?_
    refine so_move rfl ?_
    refine so_move rfl ?_
    refine so_nilCheck rfl ?_
    refine so_fieldAddr rfl F61.fd75_2 ?_
    refine sv_ld hs 0 rfl rfl rfl F61.ag73 ?_
    refine so_bin rfl rfl ab_mul ?_
    refine so_move rfl ?_
    refine sv_ii rfl F61.us3 F61.it73 ?_
    refine so_bin rfl rfl ab_add ?_
    refine so_bin rfl rfl ab_add ?_
    refine so_nilCheck rfl ?_
    refine so_fieldAddr rfl F61.fd75_2 ?_
    refine sv_st hs 0 rfl rfl rfl (c := [(.int .u64 (IntKind.u64.wrap ((IntKind.u64.wrap ((IntKind.u64.wrap (a2 * (6364136223846793005 : Int))) + (IntKind.u64.wrap (IntKind.i64.wrap (l0.getD (a1).toNat (0 : Int)))))) + (1442695040888963407 : Int))))]) rfl F61.sz73 rfl (stc rfl stn) (leb rfl) (cs' := [v0, (.int .i64 (IntKind.i64.wrap (a1 + (1 : Int)))), (.int .u64 (IntKind.u64.wrap ((IntKind.u64.wrap ((IntKind.u64.wrap (a2 * (6364136223846793005 : Int))) + (IntKind.u64.wrap (IntKind.i64.wrap (l0.getD (a1).toNat (0 : Int)))))) + (1442695040888963407 : Int))))]) rfl nofun (fun H105 hs => ?_)
    refine so_nil ?_
    refine fi_seq ?_
    refine fi_seq ?_
    refine fi_region ?_
    refine so_move rfl ?_
    refine so_nilCheck rfl ?_
    refine so_fieldAddr rfl F61.fd75_1 ?_
    refine sv_ld hs 0 rfl rfl rfl F61.ag3 ?_
    refine so_move rfl ?_
    refine so_nilCheck rfl ?_
    refine so_fieldAddr rfl F61.fd75_0 ?_
    refine sv_ld hs 0 rfl rfl rfl F61.ag42 ?_
    refine sv_len (g0 _ hs.tl) (fun _ => rfl) (by decide) rfl F61.ti42 ?_
    refine so_bin rfl rfl ab_leq ?_
    refine so_nil ?_
    replace h := ofP h; rcases h with ⟨c106, h⟩ | ⟨c106, h⟩
    · refine fi_true rfl (decide_eq_true c106) ?_
      refine fi_seq ?_
      refine fi_region ?_
      refine so_move rfl ?_
      refine so_assign rfl ?_
      refine so_nil ?_
      exact by_ret rfl ⟨_, _, _, h, rfl, hs⟩
    · refine fi_false rfl (decide_eq_false c106) ?_
      refine fi_skip ?_
      refine fi_seq ?_
      refine fi_region ?_
      refine so_move rfl ?_
      refine so_nilCheck rfl ?_
      refine so_fieldAddr rfl F61.fd75_2 ?_
      refine sv_ld hs 0 rfl rfl rfl F61.ag73 ?_
      refine so_bin rfl rfl (ab_shr (by decide)) ?_
      refine so_bin rfl rfl ab_and ?_
      refine sv_ii rfl F61.us73 F61.it2 ?_
      refine so_assign rfl ?_
      refine so_nil ?_
      exact by_ret rfl ⟨_, _, _, h, rfl, hs⟩
  · refine fi_false rfl (decide_eq_false c102) ?_
    refine fi_skip ?_
    refine fi_seq ?_
    refine fi_region ?_
    refine so_move rfl ?_
    refine so_nilCheck rfl ?_
    refine so_fieldAddr rfl F61.fd75_1 ?_
    refine sv_ld hs 0 rfl rfl rfl F61.ag3 ?_
    refine so_bin rfl rfl ab_add ?_
    refine so_nilCheck rfl ?_
    refine so_fieldAddr rfl F61.fd75_1 ?_
    refine sv_st hs 0 rfl rfl rfl (c := [(.int .i64 (IntKind.i64.wrap (a1 + (1 : Int))))]) rfl F61.sz3 rfl (stc rfl stn) (leb rfl) (cs' := [v0, (.int .i64 (IntKind.i64.wrap (a1 + (1 : Int)))), (.int .u64 a2)]) rfl nofun (fun H107 hs => ?_)
    refine so_nil ?_
    refine fi_seq ?_
    refine fi_region ?_
    refine so_move rfl ?_
    refine so_move rfl ?_
    refine so_nilCheck rfl ?_
    refine so_fieldAddr rfl F61.fd75_2 ?_
    refine sv_ld hs 0 rfl rfl rfl F61.ag73 ?_
    refine so_bin rfl rfl ab_mul ?_
    refine so_move rfl ?_
    refine sv_ii rfl F61.us3 F61.it73 ?_
    refine so_bin rfl rfl ab_add ?_
    refine so_bin rfl rfl ab_add ?_
    refine so_nilCheck rfl ?_
    refine so_fieldAddr rfl F61.fd75_2 ?_
    refine sv_st hs 0 rfl rfl rfl (c := [(.int .u64 (IntKind.u64.wrap ((IntKind.u64.wrap ((IntKind.u64.wrap (a2 * (6364136223846793005 : Int))) + (IntKind.u64.wrap (0 : Int)))) + (1442695040888963407 : Int))))]) rfl F61.sz73 rfl (stc rfl stn) (leb rfl) (cs' := [v0, (.int .i64 (IntKind.i64.wrap (a1 + (1 : Int)))), (.int .u64 (IntKind.u64.wrap ((IntKind.u64.wrap ((IntKind.u64.wrap (a2 * (6364136223846793005 : Int))) + (IntKind.u64.wrap (0 : Int)))) + (1442695040888963407 : Int))))]) rfl nofun (fun H108 hs => ?_)
    refine so_nil ?_
    refine fi_seq ?_
    refine fi_seq ?_
    refine fi_region ?_
    refine so_move rfl ?_
    refine so_nilCheck rfl ?_
    refine so_fieldAddr rfl F61.fd75_1 ?_
    refine sv_ld hs 0 rfl rfl rfl F61.ag3 ?_
    refine so_move rfl ?_
    refine so_nilCheck rfl ?_
    refine so_fieldAddr rfl F61.fd75_0 ?_
    refine sv_ld hs 0 rfl rfl rfl F61.ag42 ?_
    refine sv_len (g0 _ hs.tl) (fun _ => rfl) (by decide) rfl F61.ti42 ?_
    refine so_bin rfl rfl ab_leq ?_
    refine so_nil ?_
    replace h := ofP h; rcases h with ⟨c109, h⟩ | ⟨c109, h⟩
    · refine fi_true rfl (decide_eq_true c109) ?_
      refine fi_seq ?_
      refine fi_region ?_
      refine so_move rfl ?_
      refine so_assign rfl ?_
      refine so_nil ?_
      exact by_ret rfl ⟨_, _, _, h, rfl, hs⟩
    · refine fi_false rfl (decide_eq_false c109) ?_
      refine fi_skip ?_
      refine fi_seq ?_
      refine fi_region ?_
      refine so_move rfl ?_
      refine so_nilCheck rfl ?_
      refine so_fieldAddr rfl F61.fd75_2 ?_
      refine sv_ld hs 0 rfl rfl rfl F61.ag73 ?_
      refine so_bin rfl rfl (ab_shr (by decide)) ?_
      refine so_bin rfl rfl ab_and ?_
      refine sv_ii rfl F61.us73 F61.it2 ?_
      refine so_assign rfl ?_
      refine so_nil ?_
      exact by_ret rfl ⟨_, _, _, h, rfl, hs⟩

end Go.Proofs.Ytplfnchoooehgaa.G

namespace Go.Proofs.Ytplfnchoooehgaa.G
open Go Go.Ab Go.Proofs Go.Proofs.Ytplfnchoooehgaa
set_option maxRecDepth 100000
set_option linter.unusedVariables false
set_option linter.unusedSimpArgs false
set_option maxHeartbeats 1000000
theorem spec_l00Src_pick_ok {fr : List Pc} {H : Heap} (i0 : Nat) (v0 : AV) (l0 : List (Int)) (a1 : Int) (a2 : Int) (a3 : Int) (hs : Sep H (Pc.box i0 [v0, (.int .i64 a1), (.int .u64 a2)] :: fr)) (g0 : ∀ H, Sep H fr → Shows H v0 1 (enc (eInt .u8) l0)) (K : Int → Int → Int → Prop) (h : spec_l00Src_pick.wp l0 a1 a2 a3 K) : OkQ Try.prog 49 [(.v (.ptr i0 0)), (.v (.int .i64 a3))] H (fun r H2 => ∃ (y0 : Int) (y1 : Int) (y2 : Int), K y0 y1 y2 ∧ r = (.v (.int .i64 y0)) ∧ Sep H2 (Pc.box i0 [v0, (.int .i64 y1), (.int .u64 y2)] :: fr)) := by
  unfold spec_l00Src_pick.wp at h
  refine of_body Try.f49 F.hm Try.func49 rfl Try.call49 (by kernel_rfl) (by simp) ?_
  refine fi_seq ?_
  refine fi_region ?_
  refine so_assign rfl ?_
  refine so_nil ?_
  refine fi_seq ?_
  refine fi_seq ?_
  refine fi_region ?_
  refine so_move rfl ?_
  refine so_bin rfl rfl ab_leq ?_
  refine so_nil ?_
  replace h := ofP h; rcases h with ⟨c102, h⟩ | ⟨c102, h⟩
  · refine fi_true rfl (decide_eq_true c102) ?_
    refine fi_seq ?_
    refine fi_region ?_
    refine so_assign rfl ?_
    refine so_nil ?_
    exact by_ret rfl ⟨_, _, _, h, rfl, hs⟩
  · refine fi_false rfl (decide_eq_false c102) ?_
    refine fi_skip ?_
    refine fi_seq ?_
    refine fi_region ?_
    refine so_move rfl ?_
    refine sv_call (spec_l00Src_next_ok i0 v0 l0 a1 a2 hs (fun _ hs => (g0 _ hs)) _ h) rfl rfl nofun ?_
    clear h hs
    rintro _ H106 ⟨y103, y104, y105, h, rfl, hs⟩
    refine so_assign rfl ?_
    refine so_nil ?_
    refine fi_seq ?_
    refine fi_seq ?_
    refine fi_region ?_
    refine so_move rfl ?_
    refine so_bin rfl rfl ab_gtr ?_
    refine so_nil ?_
    replace h := ofP h; rcases h with ⟨c107, h⟩ | ⟨c107, h⟩
    · refine fi_true rfl (decide_eq_true c107) ?_
      refine fi_region ?_
      refine so_move rfl ?_
      refine so_bin rfl rfl ab_mul ?_
      refine so_move rfl ?_
      refine sv_call (spec_l00Src_next_ok i0 v0 l0 y104 y105 hs (fun _ hs => (g0 _ hs)) _ h) rfl rfl nofun ?_
      clear h hs
      rintro _ H111 ⟨y108, y109, y110, h, rfl, hs⟩
      refine so_bin rfl rfl ab_add ?_
      refine so_assign rfl ?_
      refine so_nil ?_
      refine fi_seq ?_
      refine fi_region ?_
      refine so_move rfl ?_
      refine so_move rfl ?_
      obtain ⟨c112, h⟩ := h
      refine so_bin rfl rfl (ab_rem c112) ?_
      refine so_assign rfl ?_
      refine so_nil ?_
      exact by_ret rfl ⟨_, _, _, h, rfl, hs⟩
    · refine fi_false rfl (decide_eq_false c107) ?_
      refine fi_skip ?_
      refine fi_seq ?_
      refine fi_region ?_
      refine so_move rfl ?_
      refine so_move rfl ?_
      obtain ⟨c113, h⟩ := h
      refine so_bin rfl rfl (ab_rem c113) ?_
      refine so_assign rfl ?_
      refine so_nil ?_
      exact by_ret rfl ⟨_, _, _, h, rfl, hs⟩

end Go.Proofs.Ytplfnchoooehgaa.G

namespace Go.Proofs.Ytplfnchoooehgaa.G
open Go Go.Ab Go.Proofs Go.Proofs.Ytplfnchoooehgaa
set_option maxRecDepth 100000
set_option linter.unusedVariables false
set_option linter.unusedSimpArgs false
set_option maxHeartbeats 1000000
theorem F23.sz2 : tsz Try.prog 2 = some 1 := by kernel_rfl
theorem F23.ta22_22 : tapp Try.prog 22 22 = some (1, 8) := by kernel_rfl
theorem F23.te22 : telem Try.prog 22 = some 2 := by kernel_rfl
theorem F23.ze2 : tzero Try.prog 2 = some [(.int .i64 (0 : Int))] := by kernel_rfl
theorem spec_R8Integers_ok {fr : List Pc} {H : Heap} (v0 : AV) (l0 : List (Int)) (hs : Sep H (fr)) (g0 : ∀ H, Sep H fr → Shows H v0 1 (enc (eInt .u8) l0)) (K : (List (Int)) → Prop) (h : spec_R8Integers.wp l0 K) : OkQ Try.prog 23 [(.v v0)] H (fun r H2 => ∃ (y0 : List (Int)), K y0 ∧ ∃ (w0_ : AV), r = (.v w0_) ∧ Sep H2 (Pc.osl w0_ 1 (enc (eInt .i64) y0) :: fr)) := by
  unfold spec_R8Integers.wp at h
  refine of_body Try.f23 F.hm Try.func23 rfl Try.call23 (by kernel_rfl) (by simp) ?_
  refine fi_seq ?_
  refine fi_region ?_
  refine so_assign rfl ?_
  refine so_nil ?_
  refine fi_seq ?_
  refine fi_region ?_
  refine so_move rfl ?_
  refine sv_call (spec_l00From_ok v0 l0 hs (fun _ hs => (g0 _ hs)) _ h) rfl rfl nofun ?_
  clear h hs
  rintro _ H106 ⟨y101, y102, y103, h, i104, rfl, hs⟩
  replace h := ofT h; rcases h with ⟨c107, h⟩ | ⟨c107, h⟩
  · subst c107
    refine so_assign rfl ?_
    refine so_nil ?_
    refine fi_seq ?_
    refine fi_region ?_
    refine sv_bslice hs (eInt .i64) ([] : List (Int)) [] F23.te22 F23.sz2 F23.ze2 rfl rfl rfl rfl (fun _ => rfl) rfl (by decide) nofun (fun v108 H109 nv108 hs => ?_)
    refine so_assign rfl ?_
    refine so_nil ?_
    refine fi_seq ?_
    refine fi_seq ?_
    refine fi_region ?_
    refine so_move rfl ?_
    replace hs := (Sep.front 1 hs rfl)
    refine sv_call (spec_l00Src_pick_ok i104 v0 l0 y102 y103 (16 : Int) hs (fun _ hs => (g0 _ hs.tl)) _ h) rfl rfl nofun ?_
    clear h hs
    rintro _ H114 ⟨y111, y112, y113, h, rfl, hs⟩
    refine so_bin rfl rfl ab_add ?_
    refine so_assign rfl ?_
    refine so_nil ?_
    refine fi_block ?_
    refine fi_loop ?_
    refine fi_at [(3, (.v (.ptr i104 0))), (4, (.v v108)), (5, (.v (.int .i64 (IntKind.i64.wrap ((1 : Int) + y111)))))] ⟨rfl, rfl, rfl, trivial⟩ ?_
    refine h (fun (out131 : List (Int)) (b133 : Int) (b134 : Int) (n135 : Int) => ∀ (s : Nat → TV) (H : Heap) (v132 : AV) (nv132 : v132 ≠ .nilsl), Sep H (Pc.box i104 [v0, (.int .i64 b133), (.int .u64 b134)] :: Pc.osl v132 1 (enc (eInt .i64) out131) :: fr) → Fin _ _ (updL s [(3, (.v (.ptr i104 0))), (4, (.v v132)), (5, (.v (.int .i64 n135)))]) H _) ?_ _ _ _ nv108 hs
    intro out131 b133 b134 n135 h s147 H148 v132 nv132 hs
    refine fi_inLoop ?_
    refine fi_seq ?_
    refine fi_seq ?_
    refine fi_region ?_
    refine so_move rfl ?_
    refine so_bin rfl rfl ab_gtr ?_
    refine so_nil ?_
    replace h := ofP h; rcases h with ⟨c136, h⟩ | ⟨c136, h⟩
    · refine fi_true rfl (decide_eq_true c136) ?_
      refine fi_skip ?_
      refine fi_seq ?_
      refine fi_block ?_
      refine fi_region ?_
      refine so_move rfl ?_
      refine so_move rfl ?_
      refine sv_call (spec_l00Src_pick_ok i104 v0 l0 b133 b134 (201 : Int) hs (fun _ hs => (g0 _ hs.tl)) _ h) rfl rfl nofun ?_
      clear h hs
      rintro _ H140 ⟨y137, y138, y139, h, rfl, hs⟩
      refine so_bin rfl rfl ab_sub ?_
      refine sv_bslice hs (eInt .i64) ([(IntKind.i64.wrap (y137 - (100 : Int)))] : List (Int)) [[(.int .i64 (IntKind.i64.wrap (y137 - (100 : Int))))]] F23.te22 F23.sz2 F23.ze2 rfl rfl rfl rfl (fun _ => rfl) rfl (by decide) nofun (fun v141 H142 nv141 hs => ?_)
      obtain ⟨c146, h⟩ := h
      refine sv_app hs 2 rfl (hs.shows 0 rfl) (fun _ => rfl) (by decide) F23.ta22_22 (by decide) c146 rfl rfl nofun (fun v144 H145 kv144 hs => ?_)
      replace hs := hs.del 0
      have nv144 := kv144 nv132
      refine so_assign rfl ?_
      refine so_nil ?_
      refine fi_inBlock ?_
      refine fi_region ?_
      refine so_move rfl ?_
      refine so_bin rfl rfl ab_sub ?_
      refine so_assign rfl ?_
      refine so_nil ?_
      exact fi_at [(3, (.v (.ptr i104 0))), (4, (.v v144)), (5, (.v (.int .i64 (IntKind.i64.wrap (n135 - (1 : Int))))))] ⟨rfl, rfl, rfl, trivial⟩ (h _ _ _ nv144 hs)
    · refine fi_false rfl (decide_eq_false c136) ?_
      refine fi_exit rfl ?_
      refine fi_seq ?_
      refine fi_region ?_
      refine so_move rfl ?_
      refine so_assign rfl ?_
      refine so_nil ?_
      exact by_ret rfl ⟨_, h, _, rfl, (Sep.del 0 hs)⟩
  · subst c107
    refine so_assign rfl ?_
    refine so_nil ?_
    refine fi_seq ?_
    refine fi_region ?_
    refine sv_bslice hs (eInt .i64) ([] : List (Int)) [] F23.te22 F23.sz2 F23.ze2 rfl rfl rfl rfl (fun _ => rfl) rfl (by decide) nofun (fun v149 H150 nv149 hs => ?_)
    refine so_assign rfl ?_
    refine so_nil ?_
    refine fi_seq ?_
    refine fi_seq ?_
    refine fi_region ?_
    refine so_move rfl ?_
    replace hs := (Sep.front 1 hs rfl)
    refine sv_call (spec_l00Src_pick_ok i104 .nilsl ([] : List (Int)) y102 y103 (16 : Int) hs (fun _ hs => (.inl ⟨rfl, rfl⟩ : Shows _ .nilsl 1 (enc (eInt .u8) []))) _ h) rfl rfl nofun ?_
    clear h hs
    rintro _ H155 ⟨y152, y153, y154, h, rfl, hs⟩
    refine so_bin rfl rfl ab_add ?_
    refine so_assign rfl ?_
    refine so_nil ?_
    refine fi_block ?_
    refine fi_loop ?_
    replace hs := hs.nil 1
    refine fi_at [(3, (.v (.ptr i104 0))), (4, (.v v149)), (5, (.v (.int .i64 (IntKind.i64.wrap ((1 : Int) + y152)))))] ⟨rfl, rfl, rfl, trivial⟩ ?_
    refine h (fun (out172 : List (Int)) (b175 : List (Int)) (b177 : Int) (b178 : Int) (n179 : Int) => ∀ (s : Nat → TV) (H : Heap) (v173 : AV) (nv173 : v173 ≠ .nilsl) (v176 : AV), Sep H (Pc.osl v176 1 (enc (eInt .u8) b175) :: Pc.box i104 [v176, (.int .i64 b177), (.int .u64 b178)] :: Pc.osl v173 1 (enc (eInt .i64) out172) :: fr) → Fin _ _ (updL s [(3, (.v (.ptr i104 0))), (4, (.v v173)), (5, (.v (.int .i64 n179)))]) H _) ?_ _ _ _ nv149 _ hs
    intro out172 b175 b177 b178 n179 h s191 H192 v173 nv173 v176 hs
    refine fi_inLoop ?_
    refine fi_seq ?_
    refine fi_seq ?_
    refine fi_region ?_
    refine so_move rfl ?_
    refine so_bin rfl rfl ab_gtr ?_
    refine so_nil ?_
    replace h := ofP h; rcases h with ⟨c180, h⟩ | ⟨c180, h⟩
    · refine fi_true rfl (decide_eq_true c180) ?_
      refine fi_skip ?_
      refine fi_seq ?_
      refine fi_block ?_
      refine fi_region ?_
      refine so_move rfl ?_
      refine so_move rfl ?_
      replace hs := (Sep.front 1 hs rfl)
      refine sv_call (spec_l00Src_pick_ok i104 v176 b175 b177 b178 (201 : Int) hs (fun _ hs => (hs.shows 0 rfl)) _ h) rfl rfl nofun ?_
      clear h hs
      rintro _ H184 ⟨y181, y182, y183, h, rfl, hs⟩
      refine so_bin rfl rfl ab_sub ?_
      refine sv_bslice hs (eInt .i64) ([(IntKind.i64.wrap (y181 - (100 : Int)))] : List (Int)) [[(.int .i64 (IntKind.i64.wrap (y181 - (100 : Int))))]] F23.te22 F23.sz2 F23.ze2 rfl rfl rfl rfl (fun _ => rfl) rfl (by decide) nofun (fun v185 H186 nv185 hs => ?_)
      obtain ⟨c190, h⟩ := h
      refine sv_app hs 3 rfl (hs.shows 0 rfl) (fun _ => rfl) (by decide) F23.ta22_22 (by decide) c190 rfl rfl nofun (fun v188 H189 kv188 hs => ?_)
      replace hs := hs.del 0
      have nv188 := kv188 nv173
      refine so_assign rfl ?_
      refine so_nil ?_
      refine fi_inBlock ?_
      refine fi_region ?_
      refine so_move rfl ?_
      refine so_bin rfl rfl ab_sub ?_
      refine so_assign rfl ?_
      refine so_nil ?_
      exact fi_at [(3, (.v (.ptr i104 0))), (4, (.v v188)), (5, (.v (.int .i64 (IntKind.i64.wrap (n179 - (1 : Int))))))] ⟨rfl, rfl, rfl, trivial⟩ (h _ _ _ nv188 _ (Sep.front 2 (Sep.front 1 (Sep.front 2 hs rfl) rfl) rfl))
    · refine fi_false rfl (decide_eq_false c180) ?_
      refine fi_exit rfl ?_
      refine fi_seq ?_
      refine fi_region ?_
      refine so_move rfl ?_
      refine so_assign rfl ?_
      refine so_nil ?_
      exact by_ret rfl ⟨_, h, _, rfl, (Sep.del 0 (Sep.del 0 hs))⟩

end Go.Proofs.Ytplfnchoooehgaa.G

namespace Go.Proofs.Ytplfnchoooehgaa.G
open Go Go.Ab Go.Proofs Go.Proofs.Ytplfnchoooehgaa
set_option maxRecDepth 100000
set_option linter.unusedVariables false
set_option linter.unusedSimpArgs false
set_option maxHeartbeats 1000000
theorem F24.ag5 : tagg Try.prog 5 = some false := by kernel_rfl
theorem F24.it2 : tint Try.prog 2 = some .i64 := by kernel_rfl
theorem F24.ti42 : (telem Try.prog 42).isSome = true := by kernel_rfl
theorem F24.tl42 : (telem Try.prog 42).bind (tsz Try.prog) = some 1 := by kernel_rfl
theorem F24.us5 : (Try.prog.underlying 5).isSome = true := by kernel_rfl
theorem laws_r8At_ok {fr : List Pc} {H : Heap} (v0 : AV) (l0 : List (Int)) (a1 : Int) (a2 : Int) (hs : Sep H (fr)) (g0 : ∀ H, Sep H fr → Shows H v0 1 (enc (eInt .u8) l0)) (K : Int → Prop) (h : laws_r8At.wp l0 a1 a2 K) : OkQ Try.prog 24 [(.v v0), (.v (.int .i64 a1)), (.v (.int .i64 a2))] H (fun r H2 => ∃ (y0 : Int), K y0 ∧ r = (.v (.int .i64 y0)) ∧ H = H2) := by
  unfold laws_r8At.wp at h
  refine of_body Try.f24 F.hm Try.func24 rfl Try.call24 (by kernel_rfl) (by simp) ?_
  refine fi_seq ?_
  refine fi_region ?_
  refine so_assign rfl ?_
  refine so_nil ?_
  refine fi_seq ?_
  refine fi_seq ?_
  refine fi_region ?_
  refine so_move rfl ?_
  refine so_bin rfl rfl ab_leq ?_
  refine so_move rfl ?_
  replace h := ofP h; rcases h with ⟨c101, h⟩ | ⟨c101, h⟩
  · refine so_gno rfl (decide_eq_true c101) ?_
    refine so_gno rfl (decide_eq_true c101) ?_
    refine so_gno rfl (decide_eq_true c101) ?_
    refine so_gno rfl (decide_eq_true c101) ?_
    refine so_pick_t rfl (decide_eq_true c101) rfl ?_
    refine so_nil ?_
    refine fi_true rfl rfl ?_
    refine fi_seq ?_
    refine fi_region ?_
    refine so_assign rfl ?_
    refine so_nil ?_
    exact by_ret rfl ⟨_, h, rfl, rfl⟩
  · refine so_gyes rfl (decide_eq_false c101) ?_
    refine so_move rfl ?_
    refine so_gyes rfl (decide_eq_false c101) ?_
    refine so_move rfl ?_
    refine so_gyes rfl (decide_eq_false c101) ?_
    refine sv_len (g0 _ hs) (fun _ => rfl) (by decide) rfl F24.ti42 ?_
    refine so_gyes rfl (decide_eq_false c101) ?_
    refine so_bin rfl rfl ab_geq ?_
    refine so_pick_f rfl (decide_eq_false c101) rfl ?_
    refine so_nil ?_
    replace h := ofP h; rcases h with ⟨c102, h⟩ | ⟨c102, h⟩
    · refine fi_true rfl (decide_eq_true c102) ?_
      refine fi_seq ?_
      refine fi_region ?_
      refine so_assign rfl ?_
      refine so_nil ?_
      exact by_ret rfl ⟨_, h, rfl, rfl⟩
    · refine fi_false rfl (decide_eq_false c102) ?_
      refine fi_skip ?_
      refine fi_seq ?_
      refine fi_region ?_
      refine so_move rfl ?_
      refine so_move rfl ?_
      obtain ⟨c103, h⟩ := h
      refine sv_idx (g0 _ hs) c103 (fun _ => rfl) (by decide) rfl rfl F24.tl42 ?_
      refine sv_cell (g0 _ hs) c103 (0 : Int) 0 (fun x => (AV.int .u8 x)) (fun _ => rfl) (fun _ => rfl) rfl F24.ag5 ?_
      refine sv_ii rfl F24.us5 F24.it2 ?_
      refine so_move rfl ?_
      obtain ⟨c104, h⟩ := h
      refine so_bin rfl rfl (ab_rem c104) ?_
      refine so_assign rfl ?_
      refine so_nil ?_
      exact by_ret rfl ⟨_, h, rfl, rfl⟩

end Go.Proofs.Ytplfnchoooehgaa.G

namespace Go.Proofs.Ytplfnchoooehgaa.G
open Go Go.Ab Go.Proofs Go.Proofs.Ytplfnchoooehgaa
set_option maxRecDepth 100000
set_option linter.unusedVariables false
set_option linter.unusedSimpArgs false
set_option maxHeartbeats 1000000
theorem impl_within_ok {fr : List Pc} {H : Heap} (a0 : Int) (a1 : Int) (a2 : Int) (hs : Sep H (fr))  (K : Bool → Prop) (h : impl_within.wp a0 a1 a2 K) : OkQ Try.prog 36 [(.v (.int .i64 a0)), (.v (.int .i64 a1)), (.v (.int .i64 a2))] H (fun r H2 => ∃ (y0 : Bool), K y0 ∧ r = (.v (.bool y0)) ∧ H = H2) := by
  unfold impl_within.wp at h
  refine of_body Try.f36 F.hm Try.func36 rfl Try.call36 (by kernel_rfl) (by simp) ?_
  refine fi_seq ?_
  refine fi_region ?_
  refine so_assign rfl ?_
  refine so_nil ?_
  refine fi_seq ?_
  refine fi_region ?_
  refine so_move rfl ?_
  refine so_move rfl ?_
  refine so_bin rfl rfl ab_geq ?_
  refine so_move rfl ?_
  replace h := ofP h; rcases h with ⟨c101, h⟩ | ⟨c101, h⟩
  · refine so_gyes rfl (decide_eq_true c101) ?_
    refine so_move rfl ?_
    refine so_gyes rfl (decide_eq_true c101) ?_
    refine so_move rfl ?_
    refine so_gyes rfl (decide_eq_true c101) ?_
    refine so_bin rfl rfl ab_leq ?_
    refine so_pick_t rfl (decide_eq_true c101) rfl ?_
    refine so_assign rfl ?_
    refine so_nil ?_
    exact by_ret rfl ⟨_, h, rfl, rfl⟩
  · refine so_gno rfl (decide_eq_false c101) ?_
    refine so_gno rfl (decide_eq_false c101) ?_
    refine so_gno rfl (decide_eq_false c101) ?_
    refine so_pick_f rfl (decide_eq_false c101) rfl ?_
    refine so_assign rfl ?_
    refine so_nil ?_
    exact by_ret rfl ⟨_, h, rfl, rfl⟩

end Go.Proofs.Ytplfnchoooehgaa.G

namespace Go.Proofs.Ytplfnchoooehgaa.G
open Go Go.Ab Go.Proofs Go.Proofs.Ytplfnchoooehgaa
set_option maxRecDepth 100000
set_option linter.unusedVariables false
set_option linter.unusedSimpArgs false
set_option maxHeartbeats 1000000
theorem F55.sz2 : tsz Try.prog 2 = some 1 := by kernel_rfl
theorem F55.ta22_22 : tapp Try.prog 22 22 = some (1, 8) := by kernel_rfl
theorem F55.te22 : telem Try.prog 22 = some 2 := by kernel_rfl
theorem F55.ze2 : tzero Try.prog 2 = some [(.int .i64 (0 : Int))] := by kernel_rfl
theorem impl_BandSizes_ok {fr : List Pc} {H : Heap} (a0 : Int) (a1 : Int) (hs : Sep H (fr))  (K : (List (Int)) → Bool → Prop) (h : impl_BandSizes.wp a0 a1 K) : OkQ Try.prog 55 [(.v (.int .i64 a0)), (.v (.int .i64 a1))] H (fun r H2 => ∃ (y0 : List (Int)) (y1 : Bool), K y0 y1 ∧ ∃ (w0_ : AV), r = (.t [(.v w0_), (.v (.bool y1))]) ∧ Sep H2 (Pc.osl w0_ 1 (enc (eInt .i64) y0) :: fr)) := by
  unfold impl_BandSizes.wp at h
  refine of_body Try.f55 F.hm Try.func55 rfl Try.call55 (by kernel_rfl) (by simp) ?_
  refine fi_seq ?_
  refine fi_region ?_
  refine so_assign rfl ?_
  refine so_assign rfl ?_
  refine so_nil ?_
  refine fi_seq ?_
  refine fi_seq ?_
  refine fi_region ?_
  refine so_move rfl ?_
  refine sv_callS (impl_within_ok a0 (1 : Int) (128 : Int) hs  _ h) (fun _ _ ⟨_, _, _, e⟩ => e) rfl rfl ?_
  clear h
  rintro _ _ ⟨y101, h, rfl, rfl⟩
  refine so_un rfl au_not ?_
  refine so_move rfl ?_
  replace h := ofT h; rcases h with ⟨c103, h⟩ | ⟨c103, h⟩
  · refine so_gyes rfl (not_f c103) ?_
    refine so_move rfl ?_
    refine so_gyes rfl (not_f c103) ?_
    refine sv_callS (impl_within_ok a1 (1 : Int) (6 : Int) hs  _ h) (fun _ _ ⟨_, _, _, e⟩ => e) rfl rfl ?_
    clear h
    rintro _ _ ⟨y104, h, rfl, rfl⟩
    refine so_gyes rfl (not_f c103) ?_
    refine so_un rfl au_not ?_
    refine so_pick_f rfl (not_f c103) rfl ?_
    refine so_nil ?_
    replace h := ofT h; rcases h with ⟨c106, h⟩ | ⟨c106, h⟩
    · refine fi_false rfl (not_f c106) ?_
      refine fi_skip ?_
      refine fi_seq ?_
      refine fi_region ?_
      refine sv_bslice hs (eInt .i64) ([] : List (Int)) [] F55.te22 F55.sz2 F55.ze2 rfl rfl rfl rfl (fun _ => rfl) rfl (by decide) nofun (fun v107 H108 nv107 hs => ?_)
      refine so_assign rfl ?_
      refine so_nil ?_
      refine fi_seq ?_
      refine fi_seq ?_
      refine fi_region ?_
      refine so_assign rfl ?_
      refine so_nil ?_
      refine fi_block ?_
      refine fi_loop ?_
      refine fi_at [(0, (.v (.int .i64 a0))), (1, (.v (.int .i64 a1))), (6, (.v v107)), (7, (.v (.int .i64 (0 : Int))))] ⟨rfl, rfl, rfl, rfl, trivial⟩ ?_
      refine h (fun (out136 : List (Int)) (n138 : Int) (k139 : Int) => ∀ (s : Nat → TV) (H : Heap) (v137 : AV) (nv137 : v137 ≠ .nilsl), Sep H (Pc.osl v137 1 (enc (eInt .i64) out136) :: fr) → Fin _ _ (updL s [(0, (.v (.int .i64 n138))), (1, (.v (.int .i64 a1))), (6, (.v v137)), (7, (.v (.int .i64 k139)))]) H _) ?_ _ _ _ nv107 hs
      intro out136 n138 k139 h s160 H161 v137 nv137 hs
      refine fi_inLoop ?_
      refine fi_seq ?_
      refine fi_seq ?_
      refine fi_region ?_
      refine so_move rfl ?_
      refine so_move rfl ?_
      refine so_bin rfl rfl ab_lss ?_
      refine so_move rfl ?_
      replace h := ofP h; rcases h with ⟨c140, h⟩ | ⟨c140, h⟩
      · refine so_gyes rfl (decide_eq_true c140) ?_
        refine so_move rfl ?_
        refine so_gyes rfl (decide_eq_true c140) ?_
        refine so_bin rfl rfl ab_gtr ?_
        refine so_pick_t rfl (decide_eq_true c140) rfl ?_
        refine so_nil ?_
        replace h := ofP h; rcases h with ⟨c141, h⟩ | ⟨c141, h⟩
        · refine fi_true rfl (decide_eq_true c141) ?_
          refine fi_skip ?_
          refine fi_seq ?_
          refine fi_block ?_
          refine fi_seq ?_
          refine fi_region ?_
          refine so_move rfl ?_
          refine so_move rfl ?_
          refine so_bin rfl rfl (ab_quo (by decide)) ?_
          refine sv_bslice hs (eInt .i64) ([(IntKind.i64.wrap (Int.tdiv n138 (2 : Int)))] : List (Int)) [[(.int .i64 (IntKind.i64.wrap (Int.tdiv n138 (2 : Int))))]] F55.te22 F55.sz2 F55.ze2 rfl rfl rfl rfl (fun _ => rfl) rfl (by decide) nofun (fun v142 H143 nv142 hs => ?_)
          obtain ⟨c147, h⟩ := h
          refine sv_app hs 1 rfl (hs.shows 0 rfl) (fun _ => rfl) (by decide) F55.ta22_22 (by decide) c147 rfl rfl nofun (fun v145 H146 kv145 hs => ?_)
          replace hs := hs.del 0
          have nv145 := kv145 nv137
          refine so_assign rfl ?_
          refine so_nil ?_
          refine fi_region ?_
          refine so_move rfl ?_
          refine so_move rfl ?_
          refine so_bin rfl rfl (ab_quo (by decide)) ?_
          refine so_bin rfl rfl ab_sub ?_
          refine so_assign rfl ?_
          refine so_nil ?_
          refine fi_inBlock ?_
          refine fi_region ?_
          refine so_move rfl ?_
          refine so_bin rfl rfl ab_add ?_
          refine so_assign rfl ?_
          refine so_nil ?_
          exact fi_at [(0, (.v (.int .i64 (IntKind.i64.wrap (n138 - (IntKind.i64.wrap (Int.tdiv n138 (2 : Int)))))))), (1, (.v (.int .i64 a1))), (6, (.v v145)), (7, (.v (.int .i64 (IntKind.i64.wrap (k139 + (1 : Int))))))] ⟨rfl, rfl, rfl, rfl, trivial⟩ (h _ _ _ nv145 hs)
        · refine fi_false rfl (decide_eq_false c141) ?_
          refine fi_exit rfl ?_
          refine fi_seq ?_
          refine fi_region ?_
          refine so_move rfl ?_
          refine so_move rfl ?_
          refine sv_bslice hs (eInt .i64) ([n138] : List (Int)) [[(.int .i64 n138)]] F55.te22 F55.sz2 F55.ze2 rfl rfl rfl rfl (fun _ => rfl) rfl (by decide) nofun (fun v148 H149 nv148 hs => ?_)
          obtain ⟨c153, h⟩ := h
          refine sv_app hs 1 rfl (hs.shows 0 rfl) (fun _ => rfl) (by decide) F55.ta22_22 (by decide) c153 rfl rfl nofun (fun v151 H152 kv151 hs => ?_)
          replace hs := hs.del 0
          have nv151 := kv151 nv137
          refine so_assign rfl ?_
          refine so_assign rfl ?_
          refine so_nil ?_
          exact by_ret rfl ⟨_, _, h, _, rfl, hs⟩
      · refine so_gno rfl (decide_eq_false c140) ?_
        refine so_gno rfl (decide_eq_false c140) ?_
        refine so_pick_f rfl (decide_eq_false c140) rfl ?_
        refine so_nil ?_
        refine fi_false rfl rfl ?_
        refine fi_exit rfl ?_
        refine fi_seq ?_
        refine fi_region ?_
        refine so_move rfl ?_
        refine so_move rfl ?_
        refine sv_bslice hs (eInt .i64) ([n138] : List (Int)) [[(.int .i64 n138)]] F55.te22 F55.sz2 F55.ze2 rfl rfl rfl rfl (fun _ => rfl) rfl (by decide) nofun (fun v154 H155 nv154 hs => ?_)
        obtain ⟨c159, h⟩ := h
        refine sv_app hs 1 rfl (hs.shows 0 rfl) (fun _ => rfl) (by decide) F55.ta22_22 (by decide) c159 rfl rfl nofun (fun v157 H158 kv157 hs => ?_)
        replace hs := hs.del 0
        have nv157 := kv157 nv137
        refine so_assign rfl ?_
        refine so_assign rfl ?_
        refine so_nil ?_
        exact by_ret rfl ⟨_, _, h, _, rfl, hs⟩
    · refine fi_true rfl (not_t c106) ?_
      refine fi_seq ?_
      refine fi_region ?_
      refine so_assign rfl ?_
      refine so_assign rfl ?_
      refine so_nil ?_
      exact by_ret rfl ⟨_, _, h, _, rfl, (Sep.nil hs 1)⟩
  · refine so_gno rfl (not_t c103) ?_
    refine so_gno rfl (not_t c103) ?_
    refine so_gno rfl (not_t c103) ?_
    refine so_pick_t rfl (not_t c103) rfl ?_
    refine so_nil ?_
    refine fi_true rfl rfl ?_
    refine fi_seq ?_
    refine fi_region ?_
    refine so_assign rfl ?_
    refine so_assign rfl ?_
    refine so_nil ?_
    exact by_ret rfl ⟨_, _, h, _, rfl, (Sep.nil hs 1)⟩

end Go.Proofs.Ytplfnchoooehgaa.G

namespace Go.Proofs.Ytplfnchoooehgaa.G
open Go Go.Ab Go.Proofs Go.Proofs.Ytplfnchoooehgaa
set_option maxRecDepth 100000
set_option linter.unusedVariables false
set_option linter.unusedSimpArgs false
set_option maxHeartbeats 1000000
theorem F56.ag2 : tagg Try.prog 2 = some false := by kernel_rfl
theorem F56.sz2 : tsz Try.prog 2 = some 1 := by kernel_rfl
theorem F56.ta22_22 : tapp Try.prog 22 22 = some (1, 8) := by kernel_rfl
theorem F56.te22 : telem Try.prog 22 = some 2 := by kernel_rfl
theorem F56.ti22 : (telem Try.prog 22).isSome = true := by kernel_rfl
theorem F56.tl22 : (telem Try.prog 22).bind (tsz Try.prog) = some 1 := by kernel_rfl
theorem F56.ze2 : tzero Try.prog 2 = some [(.int .i64 (0 : Int))] := by kernel_rfl
theorem impl_parents_ok {fr : List Pc} {H : Heap} (v0 : AV) (l0 : List (Int)) (hs : Sep H (fr)) (g0 : ∀ H, Sep H fr → Shows H v0 1 (enc (eInt .i64) l0)) (K : (List (Int)) → Prop) (h : impl_parents.wp l0 K) : OkQ Try.prog 56 [(.v v0)] H (fun r H2 => ∃ (y0 : List (Int)), K y0 ∧ ∃ (w0_ : AV), r = (.v w0_) ∧ Sep H2 (Pc.osl w0_ 1 (enc (eInt .i64) y0) :: fr)) := by
  unfold impl_parents.wp at h
  refine of_body Try.f56 F.hm Try.func56 rfl Try.call56 (by kernel_rfl) (by simp) ?_
  refine fi_seq ?_
  refine fi_region ?_
  refine so_assign rfl ?_
  refine so_nil ?_
  refine fi_seq ?_
  refine fi_region ?_
  refine so_move rfl ?_
  refine sv_len (g0 _ hs) (fun _ => rfl) (by decide) rfl F56.ti22 ?_
  refine so_bin rfl rfl ab_sub ?_
  refine so_assign rfl ?_
  refine so_nil ?_
  refine fi_seq ?_
  refine fi_region ?_
  refine sv_bslice hs (eInt .i64) ([] : List (Int)) [] F56.te22 F56.sz2 F56.ze2 rfl rfl rfl rfl (fun _ => rfl) rfl (by decide) nofun (fun v101 H102 nv101 hs => ?_)
  refine so_assign rfl ?_
  refine so_nil ?_
  refine fi_seq ?_
  refine fi_region ?_
  refine so_assign rfl ?_
  refine so_nil ?_
  refine fi_seq ?_
  refine fi_seq ?_
  refine fi_region ?_
  refine so_move rfl ?_
  refine so_assign rfl ?_
  refine so_nil ?_
  refine fi_block ?_
  refine fi_loop ?_
  refine fi_at [(0, (.v v0)), (3, (.v (.int .i64 (IntKind.i64.wrap ((l0.length : Int) - (1 : Int)))))), (4, (.v v101)), (5, (.v (.int .i64 (0 : Int)))), (6, (.v (.int .i64 (IntKind.i64.wrap ((l0.length : Int) - (1 : Int))))))] ⟨rfl, rfl, rfl, rfl, rfl, trivial⟩ ?_
  refine h (fun (out152 : List (Int)) (start154 : Int) (b155 : Int) => ∀ (s : Nat → TV) (H : Heap) (v153 : AV) (nv153 : v153 ≠ .nilsl), Sep H (Pc.osl v153 1 (enc (eInt .i64) out152) :: fr) → Fin _ _ (updL s [(0, (.v v0)), (3, (.v (.int .i64 (IntKind.i64.wrap ((l0.length : Int) - (1 : Int)))))), (4, (.v v153)), (5, (.v (.int .i64 start154))), (6, (.v (.int .i64 b155)))]) H _) ?_ _ _ _ nv101 hs
  intro out152 start154 b155 h s198 H199 v153 nv153 hs
  refine fi_inLoop ?_
  refine fi_seq ?_
  refine fi_seq ?_
  refine fi_region ?_
  refine so_move rfl ?_
  refine so_bin rfl rfl ab_geq ?_
  refine so_nil ?_
  replace h := ofP h; rcases h with ⟨c156, h⟩ | ⟨c156, h⟩
  · refine fi_true rfl (decide_eq_true c156) ?_
    refine fi_skip ?_
    refine fi_seq ?_
    refine fi_block ?_
    refine fi_seq ?_
    refine fi_seq ?_
    refine fi_region ?_
    refine so_move rfl ?_
    refine so_move rfl ?_
    obtain ⟨c157, h⟩ := h
    refine sv_idx (g0 _ hs.tl) c157 (fun _ => rfl) (by decide) rfl rfl F56.tl22 ?_
    refine sv_cell (g0 _ hs.tl) c157 (0 : Int) 0 (fun x => (AV.int .i64 x)) (fun _ => rfl) (fun _ => rfl) rfl F56.ag2 ?_
    refine so_move rfl ?_
    refine so_nil ?_
    refine fi_block ?_
    refine fi_loop ?_
    refine fi_at [(0, (.v v0)), (3, (.v (.int .i64 (IntKind.i64.wrap ((l0.length : Int) - (1 : Int)))))), (4, (.v v153)), (5, (.v (.int .i64 start154))), (6, (.v (.int .i64 b155))), (20, (.v (.int .i64 (l0.getD (b155).toNat (0 : Int))))), (21, (.v (.int .i64 (0 : Int))))] ⟨rfl, rfl, rfl, rfl, rfl, rfl, rfl, trivial⟩ ?_
    refine h (fun (out178 : List (Int)) (x180 : Int) => ∀ (s : Nat → TV) (H : Heap) (v179 : AV) (nv179 : v179 ≠ .nilsl), Sep H (Pc.osl v179 1 (enc (eInt .i64) out178) :: fr) → Fin _ _ (updL s [(0, (.v v0)), (3, (.v (.int .i64 (IntKind.i64.wrap ((l0.length : Int) - (1 : Int)))))), (4, (.v v179)), (5, (.v (.int .i64 start154))), (6, (.v (.int .i64 b155))), (20, (.v (.int .i64 (l0.getD (b155).toNat (0 : Int))))), (21, (.v (.int .i64 x180)))]) H _) ?_ _ _ _ nv153 hs
    intro out178 x180 h s196 H197 v179 nv179 hs
    refine fi_inLoop ?_
    refine fi_seq ?_
    refine fi_region ?_
    refine so_bin rfl rfl ab_lss ?_
    refine so_nil ?_
    refine fi_seq ?_
    replace h := ofP h; rcases h with ⟨c181, h⟩ | ⟨c181, h⟩
    · refine fi_true rfl (decide_eq_true c181) ?_
      refine fi_skip ?_
      refine fi_seq ?_
      refine fi_block ?_
      refine fi_seq ?_
      refine fi_region ?_
      refine so_move rfl ?_
      refine so_assign rfl ?_
      refine so_nil ?_
      refine fi_seq ?_
      refine fi_seq ?_
      refine fi_region ?_
      refine so_move rfl ?_
      refine so_move rfl ?_
      refine so_bin rfl rfl ab_sub ?_
      refine so_bin rfl rfl ab_geq ?_
      refine so_nil ?_
      replace h := ofP h; rcases h with ⟨c182, h⟩ | ⟨c182, h⟩
      · refine fi_true rfl (decide_eq_true c182) ?_
        refine fi_seq ?_
        refine fi_region ?_
        refine so_move rfl ?_
        refine sv_bslice hs (eInt .i64) ([(-1 : Int)] : List (Int)) [[(.int .i64 (-1 : Int))]] F56.te22 F56.sz2 F56.ze2 rfl rfl rfl rfl (fun _ => rfl) rfl (by decide) nofun (fun v183 H184 nv183 hs => ?_)
        obtain ⟨c188, h⟩ := h
        refine sv_app hs 1 rfl (hs.shows 0 rfl) (fun _ => rfl) (by decide) F56.ta22_22 (by decide) c188 rfl rfl nofun (fun v186 H187 kv186 hs => ?_)
        replace hs := hs.del 0
        have nv186 := kv186 nv179
        refine so_assign rfl ?_
        refine so_nil ?_
        refine fi_exit rfl ?_
        refine fi_region ?_
        refine so_bin rfl rfl ab_add ?_
        refine so_move rfl ?_
        refine so_nil ?_
        exact fi_at [(0, (.v v0)), (3, (.v (.int .i64 (IntKind.i64.wrap ((l0.length : Int) - (1 : Int)))))), (4, (.v v186)), (5, (.v (.int .i64 start154))), (6, (.v (.int .i64 b155))), (20, (.v (.int .i64 (l0.getD (b155).toNat (0 : Int))))), (21, (.v (.int .i64 (IntKind.i64.wrap (x180 + (1 : Int))))))] ⟨rfl, rfl, rfl, rfl, rfl, rfl, rfl, trivial⟩ (h _ _ _ nv186 hs)
      · refine fi_false rfl (decide_eq_false c182) ?_
        refine fi_skip ?_
        refine fi_region ?_
        refine so_move rfl ?_
        refine so_move rfl ?_
        refine so_move rfl ?_
        refine so_move rfl ?_
        refine so_bin rfl rfl ab_add ?_
        obtain ⟨c189, h⟩ := h
        refine sv_idx (g0 _ hs.tl) c189 (fun _ => rfl) (by decide) rfl rfl F56.tl22 ?_
        refine sv_cell (g0 _ hs.tl) c189 (0 : Int) 0 (fun x => (AV.int .i64 x)) (fun _ => rfl) (fun _ => rfl) rfl F56.ag2 ?_
        refine so_bin rfl rfl ab_sub ?_
        refine so_move rfl ?_
        refine so_bin rfl rfl (ab_quo (by decide)) ?_
        refine so_move rfl ?_
        refine so_move rfl ?_
        refine so_bin rfl rfl ab_add ?_
        refine sv_idx (g0 _ hs.tl) c189 (fun _ => rfl) (by decide) rfl rfl F56.tl22 ?_
        refine sv_cell (g0 _ hs.tl) c189 (0 : Int) 0 (fun x => (AV.int .i64 x)) (fun _ => rfl) (fun _ => rfl) rfl F56.ag2 ?_
        refine so_bin rfl rfl ab_sub ?_
        refine sv_min rfl rfl ?_
        refine so_bin rfl rfl ab_add ?_
        refine sv_bslice hs (eInt .i64) ([(IntKind.i64.wrap ((IntKind.i64.wrap (start154 - (l0.getD ((IntKind.i64.wrap (b155 + (1 : Int)))).toNat (0 : Int)))) + (mnI (IntKind.i64.wrap (Int.tdiv x180 (2 : Int))) (IntKind.i64.wrap ((l0.getD ((IntKind.i64.wrap (b155 + (1 : Int)))).toNat (0 : Int)) - (1 : Int))))))] : List (Int)) [[(.int .i64 (IntKind.i64.wrap ((IntKind.i64.wrap (start154 - (l0.getD ((IntKind.i64.wrap (b155 + (1 : Int)))).toNat (0 : Int)))) + (mnI (IntKind.i64.wrap (Int.tdiv x180 (2 : Int))) (IntKind.i64.wrap ((l0.getD ((IntKind.i64.wrap (b155 + (1 : Int)))).toNat (0 : Int)) - (1 : Int)))))))]] F56.te22 F56.sz2 F56.ze2 rfl rfl rfl rfl (fun _ => rfl) rfl (by decide) (fun _ => by kernel_rfl) (fun v190 H191 nv190 hs => ?_)
        obtain ⟨c195, h⟩ := h
        refine sv_app hs 1 rfl (hs.shows 0 rfl) (fun _ => rfl) (by decide) F56.ta22_22 (by decide) c195 rfl rfl (fun _ => by kernel_rfl) (fun v193 H194 kv193 hs => ?_)
        replace hs := hs.del 0
        have nv193 := kv193 nv179
        refine so_assign rfl ?_
        refine so_nil ?_
        refine fi_inBlock ?_
        refine fi_region ?_
        refine so_bin rfl rfl ab_add ?_
        refine so_move rfl ?_
        refine so_nil ?_
        exact fi_at [(0, (.v v0)), (3, (.v (.int .i64 (IntKind.i64.wrap ((l0.length : Int) - (1 : Int)))))), (4, (.v v193)), (5, (.v (.int .i64 start154))), (6, (.v (.int .i64 b155))), (20, (.v (.int .i64 (l0.getD (b155).toNat (0 : Int))))), (21, (.v (.int .i64 (IntKind.i64.wrap (x180 + (1 : Int))))))] ⟨rfl, rfl, rfl, rfl, rfl, rfl, rfl, trivial⟩ (h _ _ _ nv193 hs)
    · refine fi_false rfl (decide_eq_false c181) ?_
      refine fi_exit rfl ?_
      refine fi_region ?_
      refine so_move rfl ?_
      refine so_move rfl ?_
      refine so_move rfl ?_
      refine sv_idx (g0 _ hs.tl) c157 (fun _ => rfl) (by decide) rfl rfl F56.tl22 ?_
      refine sv_cell (g0 _ hs.tl) c157 (0 : Int) 0 (fun x => (AV.int .i64 x)) (fun _ => rfl) (fun _ => rfl) rfl F56.ag2 ?_
      refine so_bin rfl rfl ab_add ?_
      refine so_assign rfl ?_
      refine so_nil ?_
      refine fi_inBlock ?_
      refine fi_region ?_
      refine so_move rfl ?_
      refine so_bin rfl rfl ab_sub ?_
      refine so_assign rfl ?_
      refine so_nil ?_
      exact fi_at [(0, (.v v0)), (3, (.v (.int .i64 (IntKind.i64.wrap ((l0.length : Int) - (1 : Int)))))), (4, (.v v179)), (5, (.v (.int .i64 (IntKind.i64.wrap (start154 + (l0.getD (b155).toNat (0 : Int))))))), (6, (.v (.int .i64 (IntKind.i64.wrap (b155 - (1 : Int))))))] ⟨rfl, rfl, rfl, rfl, rfl, trivial⟩ (h _ _ _ nv179 hs)
  · refine fi_false rfl (decide_eq_false c156) ?_
    refine fi_exit rfl ?_
    refine fi_seq ?_
    refine fi_region ?_
    refine so_move rfl ?_
    refine so_assign rfl ?_
    refine so_nil ?_
    exact by_ret rfl ⟨_, h, _, rfl, hs⟩

end Go.Proofs.Ytplfnchoooehgaa.G

namespace Go.Proofs.Ytplfnchoooehgaa.G
open Go Go.Ab Go.Proofs Go.Proofs.Ytplfnchoooehgaa
set_option maxRecDepth 100000
set_option linter.unusedVariables false
set_option linter.unusedSimpArgs false
set_option maxHeartbeats 1000000
theorem impl_parentsOf_ok {fr : List Pc} {H : Heap} (a0 : Int) (a1 : Int) (hs : Sep H (fr))  (K : (List (Int)) → Bool → Prop) (h : impl_parentsOf.wp a0 a1 K) : OkQ Try.prog 34 [(.v (.int .i64 a0)), (.v (.int .i64 a1))] H (fun r H2 => ∃ (y0 : List (Int)) (y1 : Bool), K y0 y1 ∧ ∃ (w0_ : AV), r = (.t [(.v w0_), (.v (.bool y1))]) ∧ Sep H2 (Pc.osl w0_ 1 (enc (eInt .i64) y0) :: fr)) := by
  unfold impl_parentsOf.wp at h
  refine of_body Try.f34 F.hm Try.func34 rfl Try.call34 (by kernel_rfl) (by simp) ?_
  refine fi_seq ?_
  refine fi_region ?_
  refine so_assign rfl ?_
  refine so_assign rfl ?_
  refine so_nil ?_
  refine fi_seq ?_
  refine fi_region ?_
  refine so_move rfl ?_
  refine so_move rfl ?_
  refine sv_call (impl_BandSizes_ok a0 a1 hs  _ h) rfl rfl nofun ?_
  clear h hs
  rintro _ H105 ⟨y101, y104, h, v102, rfl, hs⟩
  refine so_move rfl ?_
  refine so_extract rfl rfl rfl ?_
  refine so_extract rfl rfl rfl ?_
  refine so_assign rfl ?_
  refine so_assign rfl ?_
  refine so_nil ?_
  refine fi_seq ?_
  refine fi_seq ?_
  refine fi_region ?_
  refine so_move rfl ?_
  refine so_un rfl au_not ?_
  refine so_nil ?_
  replace h := ofT h; rcases h with ⟨c106, h⟩ | ⟨c106, h⟩
  · refine fi_false rfl (not_f c106) ?_
    refine fi_skip ?_
    refine fi_seq ?_
    refine fi_region ?_
    refine so_move rfl ?_
    refine sv_call (impl_parents_ok v102 y101 hs (fun _ hs => (hs.shows 0 rfl)) _ h) rfl rfl nofun ?_
    clear h hs
    rintro _ H110 ⟨y107, h, v108, rfl, hs⟩
    refine so_assign rfl ?_
    refine so_assign rfl ?_
    refine so_nil ?_
    exact by_ret rfl ⟨_, _, h, _, rfl, (Sep.del 1 hs)⟩
  · refine fi_true rfl (not_t c106) ?_
    refine fi_seq ?_
    refine fi_region ?_
    refine so_assign rfl ?_
    refine so_assign rfl ?_
    refine so_nil ?_
    exact by_ret rfl ⟨_, _, h, _, rfl, (Sep.nil (Sep.del 0 hs) 1)⟩

end Go.Proofs.Ytplfnchoooehgaa.G

namespace Go.Proofs.Ytplfnchoooehgaa.G
open Go Go.Ab Go.Proofs Go.Proofs.Ytplfnchoooehgaa
set_option maxRecDepth 100000
set_option linter.unusedVariables false
set_option linter.unusedSimpArgs false
set_option maxHeartbeats 1000000
theorem F25.ag2 : tagg Try.prog 2 = some false := by kernel_rfl
theorem F25.ag4 : tagg Try.prog 4 = some false := by kernel_rfl
theorem F25.by4 : tbytes Try.prog 4 = some 1 := by kernel_rfl
theorem F25.sz2 : tsz Try.prog 2 = some 1 := by kernel_rfl
theorem F25.sz4 : tsz Try.prog 4 = some 1 := by kernel_rfl
theorem F25.ta22_22 : tapp Try.prog 22 22 = some (1, 8) := by kernel_rfl
theorem F25.te22 : telem Try.prog 22 = some 2 := by kernel_rfl
theorem F25.te29 : telem Try.prog 29 = some 4 := by kernel_rfl
theorem F25.ti22 : (telem Try.prog 22).isSome = true := by kernel_rfl
theorem F25.tl22 : (telem Try.prog 22).bind (tsz Try.prog) = some 1 := by kernel_rfl
theorem F25.tl29 : (telem Try.prog 29).bind (tsz Try.prog) = some 1 := by kernel_rfl
theorem F25.ze2 : tzero Try.prog 2 = some [(.int .i64 (0 : Int))] := by kernel_rfl
theorem F25.ze4 : tzero Try.prog 4 = some [(.bool false)] := by kernel_rfl
theorem impl_TreeOf_ok {fr : List Pc} {H : Heap} (a0 : Int) (a1 : Int) (a2 : Int) (hs : Sep H (fr))  (K : (List (Int)) → Bool → Prop) (h : impl_TreeOf.wp a0 a1 a2 K) : OkQ Try.prog 25 [(.v (.int .i64 a0)), (.v (.int .i64 a1)), (.v (.int .i64 a2))] H (fun r H2 => ∃ (y0 : List (Int)) (y1 : Bool), K y0 y1 ∧ ∃ (w0_ : AV), r = (.t [(.v w0_), (.v (.bool y1))]) ∧ Sep H2 (Pc.osl w0_ 1 (enc (eInt .i64) y0) :: fr)) := by
  unfold impl_TreeOf.wp at h
  refine of_body Try.f25 F.hm Try.func25 rfl Try.call25 (by kernel_rfl) (by simp) ?_
  refine fi_seq ?_
  refine fi_region ?_
  refine so_assign rfl ?_
  refine so_assign rfl ?_
  refine so_nil ?_
  refine fi_seq ?_
  refine fi_region ?_
  refine so_move rfl ?_
  refine so_move rfl ?_
  refine sv_call (impl_parentsOf_ok a0 a1 hs  _ h) rfl rfl nofun ?_
  clear h hs
  rintro _ H105 ⟨y101, y104, h, v102, rfl, hs⟩
  refine so_move rfl ?_
  refine so_extract rfl rfl rfl ?_
  refine so_extract rfl rfl rfl ?_
  refine so_assign rfl ?_
  refine so_assign rfl ?_
  refine so_nil ?_
  refine fi_seq ?_
  refine fi_seq ?_
  refine fi_region ?_
  refine so_move rfl ?_
  refine so_un rfl au_not ?_
  refine so_move rfl ?_
  replace h := ofT h; rcases h with ⟨c106, h⟩ | ⟨c106, h⟩
  · refine so_gyes rfl (not_f c106) ?_
    refine so_move rfl ?_
    refine so_gyes rfl (not_f c106) ?_
    refine so_move rfl ?_
    refine so_gyes rfl (not_f c106) ?_
    refine so_bin rfl rfl ab_sub ?_
    refine so_gyes rfl (not_f c106) ?_
    refine sv_callS (impl_within_ok a2 (0 : Int) (IntKind.i64.wrap (a0 - (1 : Int))) hs  _ h) (fun _ _ ⟨_, _, _, e⟩ => e) rfl rfl ?_
    clear h
    rintro _ _ ⟨y107, h, rfl, rfl⟩
    refine so_gyes rfl (not_f c106) ?_
    refine so_un rfl au_not ?_
    refine so_pick_f rfl (not_f c106) rfl ?_
    refine so_nil ?_
    replace h := ofT h; rcases h with ⟨c109, h⟩ | ⟨c109, h⟩
    · refine fi_false rfl (not_f c109) ?_
      refine fi_skip ?_
      refine fi_seq ?_
      refine fi_region ?_
      refine so_move rfl ?_
      obtain ⟨c110, h⟩ := h
      refine sv_make hs eBool false c110 (fun _ => rfl) rfl rfl F25.te29 F25.sz4 F25.by4 F25.ze4 rfl rfl nofun (fun v111 H112 nv111 hs => ?_)
      refine so_assign rfl ?_
      refine so_nil ?_
      refine fi_seq ?_
      refine fi_region ?_
      refine sv_bslice hs (eInt .i64) ([] : List (Int)) [] F25.te22 F25.sz2 F25.ze2 rfl rfl rfl rfl (fun _ => rfl) rfl (by decide) nofun (fun v114 H115 nv114 hs => ?_)
      refine so_assign rfl ?_
      refine so_nil ?_
      refine fi_seq ?_
      refine fi_seq ?_
      refine fi_region ?_
      refine so_move rfl ?_
      refine sv_len (hs.shows 2 rfl) (fun _ => rfl) (by decide) rfl F25.ti22 ?_
      refine so_move rfl ?_
      refine so_nil ?_
      refine fi_block ?_
      refine fi_loop ?_
      refine fi_at [(2, (.v (.int .i64 a2))), (10, (.v v111)), (11, (.v v114)), (32, (.v v102)), (33, (.v (.int .i64 (y101.length : Int)))), (34, (.v (.int .i64 (0 : Int))))] ⟨rfl, rfl, rfl, rfl, rfl, rfl, trivial⟩ ?_
      refine h (fun (out144 : List (Int)) (in146 : List (Bool)) (x147 : Int) => ∀ (s : Nat → TV) (H : Heap) (v145 : AV) (nv145 : v145 ≠ .nilsl), Sep H (Pc.osl v145 1 (enc (eInt .i64) out144) :: Pc.osl v111 1 (enc eBool in146) :: Pc.osl v102 1 (enc (eInt .i64) y101) :: fr) → Fin _ _ (updL s [(2, (.v (.int .i64 a2))), (10, (.v v111)), (11, (.v v145)), (32, (.v v102)), (33, (.v (.int .i64 (y101.length : Int)))), (34, (.v (.int .i64 x147)))]) H _) ?_ _ _ _ nv114 hs
      intro out144 in146 x147 h s170 H171 v145 nv145 hs
      refine fi_inLoop ?_
      refine fi_seq ?_
      refine fi_region ?_
      refine so_bin rfl rfl ab_lss ?_
      refine so_nil ?_
      refine fi_seq ?_
      replace h := ofP h; rcases h with ⟨c148, h⟩ | ⟨c148, h⟩
      · refine fi_true rfl (decide_eq_true c148) ?_
        refine fi_skip ?_
        refine fi_seq ?_
        refine fi_block ?_
        refine fi_seq ?_
        refine fi_region ?_
        refine so_move rfl ?_
        obtain ⟨c149, h⟩ := h
        refine sv_idx (hs.shows 2 rfl) c149 (fun _ => rfl) (by decide) rfl rfl F25.tl22 ?_
        refine sv_cell (hs.shows 2 rfl) c149 (0 : Int) 0 (fun x => (AV.int .i64 x)) (fun _ => rfl) (fun _ => rfl) rfl F25.ag2 ?_
        refine so_assign rfl ?_
        refine so_assign rfl ?_
        refine so_nil ?_
        refine fi_seq ?_
        refine fi_region ?_
        refine so_move rfl ?_
        refine so_move rfl ?_
        refine so_bin rfl rfl ab_eql ?_
        refine so_move rfl ?_
        replace h := ofP h; rcases h with ⟨c150, h⟩ | ⟨c150, h⟩
        · refine so_gno rfl (decide_eq_true c150) ?_
          refine so_gno rfl (decide_eq_true c150) ?_
          refine so_gno rfl (decide_eq_true c150) ?_
          refine so_gund rfl ?_
          refine so_gund rfl ?_
          refine so_gund rfl ?_
          refine so_gund rfl ?_
          refine so_gno rfl (decide_eq_true c150) ?_
          refine so_pick_t rfl (decide_eq_true c150) rfl ?_
          refine so_nil ?_
          refine fi_true rfl rfl ?_
          refine fi_seq ?_
          refine fi_region ?_
          refine so_move rfl ?_
          refine so_move rfl ?_
          obtain ⟨c151, h⟩ := h
          refine sv_idx (hs.shows 1 rfl) c151 (fun _ => rfl) (by decide) rfl rfl F25.tl29 ?_
          refine sv_set hs 1 rfl c151 true (fun _ => rfl) (by decide) rfl rfl rfl rfl F25.sz4 nofun (fun H152 hs => ?_)
          refine so_nil ?_
          refine fi_region ?_
          refine so_move rfl ?_
          refine so_move rfl ?_
          refine sv_bslice hs (eInt .i64) ([x147] : List (Int)) [[(.int .i64 x147)]] F25.te22 F25.sz2 F25.ze2 rfl rfl rfl rfl (fun _ => rfl) rfl (by decide) nofun (fun v153 H154 nv153 hs => ?_)
          obtain ⟨c158, h⟩ := h
          refine sv_app hs 1 rfl (hs.shows 0 rfl) (fun _ => rfl) (by decide) F25.ta22_22 (by decide) c158 rfl rfl nofun (fun v156 H157 kv156 hs => ?_)
          replace hs := hs.del 0
          have nv156 := kv156 nv145
          refine so_assign rfl ?_
          refine so_nil ?_
          refine fi_inBlock ?_
          refine fi_region ?_
          refine so_bin rfl rfl ab_add ?_
          refine so_move rfl ?_
          refine so_nil ?_
          exact fi_at [(2, (.v (.int .i64 a2))), (10, (.v v111)), (11, (.v v156)), (32, (.v v102)), (33, (.v (.int .i64 (y101.length : Int)))), (34, (.v (.int .i64 (IntKind.i64.wrap (x147 + (1 : Int))))))] ⟨rfl, rfl, rfl, rfl, rfl, rfl, trivial⟩ (h _ _ _ nv156 hs)
        · refine so_gyes rfl (decide_eq_false c150) ?_
          refine so_move rfl ?_
          refine so_gyes rfl (decide_eq_false c150) ?_
          refine so_bin rfl rfl ab_geq ?_
          refine so_gyes rfl (decide_eq_false c150) ?_
          refine so_move rfl ?_
          replace h := ofP h; rcases h with ⟨c159, h⟩ | ⟨c159, h⟩
          · refine so_gyes rfl (decide_eq_true c159) ?_
            refine so_move rfl ?_
            refine so_gyes rfl (decide_eq_true c159) ?_
            refine so_move rfl ?_
            refine so_gyes rfl (decide_eq_true c159) ?_
            obtain ⟨c160, h⟩ := h
            refine sv_idx (hs.shows 1 rfl) c160 (fun _ => rfl) (by decide) rfl rfl F25.tl29 ?_
            refine so_gyes rfl (decide_eq_true c159) ?_
            refine sv_cell (hs.shows 1 rfl) c160 false 0 (fun x => (AV.bool x)) (fun _ => rfl) (fun _ => rfl) rfl F25.ag4 ?_
            refine so_gyes rfl (decide_eq_false c150) ?_
            refine so_pick_t rfl (decide_eq_true c159) rfl ?_
            refine so_pick_f rfl (decide_eq_false c150) rfl ?_
            refine so_nil ?_
            replace h := ofT h; rcases h with ⟨c161, h⟩ | ⟨c161, h⟩
            · refine fi_true rfl c161 ?_
              refine fi_seq ?_
              refine fi_region ?_
              refine so_move rfl ?_
              refine so_move rfl ?_
              obtain ⟨c162, h⟩ := h
              refine sv_idx (hs.shows 1 rfl) c162 (fun _ => rfl) (by decide) rfl rfl F25.tl29 ?_
              refine sv_set hs 1 rfl c162 true (fun _ => rfl) (by decide) rfl rfl rfl rfl F25.sz4 nofun (fun H163 hs => ?_)
              refine so_nil ?_
              refine fi_region ?_
              refine so_move rfl ?_
              refine so_move rfl ?_
              refine sv_bslice hs (eInt .i64) ([x147] : List (Int)) [[(.int .i64 x147)]] F25.te22 F25.sz2 F25.ze2 rfl rfl rfl rfl (fun _ => rfl) rfl (by decide) nofun (fun v164 H165 nv164 hs => ?_)
              obtain ⟨c169, h⟩ := h
              refine sv_app hs 1 rfl (hs.shows 0 rfl) (fun _ => rfl) (by decide) F25.ta22_22 (by decide) c169 rfl rfl nofun (fun v167 H168 kv167 hs => ?_)
              replace hs := hs.del 0
              have nv167 := kv167 nv145
              refine so_assign rfl ?_
              refine so_nil ?_
              refine fi_inBlock ?_
              refine fi_region ?_
              refine so_bin rfl rfl ab_add ?_
              refine so_move rfl ?_
              refine so_nil ?_
              exact fi_at [(2, (.v (.int .i64 a2))), (10, (.v v111)), (11, (.v v167)), (32, (.v v102)), (33, (.v (.int .i64 (y101.length : Int)))), (34, (.v (.int .i64 (IntKind.i64.wrap (x147 + (1 : Int))))))] ⟨rfl, rfl, rfl, rfl, rfl, rfl, trivial⟩ (h _ _ _ nv167 hs)
            · refine fi_false rfl c161 ?_
              refine fi_skip ?_
              refine fi_inBlock ?_
              refine fi_region ?_
              refine so_bin rfl rfl ab_add ?_
              refine so_move rfl ?_
              refine so_nil ?_
              exact fi_at [(2, (.v (.int .i64 a2))), (10, (.v v111)), (11, (.v v145)), (32, (.v v102)), (33, (.v (.int .i64 (y101.length : Int)))), (34, (.v (.int .i64 (IntKind.i64.wrap (x147 + (1 : Int))))))] ⟨rfl, rfl, rfl, rfl, rfl, rfl, trivial⟩ (h _ _ _ nv145 hs)
          · refine so_gno rfl (decide_eq_false c159) ?_
            refine so_gno rfl (decide_eq_false c159) ?_
            refine so_gno rfl (decide_eq_false c159) ?_
            refine so_gno rfl (decide_eq_false c159) ?_
            refine so_gyes rfl (decide_eq_false c150) ?_
            refine so_pick_f rfl (decide_eq_false c159) rfl ?_
            refine so_pick_f rfl (decide_eq_false c150) rfl ?_
            refine so_nil ?_
            refine fi_false rfl rfl ?_
            refine fi_skip ?_
            refine fi_inBlock ?_
            refine fi_region ?_
            refine so_bin rfl rfl ab_add ?_
            refine so_move rfl ?_
            refine so_nil ?_
            exact fi_at [(2, (.v (.int .i64 a2))), (10, (.v v111)), (11, (.v v145)), (32, (.v v102)), (33, (.v (.int .i64 (y101.length : Int)))), (34, (.v (.int .i64 (IntKind.i64.wrap (x147 + (1 : Int))))))] ⟨rfl, rfl, rfl, rfl, rfl, rfl, trivial⟩ (h _ _ _ nv145 hs)
      · refine fi_false rfl (decide_eq_false c148) ?_
        refine fi_exit rfl ?_
        refine fi_seq ?_
        refine fi_region ?_
        refine so_move rfl ?_
        refine so_assign rfl ?_
        refine so_assign rfl ?_
        refine so_nil ?_
        exact by_ret rfl ⟨_, _, h, _, rfl, (Sep.del 1 (Sep.del 1 hs))⟩
    · refine fi_true rfl (not_t c109) ?_
      refine fi_seq ?_
      refine fi_region ?_
      refine so_assign rfl ?_
      refine so_assign rfl ?_
      refine so_nil ?_
      exact by_ret rfl ⟨_, _, h, _, rfl, (Sep.nil (Sep.del 0 hs) 1)⟩
  · refine so_gno rfl (not_t c106) ?_
    refine so_gno rfl (not_t c106) ?_
    refine so_gno rfl (not_t c106) ?_
    refine so_gno rfl (not_t c106) ?_
    refine so_gno rfl (not_t c106) ?_
    refine so_pick_t rfl (not_t c106) rfl ?_
    refine so_nil ?_
    refine fi_true rfl rfl ?_
    refine fi_seq ?_
    refine fi_region ?_
    refine so_assign rfl ?_
    refine so_assign rfl ?_
    refine so_nil ?_
    exact by_ret rfl ⟨_, _, h, _, rfl, (Sep.nil (Sep.del 0 hs) 1)⟩

end Go.Proofs.Ytplfnchoooehgaa.G

namespace Go.Proofs.Ytplfnchoooehgaa.G
open Go Go.Ab Go.Proofs Go.Proofs.Ytplfnchoooehgaa
set_option maxRecDepth 100000
set_option linter.unusedVariables false
set_option linter.unusedSimpArgs false
set_option maxHeartbeats 1000000
theorem F57.ag2 : tagg Try.prog 2 = some false := by kernel_rfl
theorem F57.ti22 : (telem Try.prog 22).isSome = true := by kernel_rfl
theorem F57.tl22 : (telem Try.prog 22).bind (tsz Try.prog) = some 1 := by kernel_rfl
theorem impl_areWithin_ok {fr : List Pc} {H : Heap} (v0 : AV) (l0 : List (Int)) (a1 : Int) (hs : Sep H (fr)) (g0 : ∀ H, Sep H fr → Shows H v0 1 (enc (eInt .i64) l0)) (K : Bool → Prop) (h : impl_areWithin.wp l0 a1 K) : OkQ Try.prog 57 [(.v v0), (.v (.int .i64 a1))] H (fun r H2 => ∃ (y0 : Bool), K y0 ∧ r = (.v (.bool y0)) ∧ H = H2) := by
  unfold impl_areWithin.wp at h
  refine of_body Try.f57 F.hm Try.func57 rfl Try.call57 (by kernel_rfl) (by simp) ?_
  refine fi_seq ?_
  refine fi_region ?_
  refine so_assign rfl ?_
  refine so_nil ?_
  refine fi_seq ?_
  refine fi_seq ?_
  refine fi_region ?_
  refine so_move rfl ?_
  refine sv_len (g0 _ hs) (fun _ => rfl) (by decide) rfl F57.ti22 ?_
  refine so_move rfl ?_
  refine so_nil ?_
  refine fi_block ?_
  refine fi_loop ?_
  refine fi_at [(1, (.v (.int .i64 a1))), (7, (.v v0)), (8, (.v (.int .i64 (l0.length : Int)))), (9, (.v (.int .i64 (0 : Int))))] ⟨rfl, rfl, rfl, rfl, trivial⟩ ?_
  refine h (fun (x102 : Int) => ∀ (s : Nat → TV), Fin _ _ (updL s [(1, (.v (.int .i64 a1))), (7, (.v v0)), (8, (.v (.int .i64 (l0.length : Int)))), (9, (.v (.int .i64 x102)))]) _ _) ?_ _
  intro x102 h s108
  refine fi_inLoop ?_
  refine fi_seq ?_
  refine fi_region ?_
  refine so_bin rfl rfl ab_lss ?_
  refine so_nil ?_
  refine fi_seq ?_
  replace h := ofP h; rcases h with ⟨c103, h⟩ | ⟨c103, h⟩
  · refine fi_true rfl (decide_eq_true c103) ?_
    refine fi_skip ?_
    refine fi_seq ?_
    refine fi_block ?_
    refine fi_seq ?_
    refine fi_region ?_
    obtain ⟨c104, h⟩ := h
    refine sv_idx (g0 _ hs) c104 (fun _ => rfl) (by decide) rfl rfl F57.tl22 ?_
    refine sv_cell (g0 _ hs) c104 (0 : Int) 0 (fun x => (AV.int .i64 x)) (fun _ => rfl) (fun _ => rfl) rfl F57.ag2 ?_
    refine so_assign rfl ?_
    refine so_nil ?_
    refine fi_seq ?_
    refine fi_region ?_
    refine so_move rfl ?_
    refine so_move rfl ?_
    refine so_un rfl au_neg ?_
    refine so_move rfl ?_
    refine sv_callS (impl_within_ok (l0.getD (x102).toNat (0 : Int)) (IntKind.i64.wrap (0 - a1)) a1 hs  _ h) (fun _ _ ⟨_, _, _, e⟩ => e) rfl rfl ?_
    clear h
    rintro _ _ ⟨y105, h, rfl, rfl⟩
    refine so_un rfl au_not ?_
    refine so_nil ?_
    replace h := ofT h; rcases h with ⟨c107, h⟩ | ⟨c107, h⟩
    · refine fi_false rfl (not_f c107) ?_
      refine fi_skip ?_
      refine fi_inBlock ?_
      refine fi_region ?_
      refine so_bin rfl rfl ab_add ?_
      refine so_move rfl ?_
      refine so_nil ?_
      exact fi_at [(1, (.v (.int .i64 a1))), (7, (.v v0)), (8, (.v (.int .i64 (l0.length : Int)))), (9, (.v (.int .i64 (IntKind.i64.wrap (x102 + (1 : Int))))))] ⟨rfl, rfl, rfl, rfl, trivial⟩ (h _)
    · refine fi_true rfl (not_t c107) ?_
      refine fi_seq ?_
      refine fi_region ?_
      refine so_assign rfl ?_
      refine so_nil ?_
      exact by_ret rfl ⟨_, h, rfl, rfl⟩
  · refine fi_false rfl (decide_eq_false c103) ?_
    refine fi_exit rfl ?_
    refine fi_seq ?_
    refine fi_region ?_
    refine so_assign rfl ?_
    refine so_nil ?_
    exact by_ret rfl ⟨_, h, rfl, rfl⟩

end Go.Proofs.Ytplfnchoooehgaa.G

namespace Go.Proofs.Ytplfnchoooehgaa.G
open Go Go.Ab Go.Proofs Go.Proofs.Ytplfnchoooehgaa
set_option maxRecDepth 100000
set_option linter.unusedVariables false
set_option linter.unusedSimpArgs false
set_option maxHeartbeats 1000000
theorem F35.ti22 : (telem Try.prog 22).isSome = true := by kernel_rfl
theorem impl_AreIntegers_ok {fr : List Pc} {H : Heap} (v0 : AV) (l0 : List (Int)) (hs : Sep H (fr)) (g0 : ∀ H, Sep H fr → Shows H v0 1 (enc (eInt .i64) l0)) (K : Bool → Prop) (h : impl_AreIntegers.wp l0 K) : OkQ Try.prog 35 [(.v v0)] H (fun r H2 => ∃ (y0 : Bool), K y0 ∧ r = (.v (.bool y0)) ∧ H = H2) := by
  unfold impl_AreIntegers.wp at h
  refine of_body Try.f35 F.hm Try.func35 rfl Try.call35 (by kernel_rfl) (by simp) ?_
  refine fi_seq ?_
  refine fi_region ?_
  refine so_assign rfl ?_
  refine so_nil ?_
  refine fi_seq ?_
  refine fi_region ?_
  refine so_move rfl ?_
  refine sv_len (g0 _ hs) (fun _ => rfl) (by decide) rfl F35.ti22 ?_
  refine sv_callS (impl_within_ok (l0.length : Int) (1 : Int) (128 : Int) hs  _ h) (fun _ _ ⟨_, _, _, e⟩ => e) rfl rfl ?_
  clear h
  rintro _ _ ⟨y101, h, rfl, rfl⟩
  refine so_move rfl ?_
  replace h := ofT h; rcases h with ⟨c103, h⟩ | ⟨c103, h⟩
  · refine so_gyes rfl c103 ?_
    refine so_move rfl ?_
    refine so_gyes rfl c103 ?_
    refine sv_callS (impl_areWithin_ok v0 l0 (1000000 : Int) hs (fun _ hs => (g0 _ hs)) _ h) (fun _ _ ⟨_, _, _, e⟩ => e) rfl rfl ?_
    clear h
    rintro _ _ ⟨y104, h, rfl, rfl⟩
    refine so_pick_t rfl c103 rfl ?_
    refine so_assign rfl ?_
    refine so_nil ?_
    exact by_ret rfl ⟨_, h, rfl, rfl⟩
  · refine so_gno rfl c103 ?_
    refine so_gno rfl c103 ?_
    refine so_pick_f rfl c103 rfl ?_
    refine so_assign rfl ?_
    refine so_nil ?_
    exact by_ret rfl ⟨_, h, rfl, rfl⟩

end Go.Proofs.Ytplfnchoooehgaa.G

namespace Go.Proofs.Ytplfnchoooehgaa.G
open Go Go.Ab Go.Proofs Go.Proofs.Ytplfnchoooehgaa
set_option maxRecDepth 100000
set_option linter.unusedVariables false
set_option linter.unusedSimpArgs false
set_option maxHeartbeats 1000000
theorem impl_far_ok {fr : List Pc} {H : Heap} (a0 : Int) (hs : Sep H (fr))  (K : Int → Prop) (h : impl_far.wp a0 K) : OkQ Try.prog 37 [(.v (.int .i64 a0))] H (fun r H2 => ∃ (y0 : Int), K y0 ∧ r = (.v (.int .i64 y0)) ∧ H = H2) := by
  unfold impl_far.wp at h
  refine of_body Try.f37 F.hm Try.func37 rfl Try.call37 (by kernel_rfl) (by simp) ?_
  refine fi_seq ?_
  refine fi_region ?_
  refine so_assign rfl ?_
  refine so_nil ?_
  refine fi_seq ?_
  refine fi_region ?_
  refine so_move rfl ?_
  refine so_move rfl ?_
  refine so_un rfl au_neg ?_
  refine sv_max rfl rfl ?_
  refine so_assign rfl ?_
  refine so_nil ?_
  exact by_ret rfl ⟨_, h, rfl, rfl⟩

end Go.Proofs.Ytplfnchoooehgaa.G

namespace Go.Proofs.Ytplfnchoooehgaa.G
open Go Go.Ab Go.Proofs Go.Proofs.Ytplfnchoooehgaa
set_option maxRecDepth 100000
set_option linter.unusedVariables false
set_option linter.unusedSimpArgs false
set_option maxHeartbeats 1000000
theorem impl_digit_ok {fr : List Pc} {H : Heap} (a0 : Int) (a1 : Int) (hs : Sep H (fr))  (K : Bool → Prop) (h : impl_digit.wp a0 a1 K) : OkQ Try.prog 50 [(.v (.int .i64 a0)), (.v (.int .i64 a1))] H (fun r H2 => ∃ (y0 : Bool), K y0 ∧ r = (.v (.bool y0)) ∧ H = H2) := by
  unfold impl_digit.wp at h
  refine of_body Try.f50 F.hm Try.func50 rfl Try.call50 (by kernel_rfl) (by simp) ?_
  refine fi_seq ?_
  refine fi_region ?_
  refine so_assign rfl ?_
  refine so_nil ?_
  refine fi_seq ?_
  refine fi_region ?_
  refine so_move rfl ?_
  refine sv_callS (impl_far_ok a0 hs  _ h) (fun _ _ ⟨_, _, _, e⟩ => e) rfl rfl ?_
  clear h
  rintro _ _ ⟨y101, h, rfl, rfl⟩
  refine so_move rfl ?_
  obtain ⟨c103, h⟩ := h
  refine so_bin rfl rfl (ab_shr c103) ?_
  refine so_bin rfl rfl ab_and ?_
  refine so_bin rfl rfl ab_eql ?_
  refine so_assign rfl ?_
  refine so_nil ?_
  exact by_ret rfl ⟨_, h, rfl, rfl⟩

end Go.Proofs.Ytplfnchoooehgaa.G

namespace Go.Proofs.Ytplfnchoooehgaa.G
open Go Go.Ab Go.Proofs Go.Proofs.Ytplfnchoooehgaa
set_option maxRecDepth 100000
set_option linter.unusedVariables false
set_option linter.unusedSimpArgs false
set_option maxHeartbeats 1000000
theorem F26.ag2 : tagg Try.prog 2 = some false := by kernel_rfl
theorem F26.sz4 : tsz Try.prog 4 = some 1 := by kernel_rfl
theorem F26.ta29_29 : tapp Try.prog 29 29 = some (1, 1) := by kernel_rfl
theorem F26.te29 : telem Try.prog 29 = some 4 := by kernel_rfl
theorem F26.ti22 : (telem Try.prog 22).isSome = true := by kernel_rfl
theorem F26.tl22 : (telem Try.prog 22).bind (tsz Try.prog) = some 1 := by kernel_rfl
theorem F26.ze4 : tzero Try.prog 4 = some [(.bool false)] := by kernel_rfl
theorem impl_PlaneOf_ok {fr : List Pc} {H : Heap} (v0 : AV) (l0 : List (Int)) (a1 : Int) (hs : Sep H (fr)) (g0 : ∀ H, Sep H fr → Shows H v0 1 (enc (eInt .i64) l0)) (K : (List (Bool)) → Bool → Prop) (h : impl_PlaneOf.wp l0 a1 K) : OkQ Try.prog 26 [(.v v0), (.v (.int .i64 a1))] H (fun r H2 => ∃ (y0 : List (Bool)) (y1 : Bool), K y0 y1 ∧ ∃ (w0_ : AV), r = (.t [(.v w0_), (.v (.bool y1))]) ∧ Sep H2 (Pc.osl w0_ 1 (enc eBool y0) :: fr)) := by
  unfold impl_PlaneOf.wp at h
  refine of_body Try.f26 F.hm Try.func26 rfl Try.call26 (by kernel_rfl) (by simp) ?_
  refine fi_seq ?_
  refine fi_region ?_
  refine so_assign rfl ?_
  refine so_assign rfl ?_
  refine so_nil ?_
  refine fi_seq ?_
  refine fi_seq ?_
  refine fi_region ?_
  refine so_move rfl ?_
  refine sv_callS (impl_AreIntegers_ok v0 l0 hs (fun _ hs => (g0 _ hs)) _ h) (fun _ _ ⟨_, _, _, e⟩ => e) rfl rfl ?_
  clear h
  rintro _ _ ⟨y101, h, rfl, rfl⟩
  refine so_un rfl au_not ?_
  refine so_move rfl ?_
  replace h := ofT h; rcases h with ⟨c103, h⟩ | ⟨c103, h⟩
  · refine so_gyes rfl (not_f c103) ?_
    refine so_move rfl ?_
    refine so_gyes rfl (not_f c103) ?_
    refine sv_callS (impl_within_ok a1 (0 : Int) (23 : Int) hs  _ h) (fun _ _ ⟨_, _, _, e⟩ => e) rfl rfl ?_
    clear h
    rintro _ _ ⟨y104, h, rfl, rfl⟩
    refine so_gyes rfl (not_f c103) ?_
    refine so_un rfl au_not ?_
    refine so_pick_f rfl (not_f c103) rfl ?_
    refine so_nil ?_
    replace h := ofT h; rcases h with ⟨c106, h⟩ | ⟨c106, h⟩
    · refine fi_false rfl (not_f c106) ?_
      refine fi_skip ?_
      refine fi_seq ?_
      refine fi_region ?_
      refine sv_bslice hs eBool ([] : List (Bool)) [] F26.te29 F26.sz4 F26.ze4 rfl rfl rfl rfl (fun _ => rfl) rfl (by decide) nofun (fun v107 H108 nv107 hs => ?_)
      refine so_assign rfl ?_
      refine so_nil ?_
      refine fi_seq ?_
      refine fi_seq ?_
      refine fi_region ?_
      refine so_move rfl ?_
      refine sv_len (g0 _ hs.tl) (fun _ => rfl) (by decide) rfl F26.ti22 ?_
      refine so_move rfl ?_
      refine so_nil ?_
      refine fi_block ?_
      refine fi_loop ?_
      refine fi_at [(1, (.v (.int .i64 a1))), (6, (.v v107)), (18, (.v v0)), (19, (.v (.int .i64 (l0.length : Int)))), (20, (.v (.int .i64 (0 : Int))))] ⟨rfl, rfl, rfl, rfl, rfl, trivial⟩ ?_
      refine h (fun (out125 : List (Bool)) (x127 : Int) => ∀ (s : Nat → TV) (H : Heap) (v126 : AV) (nv126 : v126 ≠ .nilsl), Sep H (Pc.osl v126 1 (enc eBool out125) :: fr) → Fin _ _ (updL s [(1, (.v (.int .i64 a1))), (6, (.v v126)), (18, (.v v0)), (19, (.v (.int .i64 (l0.length : Int)))), (20, (.v (.int .i64 x127)))]) H _) ?_ _ _ _ nv107 hs
      intro out125 x127 h s138 H139 v126 nv126 hs
      refine fi_inLoop ?_
      refine fi_seq ?_
      refine fi_region ?_
      refine so_bin rfl rfl ab_lss ?_
      refine so_nil ?_
      refine fi_seq ?_
      replace h := ofP h; rcases h with ⟨c128, h⟩ | ⟨c128, h⟩
      · refine fi_true rfl (decide_eq_true c128) ?_
        refine fi_skip ?_
        refine fi_seq ?_
        refine fi_block ?_
        refine fi_seq ?_
        refine fi_region ?_
        obtain ⟨c129, h⟩ := h
        refine sv_idx (g0 _ hs.tl) c129 (fun _ => rfl) (by decide) rfl rfl F26.tl22 ?_
        refine sv_cell (g0 _ hs.tl) c129 (0 : Int) 0 (fun x => (AV.int .i64 x)) (fun _ => rfl) (fun _ => rfl) rfl F26.ag2 ?_
        refine so_assign rfl ?_
        refine so_nil ?_
        refine fi_region ?_
        refine so_move rfl ?_
        refine so_move rfl ?_
        refine so_move rfl ?_
        refine sv_callS (impl_digit_ok (l0.getD (x127).toNat (0 : Int)) a1 hs  _ h) (fun _ _ ⟨_, _, _, e⟩ => e) rfl rfl ?_
        clear h
        rintro _ _ ⟨y130, h, rfl, rfl⟩
        refine sv_bslice hs eBool ([y130] : List (Bool)) [[(.bool y130)]] F26.te29 F26.sz4 F26.ze4 rfl rfl rfl rfl (fun _ => rfl) rfl (by decide) nofun (fun v132 H133 nv132 hs => ?_)
        obtain ⟨c137, h⟩ := h
        refine sv_app hs 1 rfl (hs.shows 0 rfl) (fun _ => rfl) (by decide) F26.ta29_29 (by decide) c137 rfl rfl nofun (fun v135 H136 kv135 hs => ?_)
        replace hs := hs.del 0
        have nv135 := kv135 nv126
        refine so_assign rfl ?_
        refine so_nil ?_
        refine fi_inBlock ?_
        refine fi_region ?_
        refine so_bin rfl rfl ab_add ?_
        refine so_move rfl ?_
        refine so_nil ?_
        exact fi_at [(1, (.v (.int .i64 a1))), (6, (.v v135)), (18, (.v v0)), (19, (.v (.int .i64 (l0.length : Int)))), (20, (.v (.int .i64 (IntKind.i64.wrap (x127 + (1 : Int))))))] ⟨rfl, rfl, rfl, rfl, rfl, trivial⟩ (h _ _ _ nv135 hs)
      · refine fi_false rfl (decide_eq_false c128) ?_
        refine fi_exit rfl ?_
        refine fi_seq ?_
        refine fi_region ?_
        refine so_move rfl ?_
        refine so_assign rfl ?_
        refine so_assign rfl ?_
        refine so_nil ?_
        exact by_ret rfl ⟨_, _, h, _, rfl, hs⟩
    · refine fi_true rfl (not_t c106) ?_
      refine fi_seq ?_
      refine fi_region ?_
      refine so_assign rfl ?_
      refine so_assign rfl ?_
      refine so_nil ?_
      exact by_ret rfl ⟨_, _, h, _, rfl, (Sep.nil hs 1)⟩
  · refine so_gno rfl (not_t c103) ?_
    refine so_gno rfl (not_t c103) ?_
    refine so_gno rfl (not_t c103) ?_
    refine so_pick_t rfl (not_t c103) rfl ?_
    refine so_nil ?_
    refine fi_true rfl rfl ?_
    refine fi_seq ?_
    refine fi_region ?_
    refine so_assign rfl ?_
    refine so_assign rfl ?_
    refine so_nil ?_
    exact by_ret rfl ⟨_, _, h, _, rfl, (Sep.nil hs 1)⟩

end Go.Proofs.Ytplfnchoooehgaa.G

namespace Go.Proofs.Ytplfnchoooehgaa.G
open Go Go.Ab Go.Proofs Go.Proofs.Ytplfnchoooehgaa
set_option maxRecDepth 100000
set_option linter.unusedVariables false
set_option linter.unusedSimpArgs false
set_option maxHeartbeats 1000000
theorem laws_r8Abs_ok {fr : List Pc} {H : Heap} (a0 : Int) (hs : Sep H (fr))  (K : Int → Prop) (h : laws_r8Abs.wp a0 K) : OkQ Try.prog 27 [(.v (.int .i64 a0))] H (fun r H2 => ∃ (y0 : Int), K y0 ∧ r = (.v (.int .i64 y0)) ∧ H = H2) := by
  unfold laws_r8Abs.wp at h
  refine of_body Try.f27 F.hm Try.func27 rfl Try.call27 (by kernel_rfl) (by simp) ?_
  refine fi_seq ?_
  refine fi_region ?_
  refine so_assign rfl ?_
  refine so_nil ?_
  refine fi_seq ?_
  refine fi_region ?_
  refine so_move rfl ?_
  refine so_move rfl ?_
  refine so_un rfl au_neg ?_
  refine sv_max rfl rfl ?_
  refine so_assign rfl ?_
  refine so_nil ?_
  exact by_ret rfl ⟨_, h, rfl, rfl⟩

end Go.Proofs.Ytplfnchoooehgaa.G

namespace Go.Proofs.Ytplfnchoooehgaa.G
open Go Go.Ab Go.Proofs Go.Proofs.Ytplfnchoooehgaa
set_option maxRecDepth 100000
set_option linter.unusedVariables false
set_option linter.unusedSimpArgs false
set_option maxHeartbeats 1000000
theorem F28.ag2 : tagg Try.prog 2 = some false := by kernel_rfl
theorem F28.tl22 : (telem Try.prog 22).bind (tsz Try.prog) = some 1 := by kernel_rfl
theorem impl_ParentOf_ok {fr : List Pc} {H : Heap} (a0 : Int) (a1 : Int) (a2 : Int) (hs : Sep H (fr))  (K : Int → Bool → Prop) (h : impl_ParentOf.wp a0 a1 a2 K) : OkQ Try.prog 28 [(.v (.int .i64 a0)), (.v (.int .i64 a1)), (.v (.int .i64 a2))] H (fun r H2 => ∃ (y0 : Int) (y1 : Bool), K y0 y1 ∧ r = (.t [(.v (.int .i64 y0)), (.v (.bool y1))]) ∧ Sep H2 (fr)) := by
  unfold impl_ParentOf.wp at h
  refine of_body Try.f28 F.hm Try.func28 rfl Try.call28 (by kernel_rfl) (by simp) ?_
  refine fi_seq ?_
  refine fi_region ?_
  refine so_assign rfl ?_
  refine so_assign rfl ?_
  refine so_nil ?_
  refine fi_seq ?_
  refine fi_region ?_
  refine so_move rfl ?_
  refine so_move rfl ?_
  refine sv_call (impl_parentsOf_ok a0 a1 hs  _ h) rfl rfl nofun ?_
  clear h hs
  rintro _ H105 ⟨y101, y104, h, v102, rfl, hs⟩
  refine so_move rfl ?_
  refine so_extract rfl rfl rfl ?_
  refine so_extract rfl rfl rfl ?_
  refine so_assign rfl ?_
  refine so_assign rfl ?_
  refine so_nil ?_
  refine fi_seq ?_
  refine fi_seq ?_
  refine fi_region ?_
  refine so_move rfl ?_
  refine so_un rfl au_not ?_
  refine so_move rfl ?_
  replace h := ofT h; rcases h with ⟨c106, h⟩ | ⟨c106, h⟩
  · refine so_gyes rfl (not_f c106) ?_
    refine so_move rfl ?_
    refine so_gyes rfl (not_f c106) ?_
    refine so_move rfl ?_
    refine so_gyes rfl (not_f c106) ?_
    refine so_bin rfl rfl ab_sub ?_
    refine so_gyes rfl (not_f c106) ?_
    refine sv_callS (impl_within_ok a2 (0 : Int) (IntKind.i64.wrap (a0 - (1 : Int))) hs  _ h) (fun _ _ ⟨_, _, _, e⟩ => e) rfl rfl ?_
    clear h
    rintro _ _ ⟨y107, h, rfl, rfl⟩
    refine so_gyes rfl (not_f c106) ?_
    refine so_un rfl au_not ?_
    refine so_pick_f rfl (not_f c106) rfl ?_
    refine so_nil ?_
    replace h := ofT h; rcases h with ⟨c109, h⟩ | ⟨c109, h⟩
    · refine fi_false rfl (not_f c109) ?_
      refine fi_skip ?_
      refine fi_seq ?_
      refine fi_region ?_
      refine so_move rfl ?_
      refine so_move rfl ?_
      obtain ⟨c110, h⟩ := h
      refine sv_idx (hs.shows 0 rfl) c110 (fun _ => rfl) (by decide) rfl rfl F28.tl22 ?_
      refine sv_cell (hs.shows 0 rfl) c110 (0 : Int) 0 (fun x => (AV.int .i64 x)) (fun _ => rfl) (fun _ => rfl) rfl F28.ag2 ?_
      refine so_assign rfl ?_
      refine so_assign rfl ?_
      refine so_nil ?_
      exact by_ret rfl ⟨_, _, h, rfl, (Sep.del 0 hs)⟩
    · refine fi_true rfl (not_t c109) ?_
      refine fi_seq ?_
      refine fi_region ?_
      refine so_assign rfl ?_
      refine so_assign rfl ?_
      refine so_nil ?_
      exact by_ret rfl ⟨_, _, h, rfl, (Sep.del 0 hs)⟩
  · refine so_gno rfl (not_t c106) ?_
    refine so_gno rfl (not_t c106) ?_
    refine so_gno rfl (not_t c106) ?_
    refine so_gno rfl (not_t c106) ?_
    refine so_gno rfl (not_t c106) ?_
    refine so_pick_t rfl (not_t c106) rfl ?_
    refine so_nil ?_
    refine fi_true rfl rfl ?_
    refine fi_seq ?_
    refine fi_region ?_
    refine so_assign rfl ?_
    refine so_assign rfl ?_
    refine so_nil ?_
    exact by_ret rfl ⟨_, _, h, rfl, (Sep.del 0 hs)⟩

end Go.Proofs.Ytplfnchoooehgaa.G

namespace Go.Proofs.Ytplfnchoooehgaa.G
open Go Go.Ab Go.Proofs Go.Proofs.Ytplfnchoooehgaa
set_option maxRecDepth 100000
set_option linter.unusedVariables false
set_option linter.unusedSimpArgs false
set_option maxHeartbeats 1000000
theorem F9.ag2 : tagg Try.prog 2 = some false := by kernel_rfl
theorem F9.ag4 : tagg Try.prog 4 = some false := by kernel_rfl
theorem F9.by4 : tbytes Try.prog 4 = some 1 := by kernel_rfl
theorem F9.sz2 : tsz Try.prog 2 = some 1 := by kernel_rfl
theorem F9.sz4 : tsz Try.prog 4 = some 1 := by kernel_rfl
theorem F9.ta22_22 : tapp Try.prog 22 22 = some (1, 8) := by kernel_rfl
theorem F9.te22 : telem Try.prog 22 = some 2 := by kernel_rfl
theorem F9.te29 : telem Try.prog 29 = some 4 := by kernel_rfl
theorem F9.ti22 : (telem Try.prog 22).isSome = true := by kernel_rfl
theorem F9.ti29 : (telem Try.prog 29).isSome = true := by kernel_rfl
theorem F9.tl22 : (telem Try.prog 22).bind (tsz Try.prog) = some 1 := by kernel_rfl
theorem F9.tl29 : (telem Try.prog 29).bind (tsz Try.prog) = some 1 := by kernel_rfl
theorem F9.ze2 : tzero Try.prog 2 = some [(.int .i64 (0 : Int))] := by kernel_rfl
theorem F9.ze4 : tzero Try.prog 4 = some [(.bool false)] := by kernel_rfl
theorem impl_ZeroTrees_ok {fr : List Pc} {H : Heap} (v0 : AV) (l0 : List (Int)) (a1 : Int) (a2 : Int) (hs : Sep H (fr)) (g0 : ∀ H, Sep H fr → Shows H v0 1 (enc (eInt .i64) l0)) (K : (List (Int)) → Bool → Prop) (h : impl_ZeroTrees.wp l0 a1 a2 K) : OkQ Try.prog 9 [(.v v0), (.v (.int .i64 a1)), (.v (.int .i64 a2))] H (fun r H2 => ∃ (y0 : List (Int)) (y1 : Bool), K y0 y1 ∧ ∃ (w0_ : AV), r = (.t [(.v w0_), (.v (.bool y1))]) ∧ Sep H2 (Pc.osl w0_ 1 (enc (eInt .i64) y0) :: fr)) := by
  unfold impl_ZeroTrees.wp at h
  refine of_body Try.f9 F.hm Try.func9 rfl Try.call9 (by kernel_rfl) (by simp) ?_
  refine fi_seq ?_
  refine fi_region ?_
  refine so_assign rfl ?_
  refine so_assign rfl ?_
  refine so_nil ?_
  refine fi_seq ?_
  refine fi_region ?_
  refine so_move rfl ?_
  refine sv_len (g0 _ hs) (fun _ => rfl) (by decide) rfl F9.ti22 ?_
  refine so_move rfl ?_
  refine sv_call (impl_parentsOf_ok (l0.length : Int) a1 hs  _ h) rfl rfl nofun ?_
  clear h hs
  rintro _ H105 ⟨y101, y104, h, v102, rfl, hs⟩
  refine so_move rfl ?_
  refine so_extract rfl rfl rfl ?_
  refine so_extract rfl rfl rfl ?_
  refine so_assign rfl ?_
  refine so_assign rfl ?_
  refine so_nil ?_
  refine fi_seq ?_
  refine fi_seq ?_
  refine fi_region ?_
  refine so_move rfl ?_
  refine so_un rfl au_not ?_
  refine so_move rfl ?_
  replace h := ofT h; rcases h with ⟨c106, h⟩ | ⟨c106, h⟩
  · refine so_gyes rfl (not_f c106) ?_
    refine so_move rfl ?_
    refine so_gyes rfl (not_f c106) ?_
    refine sv_callS (impl_AreIntegers_ok v0 l0 hs (fun _ hs => (g0 _ hs.tl)) _ h) (fun _ _ ⟨_, _, _, e⟩ => e) rfl rfl ?_
    clear h
    rintro _ _ ⟨y107, h, rfl, rfl⟩
    refine so_gyes rfl (not_f c106) ?_
    refine so_un rfl au_not ?_
    refine so_pick_f rfl (not_f c106) rfl ?_
    refine so_move rfl ?_
    replace h := ofT h; rcases h with ⟨c109, h⟩ | ⟨c109, h⟩
    · refine so_gyes rfl (not_f c109) ?_
      refine so_move rfl ?_
      refine so_gyes rfl (not_f c109) ?_
      refine sv_callS (impl_within_ok a2 (0 : Int) (24 : Int) hs  _ h) (fun _ _ ⟨_, _, _, e⟩ => e) rfl rfl ?_
      clear h
      rintro _ _ ⟨y110, h, rfl, rfl⟩
      refine so_gyes rfl (not_f c109) ?_
      refine so_un rfl au_not ?_
      refine so_pick_f rfl (not_f c109) rfl ?_
      refine so_nil ?_
      replace h := ofT h; rcases h with ⟨c112, h⟩ | ⟨c112, h⟩
      · refine fi_false rfl (not_f c112) ?_
        refine fi_skip ?_
        refine fi_seq ?_
        refine fi_region ?_
        refine so_move rfl ?_
        refine sv_len (g0 _ hs.tl) (fun _ => rfl) (by decide) rfl F9.ti22 ?_
        obtain ⟨c113, h⟩ := h
        refine sv_make hs eBool false c113 (fun _ => rfl) rfl rfl F9.te29 F9.sz4 F9.by4 F9.ze4 rfl rfl nofun (fun v114 H115 nv114 hs => ?_)
        refine so_assign rfl ?_
        refine so_nil ?_
        refine fi_seq ?_
        refine fi_seq ?_
        refine fi_region ?_
        refine so_move rfl ?_
        refine sv_len (g0 _ hs.tl.tl) (fun _ => rfl) (by decide) rfl F9.ti22 ?_
        refine so_move rfl ?_
        refine so_nil ?_
        refine fi_block ?_
        refine fi_loop ?_
        refine fi_at [(0, (.v v0)), (2, (.v (.int .i64 a2))), (8, (.v v102)), (10, (.v v114)), (39, (.v v0)), (40, (.v (.int .i64 (l0.length : Int)))), (41, (.v (.int .i64 (0 : Int))))] ⟨rfl, rfl, rfl, rfl, rfl, rfl, rfl, trivial⟩ ?_
        refine h (fun (zero250 : List (Bool)) (x251 : Int) => ∀ (s : Nat → TV) (H : Heap), Sep H (Pc.osl v114 1 (enc eBool zero250) :: Pc.osl v102 1 (enc (eInt .i64) y101) :: fr) → Fin _ _ (updL s [(0, (.v v0)), (2, (.v (.int .i64 a2))), (8, (.v v102)), (10, (.v v114)), (39, (.v v0)), (40, (.v (.int .i64 (l0.length : Int)))), (41, (.v (.int .i64 x251)))]) H _) ?_ _ _ hs
        intro zero250 x251 h s382 H383 hs
        refine fi_inLoop ?_
        refine fi_seq ?_
        refine fi_region ?_
        refine so_bin rfl rfl ab_lss ?_
        refine so_nil ?_
        refine fi_seq ?_
        replace h := ofP h; rcases h with ⟨c252, h⟩ | ⟨c252, h⟩
        · refine fi_true rfl (decide_eq_true c252) ?_
          refine fi_skip ?_
          refine fi_seq ?_
          refine fi_block ?_
          refine fi_seq ?_
          refine fi_region ?_
          refine so_move rfl ?_
          obtain ⟨c253, h⟩ := h
          refine sv_idx (g0 _ hs.tl.tl) c253 (fun _ => rfl) (by decide) rfl rfl F9.tl22 ?_
          refine sv_cell (g0 _ hs.tl.tl) c253 (0 : Int) 0 (fun x => (AV.int .i64 x)) (fun _ => rfl) (fun _ => rfl) rfl F9.ag2 ?_
          refine so_assign rfl ?_
          refine so_assign rfl ?_
          refine so_nil ?_
          refine fi_region ?_
          refine so_move rfl ?_
          refine so_move rfl ?_
          refine so_move rfl ?_
          refine sv_callS (impl_far_ok (l0.getD (x251).toNat (0 : Int)) hs  _ h) (fun _ _ ⟨_, _, _, e⟩ => e) rfl rfl ?_
          clear h
          rintro _ _ ⟨y254, h, rfl, rfl⟩
          refine so_move rfl ?_
          obtain ⟨c256, h⟩ := h
          refine so_bin rfl rfl (ab_shr c256) ?_
          refine so_bin rfl rfl ab_eql ?_
          obtain ⟨c257, h⟩ := h
          refine sv_idx (hs.shows 0 rfl) c257 (fun _ => rfl) (by decide) rfl rfl F9.tl29 ?_
          refine sv_set hs 0 rfl c257 (decide ((Int.fdiv y254 (2 ^ (min (a2).toNat IntKind.i64.bits))) = (0 : Int))) (fun _ => rfl) (by decide) rfl rfl rfl rfl F9.sz4 nofun (fun H258 hs => ?_)
          refine so_nil ?_
          refine fi_inBlock ?_
          refine fi_region ?_
          refine so_bin rfl rfl ab_add ?_
          refine so_move rfl ?_
          refine so_nil ?_
          exact fi_at [(0, (.v v0)), (2, (.v (.int .i64 a2))), (8, (.v v102)), (10, (.v v114)), (39, (.v v0)), (40, (.v (.int .i64 (l0.length : Int)))), (41, (.v (.int .i64 (IntKind.i64.wrap (x251 + (1 : Int))))))] ⟨rfl, rfl, rfl, rfl, rfl, rfl, rfl, trivial⟩ (h _ _  hs)
        · refine fi_false rfl (decide_eq_false c252) ?_
          refine fi_exit rfl ?_
          refine fi_seq ?_
          refine fi_seq ?_
          refine fi_region ?_
          refine so_move rfl ?_
          refine sv_len (g0 _ hs.tl.tl) (fun _ => rfl) (by decide) rfl F9.ti22 ?_
          refine so_bin rfl rfl ab_sub ?_
          refine so_assign rfl ?_
          refine so_nil ?_
          refine fi_block ?_
          refine fi_loop ?_
          refine fi_at [(8, (.v v102)), (10, (.v v114)), (13, (.v (.int .i64 (IntKind.i64.wrap ((l0.length : Int) - (1 : Int))))))] ⟨rfl, rfl, rfl, trivial⟩ ?_
          refine h (fun (zero320 : List (Bool)) (i321 : Int) => ∀ (s : Nat → TV) (H : Heap), Sep H (Pc.osl v114 1 (enc eBool zero320) :: Pc.osl v102 1 (enc (eInt .i64) y101) :: fr) → Fin _ _ (updL s [(8, (.v v102)), (10, (.v v114)), (13, (.v (.int .i64 i321)))]) H _) ?_ _ _ hs
          intro zero320 i321 h s380 H381 hs
          refine fi_inLoop ?_
          refine fi_seq ?_
          refine fi_seq ?_
          refine fi_region ?_
          refine so_move rfl ?_
          refine so_bin rfl rfl ab_geq ?_
          refine so_nil ?_
          replace h := ofP h; rcases h with ⟨c322, h⟩ | ⟨c322, h⟩
          · refine fi_true rfl (decide_eq_true c322) ?_
            refine fi_skip ?_
            refine fi_seq ?_
            refine fi_block ?_
            refine fi_seq ?_
            refine fi_region ?_
            refine so_move rfl ?_
            refine so_move rfl ?_
            obtain ⟨c323, h⟩ := h
            refine sv_idx (hs.shows 1 rfl) c323 (fun _ => rfl) (by decide) rfl rfl F9.tl22 ?_
            refine sv_cell (hs.shows 1 rfl) c323 (0 : Int) 0 (fun x => (AV.int .i64 x)) (fun _ => rfl) (fun _ => rfl) rfl F9.ag2 ?_
            refine so_bin rfl rfl ab_geq ?_
            refine so_move rfl ?_
            replace h := ofP h; rcases h with ⟨c324, h⟩ | ⟨c324, h⟩
            · refine so_gyes rfl (decide_eq_true c324) ?_
              refine so_move rfl ?_
              refine so_gyes rfl (decide_eq_true c324) ?_
              refine so_move rfl ?_
              refine so_gyes rfl (decide_eq_true c324) ?_
              obtain ⟨c325, h⟩ := h
              refine sv_idx (hs.shows 0 rfl) c325 (fun _ => rfl) (by decide) rfl rfl F9.tl29 ?_
              refine so_gyes rfl (decide_eq_true c324) ?_
              refine sv_cell (hs.shows 0 rfl) c325 false 0 (fun x => (AV.bool x)) (fun _ => rfl) (fun _ => rfl) rfl F9.ag4 ?_
              refine so_gyes rfl (decide_eq_true c324) ?_
              refine so_un rfl au_not ?_
              refine so_pick_t rfl (decide_eq_true c324) rfl ?_
              refine so_nil ?_
              replace h := ofT h; rcases h with ⟨c326, h⟩ | ⟨c326, h⟩
              · refine fi_false rfl (not_f c326) ?_
                refine fi_skip ?_
                refine fi_inBlock ?_
                refine fi_region ?_
                refine so_move rfl ?_
                refine so_bin rfl rfl ab_sub ?_
                refine so_assign rfl ?_
                refine so_nil ?_
                exact fi_at [(8, (.v v102)), (10, (.v v114)), (13, (.v (.int .i64 (IntKind.i64.wrap (i321 - (1 : Int))))))] ⟨rfl, rfl, rfl, trivial⟩ (h _ _  hs)
              · refine fi_true rfl (not_t c326) ?_
                refine fi_region ?_
                refine so_move rfl ?_
                refine so_move rfl ?_
                refine so_move rfl ?_
                refine sv_idx (hs.shows 1 rfl) c323 (fun _ => rfl) (by decide) rfl rfl F9.tl22 ?_
                refine sv_cell (hs.shows 1 rfl) c323 (0 : Int) 0 (fun x => (AV.int .i64 x)) (fun _ => rfl) (fun _ => rfl) rfl F9.ag2 ?_
                obtain ⟨c327, h⟩ := h
                refine sv_idx (hs.shows 0 rfl) c327 (fun _ => rfl) (by decide) rfl rfl F9.tl29 ?_
                refine sv_set hs 0 rfl c327 false (fun _ => rfl) (by decide) rfl rfl rfl rfl F9.sz4 nofun (fun H328 hs => ?_)
                refine so_nil ?_
                refine fi_inBlock ?_
                refine fi_region ?_
                refine so_move rfl ?_
                refine so_bin rfl rfl ab_sub ?_
                refine so_assign rfl ?_
                refine so_nil ?_
                exact fi_at [(8, (.v v102)), (10, (.v v114)), (13, (.v (.int .i64 (IntKind.i64.wrap (i321 - (1 : Int))))))] ⟨rfl, rfl, rfl, trivial⟩ (h _ _  hs)
            · refine so_gno rfl (decide_eq_false c324) ?_
              refine so_gno rfl (decide_eq_false c324) ?_
              refine so_gno rfl (decide_eq_false c324) ?_
              refine so_gno rfl (decide_eq_false c324) ?_
              refine so_gno rfl (decide_eq_false c324) ?_
              refine so_pick_f rfl (decide_eq_false c324) rfl ?_
              refine so_nil ?_
              refine fi_false rfl rfl ?_
              refine fi_skip ?_
              refine fi_inBlock ?_
              refine fi_region ?_
              refine so_move rfl ?_
              refine so_bin rfl rfl ab_sub ?_
              refine so_assign rfl ?_
              refine so_nil ?_
              exact fi_at [(8, (.v v102)), (10, (.v v114)), (13, (.v (.int .i64 (IntKind.i64.wrap (i321 - (1 : Int))))))] ⟨rfl, rfl, rfl, trivial⟩ (h _ _  hs)
          · refine fi_false rfl (decide_eq_false c322) ?_
            refine fi_exit rfl ?_
            refine fi_seq ?_
            refine fi_region ?_
            refine sv_bslice hs (eInt .i64) ([] : List (Int)) [] F9.te22 F9.sz2 F9.ze2 rfl rfl rfl rfl (fun _ => rfl) rfl (by decide) nofun (fun v329 H330 nv329 hs => ?_)
            refine so_assign rfl ?_
            refine so_nil ?_
            refine fi_seq ?_
            refine fi_seq ?_
            refine fi_region ?_
            refine so_move rfl ?_
            refine sv_len (hs.shows 1 rfl) (fun _ => rfl) (by decide) rfl F9.ti29 ?_
            refine so_move rfl ?_
            refine so_nil ?_
            refine fi_block ?_
            refine fi_loop ?_
            refine fi_at [(8, (.v v102)), (10, (.v v114)), (14, (.v v329)), (81, (.v v114)), (82, (.v (.int .i64 (zero320.length : Int)))), (83, (.v (.int .i64 (0 : Int))))] ⟨rfl, rfl, rfl, rfl, rfl, rfl, trivial⟩ ?_
            refine h (fun (out356 : List (Int)) (x358 : Int) => ∀ (s : Nat → TV) (H : Heap) (v357 : AV) (nv357 : v357 ≠ .nilsl), Sep H (Pc.osl v357 1 (enc (eInt .i64) out356) :: Pc.osl v114 1 (enc eBool zero320) :: Pc.osl v102 1 (enc (eInt .i64) y101) :: fr) → Fin _ _ (updL s [(8, (.v v102)), (10, (.v v114)), (14, (.v v357)), (81, (.v v114)), (82, (.v (.int .i64 (zero320.length : Int)))), (83, (.v (.int .i64 x358)))]) H _) ?_ _ _ _ nv329 hs
            intro out356 x358 h s378 H379 v357 nv357 hs
            refine fi_inLoop ?_
            refine fi_seq ?_
            refine fi_region ?_
            refine so_bin rfl rfl ab_lss ?_
            refine so_nil ?_
            refine fi_seq ?_
            replace h := ofP h; rcases h with ⟨c359, h⟩ | ⟨c359, h⟩
            · refine fi_true rfl (decide_eq_true c359) ?_
              refine fi_skip ?_
              refine fi_seq ?_
              refine fi_block ?_
              refine fi_seq ?_
              refine fi_region ?_
              refine so_move rfl ?_
              obtain ⟨c360, h⟩ := h
              refine sv_idx (hs.shows 1 rfl) c360 (fun _ => rfl) (by decide) rfl rfl F9.tl29 ?_
              refine sv_cell (hs.shows 1 rfl) c360 false 0 (fun x => (AV.bool x)) (fun _ => rfl) (fun _ => rfl) rfl F9.ag4 ?_
              refine so_assign rfl ?_
              refine so_assign rfl ?_
              refine so_nil ?_
              refine fi_seq ?_
              refine fi_region ?_
              refine so_move rfl ?_
              refine so_move rfl ?_
              replace h := ofT h; rcases h with ⟨c361, h⟩ | ⟨c361, h⟩
              · refine so_gyes rfl c361 ?_
                refine so_move rfl ?_
                refine so_gyes rfl c361 ?_
                refine so_move rfl ?_
                refine so_gyes rfl c361 ?_
                obtain ⟨c362, h⟩ := h
                refine sv_idx (hs.shows 2 rfl) c362 (fun _ => rfl) (by decide) rfl rfl F9.tl22 ?_
                refine so_gyes rfl c361 ?_
                refine sv_cell (hs.shows 2 rfl) c362 (0 : Int) 0 (fun x => (AV.int .i64 x)) (fun _ => rfl) (fun _ => rfl) rfl F9.ag2 ?_
                refine so_gyes rfl c361 ?_
                refine so_bin rfl rfl ab_lss ?_
                refine so_gyes rfl c361 ?_
                refine so_move rfl ?_
                replace h := ofP h; rcases h with ⟨c363, h⟩ | ⟨c363, h⟩
                · refine so_gno rfl (decide_eq_true c363) ?_
                  refine so_gno rfl (decide_eq_true c363) ?_
                  refine so_gno rfl (decide_eq_true c363) ?_
                  refine so_gno rfl (decide_eq_true c363) ?_
                  refine so_gno rfl (decide_eq_true c363) ?_
                  refine so_gno rfl (decide_eq_true c363) ?_
                  refine so_gno rfl (decide_eq_true c363) ?_
                  refine so_gno rfl (decide_eq_true c363) ?_
                  refine so_gyes rfl c361 ?_
                  refine so_pick_t rfl (decide_eq_true c363) rfl ?_
                  refine so_pick_t rfl c361 rfl ?_
                  refine so_nil ?_
                  refine fi_true rfl rfl ?_
                  refine fi_region ?_
                  refine so_move rfl ?_
                  refine so_move rfl ?_
                  refine sv_bslice hs (eInt .i64) ([x358] : List (Int)) [[(.int .i64 x358)]] F9.te22 F9.sz2 F9.ze2 rfl rfl rfl rfl (fun _ => rfl) rfl (by decide) nofun (fun v364 H365 nv364 hs => ?_)
                  obtain ⟨c369, h⟩ := h
                  refine sv_app hs 1 rfl (hs.shows 0 rfl) (fun _ => rfl) (by decide) F9.ta22_22 (by decide) c369 rfl rfl nofun (fun v367 H368 kv367 hs => ?_)
                  replace hs := hs.del 0
                  have nv367 := kv367 nv357
                  refine so_assign rfl ?_
                  refine so_nil ?_
                  refine fi_inBlock ?_
                  refine fi_region ?_
                  refine so_bin rfl rfl ab_add ?_
                  refine so_move rfl ?_
                  refine so_nil ?_
                  exact fi_at [(8, (.v v102)), (10, (.v v114)), (14, (.v v367)), (81, (.v v114)), (82, (.v (.int .i64 (zero320.length : Int)))), (83, (.v (.int .i64 (IntKind.i64.wrap (x358 + (1 : Int))))))] ⟨rfl, rfl, rfl, rfl, rfl, rfl, trivial⟩ (h _ _ _ nv367 hs)
                · refine so_gyes rfl (decide_eq_false c363) ?_
                  refine so_move rfl ?_
                  refine so_gyes rfl (decide_eq_false c363) ?_
                  refine so_move rfl ?_
                  refine so_gyes rfl (decide_eq_false c363) ?_
                  refine so_move rfl ?_
                  refine so_gyes rfl (decide_eq_false c363) ?_
                  refine sv_idx (hs.shows 2 rfl) c362 (fun _ => rfl) (by decide) rfl rfl F9.tl22 ?_
                  refine so_gyes rfl (decide_eq_false c363) ?_
                  refine sv_cell (hs.shows 2 rfl) c362 (0 : Int) 0 (fun x => (AV.int .i64 x)) (fun _ => rfl) (fun _ => rfl) rfl F9.ag2 ?_
                  refine so_gyes rfl (decide_eq_false c363) ?_
                  obtain ⟨c370, h⟩ := h
                  refine sv_idx (hs.shows 1 rfl) c370 (fun _ => rfl) (by decide) rfl rfl F9.tl29 ?_
                  refine so_gyes rfl (decide_eq_false c363) ?_
                  refine sv_cell (hs.shows 1 rfl) c370 false 0 (fun x => (AV.bool x)) (fun _ => rfl) (fun _ => rfl) rfl F9.ag4 ?_
                  refine so_gyes rfl (decide_eq_false c363) ?_
                  refine so_un rfl au_not ?_
                  refine so_gyes rfl c361 ?_
                  refine so_pick_f rfl (decide_eq_false c363) rfl ?_
                  refine so_pick_t rfl c361 rfl ?_
                  refine so_nil ?_
                  replace h := ofT h; rcases h with ⟨c371, h⟩ | ⟨c371, h⟩
                  · refine fi_false rfl (not_f c371) ?_
                    refine fi_skip ?_
                    refine fi_inBlock ?_
                    refine fi_region ?_
                    refine so_bin rfl rfl ab_add ?_
                    refine so_move rfl ?_
                    refine so_nil ?_
                    exact fi_at [(8, (.v v102)), (10, (.v v114)), (14, (.v v357)), (81, (.v v114)), (82, (.v (.int .i64 (zero320.length : Int)))), (83, (.v (.int .i64 (IntKind.i64.wrap (x358 + (1 : Int))))))] ⟨rfl, rfl, rfl, rfl, rfl, rfl, trivial⟩ (h _ _ _ nv357 hs)
                  · refine fi_true rfl (not_t c371) ?_
                    refine fi_region ?_
                    refine so_move rfl ?_
                    refine so_move rfl ?_
                    refine sv_bslice hs (eInt .i64) ([x358] : List (Int)) [[(.int .i64 x358)]] F9.te22 F9.sz2 F9.ze2 rfl rfl rfl rfl (fun _ => rfl) rfl (by decide) nofun (fun v372 H373 nv372 hs => ?_)
                    obtain ⟨c377, h⟩ := h
                    refine sv_app hs 1 rfl (hs.shows 0 rfl) (fun _ => rfl) (by decide) F9.ta22_22 (by decide) c377 rfl rfl nofun (fun v375 H376 kv375 hs => ?_)
                    replace hs := hs.del 0
                    have nv375 := kv375 nv357
                    refine so_assign rfl ?_
                    refine so_nil ?_
                    refine fi_inBlock ?_
                    refine fi_region ?_
                    refine so_bin rfl rfl ab_add ?_
                    refine so_move rfl ?_
                    refine so_nil ?_
                    exact fi_at [(8, (.v v102)), (10, (.v v114)), (14, (.v v375)), (81, (.v v114)), (82, (.v (.int .i64 (zero320.length : Int)))), (83, (.v (.int .i64 (IntKind.i64.wrap (x358 + (1 : Int))))))] ⟨rfl, rfl, rfl, rfl, rfl, rfl, trivial⟩ (h _ _ _ nv375 hs)
              · refine so_gno rfl c361 ?_
                refine so_gno rfl c361 ?_
                refine so_gno rfl c361 ?_
                refine so_gno rfl c361 ?_
                refine so_gno rfl c361 ?_
                refine so_gno rfl c361 ?_
                refine so_gund rfl ?_
                refine so_gund rfl ?_
                refine so_gund rfl ?_
                refine so_gund rfl ?_
                refine so_gund rfl ?_
                refine so_gund rfl ?_
                refine so_gund rfl ?_
                refine so_gund rfl ?_
                refine so_gno rfl c361 ?_
                refine so_pick_f rfl c361 rfl ?_
                refine so_nil ?_
                refine fi_false rfl rfl ?_
                refine fi_skip ?_
                refine fi_inBlock ?_
                refine fi_region ?_
                refine so_bin rfl rfl ab_add ?_
                refine so_move rfl ?_
                refine so_nil ?_
                exact fi_at [(8, (.v v102)), (10, (.v v114)), (14, (.v v357)), (81, (.v v114)), (82, (.v (.int .i64 (zero320.length : Int)))), (83, (.v (.int .i64 (IntKind.i64.wrap (x358 + (1 : Int))))))] ⟨rfl, rfl, rfl, rfl, rfl, rfl, trivial⟩ (h _ _ _ nv357 hs)
            · refine fi_false rfl (decide_eq_false c359) ?_
              refine fi_exit rfl ?_
              refine fi_seq ?_
              refine fi_region ?_
              refine so_move rfl ?_
              refine so_assign rfl ?_
              refine so_assign rfl ?_
              refine so_nil ?_
              exact by_ret rfl ⟨_, _, h, _, rfl, (Sep.del 1 (Sep.del 1 hs))⟩
      · refine fi_true rfl (not_t c112) ?_
        refine fi_seq ?_
        refine fi_region ?_
        refine so_assign rfl ?_
        refine so_assign rfl ?_
        refine so_nil ?_
        exact by_ret rfl ⟨_, _, h, _, rfl, (Sep.nil (Sep.del 0 hs) 1)⟩
    · refine so_gno rfl (not_t c109) ?_
      refine so_gno rfl (not_t c109) ?_
      refine so_gno rfl (not_t c109) ?_
      refine so_pick_t rfl (not_t c109) rfl ?_
      refine so_nil ?_
      refine fi_true rfl rfl ?_
      refine fi_seq ?_
      refine fi_region ?_
      refine so_assign rfl ?_
      refine so_assign rfl ?_
      refine so_nil ?_
      exact by_ret rfl ⟨_, _, h, _, rfl, (Sep.nil (Sep.del 0 hs) 1)⟩
  · refine so_gno rfl (not_t c106) ?_
    refine so_gno rfl (not_t c106) ?_
    refine so_gno rfl (not_t c106) ?_
    refine so_pick_t rfl (not_t c106) rfl ?_
    refine so_move rfl ?_
    refine so_gno rfl rfl ?_
    refine so_gno rfl rfl ?_
    refine so_gno rfl rfl ?_
    refine so_pick_t rfl rfl rfl ?_
    refine so_nil ?_
    refine fi_true rfl rfl ?_
    refine fi_seq ?_
    refine fi_region ?_
    refine so_assign rfl ?_
    refine so_assign rfl ?_
    refine so_nil ?_
    exact by_ret rfl ⟨_, _, h, _, rfl, (Sep.nil (Sep.del 0 hs) 1)⟩

end Go.Proofs.Ytplfnchoooehgaa.G

namespace Go.Proofs.Ytplfnchoooehgaa.G
open Go Go.Ab Go.Proofs Go.Proofs.Ytplfnchoooehgaa
set_option maxRecDepth 100000
set_option linter.unusedVariables false
set_option linter.unusedSimpArgs false
set_option maxHeartbeats 1000000
theorem F6.ag2 : tagg Try.prog 2 = some false := by kernel_rfl
theorem F6.ag4 : tagg Try.prog 4 = some false := by kernel_rfl
theorem F6.by4 : tbytes Try.prog 4 = some 1 := by kernel_rfl
theorem F6.it50 : tint Try.prog 50 = some .u64 := by kernel_rfl
theorem F6.sz4 : tsz Try.prog 4 = some 1 := by kernel_rfl
theorem F6.tb4 : tbool Try.prog 4 = true := by kernel_rfl
theorem F6.te29 : telem Try.prog 29 = some 4 := by kernel_rfl
theorem F6.ti22 : (telem Try.prog 22).isSome = true := by kernel_rfl
theorem F6.ti29 : (telem Try.prog 29).isSome = true := by kernel_rfl
theorem F6.tl22 : (telem Try.prog 22).bind (tsz Try.prog) = some 1 := by kernel_rfl
theorem F6.tl29 : (telem Try.prog 29).bind (tsz Try.prog) = some 1 := by kernel_rfl
theorem F6.us2 : (Try.prog.underlying 2).isSome = true := by kernel_rfl
theorem F6.ze4 : tzero Try.prog 4 = some [(.bool false)] := by kernel_rfl
theorem laws_FnTrees_ok {fr : List Pc} {H : Heap} (v0 : AV) (l0 : List (Int)) (v1 : AV) (l1 : List (Int)) (hs : Sep H (fr)) (g0 : ∀ H, Sep H fr → Shows H v0 1 (enc (eInt .u8) l0)) (g1 : ∀ H, Sep H fr → Shows H v1 1 (enc (eInt .u8) l1)) (K : Bool → Prop) (h : laws_FnTrees.wp l0 l1 K) : OkQ Try.prog 6 [(.v v0), (.v v1)] H (fun r H2 => ∃ (y0 : Bool), K y0 ∧ r = (.v (.bool y0)) ∧ Sep H2 (fr)) := by
  unfold laws_FnTrees.wp at h
  refine of_body Try.f6 F.hm Try.func6 rfl Try.call6 (by kernel_rfl) (by simp) ?_
  refine fi_seq ?_
  refine fi_region ?_
  refine so_assign rfl ?_
  refine so_nil ?_
  refine fi_seq ?_
  refine fi_seq ?_
  refine fi_region ?_
  refine so_move rfl ?_
  refine so_move rfl ?_
  refine sv_callS (laws_r8Long_ok v0 l0 v1 l1 hs (fun _ hs => (g0 _ hs)) (fun _ hs => (g1 _ hs)) _ h) (fun _ _ ⟨_, _, _, e⟩ => e) rfl rfl ?_
  clear h
  rintro _ _ ⟨y101, h, rfl, rfl⟩
  refine so_nil ?_
  replace h := ofT h; rcases h with ⟨c103, h⟩ | ⟨c103, h⟩
  · refine fi_true rfl c103 ?_
    refine fi_seq ?_
    refine fi_region ?_
    refine so_assign rfl ?_
    refine so_nil ?_
    exact by_ret rfl ⟨_, h, rfl, hs⟩
  · refine fi_false rfl c103 ?_
    refine fi_skip ?_
    refine fi_seq ?_
    refine fi_region ?_
    refine so_move rfl ?_
    refine sv_call (spec_R8Integers_ok v0 l0 hs (fun _ hs => (g0 _ hs)) _ h) rfl rfl nofun ?_
    clear h hs
    rintro _ H107 ⟨y104, h, v105, rfl, hs⟩
    refine so_assign rfl ?_
    refine so_nil ?_
    refine fi_seq ?_
    refine fi_region ?_
    refine so_move rfl ?_
    refine sv_len (hs.shows 0 rfl) (fun _ => rfl) (by decide) rfl F6.ti22 ?_
    refine so_assign rfl ?_
    refine so_nil ?_
    refine fi_seq ?_
    refine fi_region ?_
    refine so_move rfl ?_
    refine sv_callS (laws_r8At_ok v1 l1 (0 : Int) (4 : Int) hs (fun _ hs => (g1 _ hs.tl)) _ h) (fun _ _ ⟨_, _, _, e⟩ => e) rfl rfl ?_
    clear h
    rintro _ _ ⟨y108, h, rfl, rfl⟩
    refine so_bin rfl rfl ab_add ?_
    refine so_assign rfl ?_
    refine so_nil ?_
    refine fi_seq ?_
    refine fi_region ?_
    refine so_move rfl ?_
    refine sv_callS (laws_r8At_ok v1 l1 (1 : Int) (8 : Int) hs (fun _ hs => (g1 _ hs.tl)) _ h) (fun _ _ ⟨_, _, _, e⟩ => e) rfl rfl ?_
    clear h
    rintro _ _ ⟨y110, h, rfl, rfl⟩
    refine so_assign rfl ?_
    refine so_nil ?_
    refine fi_seq ?_
    refine fi_region ?_
    refine so_move rfl ?_
    refine so_move rfl ?_
    refine sv_callS (laws_r8At_ok v1 l1 (2 : Int) (y104.length : Int) hs (fun _ hs => (g1 _ hs.tl)) _ h) (fun _ _ ⟨_, _, _, e⟩ => e) rfl rfl ?_
    clear h
    rintro _ _ ⟨y112, h, rfl, rfl⟩
    refine so_assign rfl ?_
    refine so_nil ?_
    refine fi_seq ?_
    refine fi_region ?_
    refine so_move rfl ?_
    refine so_move rfl ?_
    refine so_move rfl ?_
    refine sv_call (impl_TreeOf_ok (y104.length : Int) (IntKind.i64.wrap ((1 : Int) + y108)) y112 hs  _ h) rfl rfl nofun ?_
    clear h hs
    rintro _ H118 ⟨y114, y117, h, v115, rfl, hs⟩
    refine so_move rfl ?_
    refine so_extract rfl rfl rfl ?_
    refine so_extract rfl rfl rfl ?_
    refine so_assign rfl ?_
    refine so_assign rfl ?_
    refine so_nil ?_
    refine fi_seq ?_
    refine fi_region ?_
    refine so_move rfl ?_
    refine so_move rfl ?_
    refine so_move rfl ?_
    refine sv_call (impl_ZeroTrees_ok v105 y104 (IntKind.i64.wrap ((1 : Int) + y108)) y110 hs (fun _ hs => (hs.shows 1 rfl)) _ h) rfl rfl nofun ?_
    clear h hs
    rintro _ H123 ⟨y119, y122, h, v120, rfl, hs⟩
    refine so_move rfl ?_
    refine so_extract rfl rfl rfl ?_
    refine so_extract rfl rfl rfl ?_
    refine so_assign rfl ?_
    refine so_assign rfl ?_
    refine so_nil ?_
    refine fi_seq ?_
    refine fi_region ?_
    refine so_move rfl ?_
    refine so_move rfl ?_
    refine sv_call (impl_PlaneOf_ok v105 y104 y110 hs (fun _ hs => (hs.shows 2 rfl)) _ h) rfl rfl nofun ?_
    clear h hs
    rintro _ H128 ⟨y124, y127, h, v125, rfl, hs⟩
    refine so_move rfl ?_
    refine so_extract rfl rfl rfl ?_
    refine so_extract rfl rfl rfl ?_
    refine so_assign rfl ?_
    refine so_assign rfl ?_
    refine so_nil ?_
    refine fi_seq ?_
    refine fi_seq ?_
    refine fi_region ?_
    refine so_move rfl ?_
    refine so_un rfl au_not ?_
    refine so_move rfl ?_
    replace h := ofT h; rcases h with ⟨c129, h⟩ | ⟨c129, h⟩
    · refine so_gyes rfl (not_f c129) ?_
      refine so_move rfl ?_
      refine so_gyes rfl (not_f c129) ?_
      refine so_un rfl au_not ?_
      refine so_pick_f rfl (not_f c129) rfl ?_
      refine so_move rfl ?_
      replace h := ofT h; rcases h with ⟨c130, h⟩ | ⟨c130, h⟩
      · refine so_gyes rfl (not_f c130) ?_
        refine so_move rfl ?_
        refine so_gyes rfl (not_f c130) ?_
        refine so_un rfl au_not ?_
        refine so_pick_f rfl (not_f c130) rfl ?_
        refine so_move rfl ?_
        replace h := ofT h; rcases h with ⟨c131, h⟩ | ⟨c131, h⟩
        · refine so_gyes rfl (not_f c131) ?_
          refine so_move rfl ?_
          refine so_gyes rfl (not_f c131) ?_
          refine sv_len (hs.shows 0 rfl) (fun _ => rfl) (by decide) rfl F6.ti29 ?_
          refine so_gyes rfl (not_f c131) ?_
          refine so_move rfl ?_
          refine so_gyes rfl (not_f c131) ?_
          refine so_bin rfl rfl ab_neq ?_
          refine so_pick_f rfl (not_f c131) rfl ?_
          refine so_move rfl ?_
          replace h := ofP h; rcases h with ⟨c132, h⟩ | ⟨c132, h⟩
          · refine so_gyes rfl (not_f (decide_eq_true c132)) ?_
            refine so_move rfl ?_
            refine so_gyes rfl (not_f (decide_eq_true c132)) ?_
            refine sv_len (hs.shows 2 rfl) (fun _ => rfl) (by decide) rfl F6.ti22 ?_
            refine so_gyes rfl (not_f (decide_eq_true c132)) ?_
            refine so_bin rfl rfl ab_lss ?_
            refine so_pick_f rfl (not_f (decide_eq_true c132)) rfl ?_
            refine so_nil ?_
            replace h := ofP h; rcases h with ⟨c133, h⟩ | ⟨c133, h⟩
            · refine fi_true rfl (decide_eq_true c133) ?_
              refine fi_seq ?_
              refine fi_region ?_
              refine so_assign rfl ?_
              refine so_nil ?_
              exact by_ret rfl ⟨_, h, rfl, (Sep.dropn 4 hs)⟩
            · refine fi_false rfl (decide_eq_false c133) ?_
              refine fi_skip ?_
              refine fi_seq ?_
              refine fi_region ?_
              refine so_move rfl ?_
              obtain ⟨c134, h⟩ := h
              refine sv_make hs eBool false c134 (fun _ => rfl) rfl rfl F6.te29 F6.sz4 F6.by4 F6.ze4 rfl rfl nofun (fun v135 H136 nv135 hs => ?_)
              refine so_assign rfl ?_
              refine so_nil ?_
              refine fi_seq ?_
              refine fi_seq ?_
              refine fi_region ?_
              refine so_assign rfl ?_
              refine so_nil ?_
              refine fi_block ?_
              refine fi_loop ?_
              refine fi_at [(5, (.v v105)), (6, (.v (.int .i64 (y104.length : Int)))), (7, (.v (.int .i64 (IntKind.i64.wrap ((1 : Int) + y108))))), (8, (.v (.int .i64 y110))), (9, (.v (.int .i64 y112))), (10, (.v v115)), (12, (.v v120)), (14, (.v v125)), (16, (.v v135)), (17, (.v (.int .i64 (0 : Int))))] ⟨rfl, rfl, rfl, rfl, rfl, rfl, rfl, rfl, rfl, rfl, trivial⟩ ?_
              refine h (fun (in416 : List (Bool)) (k417 : Int) => ∀ (s : Nat → TV) (H : Heap), Sep H (Pc.osl v135 1 (enc eBool in416) :: Pc.osl v125 1 (enc eBool y124) :: Pc.osl v120 1 (enc (eInt .i64) y119) :: Pc.osl v115 1 (enc (eInt .i64) y114) :: Pc.osl v105 1 (enc (eInt .i64) y104) :: fr) → Fin _ _ (updL s [(5, (.v v105)), (6, (.v (.int .i64 (y104.length : Int)))), (7, (.v (.int .i64 (IntKind.i64.wrap ((1 : Int) + y108))))), (8, (.v (.int .i64 y110))), (9, (.v (.int .i64 y112))), (10, (.v v115)), (12, (.v v120)), (14, (.v v125)), (16, (.v v135)), (17, (.v (.int .i64 k417)))]) H _) ?_ _ _ hs
              intro in416 k417 h s695 H696 hs
              refine fi_inLoop ?_
              refine fi_seq ?_
              refine fi_seq ?_
              refine fi_region ?_
              refine so_move rfl ?_
              refine so_move rfl ?_
              refine sv_len (hs.shows 3 rfl) (fun _ => rfl) (by decide) rfl F6.ti22 ?_
              refine so_bin rfl rfl ab_lss ?_
              refine so_nil ?_
              replace h := ofP h; rcases h with ⟨c418, h⟩ | ⟨c418, h⟩
              · refine fi_true rfl (decide_eq_true c418) ?_
                refine fi_skip ?_
                refine fi_seq ?_
                refine fi_block ?_
                refine fi_seq ?_
                refine fi_seq ?_
                refine fi_region ?_
                refine so_move rfl ?_
                refine so_move rfl ?_
                obtain ⟨c419, h⟩ := h
                refine sv_idx (hs.shows 3 rfl) c419 (fun _ => rfl) (by decide) rfl rfl F6.tl22 ?_
                refine sv_cell (hs.shows 3 rfl) c419 (0 : Int) 0 (fun x => (AV.int .i64 x)) (fun _ => rfl) (fun _ => rfl) rfl F6.ag2 ?_
                refine so_bin rfl rfl ab_lss ?_
                refine so_move rfl ?_
                replace h := ofP h; rcases h with ⟨c420, h⟩ | ⟨c420, h⟩
                · refine so_gno rfl (decide_eq_true c420) ?_
                  refine so_gno rfl (decide_eq_true c420) ?_
                  refine so_gno rfl (decide_eq_true c420) ?_
                  refine so_gno rfl (decide_eq_true c420) ?_
                  refine so_gno rfl (decide_eq_true c420) ?_
                  refine so_gno rfl (decide_eq_true c420) ?_
                  refine so_pick_t rfl (decide_eq_true c420) rfl ?_
                  refine so_move rfl ?_
                  refine so_gno rfl rfl ?_
                  refine so_gno rfl rfl ?_
                  refine so_gno rfl rfl ?_
                  refine so_gund rfl ?_
                  refine so_gund rfl ?_
                  refine so_gund rfl ?_
                  refine so_gund rfl ?_
                  refine so_gund rfl ?_
                  refine so_gund rfl ?_
                  refine so_gund rfl ?_
                  refine so_gund rfl ?_
                  refine so_gund rfl ?_
                  refine so_gund rfl ?_
                  refine so_gno rfl rfl ?_
                  refine so_pick_t rfl rfl rfl ?_
                  refine so_nil ?_
                  refine fi_true rfl rfl ?_
                  refine fi_seq ?_
                  refine fi_region ?_
                  refine so_assign rfl ?_
                  refine so_nil ?_
                  exact by_ret rfl ⟨_, h, rfl, (Sep.dropn 5 hs)⟩
                · refine so_gyes rfl (decide_eq_false c420) ?_
                  refine so_move rfl ?_
                  refine so_gyes rfl (decide_eq_false c420) ?_
                  refine so_move rfl ?_
                  refine so_gyes rfl (decide_eq_false c420) ?_
                  refine sv_idx (hs.shows 3 rfl) c419 (fun _ => rfl) (by decide) rfl rfl F6.tl22 ?_
                  refine so_gyes rfl (decide_eq_false c420) ?_
                  refine sv_cell (hs.shows 3 rfl) c419 (0 : Int) 0 (fun x => (AV.int .i64 x)) (fun _ => rfl) (fun _ => rfl) rfl F6.ag2 ?_
                  refine so_gyes rfl (decide_eq_false c420) ?_
                  refine so_move rfl ?_
                  refine so_gyes rfl (decide_eq_false c420) ?_
                  refine so_bin rfl rfl ab_geq ?_
                  refine so_pick_f rfl (decide_eq_false c420) rfl ?_
                  refine so_move rfl ?_
                  replace h := ofP h; rcases h with ⟨c421, h⟩ | ⟨c421, h⟩
                  · refine so_gno rfl (decide_eq_true c421) ?_
                    refine so_gno rfl (decide_eq_true c421) ?_
                    refine so_gno rfl (decide_eq_true c421) ?_
                    refine so_gund rfl ?_
                    refine so_gund rfl ?_
                    refine so_gund rfl ?_
                    refine so_gund rfl ?_
                    refine so_gund rfl ?_
                    refine so_gund rfl ?_
                    refine so_gund rfl ?_
                    refine so_gund rfl ?_
                    refine so_gund rfl ?_
                    refine so_gund rfl ?_
                    refine so_gno rfl (decide_eq_true c421) ?_
                    refine so_pick_t rfl (decide_eq_true c421) rfl ?_
                    refine so_nil ?_
                    refine fi_true rfl rfl ?_
                    refine fi_seq ?_
                    refine fi_region ?_
                    refine so_assign rfl ?_
                    refine so_nil ?_
                    exact by_ret rfl ⟨_, h, rfl, (Sep.dropn 5 hs)⟩
                  · refine so_gyes rfl (decide_eq_false c421) ?_
                    refine so_move rfl ?_
                    refine so_gyes rfl (decide_eq_false c421) ?_
                    refine so_bin rfl rfl ab_gtr ?_
                    refine so_gyes rfl (decide_eq_false c421) ?_
                    refine so_move rfl ?_
                    replace h := ofP h; rcases h with ⟨c422, h⟩ | ⟨c422, h⟩
                    · refine so_gyes rfl (decide_eq_true c422) ?_
                      refine so_move rfl ?_
                      refine so_gyes rfl (decide_eq_true c422) ?_
                      refine so_move rfl ?_
                      refine so_gyes rfl (decide_eq_true c422) ?_
                      refine sv_idx (hs.shows 3 rfl) c419 (fun _ => rfl) (by decide) rfl rfl F6.tl22 ?_
                      refine so_gyes rfl (decide_eq_true c422) ?_
                      refine sv_cell (hs.shows 3 rfl) c419 (0 : Int) 0 (fun x => (AV.int .i64 x)) (fun _ => rfl) (fun _ => rfl) rfl F6.ag2 ?_
                      refine so_gyes rfl (decide_eq_true c422) ?_
                      refine so_move rfl ?_
                      refine so_gyes rfl (decide_eq_true c422) ?_
                      refine so_move rfl ?_
                      refine so_gyes rfl (decide_eq_true c422) ?_
                      refine so_bin rfl rfl ab_sub ?_
                      refine so_gyes rfl (decide_eq_true c422) ?_
                      obtain ⟨c423, h⟩ := h
                      refine sv_idx (hs.shows 3 rfl) c423 (fun _ => rfl) (by decide) rfl rfl F6.tl22 ?_
                      refine so_gyes rfl (decide_eq_true c422) ?_
                      refine sv_cell (hs.shows 3 rfl) c423 (0 : Int) 0 (fun x => (AV.int .i64 x)) (fun _ => rfl) (fun _ => rfl) rfl F6.ag2 ?_
                      refine so_gyes rfl (decide_eq_true c422) ?_
                      refine so_bin rfl rfl ab_leq ?_
                      refine so_gyes rfl (decide_eq_false c421) ?_
                      refine so_pick_t rfl (decide_eq_true c422) rfl ?_
                      refine so_pick_f rfl (decide_eq_false c421) rfl ?_
                      refine so_nil ?_
                      replace h := ofP h; rcases h with ⟨c424, h⟩ | ⟨c424, h⟩
                      · refine fi_true rfl (decide_eq_true c424) ?_
                        refine fi_seq ?_
                        refine fi_region ?_
                        refine so_assign rfl ?_
                        refine so_nil ?_
                        exact by_ret rfl ⟨_, h, rfl, (Sep.dropn 5 hs)⟩
                      · refine fi_false rfl (decide_eq_false c424) ?_
                        refine fi_skip ?_
                        refine fi_region ?_
                        refine so_move rfl ?_
                        refine so_move rfl ?_
                        refine so_move rfl ?_
                        refine sv_idx (hs.shows 3 rfl) c419 (fun _ => rfl) (by decide) rfl rfl F6.tl22 ?_
                        refine sv_cell (hs.shows 3 rfl) c419 (0 : Int) 0 (fun x => (AV.int .i64 x)) (fun _ => rfl) (fun _ => rfl) rfl F6.ag2 ?_
                        obtain ⟨c425, h⟩ := h
                        refine sv_idx (hs.shows 0 rfl) c425 (fun _ => rfl) (by decide) rfl rfl F6.tl29 ?_
                        refine sv_set hs 0 rfl c425 true (fun _ => rfl) (by decide) rfl rfl rfl rfl F6.sz4 nofun (fun H426 hs => ?_)
                        refine so_nil ?_
                        refine fi_inBlock ?_
                        refine fi_region ?_
                        refine so_move rfl ?_
                        refine so_bin rfl rfl ab_add ?_
                        refine so_assign rfl ?_
                        refine so_nil ?_
                        exact fi_at [(5, (.v v105)), (6, (.v (.int .i64 (y104.length : Int)))), (7, (.v (.int .i64 (IntKind.i64.wrap ((1 : Int) + y108))))), (8, (.v (.int .i64 y110))), (9, (.v (.int .i64 y112))), (10, (.v v115)), (12, (.v v120)), (14, (.v v125)), (16, (.v v135)), (17, (.v (.int .i64 (IntKind.i64.wrap (k417 + (1 : Int))))))] ⟨rfl, rfl, rfl, rfl, rfl, rfl, rfl, rfl, rfl, rfl, trivial⟩ (h _ _  hs)
                    · refine so_gno rfl (decide_eq_false c422) ?_
                      refine so_gno rfl (decide_eq_false c422) ?_
                      refine so_gno rfl (decide_eq_false c422) ?_
                      refine so_gno rfl (decide_eq_false c422) ?_
                      refine so_gno rfl (decide_eq_false c422) ?_
                      refine so_gno rfl (decide_eq_false c422) ?_
                      refine so_gno rfl (decide_eq_false c422) ?_
                      refine so_gno rfl (decide_eq_false c422) ?_
                      refine so_gno rfl (decide_eq_false c422) ?_
                      refine so_gno rfl (decide_eq_false c422) ?_
                      refine so_gyes rfl (decide_eq_false c421) ?_
                      refine so_pick_f rfl (decide_eq_false c422) rfl ?_
                      refine so_pick_f rfl (decide_eq_false c421) rfl ?_
                      refine so_nil ?_
                      refine fi_false rfl rfl ?_
                      refine fi_skip ?_
                      refine fi_region ?_
                      refine so_move rfl ?_
                      refine so_move rfl ?_
                      refine so_move rfl ?_
                      refine sv_idx (hs.shows 3 rfl) c419 (fun _ => rfl) (by decide) rfl rfl F6.tl22 ?_
                      refine sv_cell (hs.shows 3 rfl) c419 (0 : Int) 0 (fun x => (AV.int .i64 x)) (fun _ => rfl) (fun _ => rfl) rfl F6.ag2 ?_
                      obtain ⟨c427, h⟩ := h
                      refine sv_idx (hs.shows 0 rfl) c427 (fun _ => rfl) (by decide) rfl rfl F6.tl29 ?_
                      refine sv_set hs 0 rfl c427 true (fun _ => rfl) (by decide) rfl rfl rfl rfl F6.sz4 nofun (fun H428 hs => ?_)
                      refine so_nil ?_
                      refine fi_inBlock ?_
                      refine fi_region ?_
                      refine so_move rfl ?_
                      refine so_bin rfl rfl ab_add ?_
                      refine so_assign rfl ?_
                      refine so_nil ?_
                      exact fi_at [(5, (.v v105)), (6, (.v (.int .i64 (y104.length : Int)))), (7, (.v (.int .i64 (IntKind.i64.wrap ((1 : Int) + y108))))), (8, (.v (.int .i64 y110))), (9, (.v (.int .i64 y112))), (10, (.v v115)), (12, (.v v120)), (14, (.v v125)), (16, (.v v135)), (17, (.v (.int .i64 (IntKind.i64.wrap (k417 + (1 : Int))))))] ⟨rfl, rfl, rfl, rfl, rfl, rfl, rfl, rfl, rfl, rfl, trivial⟩ (h _ _  hs)
              · refine fi_false rfl (decide_eq_false c418) ?_
                refine fi_exit rfl ?_
                refine fi_seq ?_
                refine fi_seq ?_
                refine fi_region ?_
                refine so_move rfl ?_
                refine so_move rfl ?_
                obtain ⟨c429, h⟩ := h
                refine sv_idx (hs.shows 0 rfl) c429 (fun _ => rfl) (by decide) rfl rfl F6.tl29 ?_
                refine sv_cell (hs.shows 0 rfl) c429 false 0 (fun x => (AV.bool x)) (fun _ => rfl) (fun _ => rfl) rfl F6.ag4 ?_
                refine so_un rfl au_not ?_
                refine so_nil ?_
                replace h := ofT h; rcases h with ⟨c430, h⟩ | ⟨c430, h⟩
                · refine fi_false rfl (not_f c430) ?_
                  refine fi_skip ?_
                  refine fi_seq ?_
                  refine fi_region ?_
                  refine so_move rfl ?_
                  refine sv_make hs eBool false c134 (fun _ => rfl) rfl rfl F6.te29 F6.sz4 F6.by4 F6.ze4 rfl rfl nofun (fun v431 H432 nv431 hs => ?_)
                  refine so_assign rfl ?_
                  refine so_nil ?_
                  refine fi_seq ?_
                  refine fi_seq ?_
                  refine fi_region ?_
                  refine so_assign rfl ?_
                  refine so_nil ?_
                  refine fi_block ?_
                  refine fi_loop ?_
                  replace hs := hs.del 4
                  refine fi_at [(5, (.v v105)), (6, (.v (.int .i64 (y104.length : Int)))), (7, (.v (.int .i64 (IntKind.i64.wrap ((1 : Int) + y108))))), (8, (.v (.int .i64 y110))), (9, (.v (.int .i64 y112))), (12, (.v v120)), (14, (.v v125)), (16, (.v v135)), (18, (.v v431)), (19, (.v (.int .i64 (0 : Int))))] ⟨rfl, rfl, rfl, rfl, rfl, rfl, rfl, rfl, rfl, rfl, trivial⟩ ?_
                  refine h (fun (covered564 : List (Bool)) (k565 : Int) => ∀ (s : Nat → TV) (H : Heap), Sep H (Pc.osl v431 1 (enc eBool covered564) :: Pc.osl v135 1 (enc eBool in416) :: Pc.osl v125 1 (enc eBool y124) :: Pc.osl v120 1 (enc (eInt .i64) y119) :: Pc.osl v105 1 (enc (eInt .i64) y104) :: fr) → Fin _ _ (updL s [(5, (.v v105)), (6, (.v (.int .i64 (y104.length : Int)))), (7, (.v (.int .i64 (IntKind.i64.wrap ((1 : Int) + y108))))), (8, (.v (.int .i64 y110))), (9, (.v (.int .i64 y112))), (12, (.v v120)), (14, (.v v125)), (16, (.v v135)), (18, (.v v431)), (19, (.v (.int .i64 k565)))]) H _) ?_ _ _ hs
                  intro covered564 k565 h s693 H694 hs
                  refine fi_inLoop ?_
                  refine fi_seq ?_
                  refine fi_seq ?_
                  refine fi_region ?_
                  refine so_move rfl ?_
                  refine so_move rfl ?_
                  refine sv_len (hs.shows 3 rfl) (fun _ => rfl) (by decide) rfl F6.ti22 ?_
                  refine so_bin rfl rfl ab_lss ?_
                  refine so_nil ?_
                  replace h := ofP h; rcases h with ⟨c566, h⟩ | ⟨c566, h⟩
                  · refine fi_true rfl (decide_eq_true c566) ?_
                    refine fi_skip ?_
                    refine fi_seq ?_
                    refine fi_block ?_
                    refine fi_seq ?_
                    refine fi_region ?_
                    refine so_move rfl ?_
                    refine so_move rfl ?_
                    refine so_move rfl ?_
                    refine so_move rfl ?_
                    obtain ⟨c567, h⟩ := h
                    refine sv_idx (hs.shows 3 rfl) c567 (fun _ => rfl) (by decide) rfl rfl F6.tl22 ?_
                    refine sv_cell (hs.shows 3 rfl) c567 (0 : Int) 0 (fun x => (AV.int .i64 x)) (fun _ => rfl) (fun _ => rfl) rfl F6.ag2 ?_
                    refine sv_call (impl_TreeOf_ok (y104.length : Int) (IntKind.i64.wrap ((1 : Int) + y108)) (y119.getD (k565).toNat (0 : Int)) hs  _ h) rfl rfl nofun ?_
                    clear h hs
                    rintro _ H572 ⟨y568, y571, h, v569, rfl, hs⟩
                    refine so_move rfl ?_
                    refine so_extract rfl rfl rfl ?_
                    refine so_extract rfl rfl rfl ?_
                    refine so_assign rfl ?_
                    refine so_assign rfl ?_
                    refine so_nil ?_
                    refine fi_seq ?_
                    refine fi_seq ?_
                    refine fi_region ?_
                    refine so_move rfl ?_
                    refine so_un rfl au_not ?_
                    refine so_nil ?_
                    replace h := ofT h; rcases h with ⟨c573, h⟩ | ⟨c573, h⟩
                    · refine fi_false rfl (not_f c573) ?_
                      refine fi_skip ?_
                      refine fi_seq ?_
                      refine fi_region ?_
                      refine so_assign rfl ?_
                      refine so_nil ?_
                      refine fi_block ?_
                      refine fi_loop ?_
                      refine fi_at [(5, (.v v105)), (6, (.v (.int .i64 (y104.length : Int)))), (7, (.v (.int .i64 (IntKind.i64.wrap ((1 : Int) + y108))))), (8, (.v (.int .i64 y110))), (9, (.v (.int .i64 y112))), (12, (.v v120)), (14, (.v v125)), (16, (.v v135)), (18, (.v v431)), (19, (.v (.int .i64 k565))), (20, (.v v569)), (22, (.v (.int .i64 (0 : Int))))] ⟨rfl, rfl, rfl, rfl, rfl, rfl, rfl, rfl, rfl, rfl, rfl, rfl, trivial⟩ ?_
                      refine h (fun (covered587 : List (Bool)) (j588 : Int) => ∀ (s : Nat → TV) (H : Heap), Sep H (Pc.osl v569 1 (enc (eInt .i64) y568) :: Pc.osl v431 1 (enc eBool covered587) :: Pc.osl v135 1 (enc eBool in416) :: Pc.osl v125 1 (enc eBool y124) :: Pc.osl v120 1 (enc (eInt .i64) y119) :: Pc.osl v105 1 (enc (eInt .i64) y104) :: fr) → Fin _ _ (updL s [(5, (.v v105)), (6, (.v (.int .i64 (y104.length : Int)))), (7, (.v (.int .i64 (IntKind.i64.wrap ((1 : Int) + y108))))), (8, (.v (.int .i64 y110))), (9, (.v (.int .i64 y112))), (12, (.v v120)), (14, (.v v125)), (16, (.v v135)), (18, (.v v431)), (19, (.v (.int .i64 k565))), (20, (.v v569)), (22, (.v (.int .i64 j588)))]) H _) ?_ _ _ hs
                      intro covered587 j588 h s599 H600 hs
                      refine fi_inLoop ?_
                      refine fi_seq ?_
                      refine fi_seq ?_
                      refine fi_region ?_
                      refine so_move rfl ?_
                      refine so_move rfl ?_
                      refine sv_len (hs.shows 0 rfl) (fun _ => rfl) (by decide) rfl F6.ti22 ?_
                      refine so_bin rfl rfl ab_lss ?_
                      refine so_nil ?_
                      replace h := ofP h; rcases h with ⟨c589, h⟩ | ⟨c589, h⟩
                      · refine fi_true rfl (decide_eq_true c589) ?_
                        refine fi_skip ?_
                        refine fi_seq ?_
                        refine fi_block ?_
                        refine fi_seq ?_
                        refine fi_region ?_
                        refine so_move rfl ?_
                        refine so_move rfl ?_
                        obtain ⟨c590, h⟩ := h
                        refine sv_idx (hs.shows 0 rfl) c590 (fun _ => rfl) (by decide) rfl rfl F6.tl22 ?_
                        refine sv_cell (hs.shows 0 rfl) c590 (0 : Int) 0 (fun x => (AV.int .i64 x)) (fun _ => rfl) (fun _ => rfl) rfl F6.ag2 ?_
                        refine so_assign rfl ?_
                        refine so_nil ?_
                        refine fi_seq ?_
                        refine fi_seq ?_
                        refine fi_region ?_
                        refine so_move rfl ?_
                        refine so_move rfl ?_
                        obtain ⟨c591, h⟩ := h
                        refine sv_idx (hs.shows 1 rfl) c591 (fun _ => rfl) (by decide) rfl rfl F6.tl29 ?_
                        refine sv_cell (hs.shows 1 rfl) c591 false 0 (fun x => (AV.bool x)) (fun _ => rfl) (fun _ => rfl) rfl F6.ag4 ?_
                        refine so_move rfl ?_
                        replace h := ofT h; rcases h with ⟨c592, h⟩ | ⟨c592, h⟩
                        · refine so_gno rfl c592 ?_
                          refine so_gno rfl c592 ?_
                          refine so_gno rfl c592 ?_
                          refine so_gno rfl c592 ?_
                          refine so_gno rfl c592 ?_
                          refine so_gno rfl c592 ?_
                          refine so_gno rfl c592 ?_
                          refine so_gno rfl c592 ?_
                          refine so_gno rfl c592 ?_
                          refine so_pick_t rfl c592 rfl ?_
                          refine so_nil ?_
                          refine fi_true rfl rfl ?_
                          refine fi_seq ?_
                          refine fi_region ?_
                          refine so_assign rfl ?_
                          refine so_nil ?_
                          exact by_ret rfl ⟨_, h, rfl, (Sep.dropn 6 hs)⟩
                        · refine so_gyes rfl c592 ?_
                          refine so_move rfl ?_
                          refine so_gyes rfl c592 ?_
                          refine so_move rfl ?_
                          refine so_gyes rfl c592 ?_
                          obtain ⟨c593, h⟩ := h
                          refine sv_idx (hs.shows 5 rfl) c593 (fun _ => rfl) (by decide) rfl rfl F6.tl22 ?_
                          refine so_gyes rfl c592 ?_
                          refine sv_cell (hs.shows 5 rfl) c593 (0 : Int) 0 (fun x => (AV.int .i64 x)) (fun _ => rfl) (fun _ => rfl) rfl F6.ag2 ?_
                          refine so_gyes rfl c592 ?_
                          refine sv_callS (laws_r8Abs_ok (y104.getD ((y568.getD (j588).toNat (0 : Int))).toNat (0 : Int)) hs  _ h) (fun _ _ ⟨_, _, _, e⟩ => e) rfl rfl ?_
                          clear h
                          rintro _ _ ⟨y594, h, rfl, rfl⟩
                          refine so_gyes rfl c592 ?_
                          refine so_move rfl ?_
                          refine so_gyes rfl c592 ?_
                          refine sv_ii rfl F6.us2 F6.it50 ?_
                          refine so_gyes rfl c592 ?_
                          obtain ⟨c596, h⟩ := h
                          refine so_bin rfl rfl (ab_shr c596) ?_
                          refine so_gyes rfl c592 ?_
                          refine so_bin rfl rfl ab_neq ?_
                          refine so_pick_f rfl c592 rfl ?_
                          refine so_nil ?_
                          replace h := ofP h; rcases h with ⟨c597, h⟩ | ⟨c597, h⟩
                          · refine fi_false rfl (not_f (decide_eq_true c597)) ?_
                            refine fi_skip ?_
                            refine fi_region ?_
                            refine so_move rfl ?_
                            refine so_move rfl ?_
                            refine sv_idx (hs.shows 1 rfl) c591 (fun _ => rfl) (by decide) rfl rfl F6.tl29 ?_
                            refine sv_set hs 1 rfl c591 true (fun _ => rfl) (by decide) rfl rfl rfl rfl F6.sz4 nofun (fun H598 hs => ?_)
                            refine so_nil ?_
                            refine fi_inBlock ?_
                            refine fi_region ?_
                            refine so_move rfl ?_
                            refine so_bin rfl rfl ab_add ?_
                            refine so_assign rfl ?_
                            refine so_nil ?_
                            exact fi_at [(5, (.v v105)), (6, (.v (.int .i64 (y104.length : Int)))), (7, (.v (.int .i64 (IntKind.i64.wrap ((1 : Int) + y108))))), (8, (.v (.int .i64 y110))), (9, (.v (.int .i64 y112))), (12, (.v v120)), (14, (.v v125)), (16, (.v v135)), (18, (.v v431)), (19, (.v (.int .i64 k565))), (20, (.v v569)), (22, (.v (.int .i64 (IntKind.i64.wrap (j588 + (1 : Int))))))] ⟨rfl, rfl, rfl, rfl, rfl, rfl, rfl, rfl, rfl, rfl, rfl, rfl, trivial⟩ (h _ _  hs)
                          · refine fi_true rfl (not_t (decide_eq_false c597)) ?_
                            refine fi_seq ?_
                            refine fi_region ?_
                            refine so_assign rfl ?_
                            refine so_nil ?_
                            exact by_ret rfl ⟨_, h, rfl, (Sep.dropn 6 hs)⟩
                      · refine fi_false rfl (decide_eq_false c589) ?_
                        refine fi_exit rfl ?_
                        refine fi_inBlock ?_
                        refine fi_region ?_
                        refine so_move rfl ?_
                        refine so_bin rfl rfl ab_add ?_
                        refine so_assign rfl ?_
                        refine so_nil ?_
                        exact fi_at [(5, (.v v105)), (6, (.v (.int .i64 (y104.length : Int)))), (7, (.v (.int .i64 (IntKind.i64.wrap ((1 : Int) + y108))))), (8, (.v (.int .i64 y110))), (9, (.v (.int .i64 y112))), (12, (.v v120)), (14, (.v v125)), (16, (.v v135)), (18, (.v v431)), (19, (.v (.int .i64 (IntKind.i64.wrap (k565 + (1 : Int))))))] ⟨rfl, rfl, rfl, rfl, rfl, rfl, rfl, rfl, rfl, rfl, trivial⟩ (h _ _  (Sep.del 0 hs))
                    · refine fi_true rfl (not_t c573) ?_
                      refine fi_seq ?_
                      refine fi_region ?_
                      refine so_assign rfl ?_
                      refine so_nil ?_
                      exact by_ret rfl ⟨_, h, rfl, (Sep.dropn 6 hs)⟩
                  · refine fi_false rfl (decide_eq_false c566) ?_
                    refine fi_exit rfl ?_
                    refine fi_seq ?_
                    refine fi_seq ?_
                    refine fi_region ?_
                    refine so_assign rfl ?_
                    refine so_nil ?_
                    refine fi_block ?_
                    refine fi_loop ?_
                    replace hs := hs.del 3
                    refine fi_at [(5, (.v v105)), (6, (.v (.int .i64 (y104.length : Int)))), (7, (.v (.int .i64 (IntKind.i64.wrap ((1 : Int) + y108))))), (8, (.v (.int .i64 y110))), (9, (.v (.int .i64 y112))), (14, (.v v125)), (16, (.v v135)), (18, (.v v431)), (24, (.v (.int .i64 (0 : Int))))] ⟨rfl, rfl, rfl, rfl, rfl, rfl, rfl, rfl, rfl, trivial⟩ ?_
                    refine h (fun (i602 : Int) => ∀ (s : Nat → TV) (H : Heap), Sep H (Pc.osl v431 1 (enc eBool covered564) :: Pc.osl v135 1 (enc eBool in416) :: Pc.osl v125 1 (enc eBool y124) :: Pc.osl v105 1 (enc (eInt .i64) y104) :: fr) → Fin _ _ (updL s [(5, (.v v105)), (6, (.v (.int .i64 (y104.length : Int)))), (7, (.v (.int .i64 (IntKind.i64.wrap ((1 : Int) + y108))))), (8, (.v (.int .i64 y110))), (9, (.v (.int .i64 y112))), (14, (.v v125)), (16, (.v v135)), (18, (.v v431)), (24, (.v (.int .i64 i602)))]) H _) ?_ _ _ hs
                    intro i602 h s691 H692 hs
                    refine fi_inLoop ?_
                    refine fi_seq ?_
                    refine fi_seq ?_
                    refine fi_region ?_
                    refine so_move rfl ?_
                    refine so_move rfl ?_
                    refine so_bin rfl rfl ab_lss ?_
                    refine so_nil ?_
                    replace h := ofP h; rcases h with ⟨c603, h⟩ | ⟨c603, h⟩
                    · refine fi_true rfl (decide_eq_true c603) ?_
                      refine fi_skip ?_
                      refine fi_seq ?_
                      refine fi_block ?_
                      refine fi_seq ?_
                      refine fi_region ?_
                      refine so_move rfl ?_
                      refine so_move rfl ?_
                      refine so_move rfl ?_
                      refine sv_call (impl_ParentOf_ok (y104.length : Int) (IntKind.i64.wrap ((1 : Int) + y108)) i602 hs  _ h) rfl rfl nofun ?_
                      clear h hs
                      rintro _ H606 ⟨y604, y605, h, rfl, hs⟩
                      refine so_move rfl ?_
                      refine so_extract rfl rfl rfl ?_
                      refine so_extract rfl rfl rfl ?_
                      refine so_assign rfl ?_
                      refine so_assign rfl ?_
                      refine so_nil ?_
                      refine fi_seq ?_
                      refine fi_seq ?_
                      refine fi_region ?_
                      refine so_move rfl ?_
                      refine so_un rfl au_not ?_
                      refine so_move rfl ?_
                      replace h := ofT h; rcases h with ⟨c607, h⟩ | ⟨c607, h⟩
                      · refine so_gyes rfl (not_f c607) ?_
                        refine so_move rfl ?_
                        refine so_gyes rfl (not_f c607) ?_
                        refine so_bin rfl rfl ab_lss ?_
                        refine so_pick_f rfl (not_f c607) rfl ?_
                        refine so_move rfl ?_
                        replace h := ofP h; rcases h with ⟨c608, h⟩ | ⟨c608, h⟩
                        · refine so_gno rfl (decide_eq_true c608) ?_
                          refine so_gno rfl (decide_eq_true c608) ?_
                          refine so_gno rfl (decide_eq_true c608) ?_
                          refine so_pick_t rfl (decide_eq_true c608) rfl ?_
                          refine so_move rfl ?_
                          refine so_gno rfl rfl ?_
                          refine so_gno rfl rfl ?_
                          refine so_gno rfl rfl ?_
                          refine so_gno rfl rfl ?_
                          refine so_gund rfl ?_
                          refine so_gund rfl ?_
                          refine so_gund rfl ?_
                          refine so_gund rfl ?_
                          refine so_gund rfl ?_
                          refine so_gund rfl ?_
                          refine so_gund rfl ?_
                          refine so_gund rfl ?_
                          refine so_gund rfl ?_
                          refine so_gund rfl ?_
                          refine so_gund rfl ?_
                          refine so_gund rfl ?_
                          refine so_gund rfl ?_
                          refine so_gno rfl rfl ?_
                          refine so_pick_t rfl rfl rfl ?_
                          refine so_move rfl ?_
                          refine so_gno rfl rfl ?_
                          refine so_gno rfl rfl ?_
                          refine so_gno rfl rfl ?_
                          refine so_gno rfl rfl ?_
                          refine so_gno rfl rfl ?_
                          refine so_gno rfl rfl ?_
                          refine so_gno rfl rfl ?_
                          refine so_gno rfl rfl ?_
                          refine so_gno rfl rfl ?_
                          refine so_gno rfl rfl ?_
                          refine so_gno rfl rfl ?_
                          refine so_gno rfl rfl ?_
                          refine so_gno rfl rfl ?_
                          refine so_gno rfl rfl ?_
                          refine so_gno rfl rfl ?_
                          refine so_pick_t rfl rfl rfl ?_
                          refine so_nil ?_
                          refine fi_true rfl rfl ?_
                          refine fi_seq ?_
                          refine fi_region ?_
                          refine so_assign rfl ?_
                          refine so_nil ?_
                          exact by_ret rfl ⟨_, h, rfl, (Sep.dropn 4 hs)⟩
                        · refine so_gyes rfl (decide_eq_false c608) ?_
                          refine so_move rfl ?_
                          refine so_gyes rfl (decide_eq_false c608) ?_
                          refine so_move rfl ?_
                          refine so_gyes rfl (decide_eq_false c608) ?_
                          refine so_bin rfl rfl ab_geq ?_
                          refine so_pick_f rfl (decide_eq_false c608) rfl ?_
                          refine so_move rfl ?_
                          replace h := ofP h; rcases h with ⟨c609, h⟩ | ⟨c609, h⟩
                          · refine so_gno rfl (decide_eq_true c609) ?_
                            refine so_gno rfl (decide_eq_true c609) ?_
                            refine so_gno rfl (decide_eq_true c609) ?_
                            refine so_gno rfl (decide_eq_true c609) ?_
                            refine so_gund rfl ?_
                            refine so_gund rfl ?_
                            refine so_gund rfl ?_
                            refine so_gund rfl ?_
                            refine so_gund rfl ?_
                            refine so_gund rfl ?_
                            refine so_gund rfl ?_
                            refine so_gund rfl ?_
                            refine so_gund rfl ?_
                            refine so_gund rfl ?_
                            refine so_gund rfl ?_
                            refine so_gund rfl ?_
                            refine so_gund rfl ?_
                            refine so_gno rfl (decide_eq_true c609) ?_
                            refine so_pick_t rfl (decide_eq_true c609) rfl ?_
                            refine so_move rfl ?_
                            refine so_gno rfl rfl ?_
                            refine so_gno rfl rfl ?_
                            refine so_gno rfl rfl ?_
                            refine so_gno rfl rfl ?_
                            refine so_gno rfl rfl ?_
                            refine so_gno rfl rfl ?_
                            refine so_gno rfl rfl ?_
                            refine so_gno rfl rfl ?_
                            refine so_gno rfl rfl ?_
                            refine so_gno rfl rfl ?_
                            refine so_gno rfl rfl ?_
                            refine so_gno rfl rfl ?_
                            refine so_gno rfl rfl ?_
                            refine so_gno rfl rfl ?_
                            refine so_gno rfl rfl ?_
                            refine so_pick_t rfl rfl rfl ?_
                            refine so_nil ?_
                            refine fi_true rfl rfl ?_
                            refine fi_seq ?_
                            refine fi_region ?_
                            refine so_assign rfl ?_
                            refine so_nil ?_
                            exact by_ret rfl ⟨_, h, rfl, (Sep.dropn 4 hs)⟩
                          · refine so_gyes rfl (decide_eq_false c609) ?_
                            refine so_move rfl ?_
                            refine so_gyes rfl (decide_eq_false c609) ?_
                            refine so_move rfl ?_
                            refine so_gyes rfl (decide_eq_false c609) ?_
                            refine so_bin rfl rfl ab_neq ?_
                            refine so_gyes rfl (decide_eq_false c609) ?_
                            refine so_move rfl ?_
                            replace h := ofP h; rcases h with ⟨c610, h⟩ | ⟨c610, h⟩
                            · refine so_gno rfl (not_f (decide_eq_true c610)) ?_
                              refine so_gno rfl (not_f (decide_eq_true c610)) ?_
                              refine so_gno rfl (not_f (decide_eq_true c610)) ?_
                              refine so_gno rfl (not_f (decide_eq_true c610)) ?_
                              refine so_gno rfl (not_f (decide_eq_true c610)) ?_
                              refine so_gno rfl (not_f (decide_eq_true c610)) ?_
                              refine so_gno rfl (not_f (decide_eq_true c610)) ?_
                              refine so_gund rfl ?_
                              refine so_gund rfl ?_
                              refine so_gund rfl ?_
                              refine so_gund rfl ?_
                              refine so_gno rfl (not_f (decide_eq_true c610)) ?_
                              refine so_gno rfl (not_f (decide_eq_true c610)) ?_
                              refine so_gyes rfl (decide_eq_false c609) ?_
                              refine so_pick_f rfl (not_f (decide_eq_true c610)) rfl ?_
                              refine so_pick_f rfl (decide_eq_false c609) rfl ?_
                              refine so_move rfl ?_
                              refine so_gyes rfl rfl ?_
                              refine so_move rfl ?_
                              refine so_gyes rfl rfl ?_
                              refine so_move rfl ?_
                              refine so_gyes rfl rfl ?_
                              obtain ⟨c611, h⟩ := h
                              refine sv_idx (hs.shows 2 rfl) c611 (fun _ => rfl) (by decide) rfl rfl F6.tl29 ?_
                              refine so_gyes rfl rfl ?_
                              refine sv_cell (hs.shows 2 rfl) c611 false 0 (fun x => (AV.bool x)) (fun _ => rfl) (fun _ => rfl) rfl F6.ag4 ?_
                              refine so_gyes rfl rfl ?_
                              refine so_move rfl ?_
                              refine so_gyes rfl rfl ?_
                              refine so_move rfl ?_
                              refine so_gyes rfl rfl ?_
                              obtain ⟨c612, h⟩ := h
                              refine sv_idx (hs.shows 3 rfl) c612 (fun _ => rfl) (by decide) rfl rfl F6.tl22 ?_
                              refine so_gyes rfl rfl ?_
                              refine sv_cell (hs.shows 3 rfl) c612 (0 : Int) 0 (fun x => (AV.int .i64 x)) (fun _ => rfl) (fun _ => rfl) rfl F6.ag2 ?_
                              refine so_gyes rfl rfl ?_
                              refine sv_callS (laws_r8Abs_ok (y104.getD (i602).toNat (0 : Int)) hs  _ h) (fun _ _ ⟨_, _, _, e⟩ => e) rfl rfl ?_
                              clear h
                              rintro _ _ ⟨y613, h, rfl, rfl⟩
                              refine so_gyes rfl rfl ?_
                              refine so_move rfl ?_
                              refine so_gyes rfl rfl ?_
                              refine sv_ii rfl F6.us2 F6.it50 ?_
                              refine so_gyes rfl rfl ?_
                              obtain ⟨c615, h⟩ := h
                              refine so_bin rfl rfl (ab_shr c615) ?_
                              refine so_gyes rfl rfl ?_
                              refine so_bin rfl rfl ab_and ?_
                              refine so_gyes rfl rfl ?_
                              refine so_bin rfl rfl ab_eql ?_
                              refine so_gyes rfl rfl ?_
                              refine so_bin rfl rfl (ab_bneq F6.tb4) ?_
                              refine so_pick_f rfl rfl rfl ?_
                              refine so_nil ?_
                              replace h := ofT h; rcases h with ⟨c616, h⟩ | ⟨c616, h⟩
                              · refine fi_false rfl (not_f c616) ?_
                                refine fi_skip ?_
                                refine fi_seq ?_
                                refine fi_region ?_
                                refine so_move rfl ?_
                                refine so_move rfl ?_
                                refine so_move rfl ?_
                                refine sv_call (impl_TreeOf_ok (y104.length : Int) (IntKind.i64.wrap ((1 : Int) + y108)) i602 hs  _ h) rfl rfl nofun ?_
                                clear h hs
                                rintro _ H621 ⟨y617, y620, h, v618, rfl, hs⟩
                                refine so_move rfl ?_
                                refine so_extract rfl rfl rfl ?_
                                refine so_extract rfl rfl rfl ?_
                                refine so_assign rfl ?_
                                refine so_assign rfl ?_
                                refine so_nil ?_
                                refine fi_seq ?_
                                refine fi_seq ?_
                                refine fi_region ?_
                                refine so_move rfl ?_
                                refine so_un rfl au_not ?_
                                refine so_nil ?_
                                replace h := ofT h; rcases h with ⟨c622, h⟩ | ⟨c622, h⟩
                                · refine fi_false rfl (not_f c622) ?_
                                  refine fi_skip ?_
                                  refine fi_seq ?_
                                  refine fi_region ?_
                                  refine so_assign rfl ?_
                                  refine so_nil ?_
                                  refine fi_seq ?_
                                  refine fi_seq ?_
                                  refine fi_region ?_
                                  refine so_assign rfl ?_
                                  refine so_nil ?_
                                  refine fi_block ?_
                                  refine fi_loop ?_
                                  refine fi_at [(5, (.v v105)), (6, (.v (.int .i64 (y104.length : Int)))), (7, (.v (.int .i64 (IntKind.i64.wrap ((1 : Int) + y108))))), (8, (.v (.int .i64 y110))), (9, (.v (.int .i64 y112))), (14, (.v v125)), (16, (.v v135)), (18, (.v v431)), (24, (.v (.int .i64 i602))), (27, (.v v618)), (29, (.v (.bool true))), (30, (.v (.int .i64 (0 : Int))))] ⟨rfl, rfl, rfl, rfl, rfl, rfl, rfl, rfl, rfl, rfl, rfl, rfl, trivial⟩ ?_
                                  refine h (fun (empty624 : Bool) (j625 : Int) => ∀ (s : Nat → TV) (H : Heap), Sep H (Pc.osl v618 1 (enc (eInt .i64) y617) :: Pc.osl v431 1 (enc eBool covered564) :: Pc.osl v135 1 (enc eBool in416) :: Pc.osl v125 1 (enc eBool y124) :: Pc.osl v105 1 (enc (eInt .i64) y104) :: fr) → Fin _ _ (updL s [(5, (.v v105)), (6, (.v (.int .i64 (y104.length : Int)))), (7, (.v (.int .i64 (IntKind.i64.wrap ((1 : Int) + y108))))), (8, (.v (.int .i64 y110))), (9, (.v (.int .i64 y112))), (14, (.v v125)), (16, (.v v135)), (18, (.v v431)), (24, (.v (.int .i64 i602))), (27, (.v v618)), (29, (.v (.bool empty624))), (30, (.v (.int .i64 j625)))]) H _) ?_ _ _ hs
                                  intro empty624 j625 h s634 H635 hs
                                  refine fi_inLoop ?_
                                  refine fi_seq ?_
                                  refine fi_seq ?_
                                  refine fi_region ?_
                                  refine so_move rfl ?_
                                  refine so_move rfl ?_
                                  refine sv_len (hs.shows 0 rfl) (fun _ => rfl) (by decide) rfl F6.ti22 ?_
                                  refine so_bin rfl rfl ab_lss ?_
                                  refine so_nil ?_
                                  replace h := ofP h; rcases h with ⟨c626, h⟩ | ⟨c626, h⟩
                                  · refine fi_true rfl (decide_eq_true c626) ?_
                                    refine fi_skip ?_
                                    refine fi_seq ?_
                                    refine fi_block ?_
                                    refine fi_region ?_
                                    refine so_move rfl ?_
                                    refine so_move rfl ?_
                                    replace h := ofT h; rcases h with ⟨c627, h⟩ | ⟨c627, h⟩
                                    · refine so_gyes rfl c627 ?_
                                      refine so_move rfl ?_
                                      refine so_gyes rfl c627 ?_
                                      refine so_move rfl ?_
                                      refine so_gyes rfl c627 ?_
                                      refine so_move rfl ?_
                                      refine so_gyes rfl c627 ?_
                                      obtain ⟨c628, h⟩ := h
                                      refine sv_idx (hs.shows 0 rfl) c628 (fun _ => rfl) (by decide) rfl rfl F6.tl22 ?_
                                      refine so_gyes rfl c627 ?_
                                      refine sv_cell (hs.shows 0 rfl) c628 (0 : Int) 0 (fun x => (AV.int .i64 x)) (fun _ => rfl) (fun _ => rfl) rfl F6.ag2 ?_
                                      refine so_gyes rfl c627 ?_
                                      obtain ⟨c629, h⟩ := h
                                      refine sv_idx (hs.shows 4 rfl) c629 (fun _ => rfl) (by decide) rfl rfl F6.tl22 ?_
                                      refine so_gyes rfl c627 ?_
                                      refine sv_cell (hs.shows 4 rfl) c629 (0 : Int) 0 (fun x => (AV.int .i64 x)) (fun _ => rfl) (fun _ => rfl) rfl F6.ag2 ?_
                                      refine so_gyes rfl c627 ?_
                                      refine sv_callS (laws_r8Abs_ok (y104.getD ((y617.getD (j625).toNat (0 : Int))).toNat (0 : Int)) hs  _ h) (fun _ _ ⟨_, _, _, e⟩ => e) rfl rfl ?_
                                      clear h
                                      rintro _ _ ⟨y630, h, rfl, rfl⟩
                                      refine so_gyes rfl c627 ?_
                                      refine so_move rfl ?_
                                      refine so_gyes rfl c627 ?_
                                      refine sv_ii rfl F6.us2 F6.it50 ?_
                                      refine so_gyes rfl c627 ?_
                                      refine so_bin rfl rfl (ab_shr c615) ?_
                                      refine so_gyes rfl c627 ?_
                                      refine so_bin rfl rfl ab_eql ?_
                                      refine so_pick_t rfl c627 rfl ?_
                                      refine so_assign rfl ?_
                                      refine so_nil ?_
                                      refine fi_inBlock ?_
                                      refine fi_region ?_
                                      refine so_move rfl ?_
                                      refine so_bin rfl rfl ab_add ?_
                                      refine so_assign rfl ?_
                                      refine so_nil ?_
                                      exact fi_at [(5, (.v v105)), (6, (.v (.int .i64 (y104.length : Int)))), (7, (.v (.int .i64 (IntKind.i64.wrap ((1 : Int) + y108))))), (8, (.v (.int .i64 y110))), (9, (.v (.int .i64 y112))), (14, (.v v125)), (16, (.v v135)), (18, (.v v431)), (24, (.v (.int .i64 i602))), (27, (.v v618)), (29, (.v (.bool (decide ((Int.fdiv y630 (2 ^ (min ((IntKind.u64.wrap y110)).toNat IntKind.i64.bits))) = (0 : Int)))))), (30, (.v (.int .i64 (IntKind.i64.wrap (j625 + (1 : Int))))))] ⟨rfl, rfl, rfl, rfl, rfl, rfl, rfl, rfl, rfl, rfl, rfl, rfl, trivial⟩ (h _ _  hs)
                                    · refine so_gno rfl c627 ?_
                                      refine so_gno rfl c627 ?_
                                      refine so_gno rfl c627 ?_
                                      refine so_gno rfl c627 ?_
                                      refine so_gno rfl c627 ?_
                                      refine so_gno rfl c627 ?_
                                      refine so_gno rfl c627 ?_
                                      refine so_gno rfl c627 ?_
                                      refine so_gno rfl c627 ?_
                                      refine so_gno rfl c627 ?_
                                      refine so_gno rfl c627 ?_
                                      refine so_gno rfl c627 ?_
                                      refine so_pick_f rfl c627 rfl ?_
                                      refine so_assign rfl ?_
                                      refine so_nil ?_
                                      refine fi_inBlock ?_
                                      refine fi_region ?_
                                      refine so_move rfl ?_
                                      refine so_bin rfl rfl ab_add ?_
                                      refine so_assign rfl ?_
                                      refine so_nil ?_
                                      exact fi_at [(5, (.v v105)), (6, (.v (.int .i64 (y104.length : Int)))), (7, (.v (.int .i64 (IntKind.i64.wrap ((1 : Int) + y108))))), (8, (.v (.int .i64 y110))), (9, (.v (.int .i64 y112))), (14, (.v v125)), (16, (.v v135)), (18, (.v v431)), (24, (.v (.int .i64 i602))), (27, (.v v618)), (29, (.v (.bool false))), (30, (.v (.int .i64 (IntKind.i64.wrap (j625 + (1 : Int))))))] ⟨rfl, rfl, rfl, rfl, rfl, rfl, rfl, rfl, rfl, rfl, rfl, rfl, trivial⟩ (h _ _  hs)
                                  · refine fi_false rfl (decide_eq_false c626) ?_
                                    refine fi_exit rfl ?_
                                    refine fi_seq ?_
                                    refine fi_region ?_
                                    refine so_move rfl ?_
                                    refine so_move rfl ?_
                                    refine so_move rfl ?_
                                    obtain ⟨c632, h⟩ := h
                                    refine sv_idx (hs.shows 1 rfl) c632 (fun _ => rfl) (by decide) rfl rfl F6.tl29 ?_
                                    refine sv_cell (hs.shows 1 rfl) c632 false 0 (fun x => (AV.bool x)) (fun _ => rfl) (fun _ => rfl) rfl F6.ag4 ?_
                                    refine so_bin rfl rfl (ab_bneq F6.tb4) ?_
                                    refine so_nil ?_
                                    replace h := ofT h; rcases h with ⟨c633, h⟩ | ⟨c633, h⟩
                                    · refine fi_false rfl (not_f c633) ?_
                                      refine fi_skip ?_
                                      refine fi_inBlock ?_
                                      refine fi_region ?_
                                      refine so_move rfl ?_
                                      refine so_bin rfl rfl ab_add ?_
                                      refine so_assign rfl ?_
                                      refine so_nil ?_
                                      exact fi_at [(5, (.v v105)), (6, (.v (.int .i64 (y104.length : Int)))), (7, (.v (.int .i64 (IntKind.i64.wrap ((1 : Int) + y108))))), (8, (.v (.int .i64 y110))), (9, (.v (.int .i64 y112))), (14, (.v v125)), (16, (.v v135)), (18, (.v v431)), (24, (.v (.int .i64 (IntKind.i64.wrap (i602 + (1 : Int))))))] ⟨rfl, rfl, rfl, rfl, rfl, rfl, rfl, rfl, rfl, trivial⟩ (h _ _  (Sep.del 0 hs))
                                    · refine fi_true rfl (not_t c633) ?_
                                      refine fi_seq ?_
                                      refine fi_region ?_
                                      refine so_assign rfl ?_
                                      refine so_nil ?_
                                      exact by_ret rfl ⟨_, h, rfl, (Sep.dropn 5 hs)⟩
                                · refine fi_true rfl (not_t c622) ?_
                                  refine fi_seq ?_
                                  refine fi_region ?_
                                  refine so_assign rfl ?_
                                  refine so_nil ?_
                                  exact by_ret rfl ⟨_, h, rfl, (Sep.dropn 5 hs)⟩
                              · refine fi_true rfl (not_t c616) ?_
                                refine fi_seq ?_
                                refine fi_region ?_
                                refine so_assign rfl ?_
                                refine so_nil ?_
                                exact by_ret rfl ⟨_, h, rfl, (Sep.dropn 4 hs)⟩
                            · refine so_gyes rfl (not_t (decide_eq_false c610)) ?_
                              refine so_move rfl ?_
                              refine so_gyes rfl (not_t (decide_eq_false c610)) ?_
                              refine so_move rfl ?_
                              refine so_gyes rfl (not_t (decide_eq_false c610)) ?_
                              obtain ⟨c636, h⟩ := h
                              refine sv_idx (hs.shows 1 rfl) c636 (fun _ => rfl) (by decide) rfl rfl F6.tl29 ?_
                              refine so_gyes rfl (not_t (decide_eq_false c610)) ?_
                              refine sv_cell (hs.shows 1 rfl) c636 false 0 (fun x => (AV.bool x)) (fun _ => rfl) (fun _ => rfl) rfl F6.ag4 ?_
                              refine so_gyes rfl (not_t (decide_eq_false c610)) ?_
                              refine so_move rfl ?_
                              refine so_gyes rfl (not_t (decide_eq_false c610)) ?_
                              refine so_bin rfl rfl ab_geq ?_
                              refine so_gyes rfl (not_t (decide_eq_false c610)) ?_
                              refine so_move rfl ?_
                              replace h := ofP h; rcases h with ⟨c637, h⟩ | ⟨c637, h⟩
                              · refine so_gyes rfl (decide_eq_true c637) ?_
                                refine so_move rfl ?_
                                refine so_gyes rfl (decide_eq_true c637) ?_
                                refine so_move rfl ?_
                                refine so_gyes rfl (decide_eq_true c637) ?_
                                obtain ⟨c638, h⟩ := h
                                refine sv_idx (hs.shows 1 rfl) c638 (fun _ => rfl) (by decide) rfl rfl F6.tl29 ?_
                                refine so_gyes rfl (decide_eq_true c637) ?_
                                refine sv_cell (hs.shows 1 rfl) c638 false 0 (fun x => (AV.bool x)) (fun _ => rfl) (fun _ => rfl) rfl F6.ag4 ?_
                                refine so_gyes rfl (not_t (decide_eq_false c610)) ?_
                                refine so_pick_t rfl (decide_eq_true c637) rfl ?_
                                refine so_gyes rfl (not_t (decide_eq_false c610)) ?_
                                refine so_bin rfl rfl (ab_bneq F6.tb4) ?_
                                refine so_gyes rfl (decide_eq_false c609) ?_
                                refine so_pick_t rfl (not_t (decide_eq_false c610)) rfl ?_
                                refine so_pick_f rfl (decide_eq_false c609) rfl ?_
                                refine so_move rfl ?_
                                replace h := ofT h; rcases h with ⟨c639, h⟩ | ⟨c639, h⟩
                                · refine so_gyes rfl (not_f c639) ?_
                                  refine so_move rfl ?_
                                  refine so_gyes rfl (not_f c639) ?_
                                  refine so_move rfl ?_
                                  refine so_gyes rfl (not_f c639) ?_
                                  obtain ⟨c640, h⟩ := h
                                  refine sv_idx (hs.shows 2 rfl) c640 (fun _ => rfl) (by decide) rfl rfl F6.tl29 ?_
                                  refine so_gyes rfl (not_f c639) ?_
                                  refine sv_cell (hs.shows 2 rfl) c640 false 0 (fun x => (AV.bool x)) (fun _ => rfl) (fun _ => rfl) rfl F6.ag4 ?_
                                  refine so_gyes rfl (not_f c639) ?_
                                  refine so_move rfl ?_
                                  refine so_gyes rfl (not_f c639) ?_
                                  refine so_move rfl ?_
                                  refine so_gyes rfl (not_f c639) ?_
                                  obtain ⟨c641, h⟩ := h
                                  refine sv_idx (hs.shows 3 rfl) c641 (fun _ => rfl) (by decide) rfl rfl F6.tl22 ?_
                                  refine so_gyes rfl (not_f c639) ?_
                                  refine sv_cell (hs.shows 3 rfl) c641 (0 : Int) 0 (fun x => (AV.int .i64 x)) (fun _ => rfl) (fun _ => rfl) rfl F6.ag2 ?_
                                  refine so_gyes rfl (not_f c639) ?_
                                  refine sv_callS (laws_r8Abs_ok (y104.getD (i602).toNat (0 : Int)) hs  _ h) (fun _ _ ⟨_, _, _, e⟩ => e) rfl rfl ?_
                                  clear h
                                  rintro _ _ ⟨y642, h, rfl, rfl⟩
                                  refine so_gyes rfl (not_f c639) ?_
                                  refine so_move rfl ?_
                                  refine so_gyes rfl (not_f c639) ?_
                                  refine sv_ii rfl F6.us2 F6.it50 ?_
                                  refine so_gyes rfl (not_f c639) ?_
                                  obtain ⟨c644, h⟩ := h
                                  refine so_bin rfl rfl (ab_shr c644) ?_
                                  refine so_gyes rfl (not_f c639) ?_
                                  refine so_bin rfl rfl ab_and ?_
                                  refine so_gyes rfl (not_f c639) ?_
                                  refine so_bin rfl rfl ab_eql ?_
                                  refine so_gyes rfl (not_f c639) ?_
                                  refine so_bin rfl rfl (ab_bneq F6.tb4) ?_
                                  refine so_pick_f rfl (not_f c639) rfl ?_
                                  refine so_nil ?_
                                  replace h := ofT h; rcases h with ⟨c645, h⟩ | ⟨c645, h⟩
                                  · refine fi_false rfl (not_f c645) ?_
                                    refine fi_skip ?_
                                    refine fi_seq ?_
                                    refine fi_region ?_
                                    refine so_move rfl ?_
                                    refine so_move rfl ?_
                                    refine so_move rfl ?_
                                    refine sv_call (impl_TreeOf_ok (y104.length : Int) (IntKind.i64.wrap ((1 : Int) + y108)) i602 hs  _ h) rfl rfl nofun ?_
                                    clear h hs
                                    rintro _ H650 ⟨y646, y649, h, v647, rfl, hs⟩
                                    refine so_move rfl ?_
                                    refine so_extract rfl rfl rfl ?_
                                    refine so_extract rfl rfl rfl ?_
                                    refine so_assign rfl ?_
                                    refine so_assign rfl ?_
                                    refine so_nil ?_
                                    refine fi_seq ?_
                                    refine fi_seq ?_
                                    refine fi_region ?_
                                    refine so_move rfl ?_
                                    refine so_un rfl au_not ?_
                                    refine so_nil ?_
                                    replace h := ofT h; rcases h with ⟨c651, h⟩ | ⟨c651, h⟩
                                    · refine fi_false rfl (not_f c651) ?_
                                      refine fi_skip ?_
                                      refine fi_seq ?_
                                      refine fi_region ?_
                                      refine so_assign rfl ?_
                                      refine so_nil ?_
                                      refine fi_seq ?_
                                      refine fi_seq ?_
                                      refine fi_region ?_
                                      refine so_assign rfl ?_
                                      refine so_nil ?_
                                      refine fi_block ?_
                                      refine fi_loop ?_
                                      refine fi_at [(5, (.v v105)), (6, (.v (.int .i64 (y104.length : Int)))), (7, (.v (.int .i64 (IntKind.i64.wrap ((1 : Int) + y108))))), (8, (.v (.int .i64 y110))), (9, (.v (.int .i64 y112))), (14, (.v v125)), (16, (.v v135)), (18, (.v v431)), (24, (.v (.int .i64 i602))), (27, (.v v647)), (29, (.v (.bool true))), (30, (.v (.int .i64 (0 : Int))))] ⟨rfl, rfl, rfl, rfl, rfl, rfl, rfl, rfl, rfl, rfl, rfl, rfl, trivial⟩ ?_
                                      refine h (fun (empty653 : Bool) (j654 : Int) => ∀ (s : Nat → TV) (H : Heap), Sep H (Pc.osl v647 1 (enc (eInt .i64) y646) :: Pc.osl v431 1 (enc eBool covered564) :: Pc.osl v135 1 (enc eBool in416) :: Pc.osl v125 1 (enc eBool y124) :: Pc.osl v105 1 (enc (eInt .i64) y104) :: fr) → Fin _ _ (updL s [(5, (.v v105)), (6, (.v (.int .i64 (y104.length : Int)))), (7, (.v (.int .i64 (IntKind.i64.wrap ((1 : Int) + y108))))), (8, (.v (.int .i64 y110))), (9, (.v (.int .i64 y112))), (14, (.v v125)), (16, (.v v135)), (18, (.v v431)), (24, (.v (.int .i64 i602))), (27, (.v v647)), (29, (.v (.bool empty653))), (30, (.v (.int .i64 j654)))]) H _) ?_ _ _ hs
                                      intro empty653 j654 h s663 H664 hs
                                      refine fi_inLoop ?_
                                      refine fi_seq ?_
                                      refine fi_seq ?_
                                      refine fi_region ?_
                                      refine so_move rfl ?_
                                      refine so_move rfl ?_
                                      refine sv_len (hs.shows 0 rfl) (fun _ => rfl) (by decide) rfl F6.ti22 ?_
                                      refine so_bin rfl rfl ab_lss ?_
                                      refine so_nil ?_
                                      replace h := ofP h; rcases h with ⟨c655, h⟩ | ⟨c655, h⟩
                                      · refine fi_true rfl (decide_eq_true c655) ?_
                                        refine fi_skip ?_
                                        refine fi_seq ?_
                                        refine fi_block ?_
                                        refine fi_region ?_
                                        refine so_move rfl ?_
                                        refine so_move rfl ?_
                                        replace h := ofT h; rcases h with ⟨c656, h⟩ | ⟨c656, h⟩
                                        · refine so_gyes rfl c656 ?_
                                          refine so_move rfl ?_
                                          refine so_gyes rfl c656 ?_
                                          refine so_move rfl ?_
                                          refine so_gyes rfl c656 ?_
                                          refine so_move rfl ?_
                                          refine so_gyes rfl c656 ?_
                                          obtain ⟨c657, h⟩ := h
                                          refine sv_idx (hs.shows 0 rfl) c657 (fun _ => rfl) (by decide) rfl rfl F6.tl22 ?_
                                          refine so_gyes rfl c656 ?_
                                          refine sv_cell (hs.shows 0 rfl) c657 (0 : Int) 0 (fun x => (AV.int .i64 x)) (fun _ => rfl) (fun _ => rfl) rfl F6.ag2 ?_
                                          refine so_gyes rfl c656 ?_
                                          obtain ⟨c658, h⟩ := h
                                          refine sv_idx (hs.shows 4 rfl) c658 (fun _ => rfl) (by decide) rfl rfl F6.tl22 ?_
                                          refine so_gyes rfl c656 ?_
                                          refine sv_cell (hs.shows 4 rfl) c658 (0 : Int) 0 (fun x => (AV.int .i64 x)) (fun _ => rfl) (fun _ => rfl) rfl F6.ag2 ?_
                                          refine so_gyes rfl c656 ?_
                                          refine sv_callS (laws_r8Abs_ok (y104.getD ((y646.getD (j654).toNat (0 : Int))).toNat (0 : Int)) hs  _ h) (fun _ _ ⟨_, _, _, e⟩ => e) rfl rfl ?_
                                          clear h
                                          rintro _ _ ⟨y659, h, rfl, rfl⟩
                                          refine so_gyes rfl c656 ?_
                                          refine so_move rfl ?_
                                          refine so_gyes rfl c656 ?_
                                          refine sv_ii rfl F6.us2 F6.it50 ?_
                                          refine so_gyes rfl c656 ?_
                                          refine so_bin rfl rfl (ab_shr c644) ?_
                                          refine so_gyes rfl c656 ?_
                                          refine so_bin rfl rfl ab_eql ?_
                                          refine so_pick_t rfl c656 rfl ?_
                                          refine so_assign rfl ?_
                                          refine so_nil ?_
                                          refine fi_inBlock ?_
                                          refine fi_region ?_
                                          refine so_move rfl ?_
                                          refine so_bin rfl rfl ab_add ?_
                                          refine so_assign rfl ?_
                                          refine so_nil ?_
                                          exact fi_at [(5, (.v v105)), (6, (.v (.int .i64 (y104.length : Int)))), (7, (.v (.int .i64 (IntKind.i64.wrap ((1 : Int) + y108))))), (8, (.v (.int .i64 y110))), (9, (.v (.int .i64 y112))), (14, (.v v125)), (16, (.v v135)), (18, (.v v431)), (24, (.v (.int .i64 i602))), (27, (.v v647)), (29, (.v (.bool (decide ((Int.fdiv y659 (2 ^ (min ((IntKind.u64.wrap y110)).toNat IntKind.i64.bits))) = (0 : Int)))))), (30, (.v (.int .i64 (IntKind.i64.wrap (j654 + (1 : Int))))))] ⟨rfl, rfl, rfl, rfl, rfl, rfl, rfl, rfl, rfl, rfl, rfl, rfl, trivial⟩ (h _ _  hs)
                                        · refine so_gno rfl c656 ?_
                                          refine so_gno rfl c656 ?_
                                          refine so_gno rfl c656 ?_
                                          refine so_gno rfl c656 ?_
                                          refine so_gno rfl c656 ?_
                                          refine so_gno rfl c656 ?_
                                          refine so_gno rfl c656 ?_
                                          refine so_gno rfl c656 ?_
                                          refine so_gno rfl c656 ?_
                                          refine so_gno rfl c656 ?_
                                          refine so_gno rfl c656 ?_
                                          refine so_gno rfl c656 ?_
                                          refine so_pick_f rfl c656 rfl ?_
                                          refine so_assign rfl ?_
                                          refine so_nil ?_
                                          refine fi_inBlock ?_
                                          refine fi_region ?_
                                          refine so_move rfl ?_
                                          refine so_bin rfl rfl ab_add ?_
                                          refine so_assign rfl ?_
                                          refine so_nil ?_
                                          exact fi_at [(5, (.v v105)), (6, (.v (.int .i64 (y104.length : Int)))), (7, (.v (.int .i64 (IntKind.i64.wrap ((1 : Int) + y108))))), (8, (.v (.int .i64 y110))), (9, (.v (.int .i64 y112))), (14, (.v v125)), (16, (.v v135)), (18, (.v v431)), (24, (.v (.int .i64 i602))), (27, (.v v647)), (29, (.v (.bool false))), (30, (.v (.int .i64 (IntKind.i64.wrap (j654 + (1 : Int))))))] ⟨rfl, rfl, rfl, rfl, rfl, rfl, rfl, rfl, rfl, rfl, rfl, rfl, trivial⟩ (h _ _  hs)
                                      · refine fi_false rfl (decide_eq_false c655) ?_
                                        refine fi_exit rfl ?_
                                        refine fi_seq ?_
                                        refine fi_region ?_
                                        refine so_move rfl ?_
                                        refine so_move rfl ?_
                                        refine so_move rfl ?_
                                        obtain ⟨c661, h⟩ := h
                                        refine sv_idx (hs.shows 1 rfl) c661 (fun _ => rfl) (by decide) rfl rfl F6.tl29 ?_
                                        refine sv_cell (hs.shows 1 rfl) c661 false 0 (fun x => (AV.bool x)) (fun _ => rfl) (fun _ => rfl) rfl F6.ag4 ?_
                                        refine so_bin rfl rfl (ab_bneq F6.tb4) ?_
                                        refine so_nil ?_
                                        replace h := ofT h; rcases h with ⟨c662, h⟩ | ⟨c662, h⟩
                                        · refine fi_false rfl (not_f c662) ?_
                                          refine fi_skip ?_
                                          refine fi_inBlock ?_
                                          refine fi_region ?_
                                          refine so_move rfl ?_
                                          refine so_bin rfl rfl ab_add ?_
                                          refine so_assign rfl ?_
                                          refine so_nil ?_
                                          exact fi_at [(5, (.v v105)), (6, (.v (.int .i64 (y104.length : Int)))), (7, (.v (.int .i64 (IntKind.i64.wrap ((1 : Int) + y108))))), (8, (.v (.int .i64 y110))), (9, (.v (.int .i64 y112))), (14, (.v v125)), (16, (.v v135)), (18, (.v v431)), (24, (.v (.int .i64 (IntKind.i64.wrap (i602 + (1 : Int))))))] ⟨rfl, rfl, rfl, rfl, rfl, rfl, rfl, rfl, rfl, trivial⟩ (h _ _  (Sep.del 0 hs))
                                        · refine fi_true rfl (not_t c662) ?_
                                          refine fi_seq ?_
                                          refine fi_region ?_
                                          refine so_assign rfl ?_
                                          refine so_nil ?_
                                          exact by_ret rfl ⟨_, h, rfl, (Sep.dropn 5 hs)⟩
                                    · refine fi_true rfl (not_t c651) ?_
                                      refine fi_seq ?_
                                      refine fi_region ?_
                                      refine so_assign rfl ?_
                                      refine so_nil ?_
                                      exact by_ret rfl ⟨_, h, rfl, (Sep.dropn 5 hs)⟩
                                  · refine fi_true rfl (not_t c645) ?_
                                    refine fi_seq ?_
                                    refine fi_region ?_
                                    refine so_assign rfl ?_
                                    refine so_nil ?_
                                    exact by_ret rfl ⟨_, h, rfl, (Sep.dropn 4 hs)⟩
                                · refine so_gno rfl (not_t c639) ?_
                                  refine so_gno rfl (not_t c639) ?_
                                  refine so_gno rfl (not_t c639) ?_
                                  refine so_gno rfl (not_t c639) ?_
                                  refine so_gno rfl (not_t c639) ?_
                                  refine so_gno rfl (not_t c639) ?_
                                  refine so_gno rfl (not_t c639) ?_
                                  refine so_gno rfl (not_t c639) ?_
                                  refine so_gno rfl (not_t c639) ?_
                                  refine so_gno rfl (not_t c639) ?_
                                  refine so_gno rfl (not_t c639) ?_
                                  refine so_gno rfl (not_t c639) ?_
                                  refine so_gno rfl (not_t c639) ?_
                                  refine so_gno rfl (not_t c639) ?_
                                  refine so_gno rfl (not_t c639) ?_
                                  refine so_pick_t rfl (not_t c639) rfl ?_
                                  refine so_nil ?_
                                  refine fi_true rfl rfl ?_
                                  refine fi_seq ?_
                                  refine fi_region ?_
                                  refine so_assign rfl ?_
                                  refine so_nil ?_
                                  exact by_ret rfl ⟨_, h, rfl, (Sep.dropn 4 hs)⟩
                              · refine so_gno rfl (decide_eq_false c637) ?_
                                refine so_gno rfl (decide_eq_false c637) ?_
                                refine so_gno rfl (decide_eq_false c637) ?_
                                refine so_gno rfl (decide_eq_false c637) ?_
                                refine so_gyes rfl (not_t (decide_eq_false c610)) ?_
                                refine so_pick_f rfl (decide_eq_false c637) rfl ?_
                                refine so_gyes rfl (not_t (decide_eq_false c610)) ?_
                                refine so_bin rfl rfl (ab_bneq F6.tb4) ?_
                                refine so_gyes rfl (decide_eq_false c609) ?_
                                refine so_pick_t rfl (not_t (decide_eq_false c610)) rfl ?_
                                refine so_pick_f rfl (decide_eq_false c609) rfl ?_
                                refine so_move rfl ?_
                                replace h := ofT h; rcases h with ⟨c665, h⟩ | ⟨c665, h⟩
                                · refine so_gyes rfl (not_f c665) ?_
                                  refine so_move rfl ?_
                                  refine so_gyes rfl (not_f c665) ?_
                                  refine so_move rfl ?_
                                  refine so_gyes rfl (not_f c665) ?_
                                  obtain ⟨c666, h⟩ := h
                                  refine sv_idx (hs.shows 2 rfl) c666 (fun _ => rfl) (by decide) rfl rfl F6.tl29 ?_
                                  refine so_gyes rfl (not_f c665) ?_
                                  refine sv_cell (hs.shows 2 rfl) c666 false 0 (fun x => (AV.bool x)) (fun _ => rfl) (fun _ => rfl) rfl F6.ag4 ?_
                                  refine so_gyes rfl (not_f c665) ?_
                                  refine so_move rfl ?_
                                  refine so_gyes rfl (not_f c665) ?_
                                  refine so_move rfl ?_
                                  refine so_gyes rfl (not_f c665) ?_
                                  obtain ⟨c667, h⟩ := h
                                  refine sv_idx (hs.shows 3 rfl) c667 (fun _ => rfl) (by decide) rfl rfl F6.tl22 ?_
                                  refine so_gyes rfl (not_f c665) ?_
                                  refine sv_cell (hs.shows 3 rfl) c667 (0 : Int) 0 (fun x => (AV.int .i64 x)) (fun _ => rfl) (fun _ => rfl) rfl F6.ag2 ?_
                                  refine so_gyes rfl (not_f c665) ?_
                                  refine sv_callS (laws_r8Abs_ok (y104.getD (i602).toNat (0 : Int)) hs  _ h) (fun _ _ ⟨_, _, _, e⟩ => e) rfl rfl ?_
                                  clear h
                                  rintro _ _ ⟨y668, h, rfl, rfl⟩
                                  refine so_gyes rfl (not_f c665) ?_
                                  refine so_move rfl ?_
                                  refine so_gyes rfl (not_f c665) ?_
                                  refine sv_ii rfl F6.us2 F6.it50 ?_
                                  refine so_gyes rfl (not_f c665) ?_
                                  obtain ⟨c670, h⟩ := h
                                  refine so_bin rfl rfl (ab_shr c670) ?_
                                  refine so_gyes rfl (not_f c665) ?_
                                  refine so_bin rfl rfl ab_and ?_
                                  refine so_gyes rfl (not_f c665) ?_
                                  refine so_bin rfl rfl ab_eql ?_
                                  refine so_gyes rfl (not_f c665) ?_
                                  refine so_bin rfl rfl (ab_bneq F6.tb4) ?_
                                  refine so_pick_f rfl (not_f c665) rfl ?_
                                  refine so_nil ?_
                                  replace h := ofT h; rcases h with ⟨c671, h⟩ | ⟨c671, h⟩
                                  · refine fi_false rfl (not_f c671) ?_
                                    refine fi_skip ?_
                                    refine fi_seq ?_
                                    refine fi_region ?_
                                    refine so_move rfl ?_
                                    refine so_move rfl ?_
                                    refine so_move rfl ?_
                                    refine sv_call (impl_TreeOf_ok (y104.length : Int) (IntKind.i64.wrap ((1 : Int) + y108)) i602 hs  _ h) rfl rfl nofun ?_
                                    clear h hs
                                    rintro _ H676 ⟨y672, y675, h, v673, rfl, hs⟩
                                    refine so_move rfl ?_
                                    refine so_extract rfl rfl rfl ?_
                                    refine so_extract rfl rfl rfl ?_
                                    refine so_assign rfl ?_
                                    refine so_assign rfl ?_
                                    refine so_nil ?_
                                    refine fi_seq ?_
                                    refine fi_seq ?_
                                    refine fi_region ?_
                                    refine so_move rfl ?_
                                    refine so_un rfl au_not ?_
                                    refine so_nil ?_
                                    replace h := ofT h; rcases h with ⟨c677, h⟩ | ⟨c677, h⟩
                                    · refine fi_false rfl (not_f c677) ?_
                                      refine fi_skip ?_
                                      refine fi_seq ?_
                                      refine fi_region ?_
                                      refine so_assign rfl ?_
                                      refine so_nil ?_
                                      refine fi_seq ?_
                                      refine fi_seq ?_
                                      refine fi_region ?_
                                      refine so_assign rfl ?_
                                      refine so_nil ?_
                                      refine fi_block ?_
                                      refine fi_loop ?_
                                      refine fi_at [(5, (.v v105)), (6, (.v (.int .i64 (y104.length : Int)))), (7, (.v (.int .i64 (IntKind.i64.wrap ((1 : Int) + y108))))), (8, (.v (.int .i64 y110))), (9, (.v (.int .i64 y112))), (14, (.v v125)), (16, (.v v135)), (18, (.v v431)), (24, (.v (.int .i64 i602))), (27, (.v v673)), (29, (.v (.bool true))), (30, (.v (.int .i64 (0 : Int))))] ⟨rfl, rfl, rfl, rfl, rfl, rfl, rfl, rfl, rfl, rfl, rfl, rfl, trivial⟩ ?_
                                      refine h (fun (empty679 : Bool) (j680 : Int) => ∀ (s : Nat → TV) (H : Heap), Sep H (Pc.osl v673 1 (enc (eInt .i64) y672) :: Pc.osl v431 1 (enc eBool covered564) :: Pc.osl v135 1 (enc eBool in416) :: Pc.osl v125 1 (enc eBool y124) :: Pc.osl v105 1 (enc (eInt .i64) y104) :: fr) → Fin _ _ (updL s [(5, (.v v105)), (6, (.v (.int .i64 (y104.length : Int)))), (7, (.v (.int .i64 (IntKind.i64.wrap ((1 : Int) + y108))))), (8, (.v (.int .i64 y110))), (9, (.v (.int .i64 y112))), (14, (.v v125)), (16, (.v v135)), (18, (.v v431)), (24, (.v (.int .i64 i602))), (27, (.v v673)), (29, (.v (.bool empty679))), (30, (.v (.int .i64 j680)))]) H _) ?_ _ _ hs
                                      intro empty679 j680 h s689 H690 hs
                                      refine fi_inLoop ?_
                                      refine fi_seq ?_
                                      refine fi_seq ?_
                                      refine fi_region ?_
                                      refine so_move rfl ?_
                                      refine so_move rfl ?_
                                      refine sv_len (hs.shows 0 rfl) (fun _ => rfl) (by decide) rfl F6.ti22 ?_
                                      refine so_bin rfl rfl ab_lss ?_
                                      refine so_nil ?_
                                      replace h := ofP h; rcases h with ⟨c681, h⟩ | ⟨c681, h⟩
                                      · refine fi_true rfl (decide_eq_true c681) ?_
                                        refine fi_skip ?_
                                        refine fi_seq ?_
                                        refine fi_block ?_
                                        refine fi_region ?_
                                        refine so_move rfl ?_
                                        refine so_move rfl ?_
                                        replace h := ofT h; rcases h with ⟨c682, h⟩ | ⟨c682, h⟩
                                        · refine so_gyes rfl c682 ?_
                                          refine so_move rfl ?_
                                          refine so_gyes rfl c682 ?_
                                          refine so_move rfl ?_
                                          refine so_gyes rfl c682 ?_
                                          refine so_move rfl ?_
                                          refine so_gyes rfl c682 ?_
                                          obtain ⟨c683, h⟩ := h
                                          refine sv_idx (hs.shows 0 rfl) c683 (fun _ => rfl) (by decide) rfl rfl F6.tl22 ?_
                                          refine so_gyes rfl c682 ?_
                                          refine sv_cell (hs.shows 0 rfl) c683 (0 : Int) 0 (fun x => (AV.int .i64 x)) (fun _ => rfl) (fun _ => rfl) rfl F6.ag2 ?_
                                          refine so_gyes rfl c682 ?_
                                          obtain ⟨c684, h⟩ := h
                                          refine sv_idx (hs.shows 4 rfl) c684 (fun _ => rfl) (by decide) rfl rfl F6.tl22 ?_
                                          refine so_gyes rfl c682 ?_
                                          refine sv_cell (hs.shows 4 rfl) c684 (0 : Int) 0 (fun x => (AV.int .i64 x)) (fun _ => rfl) (fun _ => rfl) rfl F6.ag2 ?_
                                          refine so_gyes rfl c682 ?_
                                          refine sv_callS (laws_r8Abs_ok (y104.getD ((y672.getD (j680).toNat (0 : Int))).toNat (0 : Int)) hs  _ h) (fun _ _ ⟨_, _, _, e⟩ => e) rfl rfl ?_
                                          clear h
                                          rintro _ _ ⟨y685, h, rfl, rfl⟩
                                          refine so_gyes rfl c682 ?_
                                          refine so_move rfl ?_
                                          refine so_gyes rfl c682 ?_
                                          refine sv_ii rfl F6.us2 F6.it50 ?_
                                          refine so_gyes rfl c682 ?_
                                          refine so_bin rfl rfl (ab_shr c670) ?_
                                          refine so_gyes rfl c682 ?_
                                          refine so_bin rfl rfl ab_eql ?_
                                          refine so_pick_t rfl c682 rfl ?_
                                          refine so_assign rfl ?_
                                          refine so_nil ?_
                                          refine fi_inBlock ?_
                                          refine fi_region ?_
                                          refine so_move rfl ?_
                                          refine so_bin rfl rfl ab_add ?_
                                          refine so_assign rfl ?_
                                          refine so_nil ?_
                                          exact fi_at [(5, (.v v105)), (6, (.v (.int .i64 (y104.length : Int)))), (7, (.v (.int .i64 (IntKind.i64.wrap ((1 : Int) + y108))))), (8, (.v (.int .i64 y110))), (9, (.v (.int .i64 y112))), (14, (.v v125)), (16, (.v v135)), (18, (.v v431)), (24, (.v (.int .i64 i602))), (27, (.v v673)), (29, (.v (.bool (decide ((Int.fdiv y685 (2 ^ (min ((IntKind.u64.wrap y110)).toNat IntKind.i64.bits))) = (0 : Int)))))), (30, (.v (.int .i64 (IntKind.i64.wrap (j680 + (1 : Int))))))] ⟨rfl, rfl, rfl, rfl, rfl, rfl, rfl, rfl, rfl, rfl, rfl, rfl, trivial⟩ (h _ _  hs)
                                        · refine so_gno rfl c682 ?_
                                          refine so_gno rfl c682 ?_
                                          refine so_gno rfl c682 ?_
                                          refine so_gno rfl c682 ?_
                                          refine so_gno rfl c682 ?_
                                          refine so_gno rfl c682 ?_
                                          refine so_gno rfl c682 ?_
                                          refine so_gno rfl c682 ?_
                                          refine so_gno rfl c682 ?_
                                          refine so_gno rfl c682 ?_
                                          refine so_gno rfl c682 ?_
                                          refine so_gno rfl c682 ?_
                                          refine so_pick_f rfl c682 rfl ?_
                                          refine so_assign rfl ?_
                                          refine so_nil ?_
                                          refine fi_inBlock ?_
                                          refine fi_region ?_
                                          refine so_move rfl ?_
                                          refine so_bin rfl rfl ab_add ?_
                                          refine so_assign rfl ?_
                                          refine so_nil ?_
                                          exact fi_at [(5, (.v v105)), (6, (.v (.int .i64 (y104.length : Int)))), (7, (.v (.int .i64 (IntKind.i64.wrap ((1 : Int) + y108))))), (8, (.v (.int .i64 y110))), (9, (.v (.int .i64 y112))), (14, (.v v125)), (16, (.v v135)), (18, (.v v431)), (24, (.v (.int .i64 i602))), (27, (.v v673)), (29, (.v (.bool false))), (30, (.v (.int .i64 (IntKind.i64.wrap (j680 + (1 : Int))))))] ⟨rfl, rfl, rfl, rfl, rfl, rfl, rfl, rfl, rfl, rfl, rfl, rfl, trivial⟩ (h _ _  hs)
                                      · refine fi_false rfl (decide_eq_false c681) ?_
                                        refine fi_exit rfl ?_
                                        refine fi_seq ?_
                                        refine fi_region ?_
                                        refine so_move rfl ?_
                                        refine so_move rfl ?_
                                        refine so_move rfl ?_
                                        obtain ⟨c687, h⟩ := h
                                        refine sv_idx (hs.shows 1 rfl) c687 (fun _ => rfl) (by decide) rfl rfl F6.tl29 ?_
                                        refine sv_cell (hs.shows 1 rfl) c687 false 0 (fun x => (AV.bool x)) (fun _ => rfl) (fun _ => rfl) rfl F6.ag4 ?_
                                        refine so_bin rfl rfl (ab_bneq F6.tb4) ?_
                                        refine so_nil ?_
                                        replace h := ofT h; rcases h with ⟨c688, h⟩ | ⟨c688, h⟩
                                        · refine fi_false rfl (not_f c688) ?_
                                          refine fi_skip ?_
                                          refine fi_inBlock ?_
                                          refine fi_region ?_
                                          refine so_move rfl ?_
                                          refine so_bin rfl rfl ab_add ?_
                                          refine so_assign rfl ?_
                                          refine so_nil ?_
                                          exact fi_at [(5, (.v v105)), (6, (.v (.int .i64 (y104.length : Int)))), (7, (.v (.int .i64 (IntKind.i64.wrap ((1 : Int) + y108))))), (8, (.v (.int .i64 y110))), (9, (.v (.int .i64 y112))), (14, (.v v125)), (16, (.v v135)), (18, (.v v431)), (24, (.v (.int .i64 (IntKind.i64.wrap (i602 + (1 : Int))))))] ⟨rfl, rfl, rfl, rfl, rfl, rfl, rfl, rfl, rfl, trivial⟩ (h _ _  (Sep.del 0 hs))
                                        · refine fi_true rfl (not_t c688) ?_
                                          refine fi_seq ?_
                                          refine fi_region ?_
                                          refine so_assign rfl ?_
                                          refine so_nil ?_
                                          exact by_ret rfl ⟨_, h, rfl, (Sep.dropn 5 hs)⟩
                                    · refine fi_true rfl (not_t c677) ?_
                                      refine fi_seq ?_
                                      refine fi_region ?_
                                      refine so_assign rfl ?_
                                      refine so_nil ?_
                                      exact by_ret rfl ⟨_, h, rfl, (Sep.dropn 5 hs)⟩
                                  · refine fi_true rfl (not_t c671) ?_
                                    refine fi_seq ?_
                                    refine fi_region ?_
                                    refine so_assign rfl ?_
                                    refine so_nil ?_
                                    exact by_ret rfl ⟨_, h, rfl, (Sep.dropn 4 hs)⟩
                                · refine so_gno rfl (not_t c665) ?_
                                  refine so_gno rfl (not_t c665) ?_
                                  refine so_gno rfl (not_t c665) ?_
                                  refine so_gno rfl (not_t c665) ?_
                                  refine so_gno rfl (not_t c665) ?_
                                  refine so_gno rfl (not_t c665) ?_
                                  refine so_gno rfl (not_t c665) ?_
                                  refine so_gno rfl (not_t c665) ?_
                                  refine so_gno rfl (not_t c665) ?_
                                  refine so_gno rfl (not_t c665) ?_
                                  refine so_gno rfl (not_t c665) ?_
                                  refine so_gno rfl (not_t c665) ?_
                                  refine so_gno rfl (not_t c665) ?_
                                  refine so_gno rfl (not_t c665) ?_
                                  refine so_gno rfl (not_t c665) ?_
                                  refine so_pick_t rfl (not_t c665) rfl ?_
                                  refine so_nil ?_
                                  refine fi_true rfl rfl ?_
                                  refine fi_seq ?_
                                  refine fi_region ?_
                                  refine so_assign rfl ?_
                                  refine so_nil ?_
                                  exact by_ret rfl ⟨_, h, rfl, (Sep.dropn 4 hs)⟩
                      · refine so_gno rfl (not_t c607) ?_
                        refine so_gno rfl (not_t c607) ?_
                        refine so_pick_t rfl (not_t c607) rfl ?_
                        refine so_move rfl ?_
                        refine so_gno rfl rfl ?_
                        refine so_gno rfl rfl ?_
                        refine so_gno rfl rfl ?_
                        refine so_pick_t rfl rfl rfl ?_
                        refine so_move rfl ?_
                        refine so_gno rfl rfl ?_
                        refine so_gno rfl rfl ?_
                        refine so_gno rfl rfl ?_
                        refine so_gno rfl rfl ?_
                        refine so_gund rfl ?_
                        refine so_gund rfl ?_
                        refine so_gund rfl ?_
                        refine so_gund rfl ?_
                        refine so_gund rfl ?_
                        refine so_gund rfl ?_
                        refine so_gund rfl ?_
                        refine so_gund rfl ?_
                        refine so_gund rfl ?_
                        refine so_gund rfl ?_
                        refine so_gund rfl ?_
                        refine so_gund rfl ?_
                        refine so_gund rfl ?_
                        refine so_gno rfl rfl ?_
                        refine so_pick_t rfl rfl rfl ?_
                        refine so_move rfl ?_
                        refine so_gno rfl rfl ?_
                        refine so_gno rfl rfl ?_
                        refine so_gno rfl rfl ?_
                        refine so_gno rfl rfl ?_
                        refine so_gno rfl rfl ?_
                        refine so_gno rfl rfl ?_
                        refine so_gno rfl rfl ?_
                        refine so_gno rfl rfl ?_
                        refine so_gno rfl rfl ?_
                        refine so_gno rfl rfl ?_
                        refine so_gno rfl rfl ?_
                        refine so_gno rfl rfl ?_
                        refine so_gno rfl rfl ?_
                        refine so_gno rfl rfl ?_
                        refine so_gno rfl rfl ?_
                        refine so_pick_t rfl rfl rfl ?_
                        refine so_nil ?_
                        refine fi_true rfl rfl ?_
                        refine fi_seq ?_
                        refine fi_region ?_
                        refine so_assign rfl ?_
                        refine so_nil ?_
                        exact by_ret rfl ⟨_, h, rfl, (Sep.dropn 4 hs)⟩
                    · refine fi_false rfl (decide_eq_false c603) ?_
                      refine fi_exit rfl ?_
                      refine fi_seq ?_
                      refine fi_region ?_
                      refine so_assign rfl ?_
                      refine so_nil ?_
                      exact by_ret rfl ⟨_, h, rfl, (Sep.dropn 4 hs)⟩
                · refine fi_true rfl (not_t c430) ?_
                  refine fi_seq ?_
                  refine fi_region ?_
                  refine so_assign rfl ?_
                  refine so_nil ?_
                  exact by_ret rfl ⟨_, h, rfl, (Sep.dropn 5 hs)⟩
          · refine so_gno rfl (not_t (decide_eq_false c132)) ?_
            refine so_gno rfl (not_t (decide_eq_false c132)) ?_
            refine so_gno rfl (not_t (decide_eq_false c132)) ?_
            refine so_pick_t rfl (not_t (decide_eq_false c132)) rfl ?_
            refine so_nil ?_
            refine fi_true rfl rfl ?_
            refine fi_seq ?_
            refine fi_region ?_
            refine so_assign rfl ?_
            refine so_nil ?_
            exact by_ret rfl ⟨_, h, rfl, (Sep.dropn 4 hs)⟩
        · refine so_gno rfl (not_t c131) ?_
          refine so_gno rfl (not_t c131) ?_
          refine so_gno rfl (not_t c131) ?_
          refine so_gno rfl (not_t c131) ?_
          refine so_pick_t rfl (not_t c131) rfl ?_
          refine so_move rfl ?_
          refine so_gno rfl rfl ?_
          refine so_gno rfl rfl ?_
          refine so_gno rfl rfl ?_
          refine so_pick_t rfl rfl rfl ?_
          refine so_nil ?_
          refine fi_true rfl rfl ?_
          refine fi_seq ?_
          refine fi_region ?_
          refine so_assign rfl ?_
          refine so_nil ?_
          exact by_ret rfl ⟨_, h, rfl, (Sep.dropn 4 hs)⟩
      · refine so_gno rfl (not_t c130) ?_
        refine so_gno rfl (not_t c130) ?_
        refine so_pick_t rfl (not_t c130) rfl ?_
        refine so_move rfl ?_
        refine so_gno rfl rfl ?_
        refine so_gno rfl rfl ?_
        refine so_gno rfl rfl ?_
        refine so_gno rfl rfl ?_
        refine so_pick_t rfl rfl rfl ?_
        refine so_move rfl ?_
        refine so_gno rfl rfl ?_
        refine so_gno rfl rfl ?_
        refine so_gno rfl rfl ?_
        refine so_pick_t rfl rfl rfl ?_
        refine so_nil ?_
        refine fi_true rfl rfl ?_
        refine fi_seq ?_
        refine fi_region ?_
        refine so_assign rfl ?_
        refine so_nil ?_
        exact by_ret rfl ⟨_, h, rfl, (Sep.dropn 4 hs)⟩
    · refine so_gno rfl (not_t c129) ?_
      refine so_gno rfl (not_t c129) ?_
      refine so_pick_t rfl (not_t c129) rfl ?_
      refine so_move rfl ?_
      refine so_gno rfl rfl ?_
      refine so_gno rfl rfl ?_
      refine so_pick_t rfl rfl rfl ?_
      refine so_move rfl ?_
      refine so_gno rfl rfl ?_
      refine so_gno rfl rfl ?_
      refine so_gno rfl rfl ?_
      refine so_gno rfl rfl ?_
      refine so_pick_t rfl rfl rfl ?_
      refine so_move rfl ?_
      refine so_gno rfl rfl ?_
      refine so_gno rfl rfl ?_
      refine so_gno rfl rfl ?_
      refine so_pick_t rfl rfl rfl ?_
      refine so_nil ?_
      refine fi_true rfl rfl ?_
      refine fi_seq ?_
      refine fi_region ?_
      refine so_assign rfl ?_
      refine so_nil ?_
      exact by_ret rfl ⟨_, h, rfl, (Sep.dropn 4 hs)⟩

end Go.Proofs.Ytplfnchoooehgaa.G

