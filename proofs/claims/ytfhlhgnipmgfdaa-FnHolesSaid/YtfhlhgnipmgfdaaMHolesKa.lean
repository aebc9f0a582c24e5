/-
  The model ends so. Printed by a program of the session; nothing here is trusted.
-/
import Derived.Test.YtfhlhgnipmgfdaaProg
import Derived.KernelRfl
import Derived.Test.YtfhlhgnipmgfdaaMHolesWa
namespace Go.Proofs.Ytfhlhgnipmgfdaa.F
open Go Go.Ab Go.Proofs
set_option maxRecDepth 100000
set_option linter.unusedVariables false
set_option linter.unusedSimpArgs false
set_option maxHeartbeats 1000000
theorem hm : Try.prog.follows .mixedOrders = true := by kernel_rfl
end Go.Proofs.Ytfhlhgnipmgfdaa.F
namespace Go.Proofs.Ytfhlhgnipmgfdaa.G
open Go Go.Ab Go.Proofs Go.Proofs.Ytfhlhgnipmgfdaa
set_option maxRecDepth 100000
set_option linter.unusedVariables false
set_option linter.unusedSimpArgs false
set_option maxHeartbeats 1000000
attribute [local irreducible] wops wopf Go.Ab.Fin
theorem F17.ti22 : (telem Try.prog 22).isSome = true := by kernel_rfl
theorem laws_b10Long_ok {fr : List Pc} {H : Heap} (v0 : AV) (l0 : List (Int)) (v1 : AV) (l1 : List (Int)) (hs : Sep H (fr)) (g0 : ∀ H, Sep H fr → Shows H v0 1 (enc (eInt .u8) l0)) (g1 : ∀ H, Sep H fr → Shows H v1 1 (enc (eInt .u8) l1)) (K : Bool → Prop) (h : laws_b10Long.wp l0 l1 K) : OkQ Try.prog 17 [(.v v0), (.v v1)] H (fun r H2 => ∃ (y0 : Bool), K y0 ∧ r = (.v (.bool y0)) ∧ H = H2) := by
  unfold laws_b10Long.wp at h
  refine of_body Try.f17 F.hm Try.func17 rfl Try.call17 (by kernel_rfl) (by simp) ?_
  refine fi_seq ?_
  refine fi_region ?_
  refine so_assign (v := (.v (.bool false))) rfl ?_
  refine so_nil ?_
  refine fi_seq ?_
  refine fi_region ?_
  refine so_move (v := (.v v0)) rfl ?_
  refine sv_len (g0 _ hs) (fun _ => rfl) (by decide) rfl F17.ti22 ?_
  refine so_bin rfl rfl ab_gtr ?_
  refine so_move (v := (.v (.bool (decide ((1048576 : Int) < (l0.length : Int)))))) rfl ?_
  replace h := ofP h; rcases h with ⟨c101, h⟩ | ⟨c101, h⟩
  · refine so_gno rfl (decide_eq_true c101) ?_
    refine so_gno rfl (decide_eq_true c101) ?_
    refine so_gno rfl (decide_eq_true c101) ?_
    refine so_pick_t (v := (.v (.bool true))) rfl (decide_eq_true c101) rfl ?_
    refine so_assign (v := (.v (.bool true))) rfl ?_
    refine so_nil ?_
    exact by_ret rfl ⟨_, h, rfl, rfl⟩
  · refine so_gyes rfl (decide_eq_false c101) ?_
    refine so_move (v := (.v v1)) rfl ?_
    refine so_gyes rfl (decide_eq_false c101) ?_
    refine sv_len (g1 _ hs) (fun _ => rfl) (by decide) rfl F17.ti22 ?_
    refine so_gyes rfl (decide_eq_false c101) ?_
    refine so_bin rfl rfl ab_gtr ?_
    refine so_pick_f (v := (.v (.bool (decide ((1048576 : Int) < (l1.length : Int)))))) rfl (decide_eq_false c101) rfl ?_
    refine so_assign (v := (.v (.bool (decide ((1048576 : Int) < (l1.length : Int)))))) rfl ?_
    refine so_nil ?_
    exact by_ret rfl ⟨_, h, rfl, rfl⟩
theorem F38.bp106 : bplan Try.prog 106 = some ([.nilsl, (.int .i64 (0 : Int)), (.int .u64 (0 : Int))], [(0, 1), (1, 1), (2, 1)]) := by kernel_rfl
theorem F38.inf106 : (Try.prog.info? 106).isSome = true := by kernel_rfl
theorem spec_l00From_ok {fr : List Pc} {H : Heap} (v0 : AV) (l0 : List (Int)) (hs : Sep H (fr)) (g0 : ∀ H, Sep H fr → Shows H v0 1 (enc (eInt .u8) l0)) (K : Bool → Int → Int → Prop) (h : spec_l00From.wp l0 K) : OkQ Try.prog 38 [(.v v0)] H (fun r H2 => ∃ (y0 : Bool) (y1 : Int) (y2 : Int), K y0 y1 y2 ∧ ∃ (w0_ : Nat), r = (.v (.ptr w0_ 0)) ∧ Sep H2 (Pc.box w0_ [(bif y0 then v0 else .nilsl), (.int .i64 y1), (.int .u64 y2)] :: fr)) := by
  unfold spec_l00From.wp at h
  refine of_body Try.f38 F.hm Try.func38 rfl Try.call38 (by kernel_rfl) (by simp) ?_
  refine fi_seq ?_
  refine fi_region ?_
  refine so_assign (v := (.v .nilptr)) rfl ?_
  refine so_nil ?_
  refine fi_seq ?_
  refine fi_region ?_
  refine so_move (v := (.v v0)) rfl ?_
  refine so_build F38.bp106 (cps := [(0, [v0])]) rfl (fac (stc (g0 _ hs).stor stn) fan) rfl ?_
  refine sv_box hs rfl (c := [v0, (.int .i64 (0 : Int)), (.int .u64 (0 : Int))]) rfl F38.inf106 (stc (g0 _ hs).stor (stc rfl (stc rfl stn))) nofun (fun id101 H102 hs => ?_)
  refine so_assign (v := (.v (.ptr id101 0))) rfl ?_
  refine so_nil ?_
  exact by_ret rfl ⟨_, _, _, h, _, rfl, hs⟩
theorem F101.ag104 : tagg Try.prog 104 = some false := by kernel_rfl
theorem F101.ag22 : tagg Try.prog 22 = some false := by kernel_rfl
theorem F101.ag3 : tagg Try.prog 3 = some false := by kernel_rfl
theorem F101.ag5 : tagg Try.prog 5 = some false := by kernel_rfl
theorem F101.fd106_0 : tfield Try.prog 106 0 = some (0, 1, false) := by kernel_rfl
theorem F101.fd106_1 : tfield Try.prog 106 1 = some (1, 1, false) := by kernel_rfl
theorem F101.fd106_2 : tfield Try.prog 106 2 = some (2, 1, false) := by kernel_rfl
theorem F101.it104 : tint Try.prog 104 = some .u64 := by kernel_rfl
theorem F101.it2 : tint Try.prog 2 = some .i64 := by kernel_rfl
theorem F101.it3 : tint Try.prog 3 = some .i64 := by kernel_rfl
theorem F101.sz104 : tsz Try.prog 104 = some 1 := by kernel_rfl
theorem F101.sz3 : tsz Try.prog 3 = some 1 := by kernel_rfl
theorem F101.ti22 : (telem Try.prog 22).isSome = true := by kernel_rfl
theorem F101.tl22 : (telem Try.prog 22).bind (tsz Try.prog) = some 1 := by kernel_rfl
theorem F101.us104 : (Try.prog.underlying 104).isSome = true := by kernel_rfl
theorem F101.us3 : (Try.prog.underlying 3).isSome = true := by kernel_rfl
theorem F101.us5 : (Try.prog.underlying 5).isSome = true := by kernel_rfl
theorem spec_l00Src_next_ok {fr : List Pc} {H : Heap} (i0 : Nat) (v0 : AV) (l0 : List (Int)) (a1 : Int) (a2 : Int) (hs : Sep H (Pc.box i0 [v0, (.int .i64 a1), (.int .u64 a2)] :: fr)) (g0 : ∀ H, Sep H fr → Shows H v0 1 (enc (eInt .u8) l0)) (K : Int → Int → Int → Prop) (h : spec_l00Src_next.wp l0 a1 a2 K) : OkQ Try.prog 101 [(.v (.ptr i0 0))] H (fun r H2 => ∃ (y0 : Int) (y1 : Int) (y2 : Int), K y0 y1 y2 ∧ r = (.v (.int .i64 y0)) ∧ Sep H2 (Pc.box i0 [v0, (.int .i64 y1), (.int .u64 y2)] :: fr)) := by
  unfold spec_l00Src_next.wp at h
  refine of_body Try.f101 F.hm Try.func101 rfl Try.call101 (by kernel_rfl) (by simp) ?_
  refine fi_seq ?_
  refine fi_region ?_
  refine so_assign (v := (.v (.int .i64 (0 : Int)))) rfl ?_
  refine so_nil ?_
  refine fi_seq ?_
  refine fi_region ?_
  refine so_assign (v := (.v (.int .i64 (0 : Int)))) rfl ?_
  refine so_nil ?_
  refine fi_seq ?_
  refine fi_seq ?_
  refine fi_region ?_
  refine so_move (v := (.v (.ptr i0 0))) rfl ?_
  refine so_nilCheck rfl ?_
  refine so_fieldAddr rfl F101.fd106_1 ?_
  refine sv_ld hs 0 rfl rfl rfl F101.ag3 ?_
  refine so_move (v := (.v (.ptr i0 0))) rfl ?_
  refine so_nilCheck rfl ?_
  refine so_fieldAddr rfl F101.fd106_0 ?_
  refine sv_ld hs 0 rfl rfl rfl F101.ag22 ?_
  refine sv_len (g0 _ hs.tl) (fun _ => rfl) (by decide) rfl F101.ti22 ?_
  refine so_bin rfl rfl ab_lss ?_
  refine so_nil ?_
  replace h := ofP h; rcases h with ⟨c102, h⟩ | ⟨c102, h⟩
  · refine fi_true rfl (decide_eq_true c102) ?_
    refine fi_region ?_
    refine so_move (v := (.v (.ptr i0 0))) rfl ?_
    refine so_nilCheck rfl ?_
    refine so_fieldAddr rfl F101.fd106_0 ?_
    refine sv_ld hs 0 rfl rfl rfl F101.ag22 ?_
    refine so_move (v := (.v (.ptr i0 0))) rfl ?_
    refine so_nilCheck rfl ?_
    refine so_fieldAddr rfl F101.fd106_1 ?_
    refine sv_ld hs 0 rfl rfl rfl F101.ag3 ?_
    obtain ⟨c103, h⟩ := h
    refine sv_idx (g0 _ hs.tl) c103 (fun _ => rfl) (by decide) rfl rfl F101.tl22 ?_
    refine sv_cell (g0 _ hs.tl) c103 (0 : Int) 0 (fun x => (AV.int .u8 x)) (fun _ => rfl) (fun _ => rfl) rfl F101.ag5 ?_
    refine sv_ii rfl F101.us5 F101.it3 ?_
    refine so_assign (v := (.v (.int .i64 (IntKind.i64.wrap (l0.getD (a1).toNat (0 : Int)))))) rfl ?_
    refine so_nil ?_
    refine fi_seq ?_
    refine fi_region ?_
    refine so_move (v := (.v (.ptr i0 0))) rfl ?_
    refine so_nilCheck rfl ?_
    refine so_fieldAddr rfl F101.fd106_1 ?_
    refine sv_ld hs 0 rfl rfl rfl F101.ag3 ?_
    refine so_bin rfl rfl ab_add ?_
    refine so_nilCheck rfl ?_
    refine so_fieldAddr rfl F101.fd106_1 ?_
    refine sv_st hs 0 rfl rfl rfl (c := [(.int .i64 (IntKind.i64.wrap (a1 + (1 : Int))))]) rfl F101.sz3 rfl (stc rfl stn) (leb rfl) (cs' := [v0, (.int .i64 (IntKind.i64.wrap (a1 + (1 : Int)))), (.int .u64 a2)]) rfl nofun (fun H104 hs => ?_)
    refine so_nil ?_
    refine fi_seq ?_
    refine fi_region ?_
    refine so_move (v := (.v (.ptr i0 0))) rfl ?_
    refine so_move (v := (.v (.ptr i0 0))) rfl ?_
    refine so_nilCheck rfl ?_
    refine so_fieldAddr rfl F101.fd106_2 ?_
    refine sv_ld hs 0 rfl rfl rfl F101.ag104 ?_
    refine so_bin rfl rfl ab_mul ?_
    refine so_move (v := (.v (.int .i64 (IntKind.i64.wrap (l0.getD (a1).toNat (0 : Int)))))) rfl ?_
    refine sv_ii rfl F101.us3 F101.it104 ?_
    refine so_bin rfl rfl ab_add ?_
    refine so_bin rfl rfl ab_add ?_
    refine so_nilCheck rfl ?_
    refine so_fieldAddr rfl F101.fd106_2 ?_
    refine sv_st hs 0 rfl rfl rfl (c := [(.int .u64 (IntKind.u64.wrap ((IntKind.u64.wrap ((IntKind.u64.wrap (a2 * (6364136223846793005 : Int))) + (IntKind.u64.wrap (IntKind.i64.wrap (l0.getD (a1).toNat (0 : Int)))))) + (1442695040888963407 : Int))))]) rfl F101.sz104 rfl (stc rfl stn) (leb rfl) (cs' := [v0, (.int .i64 (IntKind.i64.wrap (a1 + (1 : Int)))), (.int .u64 (IntKind.u64.wrap ((IntKind.u64.wrap ((IntKind.u64.wrap (a2 * (6364136223846793005 : Int))) + (IntKind.u64.wrap (IntKind.i64.wrap (l0.getD (a1).toNat (0 : Int)))))) + (1442695040888963407 : Int))))]) rfl nofun (fun H105 hs => ?_)
    refine so_nil ?_
    refine fi_seq ?_
    refine fi_seq ?_
    refine fi_region ?_
    refine so_move (v := (.v (.ptr i0 0))) rfl ?_
    refine so_nilCheck rfl ?_
    refine so_fieldAddr rfl F101.fd106_1 ?_
    refine sv_ld hs 0 rfl rfl rfl F101.ag3 ?_
    refine so_move (v := (.v (.ptr i0 0))) rfl ?_
    refine so_nilCheck rfl ?_
    refine so_fieldAddr rfl F101.fd106_0 ?_
    refine sv_ld hs 0 rfl rfl rfl F101.ag22 ?_
    refine sv_len (g0 _ hs.tl) (fun _ => rfl) (by decide) rfl F101.ti22 ?_
    refine so_bin rfl rfl ab_leq ?_
    refine so_nil ?_
    replace h := ofP h; rcases h with ⟨c106, h⟩ | ⟨c106, h⟩
    · refine fi_true rfl (decide_eq_true c106) ?_
      refine fi_seq ?_
      refine fi_region ?_
      refine so_move (v := (.v (.int .i64 (IntKind.i64.wrap (l0.getD (a1).toNat (0 : Int)))))) rfl ?_
      refine so_assign (v := (.v (.int .i64 (IntKind.i64.wrap (l0.getD (a1).toNat (0 : Int)))))) rfl ?_
      refine so_nil ?_
      exact by_ret rfl ⟨_, _, _, h, rfl, hs⟩
    · refine fi_false rfl (decide_eq_false c106) ?_
      refine fi_skip ?_
      refine fi_seq ?_
      refine fi_region ?_
      refine so_move (v := (.v (.ptr i0 0))) rfl ?_
      refine so_nilCheck rfl ?_
      refine so_fieldAddr rfl F101.fd106_2 ?_
      refine sv_ld hs 0 rfl rfl rfl F101.ag104 ?_
      refine so_bin rfl rfl (ab_shr (by decide)) ?_
      refine so_bin rfl rfl ab_and ?_
      refine sv_ii rfl F101.us104 F101.it2 ?_
      refine so_assign (v := (.v (.int .i64 (IntKind.i64.wrap (ibits .and .u64 (Int.fdiv (IntKind.u64.wrap ((IntKind.u64.wrap ((IntKind.u64.wrap (a2 * (6364136223846793005 : Int))) + (IntKind.u64.wrap (IntKind.i64.wrap (l0.getD (a1).toNat (0 : Int)))))) + (1442695040888963407 : Int))) (2 ^ (min ((40 : Int)).toNat IntKind.u64.bits))) (255 : Int)))))) rfl ?_
      refine so_nil ?_
      exact by_ret rfl ⟨_, _, _, h, rfl, hs⟩
  · refine fi_false rfl (decide_eq_false c102) ?_
    refine fi_skip ?_
    refine fi_seq ?_
    refine fi_region ?_
    refine so_move (v := (.v (.ptr i0 0))) rfl ?_
    refine so_nilCheck rfl ?_
    refine so_fieldAddr rfl F101.fd106_1 ?_
    refine sv_ld hs 0 rfl rfl rfl F101.ag3 ?_
    refine so_bin rfl rfl ab_add ?_
    refine so_nilCheck rfl ?_
    refine so_fieldAddr rfl F101.fd106_1 ?_
    refine sv_st hs 0 rfl rfl rfl (c := [(.int .i64 (IntKind.i64.wrap (a1 + (1 : Int))))]) rfl F101.sz3 rfl (stc rfl stn) (leb rfl) (cs' := [v0, (.int .i64 (IntKind.i64.wrap (a1 + (1 : Int)))), (.int .u64 a2)]) rfl nofun (fun H107 hs => ?_)
    refine so_nil ?_
    refine fi_seq ?_
    refine fi_region ?_
    refine so_move (v := (.v (.ptr i0 0))) rfl ?_
    refine so_move (v := (.v (.ptr i0 0))) rfl ?_
    refine so_nilCheck rfl ?_
    refine so_fieldAddr rfl F101.fd106_2 ?_
    refine sv_ld hs 0 rfl rfl rfl F101.ag104 ?_
    refine so_bin rfl rfl ab_mul ?_
    refine so_move (v := (.v (.int .i64 (0 : Int)))) rfl ?_
    refine sv_ii rfl F101.us3 F101.it104 ?_
    refine so_bin rfl rfl ab_add ?_
    refine so_bin rfl rfl ab_add ?_
    refine so_nilCheck rfl ?_
    refine so_fieldAddr rfl F101.fd106_2 ?_
    refine sv_st hs 0 rfl rfl rfl (c := [(.int .u64 (IntKind.u64.wrap ((IntKind.u64.wrap ((IntKind.u64.wrap (a2 * (6364136223846793005 : Int))) + (IntKind.u64.wrap (0 : Int)))) + (1442695040888963407 : Int))))]) rfl F101.sz104 rfl (stc rfl stn) (leb rfl) (cs' := [v0, (.int .i64 (IntKind.i64.wrap (a1 + (1 : Int)))), (.int .u64 (IntKind.u64.wrap ((IntKind.u64.wrap ((IntKind.u64.wrap (a2 * (6364136223846793005 : Int))) + (IntKind.u64.wrap (0 : Int)))) + (1442695040888963407 : Int))))]) rfl nofun (fun H108 hs => ?_)
    refine so_nil ?_
    refine fi_seq ?_
    refine fi_seq ?_
    refine fi_region ?_
    refine so_move (v := (.v (.ptr i0 0))) rfl ?_
    refine so_nilCheck rfl ?_
    refine so_fieldAddr rfl F101.fd106_1 ?_
    refine sv_ld hs 0 rfl rfl rfl F101.ag3 ?_
    refine so_move (v := (.v (.ptr i0 0))) rfl ?_
    refine so_nilCheck rfl ?_
    refine so_fieldAddr rfl F101.fd106_0 ?_
    refine sv_ld hs 0 rfl rfl rfl F101.ag22 ?_
    refine sv_len (g0 _ hs.tl) (fun _ => rfl) (by decide) rfl F101.ti22 ?_
    refine so_bin rfl rfl ab_leq ?_
    refine so_nil ?_
    replace h := ofP h; rcases h with ⟨c109, h⟩ | ⟨c109, h⟩
    · refine fi_true rfl (decide_eq_true c109) ?_
      refine fi_seq ?_
      refine fi_region ?_
      refine so_move (v := (.v (.int .i64 (0 : Int)))) rfl ?_
      refine so_assign (v := (.v (.int .i64 (0 : Int)))) rfl ?_
      refine so_nil ?_
      exact by_ret rfl ⟨_, _, _, h, rfl, hs⟩
    · refine fi_false rfl (decide_eq_false c109) ?_
      refine fi_skip ?_
      refine fi_seq ?_
      refine fi_region ?_
      refine so_move (v := (.v (.ptr i0 0))) rfl ?_
      refine so_nilCheck rfl ?_
      refine so_fieldAddr rfl F101.fd106_2 ?_
      refine sv_ld hs 0 rfl rfl rfl F101.ag104 ?_
      refine so_bin rfl rfl (ab_shr (by decide)) ?_
      refine so_bin rfl rfl ab_and ?_
      refine sv_ii rfl F101.us104 F101.it2 ?_
      refine so_assign (v := (.v (.int .i64 (IntKind.i64.wrap (ibits .and .u64 (Int.fdiv (IntKind.u64.wrap ((IntKind.u64.wrap ((IntKind.u64.wrap (a2 * (6364136223846793005 : Int))) + (IntKind.u64.wrap (0 : Int)))) + (1442695040888963407 : Int))) (2 ^ (min ((40 : Int)).toNat IntKind.u64.bits))) (255 : Int)))))) rfl ?_
      refine so_nil ?_
      exact by_ret rfl ⟨_, _, _, h, rfl, hs⟩
theorem spec_l00Src_pick_ok {fr : List Pc} {H : Heap} (i0 : Nat) (v0 : AV) (l0 : List (Int)) (a1 : Int) (a2 : Int) (a3 : Int) (hs : Sep H (Pc.box i0 [v0, (.int .i64 a1), (.int .u64 a2)] :: fr)) (g0 : ∀ H, Sep H fr → Shows H v0 1 (enc (eInt .u8) l0)) (K : Int → Int → Int → Prop) (h : spec_l00Src_pick.wp l0 a1 a2 a3 K) : OkQ Try.prog 51 [(.v (.ptr i0 0)), (.v (.int .i64 a3))] H (fun r H2 => ∃ (y0 : Int) (y1 : Int) (y2 : Int), K y0 y1 y2 ∧ r = (.v (.int .i64 y0)) ∧ Sep H2 (Pc.box i0 [v0, (.int .i64 y1), (.int .u64 y2)] :: fr)) := by
  unfold spec_l00Src_pick.wp at h
  refine of_body Try.f51 F.hm Try.func51 rfl Try.call51 (by kernel_rfl) (by simp) ?_
  refine fi_seq ?_
  refine fi_region ?_
  refine so_assign (v := (.v (.int .i64 (0 : Int)))) rfl ?_
  refine so_nil ?_
  refine fi_seq ?_
  refine fi_seq ?_
  refine fi_region ?_
  refine so_move (v := (.v (.int .i64 a3))) rfl ?_
  refine so_bin rfl rfl ab_leq ?_
  refine so_nil ?_
  replace h := ofP h; rcases h with ⟨c102, h⟩ | ⟨c102, h⟩
  · refine fi_true rfl (decide_eq_true c102) ?_
    refine fi_seq ?_
    refine fi_region ?_
    refine so_assign (v := (.v (.int .i64 (0 : Int)))) rfl ?_
    refine so_nil ?_
    exact by_ret rfl ⟨_, _, _, h, rfl, hs⟩
  · refine fi_false rfl (decide_eq_false c102) ?_
    refine fi_skip ?_
    refine fi_seq ?_
    refine fi_region ?_
    refine so_move (v := (.v (.ptr i0 0))) rfl ?_
    refine sv_call (spec_l00Src_next_ok i0 v0 l0 a1 a2 hs (fun _ hs => (g0 _ hs)) _ h) rfl rfl nofun ?_
    clear h hs
    rintro _ H106 ⟨y103, y104, y105, h, rfl, hs⟩
    refine so_assign (v := (.v (.int .i64 y103))) rfl ?_
    refine so_nil ?_
    refine fi_seq ?_
    refine fi_seq ?_
    refine fi_region ?_
    refine so_move (v := (.v (.int .i64 a3))) rfl ?_
    refine so_bin rfl rfl ab_gtr ?_
    refine so_nil ?_
    replace h := ofP h; rcases h with ⟨c107, h⟩ | ⟨c107, h⟩
    · refine fi_true rfl (decide_eq_true c107) ?_
      refine fi_region ?_
      refine so_move (v := (.v (.int .i64 y103))) rfl ?_
      refine so_bin rfl rfl ab_mul ?_
      refine so_move (v := (.v (.ptr i0 0))) rfl ?_
      refine sv_call (spec_l00Src_next_ok i0 v0 l0 y104 y105 hs (fun _ hs => (g0 _ hs)) _ h) rfl rfl nofun ?_
      clear h hs
      rintro _ H111 ⟨y108, y109, y110, h, rfl, hs⟩
      refine so_bin rfl rfl ab_add ?_
      refine so_assign (v := (.v (.int .i64 (IntKind.i64.wrap ((IntKind.i64.wrap (y103 * (256 : Int))) + y108))))) rfl ?_
      refine so_nil ?_
      refine fi_seq ?_
      refine fi_region ?_
      refine so_move (v := (.v (.int .i64 (IntKind.i64.wrap ((IntKind.i64.wrap (y103 * (256 : Int))) + y108))))) rfl ?_
      refine so_move (v := (.v (.int .i64 a3))) rfl ?_
      obtain ⟨c112, h⟩ := h
      refine so_bin rfl rfl (ab_rem c112) ?_
      refine so_assign (v := (.v (.int .i64 (Int.tmod (IntKind.i64.wrap ((IntKind.i64.wrap (y103 * (256 : Int))) + y108)) a3)))) rfl ?_
      refine so_nil ?_
      exact by_ret rfl ⟨_, _, _, h, rfl, hs⟩
    · refine fi_false rfl (decide_eq_false c107) ?_
      refine fi_skip ?_
      refine fi_seq ?_
      refine fi_region ?_
      refine so_move (v := (.v (.int .i64 y103))) rfl ?_
      refine so_move (v := (.v (.int .i64 a3))) rfl ?_
      obtain ⟨c113, h⟩ := h
      refine so_bin rfl rfl (ab_rem c113) ?_
      refine so_assign (v := (.v (.int .i64 (Int.tmod y103 a3)))) rfl ?_
      refine so_nil ?_
      exact by_ret rfl ⟨_, _, _, h, rfl, hs⟩
theorem spec_l00Src_one_ok {fr : List Pc} {H : Heap} (i0 : Nat) (v0 : AV) (l0 : List (Int)) (a1 : Int) (a2 : Int) (a3 : Int) (hs : Sep H (Pc.box i0 [v0, (.int .i64 a1), (.int .u64 a2)] :: fr)) (g0 : ∀ H, Sep H fr → Shows H v0 1 (enc (eInt .u8) l0)) (K : Bool → Int → Int → Prop) (h : spec_l00Src_one.wp l0 a1 a2 a3 K) : OkQ Try.prog 54 [(.v (.ptr i0 0)), (.v (.int .i64 a3))] H (fun r H2 => ∃ (y0 : Bool) (y1 : Int) (y2 : Int), K y0 y1 y2 ∧ r = (.v (.bool y0)) ∧ Sep H2 (Pc.box i0 [v0, (.int .i64 y1), (.int .u64 y2)] :: fr)) := by
  unfold spec_l00Src_one.wp at h
  refine of_body Try.f54 F.hm Try.func54 rfl Try.call54 (by kernel_rfl) (by simp) ?_
  refine fi_seq ?_
  refine fi_region ?_
  refine so_assign (v := (.v (.bool false))) rfl ?_
  refine so_nil ?_
  refine fi_seq ?_
  refine fi_region ?_
  refine so_move (v := (.v (.ptr i0 0))) rfl ?_
  refine so_move (v := (.v (.int .i64 a3))) rfl ?_
  refine sv_call (spec_l00Src_pick_ok i0 v0 l0 a1 a2 a3 hs (fun _ hs => (g0 _ hs)) _ h) rfl rfl nofun ?_
  clear h hs
  rintro _ H105 ⟨y102, y103, y104, h, rfl, hs⟩
  refine so_bin rfl rfl ab_eql ?_
  refine so_assign (v := (.v (.bool (decide (y102 = (0 : Int)))))) rfl ?_
  refine so_nil ?_
  exact by_ret rfl ⟨_, _, _, h, rfl, hs⟩
theorem F55.ag46 : tagg Try.prog 46 = some true := by kernel_rfl
theorem F55.bp46 : bplan Try.prog 46 = some ([.nilsl], [(0, 1)]) := by kernel_rfl
theorem F55.sz26 : tsz Try.prog 26 = some 1 := by kernel_rfl
theorem F55.sz46 : tsz Try.prog 46 = some 1 := by kernel_rfl
theorem F55.te24 : telem Try.prog 24 = some 26 := by kernel_rfl
theorem F55.ze26 : tzero Try.prog 26 = some [(.flt .f32 (0 : Nat))] := by kernel_rfl
theorem F55.ze46 : tzero Try.prog 46 = some [.nilsl] := by kernel_rfl
theorem spec_FourPair_ok {fr : List Pc} {H : Heap}  (hs : Sep H (fr))  (K : (List (Nat)) → Prop) (h : spec_FourPair.wp  K) : OkQ Try.prog 55 [] H (fun r H2 => ∃ (y0 : List (Nat)), K y0 ∧ ∃ (w0_ : AV), r = (.g [w0_]) ∧ Sep H2 (Pc.osl w0_ 1 (enc (eFlt .f32) y0) :: fr)) := by
  unfold spec_FourPair.wp at h
  refine of_body Try.f55 F.hm Try.func55 rfl Try.call55 (by kernel_rfl) (by simp) ?_
  refine fi_seq ?_
  refine fi_region ?_
  refine sv_alloc hs F55.ze46 rfl nofun (fun id101 H102 hs => ?_)
  refine so_nil ?_
  refine fi_seq ?_
  refine fi_region ?_
  refine sv_bslice hs (eFlt .f32) ([(cz .f32 1056392938), (cz .f32 1062610415), (cz .f32 1046840824), (cz .f32 3187966958)] : List (Nat)) [[(.flt .f32 (cz .f32 1056392938))], [(.flt .f32 (cz .f32 1062610415))], [(.flt .f32 (cz .f32 1046840824))], [(.flt .f32 (cz .f32 3187966958))]] F55.te24 F55.sz26 F55.ze26 rfl rfl rfl rfl (fun _ => rfl) rfl (by decide) nofun (fun v104 H105 nv104 hs => ?_)
  refine so_build F55.bp46 (cps := [(0, [v104])]) rfl (fac (stc (hs.shows 0 rfl).stor stn) fan) rfl ?_
  refine sv_st hs 1 rfl rfl rfl (c := [v104]) rfl F55.sz46 rfl (stc (hs.shows 0 rfl).stor stn) (leb rfl) (cs' := [v104]) rfl nofun (fun H107 hs => ?_)
  refine so_nil ?_
  exact by_ret (res_mk (ar_cells rfl F55.ag46 F55.sz46 (hs.lds 1 rfl (leb rfl) rfl) ar_nil) rfl) ⟨_, h, _, rfl, (Sep.del 1 hs)⟩
theorem F56.ag46 : tagg Try.prog 46 = some true := by kernel_rfl
theorem F56.bp46 : bplan Try.prog 46 = some ([.nilsl], [(0, 1)]) := by kernel_rfl
theorem F56.sz26 : tsz Try.prog 26 = some 1 := by kernel_rfl
theorem F56.sz46 : tsz Try.prog 46 = some 1 := by kernel_rfl
theorem F56.te24 : telem Try.prog 24 = some 26 := by kernel_rfl
theorem F56.ze26 : tzero Try.prog 26 = some [(.flt .f32 (0 : Nat))] := by kernel_rfl
theorem F56.ze46 : tzero Try.prog 46 = some [.nilsl] := by kernel_rfl
theorem spec_HaarPair_ok {fr : List Pc} {H : Heap}  (hs : Sep H (fr))  (K : (List (Nat)) → Prop) (h : spec_HaarPair.wp  K) : OkQ Try.prog 56 [] H (fun r H2 => ∃ (y0 : List (Nat)), K y0 ∧ ∃ (w0_ : AV), r = (.g [w0_]) ∧ Sep H2 (Pc.osl w0_ 1 (enc (eFlt .f32) y0) :: fr)) := by
  unfold spec_HaarPair.wp at h
  refine of_body Try.f56 F.hm Try.func56 rfl Try.call56 (by kernel_rfl) (by simp) ?_
  refine fi_seq ?_
  refine fi_region ?_
  refine sv_alloc hs F56.ze46 rfl nofun (fun id101 H102 hs => ?_)
  refine so_nil ?_
  refine fi_seq ?_
  refine fi_region ?_
  refine sv_bslice hs (eFlt .f32) ([(cz .f32 1060439283), (cz .f32 1060439283)] : List (Nat)) [[(.flt .f32 (cz .f32 1060439283))], [(.flt .f32 (cz .f32 1060439283))]] F56.te24 F56.sz26 F56.ze26 rfl rfl rfl rfl (fun _ => rfl) rfl (by decide) nofun (fun v104 H105 nv104 hs => ?_)
  refine so_build F56.bp46 (cps := [(0, [v104])]) rfl (fac (stc (hs.shows 0 rfl).stor stn) fan) rfl ?_
  refine sv_st hs 1 rfl rfl rfl (c := [v104]) rfl F56.sz46 rfl (stc (hs.shows 0 rfl).stor stn) (leb rfl) (cs' := [v104]) rfl nofun (fun H107 hs => ?_)
  refine so_nil ?_
  exact by_ret (res_mk (ar_cells rfl F56.ag46 F56.sz46 (hs.lds 1 rfl (leb rfl) rfl) ar_nil) rfl) ⟨_, h, _, rfl, (Sep.del 1 hs)⟩
theorem F18.ag46 : tagg Try.prog 46 = some true := by kernel_rfl
theorem F18.sz46 : tsz Try.prog 46 = some 1 := by kernel_rfl
theorem F18.ze46 : tzero Try.prog 46 = some [.nilsl] := by kernel_rfl
theorem spec_B10Pair_ok {fr : List Pc} {H : Heap} (v0 : AV) (l0 : List (Int)) (hs : Sep H (fr)) (g0 : ∀ H, Sep H fr → Shows H v0 1 (enc (eInt .u8) l0)) (K : (List (Nat)) → Prop) (h : spec_B10Pair.wp l0 K) : OkQ Try.prog 18 [(.v v0)] H (fun r H2 => ∃ (y0 : List (Nat)), K y0 ∧ ∃ (w0_ : AV), r = (.g [w0_]) ∧ Sep H2 (Pc.osl w0_ 1 (enc (eFlt .f32) y0) :: fr)) := by
  unfold spec_B10Pair.wp at h
  refine of_body Try.f18 F.hm Try.func18 rfl Try.call18 (by kernel_rfl) (by simp) ?_
  refine fi_seq ?_
  refine fi_region ?_
  refine sv_alloc hs F18.ze46 rfl nofun (fun id101 H102 hs => ?_)
  refine so_nil ?_
  refine fi_seq ?_
  refine fi_region ?_
  refine so_move (v := (.v v0)) rfl ?_
  refine sv_call (spec_l00From_ok v0 l0 hs (fun _ hs => (g0 _ hs.tl)) _ h) rfl rfl nofun ?_
  clear h hs
  rintro _ H109 ⟨y104, y105, y106, h, i107, rfl, hs⟩
  replace h := ofT h; rcases h with ⟨c110, h⟩ | ⟨c110, h⟩
  · subst c110
    refine so_assign (v := (.v (.ptr i107 0))) rfl ?_
    refine so_nil ?_
    refine fi_seq ?_
    refine fi_seq ?_
    refine fi_region ?_
    refine so_move (v := (.v (.ptr i107 0))) rfl ?_
    refine sv_call (spec_l00Src_one_ok i107 v0 l0 y105 y106 (2 : Int) hs (fun _ hs => (g0 _ hs.tl)) _ h) rfl rfl nofun ?_
    clear h hs
    rintro _ H114 ⟨y111, y112, y113, h, rfl, hs⟩
    refine so_nil ?_
    replace h := ofT h; rcases h with ⟨c115, h⟩ | ⟨c115, h⟩
    · refine fi_true rfl c115 ?_
      refine fi_seq ?_
      refine fi_region ?_
      refine sv_call (spec_FourPair_ok  hs  _ h) rfl rfl nofun ?_
      clear h hs
      rintro _ H119 ⟨y116, h, v117, rfl, hs⟩
      refine sv_st hs 2 rfl rfl rfl (c := [v117]) rfl F18.sz46 rfl (stc (hs.shows 0 rfl).stor stn) (leb rfl) (cs' := [v117]) rfl nofun (fun H120 hs => ?_)
      refine so_nil ?_
      exact by_ret (res_mk (ar_cells rfl F18.ag46 F18.sz46 (hs.lds 2 rfl (leb rfl) rfl) ar_nil) rfl) ⟨_, h, _, rfl, (Sep.del 1 (Sep.del 1 hs))⟩
    · refine fi_false rfl c115 ?_
      refine fi_skip ?_
      refine fi_seq ?_
      refine fi_region ?_
      refine sv_call (spec_HaarPair_ok  hs  _ h) rfl rfl nofun ?_
      clear h hs
      rintro _ H124 ⟨y121, h, v122, rfl, hs⟩
      refine sv_st hs 2 rfl rfl rfl (c := [v122]) rfl F18.sz46 rfl (stc (hs.shows 0 rfl).stor stn) (leb rfl) (cs' := [v122]) rfl nofun (fun H125 hs => ?_)
      refine so_nil ?_
      exact by_ret (res_mk (ar_cells rfl F18.ag46 F18.sz46 (hs.lds 2 rfl (leb rfl) rfl) ar_nil) rfl) ⟨_, h, _, rfl, (Sep.del 1 (Sep.del 1 hs))⟩
  · subst c110
    refine so_assign (v := (.v (.ptr i107 0))) rfl ?_
    refine so_nil ?_
    refine fi_seq ?_
    refine fi_seq ?_
    refine fi_region ?_
    refine so_move (v := (.v (.ptr i107 0))) rfl ?_
    refine sv_call (spec_l00Src_one_ok i107 .nilsl ([] : List (Int)) y105 y106 (2 : Int) hs (fun _ hs => (.inl ⟨rfl, rfl⟩ : Shows _ .nilsl 1 (enc (eInt .u8) []))) _ h) rfl rfl nofun ?_
    clear h hs
    rintro _ H129 ⟨y126, y127, y128, h, rfl, hs⟩
    refine so_nil ?_
    replace h := ofT h; rcases h with ⟨c130, h⟩ | ⟨c130, h⟩
    · refine fi_true rfl c130 ?_
      refine fi_seq ?_
      refine fi_region ?_
      refine sv_call (spec_FourPair_ok  hs  _ h) rfl rfl nofun ?_
      clear h hs
      rintro _ H134 ⟨y131, h, v132, rfl, hs⟩
      refine sv_st hs 2 rfl rfl rfl (c := [v132]) rfl F18.sz46 rfl (stc (hs.shows 0 rfl).stor stn) (leb rfl) (cs' := [v132]) rfl nofun (fun H135 hs => ?_)
      refine so_nil ?_
      exact by_ret (res_mk (ar_cells rfl F18.ag46 F18.sz46 (hs.lds 2 rfl (leb rfl) rfl) ar_nil) rfl) ⟨_, h, _, rfl, (Sep.del 1 (Sep.del 1 hs))⟩
    · refine fi_false rfl c130 ?_
      refine fi_skip ?_
      refine fi_seq ?_
      refine fi_region ?_
      refine sv_call (spec_HaarPair_ok  hs  _ h) rfl rfl nofun ?_
      clear h hs
      rintro _ H139 ⟨y136, h, v137, rfl, hs⟩
      refine sv_st hs 2 rfl rfl rfl (c := [v137]) rfl F18.sz46 rfl (stc (hs.shows 0 rfl).stor stn) (leb rfl) (cs' := [v137]) rfl nofun (fun H140 hs => ?_)
      refine so_nil ?_
      exact by_ret (res_mk (ar_cells rfl F18.ag46 F18.sz46 (hs.lds 2 rfl (leb rfl) rfl) ar_nil) rfl) ⟨_, h, _, rfl, (Sep.del 1 (Sep.del 1 hs))⟩
theorem F19.ag5 : tagg Try.prog 5 = some false := by kernel_rfl
theorem F19.it2 : tint Try.prog 2 = some .i64 := by kernel_rfl
theorem F19.ti22 : (telem Try.prog 22).isSome = true := by kernel_rfl
theorem F19.tl22 : (telem Try.prog 22).bind (tsz Try.prog) = some 1 := by kernel_rfl
theorem F19.us5 : (Try.prog.underlying 5).isSome = true := by kernel_rfl
theorem laws_b10At_ok {fr : List Pc} {H : Heap} (v0 : AV) (l0 : List (Int)) (a1 : Int) (a2 : Int) (hs : Sep H (fr)) (g0 : ∀ H, Sep H fr → Shows H v0 1 (enc (eInt .u8) l0)) (K : Int → Prop) (h : laws_b10At.wp l0 a1 a2 K) : OkQ Try.prog 19 [(.v v0), (.v (.int .i64 a1)), (.v (.int .i64 a2))] H (fun r H2 => ∃ (y0 : Int), K y0 ∧ r = (.v (.int .i64 y0)) ∧ H = H2) := by
  unfold laws_b10At.wp at h
  refine of_body Try.f19 F.hm Try.func19 rfl Try.call19 (by kernel_rfl) (by simp) ?_
  refine fi_seq ?_
  refine fi_region ?_
  refine so_assign (v := (.v (.int .i64 (0 : Int)))) rfl ?_
  refine so_nil ?_
  refine fi_seq ?_
  refine fi_seq ?_
  refine fi_region ?_
  refine so_move (v := (.v (.int .i64 a2))) rfl ?_
  refine so_bin rfl rfl ab_leq ?_
  refine so_nil ?_
  replace h := ofP h; rcases h with ⟨c101, h⟩ | ⟨c101, h⟩
  · refine fi_true rfl (decide_eq_true c101) ?_
    refine fi_seq ?_
    refine fi_region ?_
    refine so_assign (v := (.v (.int .i64 (0 : Int)))) rfl ?_
    refine so_nil ?_
    exact by_ret rfl ⟨_, h, rfl, rfl⟩
  · refine fi_false rfl (decide_eq_false c101) ?_
    refine fi_skip ?_
    refine fi_seq ?_
    refine fi_seq ?_
    refine fi_region ?_
    refine so_move (v := (.v (.int .i64 a1))) rfl ?_
    refine so_move (v := (.v v0)) rfl ?_
    refine sv_len (g0 _ hs) (fun _ => rfl) (by decide) rfl F19.ti22 ?_
    refine so_bin rfl rfl ab_lss ?_
    refine so_nil ?_
    replace h := ofP h; rcases h with ⟨c102, h⟩ | ⟨c102, h⟩
    · refine fi_true rfl (decide_eq_true c102) ?_
      refine fi_seq ?_
      refine fi_region ?_
      refine so_move (v := (.v v0)) rfl ?_
      refine so_move (v := (.v (.int .i64 a1))) rfl ?_
      obtain ⟨c103, h⟩ := h
      refine sv_idx (g0 _ hs) c103 (fun _ => rfl) (by decide) rfl rfl F19.tl22 ?_
      refine sv_cell (g0 _ hs) c103 (0 : Int) 0 (fun x => (AV.int .u8 x)) (fun _ => rfl) (fun _ => rfl) rfl F19.ag5 ?_
      refine sv_ii rfl F19.us5 F19.it2 ?_
      refine so_move (v := (.v (.int .i64 a2))) rfl ?_
      obtain ⟨c104, h⟩ := h
      refine so_bin rfl rfl (ab_rem c104) ?_
      refine so_assign (v := (.v (.int .i64 (Int.tmod (IntKind.i64.wrap (l0.getD (a1).toNat (0 : Int))) a2)))) rfl ?_
      refine so_nil ?_
      exact by_ret rfl ⟨_, h, rfl, rfl⟩
    · refine fi_false rfl (decide_eq_false c102) ?_
      refine fi_skip ?_
      refine fi_seq ?_
      refine fi_region ?_
      refine so_move (v := (.v (.int .i64 a1))) rfl ?_
      refine so_bin rfl rfl ab_mul ?_
      refine so_bin rfl rfl ab_add ?_
      refine so_move (v := (.v (.int .i64 a2))) rfl ?_
      obtain ⟨c105, h⟩ := h
      refine so_bin rfl rfl (ab_rem c105) ?_
      refine so_assign (v := (.v (.int .i64 (Int.tmod (IntKind.i64.wrap ((IntKind.i64.wrap (a1 * (37 : Int))) + (11 : Int))) a2)))) rfl ?_
      refine so_nil ?_
      exact by_ret rfl ⟨_, h, rfl, rfl⟩
theorem F20.fl26 : tflt Try.prog 26 = some .f32 := by kernel_rfl
theorem F20.in26 : tint Try.prog 26 = none := by kernel_rfl
theorem F20.sz26 : tsz Try.prog 26 = some 1 := by kernel_rfl
theorem F20.ta24_24 : tapp Try.prog 24 24 = some (1, 4) := by kernel_rfl
theorem F20.te24 : telem Try.prog 24 = some 26 := by kernel_rfl
theorem F20.us2 : (Try.prog.underlying 2).isSome = true := by kernel_rfl
theorem F20.ze26 : tzero Try.prog 26 = some [(.flt .f32 (0 : Nat))] := by kernel_rfl
theorem spec_B10Signal_ok {fr : List Pc} {H : Heap} (v0 : AV) (l0 : List (Int)) (a1 : Int) (hs : Sep H (fr)) (g0 : ∀ H, Sep H fr → Shows H v0 1 (enc (eInt .u8) l0)) (K : (List (Nat)) → Prop) (h : spec_B10Signal.wp l0 a1 K) : OkQ Try.prog 20 [(.v v0), (.v (.int .i64 a1))] H (fun r H2 => ∃ (y0 : List (Nat)), K y0 ∧ ∃ (w0_ : AV), r = (.v w0_) ∧ Sep H2 (Pc.osl w0_ 1 (enc (eFlt .f32) y0) :: fr)) := by
  unfold spec_B10Signal.wp at h
  refine of_body Try.f20 F.hm Try.func20 rfl Try.call20 (by kernel_rfl) (by simp) ?_
  refine fi_seq ?_
  refine fi_region ?_
  refine so_assign (v := (.v .nilsl)) rfl ?_
  refine so_nil ?_
  refine fi_seq ?_
  refine fi_region ?_
  refine so_move (v := (.v v0)) rfl ?_
  refine sv_call (spec_l00From_ok v0 l0 hs (fun _ hs => (g0 _ hs)) _ h) rfl rfl nofun ?_
  clear h hs
  rintro _ H106 ⟨y101, y102, y103, h, i104, rfl, hs⟩
  replace h := ofT h; rcases h with ⟨c107, h⟩ | ⟨c107, h⟩
  · subst c107
    refine so_assign (v := (.v (.ptr i104 0))) rfl ?_
    refine so_nil ?_
    refine fi_seq ?_
    refine fi_region ?_
    refine sv_bslice hs (eFlt .f32) ([] : List (Nat)) [] F20.te24 F20.sz26 F20.ze26 rfl rfl rfl rfl (fun _ => rfl) rfl (by decide) nofun (fun v108 H109 nv108 hs => ?_)
    refine so_assign (v := (.v v108)) rfl ?_
    refine so_nil ?_
    refine fi_seq ?_
    refine fi_block ?_
    refine fi_loop ?_
    refine fi_at [(1, (.v (.int .i64 a1))), (5, (.v (.ptr i104 0))), (6, (.v v108))] ⟨rfl, rfl, rfl, trivial⟩ ?_
    refine h (fun (out127 : List (Nat)) (b129 : Int) (b130 : Int) (n131 : Int) => ∀ (s : Nat → TV) (H : Heap) (v128 : AV) (nv128 : v128 ≠ .nilsl), Sep H (Pc.osl v128 1 (enc (eFlt .f32) out127) :: Pc.box i104 [v0, (.int .i64 b129), (.int .u64 b130)] :: fr) → Fin _ _ (updL s [(1, (.v (.int .i64 n131))), (5, (.v (.ptr i104 0))), (6, (.v v128))]) H _) ?_ _ _ _ nv108 hs
    intro out127 b129 b130 n131 h s143 H144 v128 nv128 hs
    refine fi_inLoop ?_
    refine fi_seq ?_
    refine fi_seq ?_
    refine fi_region ?_
    refine so_move (v := (.v (.int .i64 n131))) rfl ?_
    refine so_bin rfl rfl ab_gtr ?_
    refine so_nil ?_
    replace h := ofP h; rcases h with ⟨c132, h⟩ | ⟨c132, h⟩
    · refine fi_true rfl (decide_eq_true c132) ?_
      refine fi_skip ?_
      refine fi_seq ?_
      refine fi_block ?_
      refine fi_region ?_
      refine so_move (v := (.v v128)) rfl ?_
      refine so_move (v := (.v (.ptr i104 0))) rfl ?_
      replace hs := (Sep.front 1 hs rfl)
      refine sv_call (spec_l00Src_pick_ok i104 v0 l0 b129 b130 (65 : Int) hs (fun _ hs => (g0 _ hs.tl)) _ h) rfl rfl nofun ?_
      clear h hs
      rintro _ H136 ⟨y133, y134, y135, h, rfl, hs⟩
      refine so_bin rfl rfl ab_sub ?_
      refine sv_if rfl F20.us2 F20.in26 F20.fl26 ?_
      refine so_bin rfl rfl ab_fquo ?_
      refine sv_bslice hs (eFlt .f32) ([(fop .quo .f32 (itof .f32 (IntKind.i64.wrap (y133 - (32 : Int)))) (cz .f32 1082130432))] : List (Nat)) [[(.flt .f32 (fop .quo .f32 (itof .f32 (IntKind.i64.wrap (y133 - (32 : Int)))) (cz .f32 1082130432)))]] F20.te24 F20.sz26 F20.ze26 rfl rfl rfl rfl (fun _ => rfl) rfl (by decide) nofun (fun v137 H138 nv137 hs => ?_)
      obtain ⟨c142, h⟩ := h
      refine sv_app hs 2 rfl (hs.shows 0 rfl) (fun _ => rfl) (by decide) F20.ta24_24 (by decide) c142 rfl rfl nofun (fun v140 H141 kv140 hs => ?_)
      replace hs := hs.del 0
      have nv140 := kv140 nv128
      refine so_assign (v := (.v v140)) rfl ?_
      refine so_nil ?_
      refine fi_inBlock ?_
      refine fi_region ?_
      refine so_move (v := (.v (.int .i64 n131))) rfl ?_
      refine so_bin rfl rfl ab_sub ?_
      refine so_assign (v := (.v (.int .i64 (IntKind.i64.wrap (n131 - (1 : Int)))))) rfl ?_
      refine so_nil ?_
      exact fi_at [(1, (.v (.int .i64 (IntKind.i64.wrap (n131 - (1 : Int)))))), (5, (.v (.ptr i104 0))), (6, (.v v140))] ⟨rfl, rfl, rfl, trivial⟩ (h _ _ _ nv140 (Sep.front 1 (Sep.front 0 hs rfl) rfl))
    · refine fi_false rfl (decide_eq_false c132) ?_
      refine fi_exit rfl ?_
      refine fi_seq ?_
      refine fi_region ?_
      refine so_move (v := (.v v128)) rfl ?_
      refine so_assign (v := (.v v128)) rfl ?_
      refine so_nil ?_
      exact by_ret rfl ⟨_, h, _, rfl, (Sep.del 1 hs)⟩
  · subst c107
    refine so_assign (v := (.v (.ptr i104 0))) rfl ?_
    refine so_nil ?_
    refine fi_seq ?_
    refine fi_region ?_
    refine sv_bslice hs (eFlt .f32) ([] : List (Nat)) [] F20.te24 F20.sz26 F20.ze26 rfl rfl rfl rfl (fun _ => rfl) rfl (by decide) nofun (fun v145 H146 nv145 hs => ?_)
    refine so_assign (v := (.v v145)) rfl ?_
    refine so_nil ?_
    refine fi_seq ?_
    refine fi_block ?_
    refine fi_loop ?_
    replace hs := hs.nil 1
    refine fi_at [(1, (.v (.int .i64 a1))), (5, (.v (.ptr i104 0))), (6, (.v v145))] ⟨rfl, rfl, rfl, trivial⟩ ?_
    refine h (fun (out164 : List (Nat)) (b167 : List (Int)) (b169 : Int) (b170 : Int) (n171 : Int) => ∀ (s : Nat → TV) (H : Heap) (v165 : AV) (nv165 : v165 ≠ .nilsl) (v168 : AV), Sep H (Pc.osl v168 1 (enc (eInt .u8) b167) :: Pc.osl v165 1 (enc (eFlt .f32) out164) :: Pc.box i104 [v168, (.int .i64 b169), (.int .u64 b170)] :: fr) → Fin _ _ (updL s [(1, (.v (.int .i64 n171))), (5, (.v (.ptr i104 0))), (6, (.v v165))]) H _) ?_ _ _ _ nv145 _ hs
    intro out164 b167 b169 b170 n171 h s183 H184 v165 nv165 v168 hs
    refine fi_inLoop ?_
    refine fi_seq ?_
    refine fi_seq ?_
    refine fi_region ?_
    refine so_move (v := (.v (.int .i64 n171))) rfl ?_
    refine so_bin rfl rfl ab_gtr ?_
    refine so_nil ?_
    replace h := ofP h; rcases h with ⟨c172, h⟩ | ⟨c172, h⟩
    · refine fi_true rfl (decide_eq_true c172) ?_
      refine fi_skip ?_
      refine fi_seq ?_
      refine fi_block ?_
      refine fi_region ?_
      refine so_move (v := (.v v165)) rfl ?_
      refine so_move (v := (.v (.ptr i104 0))) rfl ?_
      replace hs := (Sep.front 2 hs rfl)
      refine sv_call (spec_l00Src_pick_ok i104 v168 b167 b169 b170 (65 : Int) hs (fun _ hs => (hs.shows 0 rfl)) _ h) rfl rfl nofun ?_
      clear h hs
      rintro _ H176 ⟨y173, y174, y175, h, rfl, hs⟩
      refine so_bin rfl rfl ab_sub ?_
      refine sv_if rfl F20.us2 F20.in26 F20.fl26 ?_
      refine so_bin rfl rfl ab_fquo ?_
      refine sv_bslice hs (eFlt .f32) ([(fop .quo .f32 (itof .f32 (IntKind.i64.wrap (y173 - (32 : Int)))) (cz .f32 1082130432))] : List (Nat)) [[(.flt .f32 (fop .quo .f32 (itof .f32 (IntKind.i64.wrap (y173 - (32 : Int)))) (cz .f32 1082130432)))]] F20.te24 F20.sz26 F20.ze26 rfl rfl rfl rfl (fun _ => rfl) rfl (by decide) nofun (fun v177 H178 nv177 hs => ?_)
      obtain ⟨c182, h⟩ := h
      refine sv_app hs 3 rfl (hs.shows 0 rfl) (fun _ => rfl) (by decide) F20.ta24_24 (by decide) c182 rfl rfl nofun (fun v180 H181 kv180 hs => ?_)
      replace hs := hs.del 0
      have nv180 := kv180 nv165
      refine so_assign (v := (.v v180)) rfl ?_
      refine so_nil ?_
      refine fi_inBlock ?_
      refine fi_region ?_
      refine so_move (v := (.v (.int .i64 n171))) rfl ?_
      refine so_bin rfl rfl ab_sub ?_
      refine so_assign (v := (.v (.int .i64 (IntKind.i64.wrap (n171 - (1 : Int)))))) rfl ?_
      refine so_nil ?_
      exact fi_at [(1, (.v (.int .i64 (IntKind.i64.wrap (n171 - (1 : Int)))))), (5, (.v (.ptr i104 0))), (6, (.v v180))] ⟨rfl, rfl, rfl, trivial⟩ (h _ _ _ nv180 _ (Sep.front 2 (Sep.front 2 (Sep.front 0 hs rfl) rfl) rfl))
    · refine fi_false rfl (decide_eq_false c172) ?_
      refine fi_exit rfl ?_
      refine fi_seq ?_
      refine fi_region ?_
      refine so_move (v := (.v v165)) rfl ?_
      refine so_assign (v := (.v v165)) rfl ?_
      refine so_nil ?_
      exact by_ret rfl ⟨_, h, _, rfl, (Sep.del 1 (Sep.del 0 hs))⟩
theorem impl_isShare_ok {fr : List Pc} {H : Heap} (a0 : Nat) (hs : Sep H (fr))  (K : Bool → Prop) (h : impl_isShare.wp a0 K) : OkQ Try.prog 44 [(.v (.flt .f32 a0))] H (fun r H2 => ∃ (y0 : Bool), K y0 ∧ r = (.v (.bool y0)) ∧ H = H2) := by
  unfold impl_isShare.wp at h
  refine of_body Try.f44 F.hm Try.func44 rfl Try.call44 (by kernel_rfl) (by simp) ?_
  refine fi_seq ?_
  refine fi_region ?_
  refine so_assign (v := (.v (.bool false))) rfl ?_
  refine so_nil ?_
  refine fi_seq ?_
  refine fi_region ?_
  refine so_move (v := (.v (.flt .f32 a0))) rfl ?_
  refine so_bin rfl rfl ab_fgeq ?_
  refine so_move (v := (.v (.bool (fcmp .geq .f32 a0 (cz .f32 0))))) rfl ?_
  replace h := ofT h; rcases h with ⟨c101, h⟩ | ⟨c101, h⟩
  · refine so_gyes rfl c101 ?_
    refine so_move (v := (.v (.flt .f32 a0))) rfl ?_
    refine so_gyes rfl c101 ?_
    refine so_bin rfl rfl ab_fleq ?_
    refine so_pick_t (v := (.v (.bool (fcmp .leq .f32 a0 (cz .f32 1065353216))))) rfl c101 rfl ?_
    refine so_assign (v := (.v (.bool (fcmp .leq .f32 a0 (cz .f32 1065353216))))) rfl ?_
    refine so_nil ?_
    exact by_ret rfl ⟨_, h, rfl, rfl⟩
  · refine so_gno rfl c101 ?_
    refine so_gno rfl c101 ?_
    refine so_pick_f (v := (.v (.bool false))) rfl c101 rfl ?_
    refine so_assign (v := (.v (.bool false))) rfl ?_
    refine so_nil ?_
    exact by_ret rfl ⟨_, h, rfl, rfl⟩
theorem impl_IsFinite_ok {fr : List Pc} {H : Heap} (a0 : Nat) (hs : Sep H (fr))  (K : Bool → Prop) (h : impl_IsFinite.wp a0 K) : OkQ Try.prog 87 [(.v (.flt .f32 a0))] H (fun r H2 => ∃ (y0 : Bool), K y0 ∧ r = (.v (.bool y0)) ∧ H = H2) := by
  unfold impl_IsFinite.wp at h
  refine of_body Try.f87 F.hm Try.func87 rfl Try.call87 (by kernel_rfl) (by simp) ?_
  refine fi_seq ?_
  refine fi_region ?_
  refine so_assign (v := (.v (.bool false))) rfl ?_
  refine so_nil ?_
  refine fi_seq ?_
  refine fi_region ?_
  refine so_move (v := (.v (.flt .f32 a0))) rfl ?_
  refine so_move (v := (.v (.flt .f32 a0))) rfl ?_
  refine so_bin rfl rfl ab_fsub ?_
  refine so_bin rfl rfl ab_feql ?_
  refine so_assign (v := (.v (.bool (fcmp .eql .f32 (fop .sub .f32 a0 a0) (cz .f32 0))))) rfl ?_
  refine so_nil ?_
  exact by_ret rfl ⟨_, h, rfl, rfl⟩
theorem F86.ag24 : tagg Try.prog 24 = some false := by kernel_rfl
theorem F86.ag26 : tagg Try.prog 26 = some false := by kernel_rfl
theorem F86.ti24 : (telem Try.prog 24).isSome = true := by kernel_rfl
theorem F86.ti72 : (telem Try.prog 72).isSome = true := by kernel_rfl
theorem F86.tl24 : (telem Try.prog 24).bind (tsz Try.prog) = some 1 := by kernel_rfl
theorem F86.tl72 : (telem Try.prog 72).bind (tsz Try.prog) = some 1 := by kernel_rfl
theorem impl_areFinite_ok {fr : List Pc} {H : Heap} (v0 : AV) (w0 : List (List AV)) (l0 : List (List (Nat))) (hs : Sep H (fr)) (g0 : ∀ H, Sep H fr → DSh H v0 1 R_LeFlt_f32_o l0 w0) (K : Bool → Prop) (h : impl_areFinite.wp l0 K) : OkQ Try.prog 86 [(.v v0)] H (fun r H2 => ∃ (y0 : Bool), K y0 ∧ r = (.v (.bool y0)) ∧ H = H2) := by
  unfold impl_areFinite.wp at h
  refine of_body Try.f86 F.hm Try.func86 rfl Try.call86 (by kernel_rfl) (by simp) ?_
  refine fi_seq ?_
  refine fi_region ?_
  refine so_assign (v := (.v (.bool false))) rfl ?_
  refine so_nil ?_
  refine fi_seq ?_
  refine fi_seq ?_
  refine fi_region ?_
  refine so_move (v := (.v v0)) rfl ?_
  refine sd_len ((g0 _ hs) : DSh _ _ 1 R_LeFlt_f32_o l0 w0) (by decide) rfl F86.ti72 ?_
  refine so_move (v := (.v (.int .i64 (0 : Int)))) rfl ?_
  refine so_nil ?_
  refine fi_block ?_
  refine fi_loop ?_
  refine fi_at [(7, (.v v0)), (8, (.v (.int .i64 (l0.length : Int)))), (9, (.v (.int .i64 (0 : Int))))] ⟨rfl, rfl, rfl, trivial⟩ ?_
  refine h (fun (x102 : Int) => ∀ (s : Nat → TV), Fin _ _ (updL s [(7, (.v v0)), (8, (.v (.int .i64 (l0.length : Int)))), (9, (.v (.int .i64 x102)))]) _ _) ?_ _
  intro x102 h s114
  refine fi_inLoop ?_
  refine fi_seq ?_
  refine fi_region ?_
  refine so_bin rfl rfl ab_lss ?_
  refine so_nil ?_
  refine fi_seq ?_
  replace h := ofP h; rcases h with ⟨c103, h⟩ | ⟨c103, h⟩
  · refine fi_true rfl (decide_eq_true c103) ?_
    refine fi_skip ?_
    refine fi_seq ?_
    refine fi_block ?_
    refine fi_seq ?_
    refine fi_region ?_
    obtain ⟨c104, h⟩ := h
    refine sd_idx ((g0 _ hs) : DSh _ _ 1 R_LeFlt_f32_o l0 w0) c104 ([] : List (Nat)) (by decide) rfl rfl F86.tl72 ?_
    refine su_ld ((((g0 _ hs) : DSh _ _ 1 R_LeFlt_f32_o l0 w0)).at (by decide) c104 ([] : List (Nat))).2.2 0 (congrArg (fun c => c[0]?) ((((g0 _ hs) : DSh _ _ 1 R_LeFlt_f32_o l0 w0)).at (by decide) c104 ([] : List (Nat))).2.1.1) rfl F86.ag24 ?_
    refine so_assign (v := (.v ((w0.getD (x102).toNat []).getD 0 .und))) rfl ?_
    refine so_nil ?_
    refine fi_seq ?_
    refine fi_region ?_
    refine so_move (v := (.v ((w0.getD (x102).toNat []).getD 0 .und))) rfl ?_
    refine sv_len ((((g0 _ hs) : DSh _ _ 1 R_LeFlt_f32_o l0 w0)).at (by decide) c104 ([] : List (Nat))).2.1.2 (fun _ => rfl) (by decide) rfl F86.ti24 ?_
    refine so_move (v := (.v (.int .i64 (0 : Int)))) rfl ?_
    refine so_nil ?_
    refine fi_block ?_
    refine fi_loop ?_
    refine fi_at [(7, (.v v0)), (8, (.v (.int .i64 (l0.length : Int)))), (9, (.v (.int .i64 x102))), (13, (.v ((w0.getD (x102).toNat []).getD 0 .und))), (14, (.v (.int .i64 ((l0.getD (x102).toNat ([] : List (Nat))).length : Int)))), (15, (.v (.int .i64 (0 : Int))))] ⟨rfl, rfl, rfl, rfl, rfl, rfl, trivial⟩ ?_
    refine h (fun (x106 : Int) => ∀ (s : Nat → TV), Fin _ _ (updL s [(7, (.v v0)), (8, (.v (.int .i64 (l0.length : Int)))), (9, (.v (.int .i64 x102))), (13, (.v ((w0.getD (x102).toNat []).getD 0 .und))), (14, (.v (.int .i64 ((l0.getD (x102).toNat ([] : List (Nat))).length : Int)))), (15, (.v (.int .i64 x106)))]) _ _) ?_ _
    intro x106 h s112
    refine fi_inLoop ?_
    refine fi_seq ?_
    refine fi_region ?_
    refine so_bin rfl rfl ab_lss ?_
    refine so_nil ?_
    refine fi_seq ?_
    replace h := ofP h; rcases h with ⟨c107, h⟩ | ⟨c107, h⟩
    · refine fi_true rfl (decide_eq_true c107) ?_
      refine fi_skip ?_
      refine fi_seq ?_
      refine fi_block ?_
      refine fi_seq ?_
      refine fi_region ?_
      obtain ⟨c108, h⟩ := h
      refine sv_idx ((((g0 _ hs) : DSh _ _ 1 R_LeFlt_f32_o l0 w0)).at (by decide) c104 ([] : List (Nat))).2.1.2 c108 (fun _ => rfl) (by decide) rfl rfl F86.tl24 ?_
      refine sv_cell ((((g0 _ hs) : DSh _ _ 1 R_LeFlt_f32_o l0 w0)).at (by decide) c104 ([] : List (Nat))).2.1.2 c108 (0 : Nat) 0 (fun x => (AV.flt .f32 x)) (fun _ => rfl) (fun _ => rfl) rfl F86.ag26 ?_
      refine so_assign (v := (.v (.flt .f32 ((l0.getD (x102).toNat ([] : List (Nat))).getD (x106).toNat (0 : Nat))))) rfl ?_
      refine so_nil ?_
      refine fi_seq ?_
      refine fi_region ?_
      refine so_move (v := (.v (.flt .f32 ((l0.getD (x102).toNat ([] : List (Nat))).getD (x106).toNat (0 : Nat))))) rfl ?_
      refine sv_callS (impl_IsFinite_ok ((l0.getD (x102).toNat ([] : List (Nat))).getD (x106).toNat (0 : Nat)) hs  _ h) (fun _ _ ⟨_, _, _, e⟩ => e) rfl rfl ?_
      clear h
      rintro _ _ ⟨y109, h, rfl, rfl⟩
      refine so_un rfl au_not ?_
      refine so_nil ?_
      replace h := ofT h; rcases h with ⟨c111, h⟩ | ⟨c111, h⟩
      · refine fi_false rfl (not_f c111) ?_
        refine fi_skip ?_
        refine fi_inBlock ?_
        refine fi_region ?_
        refine so_bin rfl rfl ab_add ?_
        refine so_move (v := (.v (.int .i64 (IntKind.i64.wrap (x106 + (1 : Int)))))) rfl ?_
        refine so_nil ?_
        exact fi_at [(7, (.v v0)), (8, (.v (.int .i64 (l0.length : Int)))), (9, (.v (.int .i64 x102))), (13, (.v ((w0.getD (x102).toNat []).getD 0 .und))), (14, (.v (.int .i64 ((l0.getD (x102).toNat ([] : List (Nat))).length : Int)))), (15, (.v (.int .i64 (IntKind.i64.wrap (x106 + (1 : Int))))))] ⟨rfl, rfl, rfl, rfl, rfl, rfl, trivial⟩ (h _)
      · refine fi_true rfl (not_t c111) ?_
        refine fi_seq ?_
        refine fi_region ?_
        refine so_assign (v := (.v (.bool false))) rfl ?_
        refine so_nil ?_
        exact by_ret rfl ⟨_, h, rfl, rfl⟩
    · refine fi_false rfl (decide_eq_false c107) ?_
      refine fi_exit rfl ?_
      refine fi_inBlock ?_
      refine fi_region ?_
      refine so_bin rfl rfl ab_add ?_
      refine so_move (v := (.v (.int .i64 (IntKind.i64.wrap (x102 + (1 : Int)))))) rfl ?_
      refine so_nil ?_
      exact fi_at [(7, (.v v0)), (8, (.v (.int .i64 (l0.length : Int)))), (9, (.v (.int .i64 (IntKind.i64.wrap (x102 + (1 : Int))))))] ⟨rfl, rfl, rfl, trivial⟩ (h _)
  · refine fi_false rfl (decide_eq_false c103) ?_
    refine fi_exit rfl ?_
    refine fi_seq ?_
    refine fi_region ?_
    refine so_assign (v := (.v (.bool true))) rfl ?_
    refine so_nil ?_
    exact by_ret rfl ⟨_, h, rfl, rfl⟩
theorem F45.sz24 : tsz Try.prog 24 = some 1 := by kernel_rfl
theorem F45.te72 : telem Try.prog 72 = some 24 := by kernel_rfl
theorem F45.ze24 : tzero Try.prog 24 = some [.nilsl] := by kernel_rfl
theorem impl_finiteList_ok {fr : List Pc} {H : Heap} (v0 : AV) (l0 : List (Nat)) (hs : Sep H (fr)) (g0 : ∀ H, Sep H fr → Shows H v0 1 (enc (eFlt .f32) l0)) (K : Bool → Bool → Prop) (h : impl_finiteList.wp l0 K) : OkQ Try.prog 45 [(.v v0)] H (fun r H2 => ∃ (y0 : Bool) (y1 : Bool), K y0 y1 ∧ r = (.t [(.v (bif y0 then v0 else .nilsl)), (.v (.bool y1))]) ∧ Sep H2 (fr)) := by
  unfold impl_finiteList.wp at h
  refine of_body Try.f45 F.hm Try.func45 rfl Try.call45 (by kernel_rfl) (by simp) ?_
  refine fi_seq ?_
  refine fi_region ?_
  refine so_assign (v := (.v .nilsl)) rfl ?_
  refine so_assign (v := (.v (.bool false))) rfl ?_
  refine so_nil ?_
  refine fi_seq ?_
  refine fi_seq ?_
  refine fi_region ?_
  refine so_move (v := (.v v0)) rfl ?_
  refine sd_bslice hs [[v0]] F45.te72 F45.sz24 F45.ze24 rfl rfl rfl (by simp) (fac (stc (g0 _ hs).stor stn) fan) (by decide) rfl nofun (fun v101 H102 _ hs => ?_)
  refine sv_callS (impl_areFinite_ok v101 ([[v0]]) ([l0] : List (List (Nat))) hs (fun _ hs => ⟨hs.shows 0 rfl, by simp, ⟨⟨rfl, (g0 _ hs.tl)⟩, trivial⟩⟩) _ h) (fun _ _ ⟨_, _, _, e⟩ => e) rfl rfl ?_
  clear h
  rintro _ _ ⟨y104, h, rfl, rfl⟩
  refine so_un rfl au_not ?_
  refine so_nil ?_
  replace h := ofT h; rcases h with ⟨c106, h⟩ | ⟨c106, h⟩
  · refine fi_false rfl (not_f c106) ?_
    refine fi_skip ?_
    refine fi_seq ?_
    refine fi_region ?_
    refine so_move (v := (.v v0)) rfl ?_
    refine so_assign (v := (.v v0)) rfl ?_
    refine so_assign (v := (.v (.bool true))) rfl ?_
    refine so_nil ?_
    exact by_ret rfl ⟨_, _, h, rfl, (Sep.del 0 hs)⟩
  · refine fi_true rfl (not_t c106) ?_
    refine fi_seq ?_
    refine fi_region ?_
    refine so_assign (v := (.v .nilsl)) rfl ?_
    refine so_assign (v := (.v (.bool false))) rfl ?_
    refine so_nil ?_
    exact by_ret rfl ⟨_, _, h, rfl, (Sep.del 0 hs)⟩
theorem impl_within_ok {fr : List Pc} {H : Heap} (a0 : Int) (a1 : Int) (a2 : Int) (hs : Sep H (fr))  (K : Bool → Prop) (h : impl_within.wp a0 a1 a2 K) : OkQ Try.prog 52 [(.v (.int .i64 a0)), (.v (.int .i64 a1)), (.v (.int .i64 a2))] H (fun r H2 => ∃ (y0 : Bool), K y0 ∧ r = (.v (.bool y0)) ∧ H = H2) := by
  unfold impl_within.wp at h
  refine of_body Try.f52 F.hm Try.func52 rfl Try.call52 (by kernel_rfl) (by simp) ?_
  refine fi_seq ?_
  refine fi_region ?_
  refine so_assign (v := (.v (.bool false))) rfl ?_
  refine so_nil ?_
  refine fi_seq ?_
  refine fi_region ?_
  refine so_move (v := (.v (.int .i64 a0))) rfl ?_
  refine so_move (v := (.v (.int .i64 a1))) rfl ?_
  refine so_bin rfl rfl ab_geq ?_
  refine so_move (v := (.v (.bool (decide (a1 ≤ a0))))) rfl ?_
  replace h := ofP h; rcases h with ⟨c101, h⟩ | ⟨c101, h⟩
  · refine so_gyes rfl (decide_eq_true c101) ?_
    refine so_move (v := (.v (.int .i64 a0))) rfl ?_
    refine so_gyes rfl (decide_eq_true c101) ?_
    refine so_move (v := (.v (.int .i64 a2))) rfl ?_
    refine so_gyes rfl (decide_eq_true c101) ?_
    refine so_bin rfl rfl ab_leq ?_
    refine so_pick_t (v := (.v (.bool (decide (a0 ≤ a2))))) rfl (decide_eq_true c101) rfl ?_
    refine so_assign (v := (.v (.bool (decide (a0 ≤ a2))))) rfl ?_
    refine so_nil ?_
    exact by_ret rfl ⟨_, h, rfl, rfl⟩
  · refine so_gno rfl (decide_eq_false c101) ?_
    refine so_gno rfl (decide_eq_false c101) ?_
    refine so_gno rfl (decide_eq_false c101) ?_
    refine so_pick_f (v := (.v (.bool false))) rfl (decide_eq_false c101) rfl ?_
    refine so_assign (v := (.v (.bool false))) rfl ?_
    refine so_nil ?_
    exact by_ret rfl ⟨_, h, rfl, rfl⟩
theorem impl_isLeast_ok {fr : List Pc} {H : Heap} (a0 : Nat) (hs : Sep H (fr))  (K : Bool → Prop) (h : impl_isLeast.wp a0 K) : OkQ Try.prog 53 [(.v (.flt .f32 a0))] H (fun r H2 => ∃ (y0 : Bool), K y0 ∧ r = (.v (.bool y0)) ∧ H = H2) := by
  unfold impl_isLeast.wp at h
  refine of_body Try.f53 F.hm Try.func53 rfl Try.call53 (by kernel_rfl) (by simp) ?_
  refine fi_seq ?_
  refine fi_region ?_
  refine so_assign (v := (.v (.bool false))) rfl ?_
  refine so_nil ?_
  refine fi_seq ?_
  refine fi_region ?_
  refine so_move (v := (.v (.flt .f32 a0))) rfl ?_
  refine sv_callS (impl_IsFinite_ok a0 hs  _ h) (fun _ _ ⟨_, _, _, e⟩ => e) rfl rfl ?_
  clear h
  rintro _ _ ⟨y101, h, rfl, rfl⟩
  refine so_move (v := (.v (.bool y101))) rfl ?_
  replace h := ofT h; rcases h with ⟨c103, h⟩ | ⟨c103, h⟩
  · refine so_gyes rfl c103 ?_
    refine so_move (v := (.v (.flt .f32 a0))) rfl ?_
    refine so_gyes rfl c103 ?_
    refine so_bin rfl rfl ab_fgeq ?_
    refine so_pick_t (v := (.v (.bool (fcmp .geq .f32 a0 (cz .f32 0))))) rfl c103 rfl ?_
    refine so_assign (v := (.v (.bool (fcmp .geq .f32 a0 (cz .f32 0))))) rfl ?_
    refine so_nil ?_
    exact by_ret rfl ⟨_, h, rfl, rfl⟩
  · refine so_gno rfl c103 ?_
    refine so_gno rfl c103 ?_
    refine so_pick_f (v := (.v (.bool false))) rfl c103 rfl ?_
    refine so_assign (v := (.v (.bool false))) rfl ?_
    refine so_nil ?_
    exact by_ret rfl ⟨_, h, rfl, rfl⟩
theorem F57.sz24 : tsz Try.prog 24 = some 1 := by kernel_rfl
theorem F57.te72 : telem Try.prog 72 = some 24 := by kernel_rfl
theorem F57.ti24 : (telem Try.prog 24).isSome = true := by kernel_rfl
theorem F57.ze24 : tzero Try.prog 24 = some [.nilsl] := by kernel_rfl
theorem impl_isLong_ok {fr : List Pc} {H : Heap} (v0 : AV) (l0 : List (Nat)) (hs : Sep H (fr)) (g0 : ∀ H, Sep H fr → Shows H v0 1 (enc (eFlt .f32) l0)) (K : Bool → Prop) (h : impl_isLong.wp l0 K) : OkQ Try.prog 57 [(.v v0)] H (fun r H2 => ∃ (y0 : Bool), K y0 ∧ r = (.v (.bool y0)) ∧ Sep H2 (fr)) := by
  unfold impl_isLong.wp at h
  refine of_body Try.f57 F.hm Try.func57 rfl Try.call57 (by kernel_rfl) (by simp) ?_
  refine fi_seq ?_
  refine fi_region ?_
  refine so_assign (v := (.v (.bool false))) rfl ?_
  refine so_nil ?_
  refine fi_seq ?_
  refine fi_region ?_
  refine so_move (v := (.v v0)) rfl ?_
  refine sv_len (g0 _ hs) (fun _ => rfl) (by decide) rfl F57.ti24 ?_
  refine sv_callS (impl_within_ok (l0.length : Int) (1 : Int) (128 : Int) hs  _ h) (fun _ _ ⟨_, _, _, e⟩ => e) rfl rfl ?_
  clear h
  rintro _ _ ⟨y101, h, rfl, rfl⟩
  refine so_move (v := (.v (.bool y101))) rfl ?_
  replace h := ofT h; rcases h with ⟨c103, h⟩ | ⟨c103, h⟩
  · refine so_gyes rfl c103 ?_
    refine so_move (v := (.v v0)) rfl ?_
    refine so_gyes rfl c103 ?_
    refine sd_bslice hs [[v0]] F57.te72 F57.sz24 F57.ze24 rfl rfl rfl (by simp) (fac (stc (g0 _ hs).stor stn) fan) (by decide) rfl nofun (fun v104 H105 _ hs => ?_)
    refine so_gyes rfl c103 ?_
    refine sv_callS (impl_areFinite_ok v104 ([[v0]]) ([l0] : List (List (Nat))) hs (fun _ hs => ⟨hs.shows 0 rfl, by simp, ⟨⟨rfl, (g0 _ hs.tl)⟩, trivial⟩⟩) _ h) (fun _ _ ⟨_, _, _, e⟩ => e) rfl rfl ?_
    clear h
    rintro _ _ ⟨y107, h, rfl, rfl⟩
    refine so_pick_t (v := (.v (.bool y107))) rfl c103 rfl ?_
    refine so_assign (v := (.v (.bool y107))) rfl ?_
    refine so_nil ?_
    exact by_ret rfl ⟨_, h, rfl, (Sep.del 0 hs)⟩
  · refine so_gno rfl c103 ?_
    refine so_gno rfl c103 ?_
    refine so_gno rfl c103 ?_
    refine so_pick_f (v := (.v (.bool false))) rfl c103 rfl ?_
    refine so_assign (v := (.v (.bool false))) rfl ?_
    refine so_nil ?_
    exact by_ret rfl ⟨_, h, rfl, hs⟩
theorem impl_isLong_okS {fr : List Pc} {H : Heap} (v0 : AV) (l0 : List (Nat)) (hs : Sep H fr) (g0 : ∀ H, Sep H fr → Shows H v0 1 (enc (eFlt .f32) l0)) (K : Bool → Prop) (h : impl_isLong.wp l0 K) : OkQ Try.prog 57 [(.v v0)] H (fun r H2 => ∃ (y0 : Bool), K y0 ∧ r = (.v (.bool y0)) ∧ H = H2) := by
  obtain ⟨r, H2, h1, y0, hK, hr, hsep⟩ := impl_isLong_ok (fr := came H) (H := H) v0 l0 (came_sep H) (came_shows (g0 H hs)) K h
  have hk : H.n ≤ H2.n ∧ ∀ i, i < H.n → H2.f i = H.f i := hsep.1.2.1
  exact ⟨r, H, h1.forget hk.1 hk.2 (by subst hr; rfl), y0, hK, hr, rfl⟩
theorem F102.ag26 : tagg Try.prog 26 = some false := by kernel_rfl
theorem F102.ti24 : (telem Try.prog 24).isSome = true := by kernel_rfl
theorem F102.tl24 : (telem Try.prog 24).bind (tsz Try.prog) = some 1 := by kernel_rfl
theorem impl_squares_ok {fr : List Pc} {H : Heap} (v0 : AV) (l0 : List (Nat)) (hs : Sep H (fr)) (g0 : ∀ H, Sep H fr → Shows H v0 1 (enc (eFlt .f32) l0)) (K : Nat → Prop) (h : impl_squares.wp l0 K) : OkQ Try.prog 102 [(.v v0)] H (fun r H2 => ∃ (y0 : Nat), K y0 ∧ r = (.v (.flt .f32 y0)) ∧ H = H2) := by
  unfold impl_squares.wp at h
  refine of_body Try.f102 F.hm Try.func102 rfl Try.call102 (by kernel_rfl) (by simp) ?_
  refine fi_seq ?_
  refine fi_region ?_
  refine so_assign (v := (.v (.flt .f32 (cz .f32 0)))) rfl ?_
  refine so_nil ?_
  refine fi_seq ?_
  refine fi_region ?_
  refine so_assign (v := (.v (.flt .f32 (cz .f32 0)))) rfl ?_
  refine so_nil ?_
  refine fi_seq ?_
  refine fi_seq ?_
  refine fi_region ?_
  refine so_move (v := (.v v0)) rfl ?_
  refine sv_len (g0 _ hs) (fun _ => rfl) (by decide) rfl F102.ti24 ?_
  refine so_move (v := (.v (.int .i64 (0 : Int)))) rfl ?_
  refine so_nil ?_
  refine fi_block ?_
  refine fi_loop ?_
  refine fi_at [(3, (.v (.flt .f32 (cz .f32 0)))), (6, (.v v0)), (7, (.v (.int .i64 (l0.length : Int)))), (8, (.v (.int .i64 (0 : Int))))] ⟨rfl, rfl, rfl, rfl, trivial⟩ ?_
  refine h (fun (sum102 : Nat) (x103 : Int) => ∀ (s : Nat → TV), Fin _ _ (updL s [(3, (.v (.flt .f32 sum102))), (6, (.v v0)), (7, (.v (.int .i64 (l0.length : Int)))), (8, (.v (.int .i64 x103)))]) _ _) ?_ _
  intro sum102 x103 h s106
  refine fi_inLoop ?_
  refine fi_seq ?_
  refine fi_region ?_
  refine so_bin rfl rfl ab_lss ?_
  refine so_nil ?_
  refine fi_seq ?_
  replace h := ofP h; rcases h with ⟨c104, h⟩ | ⟨c104, h⟩
  · refine fi_true rfl (decide_eq_true c104) ?_
    refine fi_skip ?_
    refine fi_seq ?_
    refine fi_block ?_
    refine fi_seq ?_
    refine fi_region ?_
    obtain ⟨c105, h⟩ := h
    refine sv_idx (g0 _ hs) c105 (fun _ => rfl) (by decide) rfl rfl F102.tl24 ?_
    refine sv_cell (g0 _ hs) c105 (0 : Nat) 0 (fun x => (AV.flt .f32 x)) (fun _ => rfl) (fun _ => rfl) rfl F102.ag26 ?_
    refine so_assign (v := (.v (.flt .f32 (l0.getD (x103).toNat (0 : Nat))))) rfl ?_
    refine so_nil ?_
    refine fi_region ?_
    refine so_move (v := (.v (.flt .f32 sum102))) rfl ?_
    refine so_move (v := (.v (.flt .f32 (l0.getD (x103).toNat (0 : Nat))))) rfl ?_
    refine so_move (v := (.v (.flt .f32 (l0.getD (x103).toNat (0 : Nat))))) rfl ?_
    refine so_bin rfl rfl ab_fmul ?_
    refine so_bin rfl rfl ab_fadd ?_
    refine so_assign (v := (.v (.flt .f32 (fop .add .f32 sum102 (fop .mul .f32 (l0.getD (x103).toNat (0 : Nat)) (l0.getD (x103).toNat (0 : Nat))))))) rfl ?_
    refine so_nil ?_
    refine fi_inBlock ?_
    refine fi_region ?_
    refine so_bin rfl rfl ab_add ?_
    refine so_move (v := (.v (.int .i64 (IntKind.i64.wrap (x103 + (1 : Int)))))) rfl ?_
    refine so_nil ?_
    exact fi_at [(3, (.v (.flt .f32 (fop .add .f32 sum102 (fop .mul .f32 (l0.getD (x103).toNat (0 : Nat)) (l0.getD (x103).toNat (0 : Nat))))))), (6, (.v v0)), (7, (.v (.int .i64 (l0.length : Int)))), (8, (.v (.int .i64 (IntKind.i64.wrap (x103 + (1 : Int))))))] ⟨rfl, rfl, rfl, rfl, trivial⟩ (h _)
  · refine fi_false rfl (decide_eq_false c104) ?_
    refine fi_exit rfl ?_
    refine fi_seq ?_
    refine fi_region ?_
    refine so_move (v := (.v (.flt .f32 sum102))) rfl ?_
    refine so_assign (v := (.v (.flt .f32 sum102))) rfl ?_
    refine so_nil ?_
    exact by_ret rfl ⟨_, h, rfl, rfl⟩
theorem impl_size_ok {fr : List Pc} {H : Heap} (a0 : Nat) (hs : Sep H (fr))  (K : Nat → Prop) (h : impl_size.wp a0 K) : OkQ Try.prog 42 [(.v (.flt .f32 a0))] H (fun r H2 => ∃ (y0 : Nat), K y0 ∧ r = (.v (.flt .f32 y0)) ∧ H = H2) := by
  unfold impl_size.wp at h
  refine of_body Try.f42 F.hm Try.func42 rfl Try.call42 (by kernel_rfl) (by simp) ?_
  refine fi_seq ?_
  refine fi_region ?_
  refine so_assign (v := (.v (.flt .f32 (cz .f32 0)))) rfl ?_
  refine so_nil ?_
  refine fi_seq ?_
  refine fi_seq ?_
  refine fi_region ?_
  refine so_move (v := (.v (.flt .f32 a0))) rfl ?_
  refine so_bin rfl rfl ab_flss ?_
  refine so_nil ?_
  replace h := ofT h; rcases h with ⟨c101, h⟩ | ⟨c101, h⟩
  · refine fi_true rfl c101 ?_
    refine fi_seq ?_
    refine fi_region ?_
    refine so_move (v := (.v (.flt .f32 a0))) rfl ?_
    refine so_un rfl au_fneg' ?_
    refine so_assign (v := (.v (.flt .f32 (fneg .f32 a0)))) rfl ?_
    refine so_nil ?_
    exact by_ret rfl ⟨_, h, rfl, rfl⟩
  · refine fi_false rfl c101 ?_
    refine fi_skip ?_
    refine fi_seq ?_
    refine fi_seq ?_
    refine fi_region ?_
    refine so_move (v := (.v (.flt .f32 a0))) rfl ?_
    refine so_bin rfl rfl ab_feql ?_
    refine so_nil ?_
    replace h := ofT h; rcases h with ⟨c102, h⟩ | ⟨c102, h⟩
    · refine fi_true rfl c102 ?_
      refine fi_seq ?_
      refine fi_region ?_
      refine so_assign (v := (.v (.flt .f32 (cz .f32 0)))) rfl ?_
      refine so_nil ?_
      exact by_ret rfl ⟨_, h, rfl, rfl⟩
    · refine fi_false rfl c102 ?_
      refine fi_skip ?_
      refine fi_seq ?_
      refine fi_region ?_
      refine so_move (v := (.v (.flt .f32 a0))) rfl ?_
      refine so_assign (v := (.v (.flt .f32 a0))) rfl ?_
      refine so_nil ?_
      exact by_ret rfl ⟨_, h, rfl, rfl⟩
theorem F58.ag24 : tagg Try.prog 24 = some false := by kernel_rfl
theorem F58.ag26 : tagg Try.prog 26 = some false := by kernel_rfl
theorem F58.fd46_0 : tfield Try.prog 46 0 = some (0, 1, false) := by kernel_rfl
theorem F58.inf46 : (Try.prog.info? 46).isSome = true := by kernel_rfl
theorem F58.sz24 : tsz Try.prog 24 = some 1 := by kernel_rfl
theorem F58.te72 : telem Try.prog 72 = some 24 := by kernel_rfl
theorem F58.ti24 : (telem Try.prog 24).isSome = true := by kernel_rfl
theorem F58.tl24 : (telem Try.prog 24).bind (tsz Try.prog) = some 1 := by kernel_rfl
theorem F58.ze24 : tzero Try.prog 24 = some [.nilsl] := by kernel_rfl
theorem impl_ValidPair_ok {fr : List Pc} {H : Heap} (v0 : AV) (l0 : List (Nat)) (hs : Sep H (fr)) (g0 : ∀ H, Sep H fr → Shows H v0 1 (enc (eFlt .f32) l0)) (K : Bool → Prop) (h : impl_ValidPair.wp l0 K) : OkQ Try.prog 58 [(.g [v0])] H (fun r H2 => ∃ (y0 : Bool), K y0 ∧ r = (.v (.bool y0)) ∧ Sep H2 (fr)) := by
  unfold impl_ValidPair.wp at h
  refine of_body Try.f58 F.hm Try.func58 rfl Try.call58 (by kernel_rfl) (by simp) ?_
  refine fi_seq ?_
  refine fi_region ?_
  refine sv_box hs rfl (c := [v0]) rfl F58.inf46 (stc (g0 _ hs).stor stn) nofun (fun id101 H102 hs => ?_)
  refine so_assign (v := (.v (.bool false))) rfl ?_
  refine so_nil ?_
  refine fi_seq ?_
  refine fi_region ?_
  refine so_fieldAddr rfl F58.fd46_0 ?_
  refine sv_ld hs 0 rfl rfl rfl F58.ag24 ?_
  refine sv_len (g0 _ hs.tl) (fun _ => rfl) (by decide) rfl F58.ti24 ?_
  refine so_assign (v := (.v (.int .i64 (l0.length : Int)))) rfl ?_
  refine so_nil ?_
  refine fi_seq ?_
  refine fi_seq ?_
  refine fi_region ?_
  refine so_move (v := (.v (.int .i64 (l0.length : Int)))) rfl ?_
  refine sv_callS (impl_within_ok (l0.length : Int) (2 : Int) (8 : Int) hs  _ h) (fun _ _ ⟨_, _, _, e⟩ => e) rfl rfl ?_
  clear h
  rintro _ _ ⟨y104, h, rfl, rfl⟩
  refine so_un rfl au_not ?_
  refine so_move (v := (.v (.bool (!y104)))) rfl ?_
  replace h := ofT h; rcases h with ⟨c106, h⟩ | ⟨c106, h⟩
  · refine so_gyes rfl (not_f c106) ?_
    refine so_move (v := (.v (.int .i64 (l0.length : Int)))) rfl ?_
    refine so_gyes rfl (not_f c106) ?_
    refine so_bin rfl rfl (ab_rem (by decide)) ?_
    refine so_gyes rfl (not_f c106) ?_
    refine so_bin rfl rfl ab_eql ?_
    refine so_pick_f (v := (.v (.bool (decide ((Int.tmod (l0.length : Int) (2 : Int)) = (1 : Int)))))) rfl (not_f c106) rfl ?_
    refine so_move (v := (.v (.bool (decide ((Int.tmod (l0.length : Int) (2 : Int)) = (1 : Int)))))) rfl ?_
    replace h := ofP h; rcases h with ⟨c107, h⟩ | ⟨c107, h⟩
    · refine so_gno rfl (decide_eq_true c107) ?_
      refine so_gno rfl (decide_eq_true c107) ?_
      refine so_gno rfl (decide_eq_true c107) ?_
      refine so_gno rfl (decide_eq_true c107) ?_
      refine so_gno rfl (decide_eq_true c107) ?_
      refine so_pick_t (v := (.v (.bool true))) rfl (decide_eq_true c107) rfl ?_
      refine so_move (v := (.v (.bool true))) rfl ?_
      refine so_gno rfl rfl ?_
      refine so_gno rfl rfl ?_
      refine so_gno rfl rfl ?_
      refine so_gno rfl rfl ?_
      refine so_gno rfl rfl ?_
      refine so_gno rfl rfl ?_
      refine so_gno rfl rfl ?_
      refine so_pick_t (v := (.v (.bool true))) rfl rfl rfl ?_
      refine so_nil ?_
      refine fi_true rfl rfl ?_
      refine fi_seq ?_
      refine fi_region ?_
      refine so_assign (v := (.v (.bool false))) rfl ?_
      refine so_nil ?_
      exact by_ret rfl ⟨_, h, rfl, (Sep.del 0 hs)⟩
    · refine so_gyes rfl (decide_eq_false c107) ?_
      refine so_fieldAddr rfl F58.fd46_0 ?_
      refine so_gyes rfl (decide_eq_false c107) ?_
      refine sv_ld hs 0 rfl rfl rfl F58.ag24 ?_
      refine so_gyes rfl (decide_eq_false c107) ?_
      refine sd_bslice hs [[v0]] F58.te72 F58.sz24 F58.ze24 rfl rfl rfl (by simp) (fac (stc (g0 _ hs.tl).stor stn) fan) (by decide) rfl nofun (fun v108 H109 _ hs => ?_)
      refine so_gyes rfl (decide_eq_false c107) ?_
      refine sv_callS (impl_areFinite_ok v108 ([[v0]]) ([l0] : List (List (Nat))) hs (fun _ hs => ⟨hs.shows 0 rfl, by simp, ⟨⟨rfl, (g0 _ hs.tl.tl)⟩, trivial⟩⟩) _ h) (fun _ _ ⟨_, _, _, e⟩ => e) rfl rfl ?_
      clear h
      rintro _ _ ⟨y111, h, rfl, rfl⟩
      refine so_gyes rfl (decide_eq_false c107) ?_
      refine so_un rfl au_not ?_
      refine so_pick_f (v := (.v (.bool (!y111)))) rfl (decide_eq_false c107) rfl ?_
      refine so_move (v := (.v (.bool (!y111)))) rfl ?_
      replace h := ofT h; rcases h with ⟨c113, h⟩ | ⟨c113, h⟩
      · refine so_gyes rfl (not_f c113) ?_
        refine so_fieldAddr rfl F58.fd46_0 ?_
        refine so_gyes rfl (not_f c113) ?_
        refine sv_ld hs 1 rfl rfl rfl F58.ag24 ?_
        refine so_gyes rfl (not_f c113) ?_
        refine sv_callS (impl_squares_ok v0 l0 hs (fun _ hs => (g0 _ hs.tl.tl)) _ h) (fun _ _ ⟨_, _, _, e⟩ => e) rfl rfl ?_
        clear h
        rintro _ _ ⟨y114, h, rfl, rfl⟩
        refine so_gyes rfl (not_f c113) ?_
        refine so_bin rfl rfl ab_fsub ?_
        refine so_gyes rfl (not_f c113) ?_
        refine sv_callS (impl_size_ok (fop .sub .f32 y114 (cz .f32 1065353216)) hs  _ h) (fun _ _ ⟨_, _, _, e⟩ => e) rfl rfl ?_
        clear h
        rintro _ _ ⟨y116, h, rfl, rfl⟩
        refine so_gyes rfl (not_f c113) ?_
        refine so_bin rfl rfl ab_fleq ?_
        refine so_gyes rfl (not_f c113) ?_
        refine so_un rfl au_not ?_
        refine so_pick_f (v := (.v (.bool (!(fcmp .leq .f32 y116 (cz .f32 981668463)))))) rfl (not_f c113) rfl ?_
        refine so_nil ?_
        replace h := ofT h; rcases h with ⟨c118, h⟩ | ⟨c118, h⟩
        · refine fi_false rfl (not_f c118) ?_
          refine fi_skip ?_
          refine fi_seq ?_
          refine fi_seq ?_
          refine fi_region ?_
          refine so_assign (v := (.v (.int .i64 (2 : Int)))) rfl ?_
          refine so_nil ?_
          refine fi_block ?_
          refine fi_loop ?_
          replace hs := hs.del 0
          refine fi_at [(1, (.v (.ptr id101 0))), (3, (.v (.int .i64 (l0.length : Int)))), (4, (.v (.int .i64 (2 : Int))))] ⟨rfl, rfl, rfl, trivial⟩ ?_
          refine h (fun (shift120 : Int) => ∀ (s : Nat → TV) (H : Heap), Sep H (Pc.box id101 [v0] :: fr) → Fin _ _ (updL s [(1, (.v (.ptr id101 0))), (3, (.v (.int .i64 (l0.length : Int)))), (4, (.v (.int .i64 shift120)))]) H _) ?_ _ _ hs
          intro shift120 h s133 H134 hs
          refine fi_inLoop ?_
          refine fi_seq ?_
          refine fi_seq ?_
          refine fi_region ?_
          refine so_move (v := (.v (.int .i64 shift120))) rfl ?_
          refine so_move (v := (.v (.int .i64 (l0.length : Int)))) rfl ?_
          refine so_bin rfl rfl ab_lss ?_
          refine so_nil ?_
          replace h := ofP h; rcases h with ⟨c121, h⟩ | ⟨c121, h⟩
          · refine fi_true rfl (decide_eq_true c121) ?_
            refine fi_skip ?_
            refine fi_seq ?_
            refine fi_block ?_
            refine fi_seq ?_
            refine fi_region ?_
            refine so_assign (v := (.v (.flt .f32 (cz .f32 0)))) rfl ?_
            refine so_nil ?_
            refine fi_seq ?_
            refine fi_seq ?_
            refine fi_region ?_
            refine so_assign (v := (.v (.int .i64 (0 : Int)))) rfl ?_
            refine so_nil ?_
            refine fi_block ?_
            refine fi_loop ?_
            refine fi_at [(1, (.v (.ptr id101 0))), (3, (.v (.int .i64 (l0.length : Int)))), (4, (.v (.int .i64 shift120))), (5, (.v (.flt .f32 (cz .f32 0)))), (6, (.v (.int .i64 (0 : Int))))] ⟨rfl, rfl, rfl, rfl, rfl, trivial⟩ ?_
            refine h (fun (sum123 : Nat) (k124 : Int) => ∀ (s : Nat → TV) (H : Heap), Sep H (Pc.box id101 [v0] :: fr) → Fin _ _ (updL s [(1, (.v (.ptr id101 0))), (3, (.v (.int .i64 (l0.length : Int)))), (4, (.v (.int .i64 shift120))), (5, (.v (.flt .f32 sum123))), (6, (.v (.int .i64 k124)))]) H _) ?_ _ _ hs
            intro sum123 k124 h s131 H132 hs
            refine fi_inLoop ?_
            refine fi_seq ?_
            refine fi_seq ?_
            refine fi_region ?_
            refine so_move (v := (.v (.int .i64 k124))) rfl ?_
            refine so_move (v := (.v (.int .i64 shift120))) rfl ?_
            refine so_bin rfl rfl ab_add ?_
            refine so_move (v := (.v (.int .i64 (l0.length : Int)))) rfl ?_
            refine so_bin rfl rfl ab_lss ?_
            refine so_nil ?_
            replace h := ofP h; rcases h with ⟨c125, h⟩ | ⟨c125, h⟩
            · refine fi_true rfl (decide_eq_true c125) ?_
              refine fi_skip ?_
              refine fi_seq ?_
              refine fi_block ?_
              refine fi_region ?_
              refine so_move (v := (.v (.flt .f32 sum123))) rfl ?_
              refine so_fieldAddr rfl F58.fd46_0 ?_
              refine sv_ld hs 0 rfl rfl rfl F58.ag24 ?_
              refine so_move (v := (.v (.int .i64 k124))) rfl ?_
              obtain ⟨c126, h⟩ := h
              refine sv_idx (g0 _ hs.tl) c126 (fun _ => rfl) (by decide) rfl rfl F58.tl24 ?_
              refine sv_cell (g0 _ hs.tl) c126 (0 : Nat) 0 (fun x => (AV.flt .f32 x)) (fun _ => rfl) (fun _ => rfl) rfl F58.ag26 ?_
              refine so_fieldAddr rfl F58.fd46_0 ?_
              refine sv_ld hs 0 rfl rfl rfl F58.ag24 ?_
              refine so_move (v := (.v (.int .i64 k124))) rfl ?_
              refine so_move (v := (.v (.int .i64 shift120))) rfl ?_
              refine so_bin rfl rfl ab_add ?_
              obtain ⟨c127, h⟩ := h
              refine sv_idx (g0 _ hs.tl) c127 (fun _ => rfl) (by decide) rfl rfl F58.tl24 ?_
              refine sv_cell (g0 _ hs.tl) c127 (0 : Nat) 0 (fun x => (AV.flt .f32 x)) (fun _ => rfl) (fun _ => rfl) rfl F58.ag26 ?_
              refine so_bin rfl rfl ab_fmul ?_
              refine so_bin rfl rfl ab_fadd ?_
              refine so_assign (v := (.v (.flt .f32 (fop .add .f32 sum123 (fop .mul .f32 (l0.getD (k124).toNat (0 : Nat)) (l0.getD ((IntKind.i64.wrap (k124 + shift120))).toNat (0 : Nat))))))) rfl ?_
              refine so_nil ?_
              refine fi_inBlock ?_
              refine fi_region ?_
              refine so_move (v := (.v (.int .i64 k124))) rfl ?_
              refine so_bin rfl rfl ab_add ?_
              refine so_assign (v := (.v (.int .i64 (IntKind.i64.wrap (k124 + (1 : Int)))))) rfl ?_
              refine so_nil ?_
              exact fi_at [(1, (.v (.ptr id101 0))), (3, (.v (.int .i64 (l0.length : Int)))), (4, (.v (.int .i64 shift120))), (5, (.v (.flt .f32 (fop .add .f32 sum123 (fop .mul .f32 (l0.getD (k124).toNat (0 : Nat)) (l0.getD ((IntKind.i64.wrap (k124 + shift120))).toNat (0 : Nat))))))), (6, (.v (.int .i64 (IntKind.i64.wrap (k124 + (1 : Int))))))] ⟨rfl, rfl, rfl, rfl, rfl, trivial⟩ (h _ _  hs)
            · refine fi_false rfl (decide_eq_false c125) ?_
              refine fi_exit rfl ?_
              refine fi_seq ?_
              refine fi_region ?_
              refine so_move (v := (.v (.flt .f32 sum123))) rfl ?_
              refine sv_callS (impl_size_ok sum123 hs  _ h) (fun _ _ ⟨_, _, _, e⟩ => e) rfl rfl ?_
              clear h
              rintro _ _ ⟨y128, h, rfl, rfl⟩
              refine so_bin rfl rfl ab_fleq ?_
              refine so_un rfl au_not ?_
              refine so_nil ?_
              replace h := ofT h; rcases h with ⟨c130, h⟩ | ⟨c130, h⟩
              · refine fi_false rfl (not_f c130) ?_
                refine fi_skip ?_
                refine fi_inBlock ?_
                refine fi_region ?_
                refine so_move (v := (.v (.int .i64 shift120))) rfl ?_
                refine so_bin rfl rfl ab_add ?_
                refine so_assign (v := (.v (.int .i64 (IntKind.i64.wrap (shift120 + (2 : Int)))))) rfl ?_
                refine so_nil ?_
                exact fi_at [(1, (.v (.ptr id101 0))), (3, (.v (.int .i64 (l0.length : Int)))), (4, (.v (.int .i64 (IntKind.i64.wrap (shift120 + (2 : Int))))))] ⟨rfl, rfl, rfl, trivial⟩ (h _ _  hs)
              · refine fi_true rfl (not_t c130) ?_
                refine fi_seq ?_
                refine fi_region ?_
                refine so_assign (v := (.v (.bool false))) rfl ?_
                refine so_nil ?_
                exact by_ret rfl ⟨_, h, rfl, (Sep.del 0 hs)⟩
          · refine fi_false rfl (decide_eq_false c121) ?_
            refine fi_exit rfl ?_
            refine fi_seq ?_
            refine fi_region ?_
            refine so_assign (v := (.v (.bool true))) rfl ?_
            refine so_nil ?_
            exact by_ret rfl ⟨_, h, rfl, (Sep.del 0 hs)⟩
        · refine fi_true rfl (not_t c118) ?_
          refine fi_seq ?_
          refine fi_region ?_
          refine so_assign (v := (.v (.bool false))) rfl ?_
          refine so_nil ?_
          exact by_ret rfl ⟨_, h, rfl, (Sep.del 0 (Sep.del 0 hs))⟩
      · refine so_gno rfl (not_t c113) ?_
        refine so_gno rfl (not_t c113) ?_
        refine so_gno rfl (not_t c113) ?_
        refine so_gno rfl (not_t c113) ?_
        refine so_gno rfl (not_t c113) ?_
        refine so_gno rfl (not_t c113) ?_
        refine so_gno rfl (not_t c113) ?_
        refine so_pick_t (v := (.v (.bool true))) rfl (not_t c113) rfl ?_
        refine so_nil ?_
        refine fi_true rfl rfl ?_
        refine fi_seq ?_
        refine fi_region ?_
        refine so_assign (v := (.v (.bool false))) rfl ?_
        refine so_nil ?_
        exact by_ret rfl ⟨_, h, rfl, (Sep.del 0 (Sep.del 0 hs))⟩
  · refine so_gno rfl (not_t c106) ?_
    refine so_gno rfl (not_t c106) ?_
    refine so_gno rfl (not_t c106) ?_
    refine so_pick_t (v := (.v (.bool true))) rfl (not_t c106) rfl ?_
    refine so_move (v := (.v (.bool true))) rfl ?_
    refine so_gno rfl rfl ?_
    refine so_gno rfl rfl ?_
    refine so_gno rfl rfl ?_
    refine so_gno rfl rfl ?_
    refine so_gno rfl rfl ?_
    refine so_pick_t (v := (.v (.bool true))) rfl rfl rfl ?_
    refine so_move (v := (.v (.bool true))) rfl ?_
    refine so_gno rfl rfl ?_
    refine so_gno rfl rfl ?_
    refine so_gno rfl rfl ?_
    refine so_gno rfl rfl ?_
    refine so_gno rfl rfl ?_
    refine so_gno rfl rfl ?_
    refine so_gno rfl rfl ?_
    refine so_pick_t (v := (.v (.bool true))) rfl rfl rfl ?_
    refine so_nil ?_
    refine fi_true rfl rfl ?_
    refine fi_seq ?_
    refine fi_region ?_
    refine so_assign (v := (.v (.bool false))) rfl ?_
    refine so_nil ?_
    exact by_ret rfl ⟨_, h, rfl, (Sep.del 0 hs)⟩
theorem impl_ValidPair_okS {fr : List Pc} {H : Heap} (v0 : AV) (l0 : List (Nat)) (hs : Sep H fr) (g0 : ∀ H, Sep H fr → Shows H v0 1 (enc (eFlt .f32) l0)) (K : Bool → Prop) (h : impl_ValidPair.wp l0 K) : OkQ Try.prog 58 [(.g [v0])] H (fun r H2 => ∃ (y0 : Bool), K y0 ∧ r = (.v (.bool y0)) ∧ H = H2) := by
  obtain ⟨r, H2, h1, y0, hK, hr, hsep⟩ := impl_ValidPair_ok (fr := came H) (H := H) v0 l0 (came_sep H) (came_shows (g0 H hs)) K h
  have hk : H.n ≤ H2.n ∧ ∀ i, i < H.n → H2.f i = H.f i := hsep.1.2.1
  exact ⟨r, H, h1.forget hk.1 hk.2 (by subst hr; rfl), y0, hK, hr, rfl⟩
theorem F103.ag4 : tagg Try.prog 4 = some false := by kernel_rfl
theorem F103.tb4 : tbool Try.prog 4 = true := by kernel_rfl
theorem F103.ti49 : (telem Try.prog 49).isSome = true := by kernel_rfl
theorem F103.tl49 : (telem Try.prog 49).bind (tsz Try.prog) = some 1 := by kernel_rfl
theorem slices_Index_bool_bool_ok {fr : List Pc} {H : Heap} (v0 : AV) (l0 : List (Bool)) (a1 : Bool) (hs : Sep H (fr)) (g0 : ∀ H, Sep H fr → Shows H v0 1 (enc eBool l0)) (K : Int → Prop) (h : slices_Index_bool_bool.wp l0 a1 K) : OkQ Try.prog 103 [(.v v0), (.v (.bool a1))] H (fun r H2 => ∃ (y0 : Int), K y0 ∧ r = (.v (.int .i64 y0)) ∧ H = H2) := by
  unfold slices_Index_bool_bool.wp at h
  refine of_body Try.f103 F.hm Try.func103 rfl Try.call103 (by kernel_rfl) (by simp) ?_
  refine fi_seq ?_
  refine fi_region ?_
  refine so_assign (v := (.v (.int .i64 (0 : Int)))) rfl ?_
  refine so_nil ?_
  refine fi_seq ?_
  refine fi_seq ?_
  refine fi_region ?_
  refine so_move (v := (.v v0)) rfl ?_
  refine sv_len (g0 _ hs) (fun _ => rfl) (by decide) rfl F103.ti49 ?_
  refine so_move (v := (.v (.int .i64 (0 : Int)))) rfl ?_
  refine so_nil ?_
  refine fi_block ?_
  refine fi_loop ?_
  refine fi_at [(0, (.v v0)), (1, (.v (.bool a1))), (7, (.v (.int .i64 (l0.length : Int)))), (8, (.v (.int .i64 (0 : Int))))] ⟨rfl, rfl, rfl, rfl, trivial⟩ ?_
  refine h (fun (x102 : Int) => ∀ (s : Nat → TV), Fin _ _ (updL s [(0, (.v v0)), (1, (.v (.bool a1))), (7, (.v (.int .i64 (l0.length : Int)))), (8, (.v (.int .i64 x102)))]) _ _) ?_ _
  intro x102 h s106
  refine fi_inLoop ?_
  refine fi_seq ?_
  refine fi_region ?_
  refine so_bin rfl rfl ab_lss ?_
  refine so_nil ?_
  refine fi_seq ?_
  replace h := ofP h; rcases h with ⟨c103, h⟩ | ⟨c103, h⟩
  · refine fi_true rfl (decide_eq_true c103) ?_
    refine fi_skip ?_
    refine fi_seq ?_
    refine fi_block ?_
    refine fi_seq ?_
    refine fi_region ?_
    refine so_move (v := (.v (.int .i64 x102))) rfl ?_
    refine so_assign (v := (.v (.int .i64 x102))) rfl ?_
    refine so_nil ?_
    refine fi_seq ?_
    refine fi_region ?_
    refine so_move (v := (.v (.bool a1))) rfl ?_
    refine so_move (v := (.v v0)) rfl ?_
    refine so_move (v := (.v (.int .i64 x102))) rfl ?_
    obtain ⟨c104, h⟩ := h
    refine sv_idx (g0 _ hs) c104 (fun _ => rfl) (by decide) rfl rfl F103.tl49 ?_
    refine sv_cell (g0 _ hs) c104 false 0 (fun x => (AV.bool x)) (fun _ => rfl) (fun _ => rfl) rfl F103.ag4 ?_
    refine so_bin rfl rfl (ab_beql F103.tb4) ?_
    refine so_nil ?_
    replace h := ofT h; rcases h with ⟨c105, h⟩ | ⟨c105, h⟩
    · refine fi_true rfl c105 ?_
      refine fi_seq ?_
      refine fi_region ?_
      refine so_move (v := (.v (.int .i64 x102))) rfl ?_
      refine so_assign (v := (.v (.int .i64 x102))) rfl ?_
      refine so_nil ?_
      exact by_ret rfl ⟨_, h, rfl, rfl⟩
    · refine fi_false rfl c105 ?_
      refine fi_skip ?_
      refine fi_inBlock ?_
      refine fi_region ?_
      refine so_bin rfl rfl ab_add ?_
      refine so_move (v := (.v (.int .i64 (IntKind.i64.wrap (x102 + (1 : Int)))))) rfl ?_
      refine so_nil ?_
      exact fi_at [(0, (.v v0)), (1, (.v (.bool a1))), (7, (.v (.int .i64 (l0.length : Int)))), (8, (.v (.int .i64 (IntKind.i64.wrap (x102 + (1 : Int))))))] ⟨rfl, rfl, rfl, rfl, trivial⟩ (h _)
  · refine fi_false rfl (decide_eq_false c103) ?_
    refine fi_exit rfl ?_
    refine fi_seq ?_
    refine fi_region ?_
    refine so_assign (v := (.v (.int .i64 (-1 : Int)))) rfl ?_
    refine so_nil ?_
    exact by_ret rfl ⟨_, h, rfl, rfl⟩
theorem slices_Contains_bool_bool_ok {fr : List Pc} {H : Heap} (v0 : AV) (l0 : List (Bool)) (a1 : Bool) (hs : Sep H (fr)) (g0 : ∀ H, Sep H fr → Shows H v0 1 (enc eBool l0)) (K : Bool → Prop) (h : slices_Contains_bool_bool.wp l0 a1 K) : OkQ Try.prog 59 [(.v v0), (.v (.bool a1))] H (fun r H2 => ∃ (y0 : Bool), K y0 ∧ r = (.v (.bool y0)) ∧ H = H2) := by
  unfold slices_Contains_bool_bool.wp at h
  refine of_body Try.f59 F.hm Try.func59 rfl Try.call59 (by kernel_rfl) (by simp) ?_
  refine fi_seq ?_
  refine fi_region ?_
  refine so_assign (v := (.v (.bool false))) rfl ?_
  refine so_nil ?_
  refine fi_seq ?_
  refine fi_region ?_
  refine so_move (v := (.v v0)) rfl ?_
  refine so_move (v := (.v (.bool a1))) rfl ?_
  refine sv_callS (slices_Index_bool_bool_ok v0 l0 a1 hs (fun _ hs => (g0 _ hs)) _ h) (fun _ _ ⟨_, _, _, e⟩ => e) rfl rfl ?_
  clear h
  rintro _ _ ⟨y101, h, rfl, rfl⟩
  refine so_bin rfl rfl ab_geq ?_
  refine so_assign (v := (.v (.bool (decide ((0 : Int) ≤ y101))))) rfl ?_
  refine so_nil ?_
  exact by_ret rfl ⟨_, h, rfl, rfl⟩
theorem F104.ag26 : tagg Try.prog 26 = some false := by kernel_rfl
theorem F104.ti24 : (telem Try.prog 24).isSome = true := by kernel_rfl
theorem F104.tl24 : (telem Try.prog 24).bind (tsz Try.prog) = some 1 := by kernel_rfl
theorem impl_added_ok {fr : List Pc} {H : Heap} (v0 : AV) (l0 : List (Nat)) (hs : Sep H (fr)) (g0 : ∀ H, Sep H fr → Shows H v0 1 (enc (eFlt .f32) l0)) (K : Nat → Prop) (h : impl_added.wp l0 K) : OkQ Try.prog 104 [(.v v0)] H (fun r H2 => ∃ (y0 : Nat), K y0 ∧ r = (.v (.flt .f32 y0)) ∧ H = H2) := by
  unfold impl_added.wp at h
  refine of_body Try.f104 F.hm Try.func104 rfl Try.call104 (by kernel_rfl) (by simp) ?_
  refine fi_seq ?_
  refine fi_region ?_
  refine so_assign (v := (.v (.flt .f32 (cz .f32 0)))) rfl ?_
  refine so_nil ?_
  refine fi_seq ?_
  refine fi_region ?_
  refine so_assign (v := (.v (.flt .f32 (cz .f32 0)))) rfl ?_
  refine so_nil ?_
  refine fi_seq ?_
  refine fi_seq ?_
  refine fi_region ?_
  refine so_move (v := (.v v0)) rfl ?_
  refine sv_len (g0 _ hs) (fun _ => rfl) (by decide) rfl F104.ti24 ?_
  refine so_move (v := (.v (.int .i64 (0 : Int)))) rfl ?_
  refine so_nil ?_
  refine fi_block ?_
  refine fi_loop ?_
  refine fi_at [(3, (.v (.flt .f32 (cz .f32 0)))), (6, (.v v0)), (7, (.v (.int .i64 (l0.length : Int)))), (8, (.v (.int .i64 (0 : Int))))] ⟨rfl, rfl, rfl, rfl, trivial⟩ ?_
  refine h (fun (sum102 : Nat) (x103 : Int) => ∀ (s : Nat → TV), Fin _ _ (updL s [(3, (.v (.flt .f32 sum102))), (6, (.v v0)), (7, (.v (.int .i64 (l0.length : Int)))), (8, (.v (.int .i64 x103)))]) _ _) ?_ _
  intro sum102 x103 h s106
  refine fi_inLoop ?_
  refine fi_seq ?_
  refine fi_region ?_
  refine so_bin rfl rfl ab_lss ?_
  refine so_nil ?_
  refine fi_seq ?_
  replace h := ofP h; rcases h with ⟨c104, h⟩ | ⟨c104, h⟩
  · refine fi_true rfl (decide_eq_true c104) ?_
    refine fi_skip ?_
    refine fi_seq ?_
    refine fi_block ?_
    refine fi_seq ?_
    refine fi_region ?_
    obtain ⟨c105, h⟩ := h
    refine sv_idx (g0 _ hs) c105 (fun _ => rfl) (by decide) rfl rfl F104.tl24 ?_
    refine sv_cell (g0 _ hs) c105 (0 : Nat) 0 (fun x => (AV.flt .f32 x)) (fun _ => rfl) (fun _ => rfl) rfl F104.ag26 ?_
    refine so_assign (v := (.v (.flt .f32 (l0.getD (x103).toNat (0 : Nat))))) rfl ?_
    refine so_nil ?_
    refine fi_region ?_
    refine so_move (v := (.v (.flt .f32 sum102))) rfl ?_
    refine so_move (v := (.v (.flt .f32 (l0.getD (x103).toNat (0 : Nat))))) rfl ?_
    refine so_bin rfl rfl ab_fadd ?_
    refine so_assign (v := (.v (.flt .f32 (fop .add .f32 sum102 (l0.getD (x103).toNat (0 : Nat)))))) rfl ?_
    refine so_nil ?_
    refine fi_inBlock ?_
    refine fi_region ?_
    refine so_bin rfl rfl ab_add ?_
    refine so_move (v := (.v (.int .i64 (IntKind.i64.wrap (x103 + (1 : Int)))))) rfl ?_
    refine so_nil ?_
    exact fi_at [(3, (.v (.flt .f32 (fop .add .f32 sum102 (l0.getD (x103).toNat (0 : Nat)))))), (6, (.v v0)), (7, (.v (.int .i64 (l0.length : Int)))), (8, (.v (.int .i64 (IntKind.i64.wrap (x103 + (1 : Int))))))] ⟨rfl, rfl, rfl, rfl, trivial⟩ (h _)
  · refine fi_false rfl (decide_eq_false c104) ?_
    refine fi_exit rfl ?_
    refine fi_seq ?_
    refine fi_region ?_
    refine so_move (v := (.v (.flt .f32 sum102))) rfl ?_
    refine so_assign (v := (.v (.flt .f32 sum102))) rfl ?_
    refine so_nil ?_
    exact by_ret rfl ⟨_, h, rfl, rfl⟩
theorem F60.fl26 : tflt Try.prog 26 = some .f32 := by kernel_rfl
theorem F60.in26 : tint Try.prog 26 = none := by kernel_rfl
theorem F60.ti24 : (telem Try.prog 24).isSome = true := by kernel_rfl
theorem F60.us3 : (Try.prog.underlying 3).isSome = true := by kernel_rfl
theorem impl_mean_ok {fr : List Pc} {H : Heap} (v0 : AV) (l0 : List (Nat)) (hs : Sep H (fr)) (g0 : ∀ H, Sep H fr → Shows H v0 1 (enc (eFlt .f32) l0)) (K : Nat → Prop) (h : impl_mean.wp l0 K) : OkQ Try.prog 60 [(.v v0)] H (fun r H2 => ∃ (y0 : Nat), K y0 ∧ r = (.v (.flt .f32 y0)) ∧ H = H2) := by
  unfold impl_mean.wp at h
  refine of_body Try.f60 F.hm Try.func60 rfl Try.call60 (by kernel_rfl) (by simp) ?_
  refine fi_seq ?_
  refine fi_region ?_
  refine so_assign (v := (.v (.flt .f32 (cz .f32 0)))) rfl ?_
  refine so_nil ?_
  refine fi_seq ?_
  refine fi_region ?_
  refine so_move (v := (.v v0)) rfl ?_
  refine sv_callS (impl_added_ok v0 l0 hs (fun _ hs => (g0 _ hs)) _ h) (fun _ _ ⟨_, _, _, e⟩ => e) rfl rfl ?_
  clear h
  rintro _ _ ⟨y101, h, rfl, rfl⟩
  refine so_move (v := (.v v0)) rfl ?_
  refine sv_len (g0 _ hs) (fun _ => rfl) (by decide) rfl F60.ti24 ?_
  refine sv_if rfl F60.us3 F60.in26 F60.fl26 ?_
  refine so_bin rfl rfl ab_fquo ?_
  refine so_assign (v := (.v (.flt .f32 (fop .quo .f32 y101 (itof .f32 (l0.length : Int)))))) rfl ?_
  refine so_nil ?_
  exact by_ret rfl ⟨_, h, rfl, rfl⟩
theorem F154.ag24 : tagg Try.prog 24 = some false := by kernel_rfl
theorem F154.ag26 : tagg Try.prog 26 = some false := by kernel_rfl
theorem F154.fd46_0 : tfield Try.prog 46 0 = some (0, 1, false) := by kernel_rfl
theorem F154.inf46 : (Try.prog.info? 46).isSome = true := by kernel_rfl
theorem F154.sz26 : tsz Try.prog 26 = some 1 := by kernel_rfl
theorem F154.ta24_24 : tapp Try.prog 24 24 = some (1, 4) := by kernel_rfl
theorem F154.te24 : telem Try.prog 24 = some 26 := by kernel_rfl
theorem F154.ti24 : (telem Try.prog 24).isSome = true := by kernel_rfl
theorem F154.tl24 : (telem Try.prog 24).bind (tsz Try.prog) = some 1 := by kernel_rfl
theorem F154.ze26 : tzero Try.prog 26 = some [(.flt .f32 (0 : Nat))] := by kernel_rfl
theorem impl_highOf_ok {fr : List Pc} {H : Heap} (v0 : AV) (l0 : List (Nat)) (hs : Sep H (fr)) (g0 : ∀ H, Sep H fr → Shows H v0 1 (enc (eFlt .f32) l0)) (K : (List (Nat)) → Prop) (h : impl_highOf.wp l0 K) : OkQ Try.prog 154 [(.g [v0])] H (fun r H2 => ∃ (y0 : List (Nat)), K y0 ∧ ∃ (w0_ : AV), r = (.v w0_) ∧ Sep H2 (Pc.osl w0_ 1 (enc (eFlt .f32) y0) :: fr)) := by
  unfold impl_highOf.wp at h
  refine of_body Try.f154 F.hm Try.func154 rfl Try.call154 (by kernel_rfl) (by simp) ?_
  refine fi_seq ?_
  refine fi_region ?_
  refine sv_box hs rfl (c := [v0]) rfl F154.inf46 (stc (g0 _ hs).stor stn) nofun (fun id101 H102 hs => ?_)
  refine so_assign (v := (.v .nilsl)) rfl ?_
  refine so_nil ?_
  refine fi_seq ?_
  refine fi_region ?_
  refine sv_bslice hs (eFlt .f32) ([] : List (Nat)) [] F154.te24 F154.sz26 F154.ze26 rfl rfl rfl rfl (fun _ => rfl) rfl (by decide) nofun (fun v104 H105 nv104 hs => ?_)
  refine so_assign (v := (.v v104)) rfl ?_
  refine so_nil ?_
  refine fi_seq ?_
  refine fi_seq ?_
  refine fi_region ?_
  refine so_fieldAddr rfl F154.fd46_0 ?_
  refine sv_ld hs 1 rfl rfl rfl F154.ag24 ?_
  refine sv_len (g0 _ hs.tl.tl) (fun _ => rfl) (by decide) rfl F154.ti24 ?_
  refine so_move (v := (.v (.int .i64 (0 : Int)))) rfl ?_
  refine so_nil ?_
  refine fi_block ?_
  refine fi_loop ?_
  refine fi_at [(1, (.v (.ptr id101 0))), (3, (.v v104)), (9, (.v (.int .i64 (l0.length : Int)))), (10, (.v (.int .i64 (0 : Int))))] ⟨rfl, rfl, rfl, rfl, trivial⟩ ?_
  refine h (fun (out127 : List (Nat)) (x129 : Int) => ∀ (s : Nat → TV) (H : Heap) (v128 : AV) (nv128 : v128 ≠ .nilsl), Sep H (Pc.osl v128 1 (enc (eFlt .f32) out127) :: Pc.box id101 [v0] :: fr) → Fin _ _ (updL s [(1, (.v (.ptr id101 0))), (3, (.v v128)), (9, (.v (.int .i64 (l0.length : Int)))), (10, (.v (.int .i64 x129)))]) H _) ?_ _ _ _ nv104 hs
  intro out127 x129 h s145 H146 v128 nv128 hs
  refine fi_inLoop ?_
  refine fi_seq ?_
  refine fi_region ?_
  refine so_bin rfl rfl ab_lss ?_
  refine so_nil ?_
  refine fi_seq ?_
  replace h := ofP h; rcases h with ⟨c130, h⟩ | ⟨c130, h⟩
  · refine fi_true rfl (decide_eq_true c130) ?_
    refine fi_skip ?_
    refine fi_seq ?_
    refine fi_block ?_
    refine fi_seq ?_
    refine fi_region ?_
    refine so_move (v := (.v (.int .i64 x129))) rfl ?_
    refine so_assign (v := (.v (.int .i64 x129))) rfl ?_
    refine so_nil ?_
    refine fi_seq ?_
    refine fi_region ?_
    refine so_fieldAddr rfl F154.fd46_0 ?_
    refine sv_ld hs 1 rfl rfl rfl F154.ag24 ?_
    refine so_fieldAddr rfl F154.fd46_0 ?_
    refine sv_ld hs 1 rfl rfl rfl F154.ag24 ?_
    refine sv_len (g0 _ hs.tl.tl) (fun _ => rfl) (by decide) rfl F154.ti24 ?_
    refine so_bin rfl rfl ab_sub ?_
    refine so_move (v := (.v (.int .i64 x129))) rfl ?_
    refine so_bin rfl rfl ab_sub ?_
    obtain ⟨c131, h⟩ := h
    refine sv_idx (g0 _ hs.tl.tl) c131 (fun _ => rfl) (by decide) rfl rfl F154.tl24 ?_
    refine sv_cell (g0 _ hs.tl.tl) c131 (0 : Nat) 0 (fun x => (AV.flt .f32 x)) (fun _ => rfl) (fun _ => rfl) rfl F154.ag26 ?_
    refine so_assign (v := (.v (.flt .f32 (l0.getD ((IntKind.i64.wrap ((IntKind.i64.wrap ((l0.length : Int) - (1 : Int))) - x129))).toNat (0 : Nat))))) rfl ?_
    refine so_nil ?_
    refine fi_seq ?_
    refine fi_seq ?_
    refine fi_region ?_
    refine so_move (v := (.v (.int .i64 x129))) rfl ?_
    refine so_bin rfl rfl (ab_rem (by decide)) ?_
    refine so_bin rfl rfl ab_eql ?_
    refine so_nil ?_
    replace h := ofP h; rcases h with ⟨c132, h⟩ | ⟨c132, h⟩
    · refine fi_true rfl (decide_eq_true c132) ?_
      refine fi_region ?_
      refine so_move (v := (.v (.flt .f32 (l0.getD ((IntKind.i64.wrap ((IntKind.i64.wrap ((l0.length : Int) - (1 : Int))) - x129))).toNat (0 : Nat))))) rfl ?_
      refine so_un rfl au_fneg' ?_
      refine so_assign (v := (.v (.flt .f32 (fneg .f32 (l0.getD ((IntKind.i64.wrap ((IntKind.i64.wrap ((l0.length : Int) - (1 : Int))) - x129))).toNat (0 : Nat)))))) rfl ?_
      refine so_nil ?_
      refine fi_region ?_
      refine so_move (v := (.v v128)) rfl ?_
      refine so_move (v := (.v (.flt .f32 (fneg .f32 (l0.getD ((IntKind.i64.wrap ((IntKind.i64.wrap ((l0.length : Int) - (1 : Int))) - x129))).toNat (0 : Nat)))))) rfl ?_
      refine sv_bslice hs (eFlt .f32) ([(fneg .f32 (l0.getD ((IntKind.i64.wrap ((IntKind.i64.wrap ((l0.length : Int) - (1 : Int))) - x129))).toNat (0 : Nat)))] : List (Nat)) [[(.flt .f32 (fneg .f32 (l0.getD ((IntKind.i64.wrap ((IntKind.i64.wrap ((l0.length : Int) - (1 : Int))) - x129))).toNat (0 : Nat))))]] F154.te24 F154.sz26 F154.ze26 rfl rfl rfl rfl (fun _ => rfl) rfl (by decide) nofun (fun v133 H134 nv133 hs => ?_)
      obtain ⟨c138, h⟩ := h
      refine sv_app hs 1 rfl (hs.shows 0 rfl) (fun _ => rfl) (by decide) F154.ta24_24 (by decide) c138 rfl rfl nofun (fun v136 H137 kv136 hs => ?_)
      replace hs := hs.del 0
      have nv136 := kv136 nv128
      refine so_assign (v := (.v v136)) rfl ?_
      refine so_nil ?_
      refine fi_inBlock ?_
      refine fi_region ?_
      refine so_bin rfl rfl ab_add ?_
      refine so_move (v := (.v (.int .i64 (IntKind.i64.wrap (x129 + (1 : Int)))))) rfl ?_
      refine so_nil ?_
      exact fi_at [(1, (.v (.ptr id101 0))), (3, (.v v136)), (9, (.v (.int .i64 (l0.length : Int)))), (10, (.v (.int .i64 (IntKind.i64.wrap (x129 + (1 : Int))))))] ⟨rfl, rfl, rfl, rfl, trivial⟩ (h _ _ _ nv136 hs)
    · refine fi_false rfl (decide_eq_false c132) ?_
      refine fi_skip ?_
      refine fi_region ?_
      refine so_move (v := (.v v128)) rfl ?_
      refine so_move (v := (.v (.flt .f32 (l0.getD ((IntKind.i64.wrap ((IntKind.i64.wrap ((l0.length : Int) - (1 : Int))) - x129))).toNat (0 : Nat))))) rfl ?_
      refine sv_bslice hs (eFlt .f32) ([(l0.getD ((IntKind.i64.wrap ((IntKind.i64.wrap ((l0.length : Int) - (1 : Int))) - x129))).toNat (0 : Nat))] : List (Nat)) [[(.flt .f32 (l0.getD ((IntKind.i64.wrap ((IntKind.i64.wrap ((l0.length : Int) - (1 : Int))) - x129))).toNat (0 : Nat)))]] F154.te24 F154.sz26 F154.ze26 rfl rfl rfl rfl (fun _ => rfl) rfl (by decide) nofun (fun v139 H140 nv139 hs => ?_)
      obtain ⟨c144, h⟩ := h
      refine sv_app hs 1 rfl (hs.shows 0 rfl) (fun _ => rfl) (by decide) F154.ta24_24 (by decide) c144 rfl rfl nofun (fun v142 H143 kv142 hs => ?_)
      replace hs := hs.del 0
      have nv142 := kv142 nv128
      refine so_assign (v := (.v v142)) rfl ?_
      refine so_nil ?_
      refine fi_inBlock ?_
      refine fi_region ?_
      refine so_bin rfl rfl ab_add ?_
      refine so_move (v := (.v (.int .i64 (IntKind.i64.wrap (x129 + (1 : Int)))))) rfl ?_
      refine so_nil ?_
      exact fi_at [(1, (.v (.ptr id101 0))), (3, (.v v142)), (9, (.v (.int .i64 (l0.length : Int)))), (10, (.v (.int .i64 (IntKind.i64.wrap (x129 + (1 : Int))))))] ⟨rfl, rfl, rfl, rfl, trivial⟩ (h _ _ _ nv142 hs)
  · refine fi_false rfl (decide_eq_false c130) ?_
    refine fi_exit rfl ?_
    refine fi_seq ?_
    refine fi_region ?_
    refine so_move (v := (.v v128)) rfl ?_
    refine so_assign (v := (.v v128)) rfl ?_
    refine so_nil ?_
    exact by_ret rfl ⟨_, h, _, rfl, (Sep.del 1 hs)⟩
theorem F136.ag24 : tagg Try.prog 24 = some false := by kernel_rfl
theorem F136.ag26 : tagg Try.prog 26 = some false := by kernel_rfl
theorem F136.ag46 : tagg Try.prog 46 = some true := by kernel_rfl
theorem F136.fd46_0 : tfield Try.prog 46 0 = some (0, 1, false) := by kernel_rfl
theorem F136.inf46 : (Try.prog.info? 46).isSome = true := by kernel_rfl
theorem F136.sz24 : tsz Try.prog 24 = some 1 := by kernel_rfl
theorem F136.sz26 : tsz Try.prog 26 = some 1 := by kernel_rfl
theorem F136.sz46 : tsz Try.prog 46 = some 1 := by kernel_rfl
theorem F136.ta24_24 : tapp Try.prog 24 24 = some (1, 4) := by kernel_rfl
theorem F136.te24 : telem Try.prog 24 = some 26 := by kernel_rfl
theorem F136.te72 : telem Try.prog 72 = some 24 := by kernel_rfl
theorem F136.ti24 : (telem Try.prog 24).isSome = true := by kernel_rfl
theorem F136.tl24 : (telem Try.prog 24).bind (tsz Try.prog) = some 1 := by kernel_rfl
theorem F136.ze24 : tzero Try.prog 24 = some [.nilsl] := by kernel_rfl
theorem F136.ze26 : tzero Try.prog 26 = some [(.flt .f32 (0 : Nat))] := by kernel_rfl
theorem impl_SplitRing_ok {fr : List Pc} {H : Heap} (v0 : AV) (l0 : List (Nat)) (v1 : AV) (l1 : List (Nat)) (hs : Sep H (fr)) (g0 : ∀ H, Sep H fr → Shows H v0 1 (enc (eFlt .f32) l0)) (g1 : ∀ H, Sep H fr → Shows H v1 1 (enc (eFlt .f32) l1)) (K : (List (Nat)) → (List (Nat)) → Bool → Prop) (h : impl_SplitRing.wp l0 l1 K) : OkQ Try.prog 136 [(.v v0), (.g [v1])] H (fun r H2 => ∃ (y0 : List (Nat)) (y1 : List (Nat)) (y2 : Bool), K y0 y1 y2 ∧ ∃ (w0_ : AV) (w1_ : AV), r = (.t [(.v w0_), (.v w1_), (.v (.bool y2))]) ∧ Sep H2 (Pc.osl w0_ 1 (enc (eFlt .f32) y0) :: Pc.osl w1_ 1 (enc (eFlt .f32) y1) :: fr)) := by
  unfold impl_SplitRing.wp at h
  refine of_body Try.f136 F.hm Try.func136 rfl Try.call136 (by kernel_rfl) (by simp) ?_
  refine fi_seq ?_
  refine fi_region ?_
  refine sv_box hs rfl (c := [v1]) rfl F136.inf46 (stc (g1 _ hs).stor stn) nofun (fun id101 H102 hs => ?_)
  refine so_assign (v := (.v .nilsl)) rfl ?_
  refine so_assign (v := (.v .nilsl)) rfl ?_
  refine so_assign (v := (.v (.bool false))) rfl ?_
  refine so_nil ?_
  refine fi_seq ?_
  refine fi_region ?_
  refine so_move (v := (.v v0)) rfl ?_
  refine sv_len (g0 _ hs.tl) (fun _ => rfl) (by decide) rfl F136.ti24 ?_
  refine so_assign (v := (.v (.int .i64 (l0.length : Int)))) rfl ?_
  refine so_nil ?_
  refine fi_seq ?_
  refine fi_seq ?_
  refine fi_region ?_
  refine so_move (v := (.v v0)) rfl ?_
  refine sv_callS (impl_isLong_okS v0 l0 hs (fun _ hs => (g0 _ hs.tl)) _ h) (fun _ _ ⟨_, _, _, e⟩ => e) rfl rfl ?_
  clear h
  rintro _ _ ⟨y104, h, rfl, rfl⟩
  refine so_un rfl au_not ?_
  refine so_move (v := (.v (.bool (!y104)))) rfl ?_
  replace h := ofT h; rcases h with ⟨c106, h⟩ | ⟨c106, h⟩
  · refine so_gyes rfl (not_f c106) ?_
    refine so_move (v := (.v (.int .i64 (l0.length : Int)))) rfl ?_
    refine so_gyes rfl (not_f c106) ?_
    refine so_bin rfl rfl (ab_rem (by decide)) ?_
    refine so_gyes rfl (not_f c106) ?_
    refine so_bin rfl rfl ab_eql ?_
    refine so_pick_f (v := (.v (.bool (decide ((Int.tmod (l0.length : Int) (2 : Int)) = (1 : Int)))))) rfl (not_f c106) rfl ?_
    refine so_move (v := (.v (.bool (decide ((Int.tmod (l0.length : Int) (2 : Int)) = (1 : Int)))))) rfl ?_
    replace h := ofP h; rcases h with ⟨c107, h⟩ | ⟨c107, h⟩
    · refine so_gno rfl (decide_eq_true c107) ?_
      refine so_gno rfl (decide_eq_true c107) ?_
      refine so_gno rfl (decide_eq_true c107) ?_
      refine so_pick_t (v := (.v (.bool true))) rfl (decide_eq_true c107) rfl ?_
      refine so_nil ?_
      refine fi_true rfl rfl ?_
      refine fi_seq ?_
      refine fi_region ?_
      refine so_assign (v := (.v .nilsl)) rfl ?_
      refine so_assign (v := (.v .nilsl)) rfl ?_
      refine so_assign (v := (.v (.bool false))) rfl ?_
      refine so_nil ?_
      exact by_ret rfl ⟨_, _, _, h, _, _, rfl, (Sep.nil (Sep.nil (Sep.del 0 hs) 1) 1)⟩
    · refine so_gyes rfl (decide_eq_false c107) ?_
      refine sv_lds hs 0 rfl rfl (leb rfl) rfl F136.ag46 F136.sz46 ?_
      refine so_gyes rfl (decide_eq_false c107) ?_
      refine sv_callS (impl_ValidPair_okS v1 l1 hs (fun _ hs => (g1 _ hs.tl)) _ h) (fun _ _ ⟨_, _, _, e⟩ => e) rfl rfl ?_
      clear h
      rintro _ _ ⟨y108, h, rfl, rfl⟩
      refine so_gyes rfl (decide_eq_false c107) ?_
      refine so_un rfl au_not ?_
      refine so_pick_f (v := (.v (.bool (!y108)))) rfl (decide_eq_false c107) rfl ?_
      refine so_nil ?_
      replace h := ofT h; rcases h with ⟨c110, h⟩ | ⟨c110, h⟩
      · refine fi_false rfl (not_f c110) ?_
        refine fi_skip ?_
        refine fi_seq ?_
        refine fi_region ?_
        refine sv_lds hs 0 rfl rfl (leb rfl) rfl F136.ag46 F136.sz46 ?_
        refine sv_call (impl_highOf_ok v1 l1 hs (fun _ hs => (g1 _ hs.tl)) _ h) rfl rfl nofun ?_
        clear h hs
        rintro _ H114 ⟨y111, h, v112, rfl, hs⟩
        refine so_assign (v := (.v v112)) rfl ?_
        refine so_nil ?_
        refine fi_seq ?_
        refine fi_region ?_
        refine sv_bslice hs (eFlt .f32) ([] : List (Nat)) [] F136.te24 F136.sz26 F136.ze26 rfl rfl rfl rfl (fun _ => rfl) rfl (by decide) nofun (fun v115 H116 nv115 hs => ?_)
        refine sv_bslice hs (eFlt .f32) ([] : List (Nat)) [] F136.te24 F136.sz26 F136.ze26 rfl rfl rfl rfl (fun _ => rfl) rfl (by decide) nofun (fun v118 H119 nv118 hs => ?_)
        refine so_assign (v := (.v v115)) rfl ?_
        refine so_assign (v := (.v v118)) rfl ?_
        refine so_nil ?_
        refine fi_seq ?_
        refine fi_seq ?_
        refine fi_region ?_
        refine so_move (v := (.v (.int .i64 (l0.length : Int)))) rfl ?_
        refine so_bin rfl rfl (ab_quo (by decide)) ?_
        refine so_move (v := (.v (.int .i64 (0 : Int)))) rfl ?_
        refine so_nil ?_
        refine fi_block ?_
        refine fi_loop ?_
        refine fi_at [(0, (.v v0)), (3, (.v (.ptr id101 0))), (7, (.v (.int .i64 (l0.length : Int)))), (8, (.v v112)), (9, (.v v115)), (10, (.v v118)), (37, (.v (.int .i64 (IntKind.i64.wrap (Int.tdiv (l0.length : Int) (2 : Int)))))), (38, (.v (.int .i64 (0 : Int))))] ⟨rfl, rfl, rfl, rfl, rfl, rfl, rfl, rfl, trivial⟩ ?_
        refine h (fun (two158 : List (Nat)) (one160 : List (Nat)) (x162 : Int) => ∀ (s : Nat → TV) (H : Heap) (v159 : AV) (nv159 : v159 ≠ .nilsl) (v161 : AV) (nv161 : v161 ≠ .nilsl), Sep H (Pc.osl v159 1 (enc (eFlt .f32) two158) :: Pc.osl v161 1 (enc (eFlt .f32) one160) :: Pc.osl v112 1 (enc (eFlt .f32) y111) :: Pc.box id101 [v1] :: fr) → Fin _ _ (updL s [(0, (.v v0)), (3, (.v (.ptr id101 0))), (7, (.v (.int .i64 (l0.length : Int)))), (8, (.v v112)), (9, (.v v161)), (10, (.v v159)), (37, (.v (.int .i64 (IntKind.i64.wrap (Int.tdiv (l0.length : Int) (2 : Int)))))), (38, (.v (.int .i64 x162)))]) H _) ?_ _ _ _ nv118 _ nv115 hs
        intro two158 one160 x162 h s193 H194 v159 nv159 v161 nv161 hs
        refine fi_inLoop ?_
        refine fi_seq ?_
        refine fi_region ?_
        refine so_bin rfl rfl ab_lss ?_
        refine so_nil ?_
        refine fi_seq ?_
        replace h := ofP h; rcases h with ⟨c163, h⟩ | ⟨c163, h⟩
        · refine fi_true rfl (decide_eq_true c163) ?_
          refine fi_skip ?_
          refine fi_seq ?_
          refine fi_block ?_
          refine fi_seq ?_
          refine fi_region ?_
          refine so_move (v := (.v (.int .i64 x162))) rfl ?_
          refine so_assign (v := (.v (.int .i64 x162))) rfl ?_
          refine so_nil ?_
          refine fi_seq ?_
          refine fi_region ?_
          refine so_assign (v := (.v (.flt .f32 (cz .f32 0)))) rfl ?_
          refine so_assign (v := (.v (.flt .f32 (cz .f32 0)))) rfl ?_
          refine so_nil ?_
          refine fi_seq ?_
          refine fi_seq ?_
          refine fi_region ?_
          refine so_fieldAddr rfl F136.fd46_0 ?_
          refine sv_ld hs 3 rfl rfl rfl F136.ag24 ?_
          refine sv_len (g1 _ hs.tl.tl.tl.tl) (fun _ => rfl) (by decide) rfl F136.ti24 ?_
          refine so_move (v := (.v (.int .i64 (0 : Int)))) rfl ?_
          refine so_nil ?_
          refine fi_block ?_
          refine fi_loop ?_
          refine fi_at [(0, (.v v0)), (3, (.v (.ptr id101 0))), (7, (.v (.int .i64 (l0.length : Int)))), (8, (.v v112)), (9, (.v v161)), (10, (.v v159)), (11, (.v (.int .i64 x162))), (12, (.v (.flt .f32 (cz .f32 0)))), (13, (.v (.flt .f32 (cz .f32 0)))), (37, (.v (.int .i64 (IntKind.i64.wrap (Int.tdiv (l0.length : Int) (2 : Int)))))), (38, (.v (.int .i64 x162))), (42, (.v v1)), (43, (.v (.int .i64 (l1.length : Int)))), (44, (.v (.int .i64 (0 : Int))))] ⟨rfl, rfl, rfl, rfl, rfl, rfl, rfl, rfl, rfl, rfl, rfl, rfl, rfl, rfl, trivial⟩ ?_
          refine h (fun (a165 : Nat) (b166 : Nat) (x167 : Int) => ∀ (s : Nat → TV) (H : Heap), Sep H (Pc.osl v159 1 (enc (eFlt .f32) two158) :: Pc.osl v161 1 (enc (eFlt .f32) one160) :: Pc.osl v112 1 (enc (eFlt .f32) y111) :: Pc.box id101 [v1] :: fr) → Fin _ _ (updL s [(0, (.v v0)), (3, (.v (.ptr id101 0))), (7, (.v (.int .i64 (l0.length : Int)))), (8, (.v v112)), (9, (.v v161)), (10, (.v v159)), (11, (.v (.int .i64 x162))), (12, (.v (.flt .f32 a165))), (13, (.v (.flt .f32 b166))), (37, (.v (.int .i64 (IntKind.i64.wrap (Int.tdiv (l0.length : Int) (2 : Int)))))), (38, (.v (.int .i64 x162))), (42, (.v v1)), (43, (.v (.int .i64 (l1.length : Int)))), (44, (.v (.int .i64 x167)))]) H _) ?_ _ _ hs
          intro a165 b166 x167 h s185 H186 hs
          refine fi_inLoop ?_
          refine fi_seq ?_
          refine fi_region ?_
          refine so_bin rfl rfl ab_lss ?_
          refine so_nil ?_
          refine fi_seq ?_
          replace h := ofP h; rcases h with ⟨c168, h⟩ | ⟨c168, h⟩
          · refine fi_true rfl (decide_eq_true c168) ?_
            refine fi_skip ?_
            refine fi_seq ?_
            refine fi_block ?_
            refine fi_seq ?_
            refine fi_region ?_
            refine so_move (v := (.v (.int .i64 x167))) rfl ?_
            obtain ⟨c169, h⟩ := h
            refine sv_idx (g1 _ hs.tl.tl.tl.tl) c169 (fun _ => rfl) (by decide) rfl rfl F136.tl24 ?_
            refine sv_cell (g1 _ hs.tl.tl.tl.tl) c169 (0 : Nat) 0 (fun x => (AV.flt .f32 x)) (fun _ => rfl) (fun _ => rfl) rfl F136.ag26 ?_
            refine so_assign (v := (.v (.int .i64 x167))) rfl ?_
            refine so_assign (v := (.v (.flt .f32 (l1.getD (x167).toNat (0 : Nat))))) rfl ?_
            refine so_nil ?_
            refine fi_seq ?_
            refine fi_region ?_
            refine so_move (v := (.v v0)) rfl ?_
            refine so_move (v := (.v (.int .i64 x162))) rfl ?_
            refine so_bin rfl rfl ab_mul ?_
            refine so_move (v := (.v (.int .i64 x167))) rfl ?_
            refine so_bin rfl rfl ab_add ?_
            refine so_move (v := (.v (.int .i64 (l0.length : Int)))) rfl ?_
            obtain ⟨c170, h⟩ := h
            refine so_bin rfl rfl (ab_rem c170) ?_
            obtain ⟨c171, h⟩ := h
            refine sv_idx (g0 _ hs.tl.tl.tl.tl) c171 (fun _ => rfl) (by decide) rfl rfl F136.tl24 ?_
            refine sv_cell (g0 _ hs.tl.tl.tl.tl) c171 (0 : Nat) 0 (fun x => (AV.flt .f32 x)) (fun _ => rfl) (fun _ => rfl) rfl F136.ag26 ?_
            refine so_assign (v := (.v (.flt .f32 (l0.getD ((Int.tmod (IntKind.i64.wrap ((IntKind.i64.wrap ((2 : Int) * x162)) + x167)) (l0.length : Int))).toNat (0 : Nat))))) rfl ?_
            refine so_nil ?_
            refine fi_seq ?_
            refine fi_region ?_
            refine so_move (v := (.v (.flt .f32 a165))) rfl ?_
            refine so_move (v := (.v (.flt .f32 (l1.getD (x167).toNat (0 : Nat))))) rfl ?_
            refine so_move (v := (.v (.flt .f32 (l0.getD ((Int.tmod (IntKind.i64.wrap ((IntKind.i64.wrap ((2 : Int) * x162)) + x167)) (l0.length : Int))).toNat (0 : Nat))))) rfl ?_
            refine so_bin rfl rfl ab_fmul ?_
            refine so_bin rfl rfl ab_fadd ?_
            refine so_assign (v := (.v (.flt .f32 (fop .add .f32 a165 (fop .mul .f32 (l1.getD (x167).toNat (0 : Nat)) (l0.getD ((Int.tmod (IntKind.i64.wrap ((IntKind.i64.wrap ((2 : Int) * x162)) + x167)) (l0.length : Int))).toNat (0 : Nat))))))) rfl ?_
            refine so_nil ?_
            refine fi_region ?_
            refine so_move (v := (.v (.flt .f32 b166))) rfl ?_
            refine so_move (v := (.v v112)) rfl ?_
            refine so_move (v := (.v (.int .i64 x167))) rfl ?_
            obtain ⟨c172, h⟩ := h
            refine sv_idx (hs.shows 2 rfl) c172 (fun _ => rfl) (by decide) rfl rfl F136.tl24 ?_
            refine sv_cell (hs.shows 2 rfl) c172 (0 : Nat) 0 (fun x => (AV.flt .f32 x)) (fun _ => rfl) (fun _ => rfl) rfl F136.ag26 ?_
            refine so_move (v := (.v (.flt .f32 (l0.getD ((Int.tmod (IntKind.i64.wrap ((IntKind.i64.wrap ((2 : Int) * x162)) + x167)) (l0.length : Int))).toNat (0 : Nat))))) rfl ?_
            refine so_bin rfl rfl ab_fmul ?_
            refine so_bin rfl rfl ab_fadd ?_
            refine so_assign (v := (.v (.flt .f32 (fop .add .f32 b166 (fop .mul .f32 (y111.getD (x167).toNat (0 : Nat)) (l0.getD ((Int.tmod (IntKind.i64.wrap ((IntKind.i64.wrap ((2 : Int) * x162)) + x167)) (l0.length : Int))).toNat (0 : Nat))))))) rfl ?_
            refine so_nil ?_
            refine fi_inBlock ?_
            refine fi_region ?_
            refine so_bin rfl rfl ab_add ?_
            refine so_move (v := (.v (.int .i64 (IntKind.i64.wrap (x167 + (1 : Int)))))) rfl ?_
            refine so_nil ?_
            exact fi_at [(0, (.v v0)), (3, (.v (.ptr id101 0))), (7, (.v (.int .i64 (l0.length : Int)))), (8, (.v v112)), (9, (.v v161)), (10, (.v v159)), (11, (.v (.int .i64 x162))), (12, (.v (.flt .f32 (fop .add .f32 a165 (fop .mul .f32 (l1.getD (x167).toNat (0 : Nat)) (l0.getD ((Int.tmod (IntKind.i64.wrap ((IntKind.i64.wrap ((2 : Int) * x162)) + x167)) (l0.length : Int))).toNat (0 : Nat))))))), (13, (.v (.flt .f32 (fop .add .f32 b166 (fop .mul .f32 (y111.getD (x167).toNat (0 : Nat)) (l0.getD ((Int.tmod (IntKind.i64.wrap ((IntKind.i64.wrap ((2 : Int) * x162)) + x167)) (l0.length : Int))).toNat (0 : Nat))))))), (37, (.v (.int .i64 (IntKind.i64.wrap (Int.tdiv (l0.length : Int) (2 : Int)))))), (38, (.v (.int .i64 x162))), (42, (.v v1)), (43, (.v (.int .i64 (l1.length : Int)))), (44, (.v (.int .i64 (IntKind.i64.wrap (x167 + (1 : Int))))))] ⟨rfl, rfl, rfl, rfl, rfl, rfl, rfl, rfl, rfl, rfl, rfl, rfl, rfl, rfl, trivial⟩ (h _ _  hs)
          · refine fi_false rfl (decide_eq_false c168) ?_
            refine fi_exit rfl ?_
            refine fi_region ?_
            refine so_move (v := (.v v161)) rfl ?_
            refine so_move (v := (.v (.flt .f32 a165))) rfl ?_
            refine sv_bslice hs (eFlt .f32) ([a165] : List (Nat)) [[(.flt .f32 a165)]] F136.te24 F136.sz26 F136.ze26 rfl rfl rfl rfl (fun _ => rfl) rfl (by decide) nofun (fun v173 H174 nv173 hs => ?_)
            obtain ⟨c178, h⟩ := h
            refine sv_app hs 2 rfl (hs.shows 0 rfl) (fun _ => rfl) (by decide) F136.ta24_24 (by decide) c178 rfl rfl nofun (fun v176 H177 kv176 hs => ?_)
            replace hs := hs.del 0
            have nv176 := kv176 nv161
            refine so_move (v := (.v v159)) rfl ?_
            refine so_move (v := (.v (.flt .f32 b166))) rfl ?_
            refine sv_bslice hs (eFlt .f32) ([b166] : List (Nat)) [[(.flt .f32 b166)]] F136.te24 F136.sz26 F136.ze26 rfl rfl rfl rfl (fun _ => rfl) rfl (by decide) nofun (fun v179 H180 nv179 hs => ?_)
            obtain ⟨c184, h⟩ := h
            refine sv_app hs 1 rfl (hs.shows 0 rfl) (fun _ => rfl) (by decide) F136.ta24_24 (by decide) c184 rfl rfl nofun (fun v182 H183 kv182 hs => ?_)
            replace hs := hs.del 0
            have nv182 := kv182 nv159
            refine so_assign (v := (.v v176)) rfl ?_
            refine so_assign (v := (.v v182)) rfl ?_
            refine so_nil ?_
            refine fi_inBlock ?_
            refine fi_region ?_
            refine so_bin rfl rfl ab_add ?_
            refine so_move (v := (.v (.int .i64 (IntKind.i64.wrap (x162 + (1 : Int)))))) rfl ?_
            refine so_nil ?_
            exact fi_at [(0, (.v v0)), (3, (.v (.ptr id101 0))), (7, (.v (.int .i64 (l0.length : Int)))), (8, (.v v112)), (9, (.v v176)), (10, (.v v182)), (37, (.v (.int .i64 (IntKind.i64.wrap (Int.tdiv (l0.length : Int) (2 : Int)))))), (38, (.v (.int .i64 (IntKind.i64.wrap (x162 + (1 : Int))))))] ⟨rfl, rfl, rfl, rfl, rfl, rfl, rfl, rfl, trivial⟩ (h _ _ _ nv182 _ nv176 hs)
        · refine fi_false rfl (decide_eq_false c163) ?_
          refine fi_exit rfl ?_
          refine fi_seq ?_
          refine fi_seq ?_
          refine fi_region ?_
          refine so_move (v := (.v v161)) rfl ?_
          refine so_move (v := (.v v159)) rfl ?_
          refine sd_bslice hs [[v161], [v159]] F136.te72 F136.sz24 F136.ze24 rfl rfl rfl (by simp) (fac (stc (hs.shows 1 rfl).stor stn) (fac (stc (hs.shows 0 rfl).stor stn) fan)) (by decide) rfl nofun (fun v187 H188 _ hs => ?_)
          refine sv_callS (impl_areFinite_ok v187 ([[v161], [v159]]) ([one160, two158] : List (List (Nat))) hs (fun _ hs => ⟨hs.shows 0 rfl, by simp, ⟨⟨rfl, (hs.shows 2 rfl)⟩, ⟨⟨rfl, (hs.shows 1 rfl)⟩, trivial⟩⟩⟩) _ h) (fun _ _ ⟨_, _, _, e⟩ => e) rfl rfl ?_
          clear h
          rintro _ _ ⟨y190, h, rfl, rfl⟩
          refine so_un rfl au_not ?_
          refine so_nil ?_
          replace h := ofT h; rcases h with ⟨c192, h⟩ | ⟨c192, h⟩
          · refine fi_false rfl (not_f c192) ?_
            refine fi_skip ?_
            refine fi_seq ?_
            refine fi_region ?_
            refine so_move (v := (.v v161)) rfl ?_
            refine so_move (v := (.v v159)) rfl ?_
            refine so_assign (v := (.v v161)) rfl ?_
            refine so_assign (v := (.v v159)) rfl ?_
            refine so_assign (v := (.v (.bool true))) rfl ?_
            refine so_nil ?_
            exact by_ret rfl ⟨_, _, _, h, _, _, rfl, (Sep.front 1 (Sep.del 2 (Sep.del 2 (Sep.del 0 hs))) rfl)⟩
          · refine fi_true rfl (not_t c192) ?_
            refine fi_seq ?_
            refine fi_region ?_
            refine so_assign (v := (.v .nilsl)) rfl ?_
            refine so_assign (v := (.v .nilsl)) rfl ?_
            refine so_assign (v := (.v (.bool false))) rfl ?_
            refine so_nil ?_
            exact by_ret rfl ⟨_, _, _, h, _, _, rfl, (Sep.nil (Sep.nil (Sep.dropn 5 hs) 1) 1)⟩
      · refine fi_true rfl (not_t c110) ?_
        refine fi_seq ?_
        refine fi_region ?_
        refine so_assign (v := (.v .nilsl)) rfl ?_
        refine so_assign (v := (.v .nilsl)) rfl ?_
        refine so_assign (v := (.v (.bool false))) rfl ?_
        refine so_nil ?_
        exact by_ret rfl ⟨_, _, _, h, _, _, rfl, (Sep.nil (Sep.nil (Sep.del 0 hs) 1) 1)⟩
  · refine so_gno rfl (not_t c106) ?_
    refine so_gno rfl (not_t c106) ?_
    refine so_gno rfl (not_t c106) ?_
    refine so_pick_t (v := (.v (.bool true))) rfl (not_t c106) rfl ?_
    refine so_move (v := (.v (.bool true))) rfl ?_
    refine so_gno rfl rfl ?_
    refine so_gno rfl rfl ?_
    refine so_gno rfl rfl ?_
    refine so_pick_t (v := (.v (.bool true))) rfl rfl rfl ?_
    refine so_nil ?_
    refine fi_true rfl rfl ?_
    refine fi_seq ?_
    refine fi_region ?_
    refine so_assign (v := (.v .nilsl)) rfl ?_
    refine so_assign (v := (.v .nilsl)) rfl ?_
    refine so_assign (v := (.v (.bool false))) rfl ?_
    refine so_nil ?_
    exact by_ret rfl ⟨_, _, _, h, _, _, rfl, (Sep.nil (Sep.nil (Sep.del 0 hs) 1) 1)⟩
theorem F90.sz26 : tsz Try.prog 26 = some 1 := by kernel_rfl
theorem F90.ta24_24 : tapp Try.prog 24 24 = some (1, 4) := by kernel_rfl
theorem F90.te24 : telem Try.prog 24 = some 26 := by kernel_rfl
theorem F90.ze26 : tzero Try.prog 26 = some [(.flt .f32 (0 : Nat))] := by kernel_rfl
theorem impl_copyOf_ok {fr : List Pc} {H : Heap} (v0 : AV) (l0 : List (Nat)) (hs : Sep H (fr)) (g0 : ∀ H, Sep H fr → Shows H v0 1 (enc (eFlt .f32) l0)) (K : (List (Nat)) → Prop) (h : impl_copyOf.wp l0 K) : OkQ Try.prog 90 [(.v v0)] H (fun r H2 => ∃ (y0 : List (Nat)), K y0 ∧ ∃ (w0_ : AV), r = (.v w0_) ∧ Sep H2 (Pc.osl w0_ 1 (enc (eFlt .f32) y0) :: fr)) := by
  unfold impl_copyOf.wp at h
  refine of_body Try.f90 F.hm Try.func90 rfl Try.call90 (by kernel_rfl) (by simp) ?_
  refine fi_seq ?_
  refine fi_region ?_
  refine so_assign (v := (.v .nilsl)) rfl ?_
  refine so_nil ?_
  refine fi_seq ?_
  refine fi_region ?_
  refine sv_bslice hs (eFlt .f32) ([] : List (Nat)) [] F90.te24 F90.sz26 F90.ze26 rfl rfl rfl rfl (fun _ => rfl) rfl (by decide) nofun (fun v101 H102 nv101 hs => ?_)
  refine so_move (v := (.v v0)) rfl ?_
  obtain ⟨c106, h⟩ := h
  refine sv_app hs 0 rfl (g0 _ hs.tl) (fun _ => rfl) (by decide) F90.ta24_24 (by decide) c106 rfl rfl nofun (fun v104 H105 kv104 hs => ?_)
  have nv104 := kv104 nv101
  refine so_assign (v := (.v v104)) rfl ?_
  refine so_nil ?_
  exact by_ret rfl ⟨_, h, _, rfl, hs⟩
theorem F105.ag24 : tagg Try.prog 24 = some false := by kernel_rfl
theorem F105.ag46 : tagg Try.prog 46 = some true := by kernel_rfl
theorem F105.ag72 : tagg Try.prog 72 = some false := by kernel_rfl
theorem F105.ag91 : tagg Try.prog 91 = some true := by kernel_rfl
theorem F105.bp91 : bplan Try.prog 91 = some ([.nilsl, .nilsl], [(0, 1), (1, 1)]) := by kernel_rfl
theorem F105.fd91_0 : tfield Try.prog 91 0 = some (0, 1, false) := by kernel_rfl
theorem F105.fd91_1 : tfield Try.prog 91 1 = some (1, 1, false) := by kernel_rfl
theorem F105.inf46 : (Try.prog.info? 46).isSome = true := by kernel_rfl
theorem F105.sz24 : tsz Try.prog 24 = some 1 := by kernel_rfl
theorem F105.sz46 : tsz Try.prog 46 = some 1 := by kernel_rfl
theorem F105.sz72 : tsz Try.prog 72 = some 1 := by kernel_rfl
theorem F105.sz91 : tsz Try.prog 91 = some 2 := by kernel_rfl
theorem F105.ta72_72 : tapp Try.prog 72 72 = some (1, 24) := by kernel_rfl
theorem F105.te72 : telem Try.prog 72 = some 24 := by kernel_rfl
theorem F105.ti24 : (telem Try.prog 24).isSome = true := by kernel_rfl
theorem F105.ze24 : tzero Try.prog 24 = some [.nilsl] := by kernel_rfl
theorem F105.ze91 : tzero Try.prog 91 = some [.nilsl, .nilsl] := by kernel_rfl
theorem impl_SplitLevels_ok {fr : List Pc} {H : Heap} (v0 : AV) (l0 : List (Nat)) (v1 : AV) (l1 : List (Nat)) (a2 : Int) (hs : Sep H (fr)) (g0 : ∀ H, Sep H fr → Shows H v0 1 (enc (eFlt .f32) l0)) (g1 : ∀ H, Sep H fr → Shows H v1 1 (enc (eFlt .f32) l1)) (K : (List (Nat)) → (List (List (Nat))) → Bool → Prop) (h : impl_SplitLevels.wp l0 l1 a2 K) : OkQ Try.prog 105 [(.v v0), (.g [v1]), (.v (.int .i64 a2))] H (fun r H2 => ∃ (y0 : List (Nat)) (y1 : List (List (Nat))) (y2 : Bool), K y0 y1 y2 ∧ ∃ (w0_ : AV) (w1_ : AV) (wsw1_ : List (List AV)) (Sw1_ : Nat → Prop), r = (.t [(.g [w0_, w1_]), (.v (.bool y2))]) ∧ Sep H2 (Pc.osl w0_ 1 (enc (eFlt .f32) y0) :: dpc w1_ 1 R_LeFlt_f32_o IR_LeFlt_f32_o y1 wsw1_ Sw1_ :: fr)) := by
  unfold impl_SplitLevels.wp at h
  refine of_body Try.f105 F.hm Try.func105 rfl Try.call105 (by kernel_rfl) (by simp) ?_
  refine fi_seq ?_
  refine fi_region ?_
  refine sv_box hs rfl (c := [v1]) rfl F105.inf46 (stc (g1 _ hs).stor stn) nofun (fun id101 H102 hs => ?_)
  refine sv_alloc hs F105.ze91 rfl nofun (fun id104 H105 hs => ?_)
  refine so_assign (v := (.v (.bool false))) rfl ?_
  refine so_nil ?_
  refine fi_seq ?_
  refine fi_seq ?_
  refine fi_region ?_
  refine so_move (v := (.v v0)) rfl ?_
  refine sv_callS (impl_isLong_okS v0 l0 hs (fun _ hs => (g0 _ hs.tl.tl)) _ h) (fun _ _ ⟨_, _, _, e⟩ => e) rfl rfl ?_
  clear h
  rintro _ _ ⟨y107, h, rfl, rfl⟩
  refine so_un rfl au_not ?_
  refine so_move (v := (.v (.bool (!y107)))) rfl ?_
  replace h := ofT h; rcases h with ⟨c109, h⟩ | ⟨c109, h⟩
  · refine so_gyes rfl (not_f c109) ?_
    refine sv_lds hs 1 rfl rfl (leb rfl) rfl F105.ag46 F105.sz46 ?_
    refine so_gyes rfl (not_f c109) ?_
    refine sv_callS (impl_ValidPair_okS v1 l1 hs (fun _ hs => (g1 _ hs.tl.tl)) _ h) (fun _ _ ⟨_, _, _, e⟩ => e) rfl rfl ?_
    clear h
    rintro _ _ ⟨y110, h, rfl, rfl⟩
    refine so_gyes rfl (not_f c109) ?_
    refine so_un rfl au_not ?_
    refine so_pick_f (v := (.v (.bool (!y110)))) rfl (not_f c109) rfl ?_
    refine so_move (v := (.v (.bool (!y110)))) rfl ?_
    replace h := ofT h; rcases h with ⟨c112, h⟩ | ⟨c112, h⟩
    · refine so_gyes rfl (not_f c112) ?_
      refine so_move (v := (.v (.int .i64 a2))) rfl ?_
      refine so_gyes rfl (not_f c112) ?_
      refine sv_callS (impl_within_ok a2 (1 : Int) (6 : Int) hs  _ h) (fun _ _ ⟨_, _, _, e⟩ => e) rfl rfl ?_
      clear h
      rintro _ _ ⟨y113, h, rfl, rfl⟩
      refine so_gyes rfl (not_f c112) ?_
      refine so_un rfl au_not ?_
      refine so_pick_f (v := (.v (.bool (!y113)))) rfl (not_f c112) rfl ?_
      refine so_move (v := (.v (.bool (!y113)))) rfl ?_
      replace h := ofT h; rcases h with ⟨c115, h⟩ | ⟨c115, h⟩
      · refine so_gyes rfl (not_f c115) ?_
        refine so_move (v := (.v v0)) rfl ?_
        refine so_gyes rfl (not_f c115) ?_
        refine sv_len (g0 _ hs.tl.tl) (fun _ => rfl) (by decide) rfl F105.ti24 ?_
        refine so_gyes rfl (not_f c115) ?_
        refine so_move (v := (.v (.int .i64 a2))) rfl ?_
        refine so_gyes rfl (not_f c115) ?_
        obtain ⟨c116, h⟩ := h
        refine so_bin rfl rfl (ab_shl c116) ?_
        refine so_gyes rfl (not_f c115) ?_
        obtain ⟨c117, h⟩ := h
        refine so_bin rfl rfl (ab_rem c117) ?_
        refine so_gyes rfl (not_f c115) ?_
        refine so_bin rfl rfl ab_neq ?_
        refine so_pick_f (v := (.v (.bool (!(decide ((Int.tmod (l0.length : Int) (IntKind.i64.wrap ((1 : Int) * (2 ^ (min (a2).toNat IntKind.i64.bits))))) = (0 : Int))))))) rfl (not_f c115) rfl ?_
        refine so_nil ?_
        replace h := ofP h; rcases h with ⟨c118, h⟩ | ⟨c118, h⟩
        · refine fi_false rfl (not_f (decide_eq_true c118)) ?_
          refine fi_skip ?_
          refine fi_seq ?_
          refine fi_region ?_
          refine so_move (v := (.v v0)) rfl ?_
          refine sv_call (impl_copyOf_ok v0 l0 hs (fun _ hs => (g0 _ hs.tl.tl)) _ h) rfl rfl nofun ?_
          clear h hs
          rintro _ H122 ⟨y119, h, v120, rfl, hs⟩
          refine so_build F105.bp91 (cps := [(0, [v120])]) rfl (fac (stc (hs.shows 0 rfl).stor stn) fan) rfl ?_
          refine sv_alloc hs F105.ze91 rfl nofun (fun id123 H124 hs => ?_)
          refine sv_st hs 0 rfl rfl rfl (c := [v120, .nilsl]) rfl F105.sz91 rfl (stc (hs.shows 1 rfl).stor (stc rfl stn)) (leb rfl) (cs' := [v120, .nilsl]) rfl nofun (fun H126 hs => ?_)
          refine so_nil ?_
          refine fi_seq ?_
          refine fi_seq ?_
          refine fi_region ?_
          refine so_move (v := (.v (.int .i64 a2))) rfl ?_
          refine so_move (v := (.v (.int .i64 (0 : Int)))) rfl ?_
          refine so_nil ?_
          refine fi_block ?_
          refine fi_loop ?_
          replace hs := hs.dnil 1 R_LeFlt_f32_o IR_LeFlt_f32_o
          replace hs := hs.nil 1
          replace hs := hs.dnil 1 R_LeFlt_f32_o IR_LeFlt_f32_o
          refine fi_at [(4, (.v (.ptr id101 0))), (6, (.v (.ptr id104 0))), (8, (.v (.ptr id123 0))), (37, (.v (.int .i64 a2))), (38, (.v (.int .i64 (0 : Int))))] ⟨rfl, rfl, rfl, rfl, rfl, trivial⟩ ?_
          refine h (fun (l178 : List (Nat)) (b181 : List (List (Nat))) (b186 : List (Nat)) (b189 : List (List (Nat))) (x193 : Int) => ∀ (s : Nat → TV) (H : Heap) (v179 : AV) (v182 : AV) (ws183 : List (List AV)) (S184 : Nat → Prop) (v187 : AV) (v190 : AV) (ws191 : List (List AV)) (S192 : Nat → Prop), Sep H (dpc v190 1 R_LeFlt_f32_o IR_LeFlt_f32_o b189 ws191 S192 :: Pc.osl v187 1 (enc (eFlt .f32) b186) :: dpc v182 1 R_LeFlt_f32_o IR_LeFlt_f32_o b181 ws183 S184 :: Pc.box id123 [v179, v182] :: Pc.osl v179 1 (enc (eFlt .f32) l178) :: Pc.box id104 [v187, v190] :: Pc.box id101 [v1] :: fr) → Fin _ _ (updL s [(4, (.v (.ptr id101 0))), (6, (.v (.ptr id104 0))), (8, (.v (.ptr id123 0))), (37, (.v (.int .i64 a2))), (38, (.v (.int .i64 x193)))]) H _) ?_ _ _ _ _ _ _ _ _ _ _ hs
          intro l178 b181 b186 b189 x193 h s216 H217 v179 v182 ws183 S184 v187 v190 ws191 S192 hs
          refine fi_inLoop ?_
          refine fi_seq ?_
          refine fi_region ?_
          refine so_bin rfl rfl ab_lss ?_
          refine so_nil ?_
          refine fi_seq ?_
          replace h := ofP h; rcases h with ⟨c194, h⟩ | ⟨c194, h⟩
          · refine fi_true rfl (decide_eq_true c194) ?_
            refine fi_skip ?_
            refine fi_seq ?_
            refine fi_block ?_
            refine fi_seq ?_
            refine fi_region ?_
            refine so_fieldAddr rfl F105.fd91_0 ?_
            refine sv_ld hs 3 rfl rfl rfl F105.ag24 ?_
            refine sv_lds hs 6 rfl rfl (leb rfl) rfl F105.ag46 F105.sz46 ?_
            refine sv_call (impl_SplitRing_ok v179 l178 v1 l1 hs (fun _ hs => (hs.shows 4 rfl)) (fun _ hs => (g1 _ hs.tl.tl.tl.tl.tl.tl.tl)) _ h) rfl rfl nofun ?_
            clear h hs
            rintro _ H202 ⟨y195, y198, y201, h, v196, v199, rfl, hs⟩
            refine so_move (v := (.t [(.v v196), (.v v199), (.v (.bool y201))])) rfl ?_
            refine so_extract rfl rfl rfl ?_
            refine so_extract rfl rfl rfl ?_
            refine so_extract rfl rfl rfl ?_
            refine so_assign (v := (.v v196)) rfl ?_
            refine so_assign (v := (.v v199)) rfl ?_
            refine so_assign (v := (.v (.bool y201))) rfl ?_
            refine so_nil ?_
            refine fi_seq ?_
            refine fi_seq ?_
            refine fi_region ?_
            refine so_move (v := (.v (.bool y201))) rfl ?_
            refine so_un rfl au_not ?_
            refine so_nil ?_
            replace h := ofT h; rcases h with ⟨c203, h⟩ | ⟨c203, h⟩
            · refine fi_false rfl (not_f c203) ?_
              refine fi_skip ?_
              refine fi_seq ?_
              refine fi_region ?_
              refine so_move (v := (.v v196)) rfl ?_
              refine so_fieldAddr rfl F105.fd91_0 ?_
              refine sv_st hs 5 rfl rfl rfl (c := [v196]) rfl F105.sz24 rfl (stc (hs.shows 0 rfl).stor stn) (leb rfl) (cs' := [v196, v182]) rfl nofun (fun H204 hs => ?_)
              refine so_nil ?_
              refine fi_region ?_
              refine so_fieldAddr rfl F105.fd91_1 ?_
              refine sv_ld hs 5 rfl rfl rfl F105.ag72 ?_
              refine so_move (v := (.v v199)) rfl ?_
              refine sd_bslice hs [[v199]] F105.te72 F105.sz24 F105.ze24 rfl rfl rfl (by simp) (fac (stc (hs.shows 1 rfl).stor stn) fan) (by decide) rfl nofun (fun v205 H206 _ hs => ?_)
              obtain ⟨c208, h⟩ := h
              replace hs := Sep.front 2 hs rfl
              refine sk_app hs 4 rfl y198 [v199] (hs.tl.shows 0 rfl) (fun _ hh => ⟨rfl, hh⟩) rfl rfl (by decide) F105.ta72_72 (by decide) c208 rfl rfl nofun (fun v209 ws210 S211 H212 hs => ?_)
              replace hs := hs.del 0
              refine so_fieldAddr rfl F105.fd91_1 ?_
              refine sv_st hs 4 rfl rfl rfl (c := [v209]) rfl F105.sz72 rfl (stc (hs.dshows 3 rfl).stor stn) (leb rfl) (cs' := [v196, v209]) rfl nofun (fun H213 hs => ?_)
              refine so_nil ?_
              refine fi_inBlock ?_
              refine fi_region ?_
              refine so_bin rfl rfl ab_add ?_
              refine so_move (v := (.v (.int .i64 (IntKind.i64.wrap (x193 + (1 : Int)))))) rfl ?_
              refine so_nil ?_
              exact fi_at [(4, (.v (.ptr id101 0))), (6, (.v (.ptr id104 0))), (8, (.v (.ptr id123 0))), (37, (.v (.int .i64 a2))), (38, (.v (.int .i64 (IntKind.i64.wrap (x193 + (1 : Int))))))] ⟨rfl, rfl, rfl, rfl, rfl, trivial⟩ (h _ _ _ _ _ _ _ _ _ _ (Sep.front 6 (Sep.front 6 (Sep.front 6 (Sep.front 6 (Sep.front 2 (Sep.front 6 (Sep.front 6 (Sep.del 5 hs) rfl) rfl) rfl) rfl) rfl) rfl) rfl))
            · refine fi_true rfl (not_t c203) ?_
              refine fi_seq ?_
              refine fi_region ?_
              refine so_build F105.bp91 (cps := []) rfl fan rfl ?_
              refine sv_st hs 7 rfl rfl rfl (c := [.nilsl, .nilsl]) rfl F105.sz91 rfl (stc rfl (stc rfl stn)) (leb rfl) (cs' := [.nilsl, .nilsl]) rfl nofun (fun H214 hs => ?_)
              refine so_assign (v := (.v (.bool false))) rfl ?_
              refine so_nil ?_
              exact by_ret (res_mk (ar_cells rfl F105.ag91 F105.sz91 (hs.lds 7 rfl (leb rfl) rfl) (ar_tmp rfl ar_nil)) rfl) ⟨_, _, _, h, _, _, _, _, rfl, (Sep.nil (Sep.dnil (Sep.dropn 9 hs) 1 R_LeFlt_f32_o IR_LeFlt_f32_o) 1)⟩
          · refine fi_false rfl (decide_eq_false c194) ?_
            refine fi_exit rfl ?_
            refine fi_seq ?_
            refine fi_region ?_
            refine sv_lds hs 3 rfl rfl (leb rfl) rfl F105.ag91 F105.sz91 ?_
            refine sv_st hs 5 rfl rfl rfl (c := [v179, v182]) rfl F105.sz91 rfl (stc (hs.shows 4 rfl).stor (stc (hs.dshows 2 rfl).stor stn)) (leb rfl) (cs' := [v179, v182]) rfl nofun (fun H215 hs => ?_)
            refine so_assign (v := (.v (.bool true))) rfl ?_
            refine so_nil ?_
            exact by_ret (res_mk (ar_cells rfl F105.ag91 F105.sz91 (hs.lds 5 rfl (leb rfl) rfl) (ar_tmp rfl ar_nil)) rfl) ⟨_, _, _, h, _, _, _, _, rfl, (Sep.front 1 (Sep.del 2 (Sep.del 2 (Sep.del 1 (Sep.del 0 (Sep.del 0 hs))))) rfl)⟩
        · refine fi_true rfl (not_t (decide_eq_false c118)) ?_
          refine fi_seq ?_
          refine fi_region ?_
          refine so_build F105.bp91 (cps := []) rfl fan rfl ?_
          refine sv_st hs 0 rfl rfl rfl (c := [.nilsl, .nilsl]) rfl F105.sz91 rfl (stc rfl (stc rfl stn)) (leb rfl) (cs' := [.nilsl, .nilsl]) rfl nofun (fun H218 hs => ?_)
          refine so_assign (v := (.v (.bool false))) rfl ?_
          refine so_nil ?_
          exact by_ret (res_mk (ar_cells rfl F105.ag91 F105.sz91 (hs.lds 0 rfl (leb rfl) rfl) (ar_tmp rfl ar_nil)) rfl) ⟨_, _, _, h, _, _, _, _, rfl, (Sep.nil (Sep.dnil (Sep.del 0 (Sep.del 0 hs)) 1 R_LeFlt_f32_o IR_LeFlt_f32_o) 1)⟩
      · refine so_gno rfl (not_t c115) ?_
        refine so_gno rfl (not_t c115) ?_
        refine so_gno rfl (not_t c115) ?_
        refine so_gno rfl (not_t c115) ?_
        refine so_gno rfl (not_t c115) ?_
        refine so_gno rfl (not_t c115) ?_
        refine so_pick_t (v := (.v (.bool true))) rfl (not_t c115) rfl ?_
        refine so_nil ?_
        refine fi_true rfl rfl ?_
        refine fi_seq ?_
        refine fi_region ?_
        refine so_build F105.bp91 (cps := []) rfl fan rfl ?_
        refine sv_st hs 0 rfl rfl rfl (c := [.nilsl, .nilsl]) rfl F105.sz91 rfl (stc rfl (stc rfl stn)) (leb rfl) (cs' := [.nilsl, .nilsl]) rfl nofun (fun H219 hs => ?_)
        refine so_assign (v := (.v (.bool false))) rfl ?_
        refine so_nil ?_
        exact by_ret (res_mk (ar_cells rfl F105.ag91 F105.sz91 (hs.lds 0 rfl (leb rfl) rfl) (ar_tmp rfl ar_nil)) rfl) ⟨_, _, _, h, _, _, _, _, rfl, (Sep.nil (Sep.dnil (Sep.del 0 (Sep.del 0 hs)) 1 R_LeFlt_f32_o IR_LeFlt_f32_o) 1)⟩
    · refine so_gno rfl (not_t c112) ?_
      refine so_gno rfl (not_t c112) ?_
      refine so_gno rfl (not_t c112) ?_
      refine so_pick_t (v := (.v (.bool true))) rfl (not_t c112) rfl ?_
      refine so_move (v := (.v (.bool true))) rfl ?_
      refine so_gno rfl rfl ?_
      refine so_gno rfl rfl ?_
      refine so_gno rfl rfl ?_
      refine so_gno rfl rfl ?_
      refine so_gno rfl rfl ?_
      refine so_gno rfl rfl ?_
      refine so_pick_t (v := (.v (.bool true))) rfl rfl rfl ?_
      refine so_nil ?_
      refine fi_true rfl rfl ?_
      refine fi_seq ?_
      refine fi_region ?_
      refine so_build F105.bp91 (cps := []) rfl fan rfl ?_
      refine sv_st hs 0 rfl rfl rfl (c := [.nilsl, .nilsl]) rfl F105.sz91 rfl (stc rfl (stc rfl stn)) (leb rfl) (cs' := [.nilsl, .nilsl]) rfl nofun (fun H220 hs => ?_)
      refine so_assign (v := (.v (.bool false))) rfl ?_
      refine so_nil ?_
      exact by_ret (res_mk (ar_cells rfl F105.ag91 F105.sz91 (hs.lds 0 rfl (leb rfl) rfl) (ar_tmp rfl ar_nil)) rfl) ⟨_, _, _, h, _, _, _, _, rfl, (Sep.nil (Sep.dnil (Sep.del 0 (Sep.del 0 hs)) 1 R_LeFlt_f32_o IR_LeFlt_f32_o) 1)⟩
  · refine so_gno rfl (not_t c109) ?_
    refine so_gno rfl (not_t c109) ?_
    refine so_gno rfl (not_t c109) ?_
    refine so_pick_t (v := (.v (.bool true))) rfl (not_t c109) rfl ?_
    refine so_move (v := (.v (.bool true))) rfl ?_
    refine so_gno rfl rfl ?_
    refine so_gno rfl rfl ?_
    refine so_gno rfl rfl ?_
    refine so_pick_t (v := (.v (.bool true))) rfl rfl rfl ?_
    refine so_move (v := (.v (.bool true))) rfl ?_
    refine so_gno rfl rfl ?_
    refine so_gno rfl rfl ?_
    refine so_gno rfl rfl ?_
    refine so_gno rfl rfl ?_
    refine so_gno rfl rfl ?_
    refine so_gno rfl rfl ?_
    refine so_pick_t (v := (.v (.bool true))) rfl rfl rfl ?_
    refine so_nil ?_
    refine fi_true rfl rfl ?_
    refine fi_seq ?_
    refine fi_region ?_
    refine so_build F105.bp91 (cps := []) rfl fan rfl ?_
    refine sv_st hs 0 rfl rfl rfl (c := [.nilsl, .nilsl]) rfl F105.sz91 rfl (stc rfl (stc rfl stn)) (leb rfl) (cs' := [.nilsl, .nilsl]) rfl nofun (fun H221 hs => ?_)
    refine so_assign (v := (.v (.bool false))) rfl ?_
    refine so_nil ?_
    exact by_ret (res_mk (ar_cells rfl F105.ag91 F105.sz91 (hs.lds 0 rfl (leb rfl) rfl) (ar_tmp rfl ar_nil)) rfl) ⟨_, _, _, h, _, _, _, _, rfl, (Sep.nil (Sep.dnil (Sep.del 0 (Sep.del 0 hs)) 1 R_LeFlt_f32_o IR_LeFlt_f32_o) 1)⟩
theorem F137.ag24 : tagg Try.prog 24 = some false := by kernel_rfl
theorem F137.ag72 : tagg Try.prog 72 = some false := by kernel_rfl
theorem F137.fd91_0 : tfield Try.prog 91 0 = some (0, 1, false) := by kernel_rfl
theorem F137.fd91_1 : tfield Try.prog 91 1 = some (1, 1, false) := by kernel_rfl
theorem F137.inf91 : (Try.prog.info? 91).isSome = true := by kernel_rfl
theorem F137.sz24 : tsz Try.prog 24 = some 1 := by kernel_rfl
theorem F137.te72 : telem Try.prog 72 = some 24 := by kernel_rfl
theorem F137.ti24 : (telem Try.prog 24).isSome = true := by kernel_rfl
theorem F137.ti72 : (telem Try.prog 72).isSome = true := by kernel_rfl
theorem F137.tl72 : (telem Try.prog 72).bind (tsz Try.prog) = some 1 := by kernel_rfl
theorem F137.ze24 : tzero Try.prog 24 = some [.nilsl] := by kernel_rfl
theorem impl_ValidBands_ok {fr : List Pc} {H : Heap} (v0 : AV) (l0 : List (Nat)) (v1 : AV) (w1 : List (List AV)) (l1 : List (List (Nat))) (hs : Sep H (fr)) (g0 : ∀ H, Sep H fr → Shows H v0 1 (enc (eFlt .f32) l0)) (g1 : ∀ H, Sep H fr → DSh H v1 1 R_LeFlt_f32_o l1 w1) (K : Bool → Prop) (h : impl_ValidBands.wp l0 l1 K) : OkQ Try.prog 137 [(.g [v0, v1])] H (fun r H2 => ∃ (y0 : Bool), K y0 ∧ r = (.v (.bool y0)) ∧ Sep H2 (fr)) := by
  unfold impl_ValidBands.wp at h
  refine of_body Try.f137 F.hm Try.func137 rfl Try.call137 (by kernel_rfl) (by simp) ?_
  refine fi_seq ?_
  refine fi_region ?_
  refine sv_box hs rfl (c := [v0, v1]) rfl F137.inf91 (stc (g0 _ hs).stor (stc (g1 _ hs).stor stn)) nofun (fun id101 H102 hs => ?_)
  refine so_assign (v := (.v (.bool false))) rfl ?_
  refine so_nil ?_
  refine fi_seq ?_
  refine fi_region ?_
  refine so_fieldAddr rfl F137.fd91_1 ?_
  refine sv_ld hs 0 rfl rfl rfl F137.ag72 ?_
  refine sd_len ((g1 _ hs.tl) : DSh _ _ 1 R_LeFlt_f32_o l1 w1) (by decide) rfl F137.ti72 ?_
  refine so_assign (v := (.v (.int .i64 (l1.length : Int)))) rfl ?_
  refine so_nil ?_
  refine fi_seq ?_
  refine fi_seq ?_
  refine fi_region ?_
  refine so_move (v := (.v (.int .i64 (l1.length : Int)))) rfl ?_
  refine sv_callS (impl_within_ok (l1.length : Int) (1 : Int) (6 : Int) hs  _ h) (fun _ _ ⟨_, _, _, e⟩ => e) rfl rfl ?_
  clear h
  rintro _ _ ⟨y104, h, rfl, rfl⟩
  refine so_un rfl au_not ?_
  refine so_move (v := (.v (.bool (!y104)))) rfl ?_
  replace h := ofT h; rcases h with ⟨c106, h⟩ | ⟨c106, h⟩
  · refine so_gyes rfl (not_f c106) ?_
    refine so_fieldAddr rfl F137.fd91_1 ?_
    refine so_gyes rfl (not_f c106) ?_
    refine sv_ld hs 0 rfl rfl rfl F137.ag72 ?_
    refine so_gyes rfl (not_f c106) ?_
    obtain ⟨c107, h⟩ := h
    refine sd_idx ((g1 _ hs.tl) : DSh _ _ 1 R_LeFlt_f32_o l1 w1) c107 ([] : List (Nat)) (by decide) rfl rfl F137.tl72 ?_
    refine so_gyes rfl (not_f c106) ?_
    refine su_ld ((((g1 _ hs.tl) : DSh _ _ 1 R_LeFlt_f32_o l1 w1)).at (by decide) c107 ([] : List (Nat))).2.2 0 (congrArg (fun c => c[0]?) ((((g1 _ hs.tl) : DSh _ _ 1 R_LeFlt_f32_o l1 w1)).at (by decide) c107 ([] : List (Nat))).2.1.1) rfl F137.ag24 ?_
    refine so_gyes rfl (not_f c106) ?_
    refine sv_len ((((g1 _ hs.tl) : DSh _ _ 1 R_LeFlt_f32_o l1 w1)).at (by decide) c107 ([] : List (Nat))).2.1.2 (fun _ => rfl) (by decide) rfl F137.ti24 ?_
    refine so_gyes rfl (not_f c106) ?_
    refine so_bin rfl rfl ab_gtr ?_
    refine so_pick_f (v := (.v (.bool (decide ((64 : Int) < ((l1.getD ((0 : Int)).toNat ([] : List (Nat))).length : Int)))))) rfl (not_f c106) rfl ?_
    refine so_move (v := (.v (.bool (decide ((64 : Int) < ((l1.getD ((0 : Int)).toNat ([] : List (Nat))).length : Int)))))) rfl ?_
    replace h := ofP h; rcases h with ⟨c108, h⟩ | ⟨c108, h⟩
    · refine so_gno rfl (decide_eq_true c108) ?_
      refine so_gno rfl (decide_eq_true c108) ?_
      refine so_gno rfl (decide_eq_true c108) ?_
      refine so_gno rfl (decide_eq_true c108) ?_
      refine so_pick_t (v := (.v (.bool true))) rfl (decide_eq_true c108) rfl ?_
      refine so_move (v := (.v (.bool true))) rfl ?_
      refine so_gno rfl rfl ?_
      refine so_gno rfl rfl ?_
      refine so_gno rfl rfl ?_
      refine so_gno rfl rfl ?_
      refine so_gno rfl rfl ?_
      refine so_pick_t (v := (.v (.bool true))) rfl rfl rfl ?_
      refine so_nil ?_
      refine fi_true rfl rfl ?_
      refine fi_seq ?_
      refine fi_region ?_
      refine so_assign (v := (.v (.bool false))) rfl ?_
      refine so_nil ?_
      exact by_ret rfl ⟨_, h, rfl, (Sep.del 0 hs)⟩
    · refine so_gyes rfl (decide_eq_false c108) ?_
      refine so_fieldAddr rfl F137.fd91_1 ?_
      refine so_gyes rfl (decide_eq_false c108) ?_
      refine sv_ld hs 0 rfl rfl rfl F137.ag72 ?_
      refine so_gyes rfl (decide_eq_false c108) ?_
      refine sv_callS (impl_areFinite_ok v1 w1 l1 hs (fun _ hs => (g1 _ hs.tl)) _ h) (fun _ _ ⟨_, _, _, e⟩ => e) rfl rfl ?_
      clear h
      rintro _ _ ⟨y109, h, rfl, rfl⟩
      refine so_gyes rfl (decide_eq_false c108) ?_
      refine so_un rfl au_not ?_
      refine so_pick_f (v := (.v (.bool (!y109)))) rfl (decide_eq_false c108) rfl ?_
      refine so_move (v := (.v (.bool (!y109)))) rfl ?_
      replace h := ofT h; rcases h with ⟨c111, h⟩ | ⟨c111, h⟩
      · refine so_gyes rfl (not_f c111) ?_
        refine so_fieldAddr rfl F137.fd91_0 ?_
        refine so_gyes rfl (not_f c111) ?_
        refine sv_ld hs 0 rfl rfl rfl F137.ag24 ?_
        refine so_gyes rfl (not_f c111) ?_
        refine sd_bslice hs [[v0]] F137.te72 F137.sz24 F137.ze24 rfl rfl rfl (by simp) (fac (stc (g0 _ hs.tl).stor stn) fan) (by decide) rfl nofun (fun v112 H113 _ hs => ?_)
        refine so_gyes rfl (not_f c111) ?_
        refine sv_callS (impl_areFinite_ok v112 ([[v0]]) ([l0] : List (List (Nat))) hs (fun _ hs => ⟨hs.shows 0 rfl, by simp, ⟨⟨rfl, (g0 _ hs.tl.tl)⟩, trivial⟩⟩) _ h) (fun _ _ ⟨_, _, _, e⟩ => e) rfl rfl ?_
        clear h
        rintro _ _ ⟨y115, h, rfl, rfl⟩
        refine so_gyes rfl (not_f c111) ?_
        refine so_un rfl au_not ?_
        refine so_pick_f (v := (.v (.bool (!y115)))) rfl (not_f c111) rfl ?_
        refine so_nil ?_
        replace h := ofT h; rcases h with ⟨c117, h⟩ | ⟨c117, h⟩
        · refine fi_false rfl (not_f c117) ?_
          refine fi_skip ?_
          refine fi_seq ?_
          refine fi_seq ?_
          refine fi_region ?_
          refine so_fieldAddr rfl F137.fd91_1 ?_
          refine sv_ld hs 1 rfl rfl rfl F137.ag72 ?_
          refine sd_len ((g1 _ hs.tl.tl) : DSh _ _ 1 R_LeFlt_f32_o l1 w1) (by decide) rfl F137.ti72 ?_
          refine so_move (v := (.v (.int .i64 (0 : Int)))) rfl ?_
          refine so_nil ?_
          refine fi_block ?_
          refine fi_loop ?_
          replace hs := hs.del 0
          refine fi_at [(1, (.v (.ptr id101 0))), (3, (.v (.int .i64 (l1.length : Int)))), (34, (.v v1)), (35, (.v (.int .i64 (l1.length : Int)))), (36, (.v (.int .i64 (0 : Int))))] ⟨rfl, rfl, rfl, rfl, rfl, trivial⟩ ?_
          refine h (fun (x119 : Int) => ∀ (s : Nat → TV) (H : Heap), Sep H (Pc.box id101 [v0, v1] :: fr) → Fin _ _ (updL s [(1, (.v (.ptr id101 0))), (3, (.v (.int .i64 (l1.length : Int)))), (34, (.v v1)), (35, (.v (.int .i64 (l1.length : Int)))), (36, (.v (.int .i64 x119)))]) H _) ?_ _ _ hs
          intro x119 h s127 H128 hs
          refine fi_inLoop ?_
          refine fi_seq ?_
          refine fi_region ?_
          refine so_bin rfl rfl ab_lss ?_
          refine so_nil ?_
          refine fi_seq ?_
          replace h := ofP h; rcases h with ⟨c120, h⟩ | ⟨c120, h⟩
          · refine fi_true rfl (decide_eq_true c120) ?_
            refine fi_skip ?_
            refine fi_seq ?_
            refine fi_block ?_
            refine fi_seq ?_
            refine fi_region ?_
            refine so_move (v := (.v (.int .i64 x119))) rfl ?_
            obtain ⟨c121, h⟩ := h
            refine sd_idx ((g1 _ hs.tl) : DSh _ _ 1 R_LeFlt_f32_o l1 w1) c121 ([] : List (Nat)) (by decide) rfl rfl F137.tl72 ?_
            refine su_ld ((((g1 _ hs.tl) : DSh _ _ 1 R_LeFlt_f32_o l1 w1)).at (by decide) c121 ([] : List (Nat))).2.2 0 (congrArg (fun c => c[0]?) ((((g1 _ hs.tl) : DSh _ _ 1 R_LeFlt_f32_o l1 w1)).at (by decide) c121 ([] : List (Nat))).2.1.1) rfl F137.ag24 ?_
            refine so_assign (v := (.v (.int .i64 x119))) rfl ?_
            refine so_assign (v := (.v ((w1.getD (x119).toNat []).getD 0 .und))) rfl ?_
            refine so_nil ?_
            refine fi_seq ?_
            refine fi_region ?_
            refine so_move (v := (.v ((w1.getD (x119).toNat []).getD 0 .und))) rfl ?_
            refine sv_len ((((g1 _ hs.tl) : DSh _ _ 1 R_LeFlt_f32_o l1 w1)).at (by decide) c121 ([] : List (Nat))).2.1.2 (fun _ => rfl) (by decide) rfl F137.ti24 ?_
            refine so_bin rfl rfl ab_eql ?_
            refine so_move (v := (.v (.bool (decide (((l1.getD (x119).toNat ([] : List (Nat))).length : Int) = (0 : Int)))))) rfl ?_
            replace h := ofP h; rcases h with ⟨c122, h⟩ | ⟨c122, h⟩
            · refine so_gno rfl (decide_eq_true c122) ?_
              refine so_gno rfl (decide_eq_true c122) ?_
              refine so_gno rfl (decide_eq_true c122) ?_
              refine so_gund rfl ?_
              refine so_gund rfl ?_
              refine so_gund rfl ?_
              refine so_gund rfl ?_
              refine so_gund rfl ?_
              refine so_gund rfl ?_
              refine so_gund rfl ?_
              refine so_gund rfl ?_
              refine so_gund rfl ?_
              refine so_gund rfl ?_
              refine so_gund rfl ?_
              refine so_gno rfl (decide_eq_true c122) ?_
              refine so_pick_t (v := (.v (.bool true))) rfl (decide_eq_true c122) rfl ?_
              refine so_nil ?_
              refine fi_true rfl rfl ?_
              refine fi_seq ?_
              refine fi_region ?_
              refine so_assign (v := (.v (.bool false))) rfl ?_
              refine so_nil ?_
              exact by_ret rfl ⟨_, h, rfl, (Sep.del 0 hs)⟩
            · refine so_gyes rfl (decide_eq_false c122) ?_
              refine so_move (v := (.v (.int .i64 x119))) rfl ?_
              refine so_gyes rfl (decide_eq_false c122) ?_
              refine so_bin rfl rfl ab_gtr ?_
              refine so_gyes rfl (decide_eq_false c122) ?_
              refine so_move (v := (.v (.bool (decide ((0 : Int) < x119))))) rfl ?_
              replace h := ofP h; rcases h with ⟨c123, h⟩ | ⟨c123, h⟩
              · refine so_gyes rfl (decide_eq_true c123) ?_
                refine so_move (v := (.v ((w1.getD (x119).toNat []).getD 0 .und))) rfl ?_
                refine so_gyes rfl (decide_eq_true c123) ?_
                refine sv_len ((((g1 _ hs.tl) : DSh _ _ 1 R_LeFlt_f32_o l1 w1)).at (by decide) c121 ([] : List (Nat))).2.1.2 (fun _ => rfl) (by decide) rfl F137.ti24 ?_
                refine so_gyes rfl (decide_eq_true c123) ?_
                refine so_bin rfl rfl ab_mul ?_
                refine so_gyes rfl (decide_eq_true c123) ?_
                refine so_fieldAddr rfl F137.fd91_1 ?_
                refine so_gyes rfl (decide_eq_true c123) ?_
                refine sv_ld hs 0 rfl rfl rfl F137.ag72 ?_
                refine so_gyes rfl (decide_eq_true c123) ?_
                refine so_move (v := (.v (.int .i64 x119))) rfl ?_
                refine so_gyes rfl (decide_eq_true c123) ?_
                refine so_bin rfl rfl ab_sub ?_
                refine so_gyes rfl (decide_eq_true c123) ?_
                obtain ⟨c124, h⟩ := h
                refine sd_idx ((g1 _ hs.tl) : DSh _ _ 1 R_LeFlt_f32_o l1 w1) c124 ([] : List (Nat)) (by decide) rfl rfl F137.tl72 ?_
                refine so_gyes rfl (decide_eq_true c123) ?_
                refine su_ld ((((g1 _ hs.tl) : DSh _ _ 1 R_LeFlt_f32_o l1 w1)).at (by decide) c124 ([] : List (Nat))).2.2 0 (congrArg (fun c => c[0]?) ((((g1 _ hs.tl) : DSh _ _ 1 R_LeFlt_f32_o l1 w1)).at (by decide) c124 ([] : List (Nat))).2.1.1) rfl F137.ag24 ?_
                refine so_gyes rfl (decide_eq_true c123) ?_
                refine sv_len ((((g1 _ hs.tl) : DSh _ _ 1 R_LeFlt_f32_o l1 w1)).at (by decide) c124 ([] : List (Nat))).2.1.2 (fun _ => rfl) (by decide) rfl F137.ti24 ?_
                refine so_gyes rfl (decide_eq_true c123) ?_
                refine so_bin rfl rfl ab_neq ?_
                refine so_gyes rfl (decide_eq_false c122) ?_
                refine so_pick_t (v := (.v (.bool (!(decide ((IntKind.i64.wrap ((2 : Int) * ((l1.getD (x119).toNat ([] : List (Nat))).length : Int))) = ((l1.getD ((IntKind.i64.wrap (x119 - (1 : Int)))).toNat ([] : List (Nat))).length : Int))))))) rfl (decide_eq_true c123) rfl ?_
                refine so_pick_f (v := (.v (.bool (!(decide ((IntKind.i64.wrap ((2 : Int) * ((l1.getD (x119).toNat ([] : List (Nat))).length : Int))) = ((l1.getD ((IntKind.i64.wrap (x119 - (1 : Int)))).toNat ([] : List (Nat))).length : Int))))))) rfl (decide_eq_false c122) rfl ?_
                refine so_nil ?_
                replace h := ofP h; rcases h with ⟨c125, h⟩ | ⟨c125, h⟩
                · refine fi_false rfl (not_f (decide_eq_true c125)) ?_
                  refine fi_skip ?_
                  refine fi_inBlock ?_
                  refine fi_region ?_
                  refine so_bin rfl rfl ab_add ?_
                  refine so_move (v := (.v (.int .i64 (IntKind.i64.wrap (x119 + (1 : Int)))))) rfl ?_
                  refine so_nil ?_
                  exact fi_at [(1, (.v (.ptr id101 0))), (3, (.v (.int .i64 (l1.length : Int)))), (34, (.v v1)), (35, (.v (.int .i64 (l1.length : Int)))), (36, (.v (.int .i64 (IntKind.i64.wrap (x119 + (1 : Int))))))] ⟨rfl, rfl, rfl, rfl, rfl, trivial⟩ (h _ _  hs)
                · refine fi_true rfl (not_t (decide_eq_false c125)) ?_
                  refine fi_seq ?_
                  refine fi_region ?_
                  refine so_assign (v := (.v (.bool false))) rfl ?_
                  refine so_nil ?_
                  exact by_ret rfl ⟨_, h, rfl, (Sep.del 0 hs)⟩
              · refine so_gno rfl (decide_eq_false c123) ?_
                refine so_gno rfl (decide_eq_false c123) ?_
                refine so_gno rfl (decide_eq_false c123) ?_
                refine so_gno rfl (decide_eq_false c123) ?_
                refine so_gno rfl (decide_eq_false c123) ?_
                refine so_gno rfl (decide_eq_false c123) ?_
                refine so_gno rfl (decide_eq_false c123) ?_
                refine so_gno rfl (decide_eq_false c123) ?_
                refine so_gno rfl (decide_eq_false c123) ?_
                refine so_gno rfl (decide_eq_false c123) ?_
                refine so_gno rfl (decide_eq_false c123) ?_
                refine so_gyes rfl (decide_eq_false c122) ?_
                refine so_pick_f (v := (.v (.bool false))) rfl (decide_eq_false c123) rfl ?_
                refine so_pick_f (v := (.v (.bool false))) rfl (decide_eq_false c122) rfl ?_
                refine so_nil ?_
                refine fi_false rfl rfl ?_
                refine fi_skip ?_
                refine fi_inBlock ?_
                refine fi_region ?_
                refine so_bin rfl rfl ab_add ?_
                refine so_move (v := (.v (.int .i64 (IntKind.i64.wrap (x119 + (1 : Int)))))) rfl ?_
                refine so_nil ?_
                exact fi_at [(1, (.v (.ptr id101 0))), (3, (.v (.int .i64 (l1.length : Int)))), (34, (.v v1)), (35, (.v (.int .i64 (l1.length : Int)))), (36, (.v (.int .i64 (IntKind.i64.wrap (x119 + (1 : Int))))))] ⟨rfl, rfl, rfl, rfl, rfl, trivial⟩ (h _ _  hs)
          · refine fi_false rfl (decide_eq_false c120) ?_
            refine fi_exit rfl ?_
            refine fi_seq ?_
            refine fi_region ?_
            refine so_fieldAddr rfl F137.fd91_0 ?_
            refine sv_ld hs 0 rfl rfl rfl F137.ag24 ?_
            refine sv_len (g0 _ hs.tl) (fun _ => rfl) (by decide) rfl F137.ti24 ?_
            refine so_fieldAddr rfl F137.fd91_1 ?_
            refine sv_ld hs 0 rfl rfl rfl F137.ag72 ?_
            refine so_move (v := (.v (.int .i64 (l1.length : Int)))) rfl ?_
            refine so_bin rfl rfl ab_sub ?_
            obtain ⟨c126, h⟩ := h
            refine sd_idx ((g1 _ hs.tl) : DSh _ _ 1 R_LeFlt_f32_o l1 w1) c126 ([] : List (Nat)) (by decide) rfl rfl F137.tl72 ?_
            refine su_ld ((((g1 _ hs.tl) : DSh _ _ 1 R_LeFlt_f32_o l1 w1)).at (by decide) c126 ([] : List (Nat))).2.2 0 (congrArg (fun c => c[0]?) ((((g1 _ hs.tl) : DSh _ _ 1 R_LeFlt_f32_o l1 w1)).at (by decide) c126 ([] : List (Nat))).2.1.1) rfl F137.ag24 ?_
            refine sv_len ((((g1 _ hs.tl) : DSh _ _ 1 R_LeFlt_f32_o l1 w1)).at (by decide) c126 ([] : List (Nat))).2.1.2 (fun _ => rfl) (by decide) rfl F137.ti24 ?_
            refine so_bin rfl rfl ab_eql ?_
            refine so_assign (v := (.v (.bool (decide ((l0.length : Int) = ((l1.getD ((IntKind.i64.wrap ((l1.length : Int) - (1 : Int)))).toNat ([] : List (Nat))).length : Int)))))) rfl ?_
            refine so_nil ?_
            exact by_ret rfl ⟨_, h, rfl, (Sep.del 0 hs)⟩
        · refine fi_true rfl (not_t c117) ?_
          refine fi_seq ?_
          refine fi_region ?_
          refine so_assign (v := (.v (.bool false))) rfl ?_
          refine so_nil ?_
          exact by_ret rfl ⟨_, h, rfl, (Sep.del 0 (Sep.del 0 hs))⟩
      · refine so_gno rfl (not_t c111) ?_
        refine so_gno rfl (not_t c111) ?_
        refine so_gno rfl (not_t c111) ?_
        refine so_gno rfl (not_t c111) ?_
        refine so_gno rfl (not_t c111) ?_
        refine so_pick_t (v := (.v (.bool true))) rfl (not_t c111) rfl ?_
        refine so_nil ?_
        refine fi_true rfl rfl ?_
        refine fi_seq ?_
        refine fi_region ?_
        refine so_assign (v := (.v (.bool false))) rfl ?_
        refine so_nil ?_
        exact by_ret rfl ⟨_, h, rfl, (Sep.del 0 hs)⟩
  · refine so_gno rfl (not_t c106) ?_
    refine so_gno rfl (not_t c106) ?_
    refine so_gno rfl (not_t c106) ?_
    refine so_gno rfl (not_t c106) ?_
    refine so_gno rfl (not_t c106) ?_
    refine so_gno rfl (not_t c106) ?_
    refine so_pick_t (v := (.v (.bool true))) rfl (not_t c106) rfl ?_
    refine so_move (v := (.v (.bool true))) rfl ?_
    refine so_gno rfl rfl ?_
    refine so_gno rfl rfl ?_
    refine so_gno rfl rfl ?_
    refine so_gno rfl rfl ?_
    refine so_pick_t (v := (.v (.bool true))) rfl rfl rfl ?_
    refine so_move (v := (.v (.bool true))) rfl ?_
    refine so_gno rfl rfl ?_
    refine so_gno rfl rfl ?_
    refine so_gno rfl rfl ?_
    refine so_gno rfl rfl ?_
    refine so_gno rfl rfl ?_
    refine so_pick_t (v := (.v (.bool true))) rfl rfl rfl ?_
    refine so_nil ?_
    refine fi_true rfl rfl ?_
    refine fi_seq ?_
    refine fi_region ?_
    refine so_assign (v := (.v (.bool false))) rfl ?_
    refine so_nil ?_
    exact by_ret rfl ⟨_, h, rfl, (Sep.del 0 hs)⟩
theorem impl_softer_ok {fr : List Pc} {H : Heap} (a0 : Nat) (a1 : Nat) (hs : Sep H (fr))  (K : Nat → Prop) (h : impl_softer.wp a0 a1 K) : OkQ Try.prog 159 [(.v (.flt .f32 a0)), (.v (.flt .f32 a1))] H (fun r H2 => ∃ (y0 : Nat), K y0 ∧ r = (.v (.flt .f32 y0)) ∧ H = H2) := by
  unfold impl_softer.wp at h
  refine of_body Try.f159 F.hm Try.func159 rfl Try.call159 (by kernel_rfl) (by simp) ?_
  refine fi_seq ?_
  refine fi_region ?_
  refine so_assign (v := (.v (.flt .f32 (cz .f32 0)))) rfl ?_
  refine so_nil ?_
  refine fi_seq ?_
  refine fi_block ?_
  refine fi_seq ?_
  refine fi_region ?_
  refine so_move (v := (.v (.flt .f32 a0))) rfl ?_
  refine so_move (v := (.v (.flt .f32 a1))) rfl ?_
  refine so_bin rfl rfl ab_fgtr ?_
  refine so_assign (v := (.v (.bool (fcmp .gtr .f32 a0 a1)))) rfl ?_
  refine so_nil ?_
  replace h := ofT h; rcases h with ⟨c101, h⟩ | ⟨c101, h⟩
  · refine fi_true rfl c101 ?_
    refine fi_seq ?_
    refine fi_region ?_
    refine so_move (v := (.v (.flt .f32 a0))) rfl ?_
    refine so_move (v := (.v (.flt .f32 a1))) rfl ?_
    refine so_bin rfl rfl ab_fsub ?_
    refine so_assign (v := (.v (.flt .f32 (fop .sub .f32 a0 a1)))) rfl ?_
    refine so_nil ?_
    exact by_ret rfl ⟨_, h, rfl, rfl⟩
  · refine fi_false rfl c101 ?_
    refine fi_seq ?_
    refine fi_region ?_
    refine so_move (v := (.v (.flt .f32 a0))) rfl ?_
    refine so_move (v := (.v (.flt .f32 a1))) rfl ?_
    refine so_un rfl au_fneg' ?_
    refine so_bin rfl rfl ab_flss ?_
    refine so_assign (v := (.v (.bool (fcmp .lss .f32 a0 (fneg .f32 a1))))) rfl ?_
    refine so_nil ?_
    replace h := ofT h; rcases h with ⟨c102, h⟩ | ⟨c102, h⟩
    · refine fi_true rfl c102 ?_
      refine fi_seq ?_
      refine fi_region ?_
      refine so_move (v := (.v (.flt .f32 a0))) rfl ?_
      refine so_move (v := (.v (.flt .f32 a1))) rfl ?_
      refine so_bin rfl rfl ab_fadd ?_
      refine so_assign (v := (.v (.flt .f32 (fop .add .f32 a0 a1)))) rfl ?_
      refine so_nil ?_
      exact by_ret rfl ⟨_, h, rfl, rfl⟩
    · refine fi_false rfl c102 ?_
      refine fi_skip ?_
      refine fi_inBlock ?_
      refine fi_seq ?_
      refine fi_region ?_
      refine so_assign (v := (.v (.flt .f32 (cz .f32 0)))) rfl ?_
      refine so_nil ?_
      exact by_ret rfl ⟨_, h, rfl, rfl⟩
theorem impl_shrunk_ok {fr : List Pc} {H : Heap} (a0 : Nat) (a1 : Nat) (a2 : Bool) (hs : Sep H (fr))  (K : Nat → Prop) (h : impl_shrunk.wp a0 a1 a2 K) : OkQ Try.prog 155 [(.v (.flt .f32 a0)), (.v (.flt .f32 a1)), (.v (.bool a2))] H (fun r H2 => ∃ (y0 : Nat), K y0 ∧ r = (.v (.flt .f32 y0)) ∧ H = H2) := by
  unfold impl_shrunk.wp at h
  refine of_body Try.f155 F.hm Try.func155 rfl Try.call155 (by kernel_rfl) (by simp) ?_
  refine fi_seq ?_
  refine fi_region ?_
  refine so_assign (v := (.v (.flt .f32 (cz .f32 0)))) rfl ?_
  refine so_nil ?_
  refine fi_seq ?_
  refine fi_block ?_
  refine fi_seq ?_
  refine fi_region ?_
  refine so_move (v := (.v (.flt .f32 a0))) rfl ?_
  refine sv_callS (impl_size_ok a0 hs  _ h) (fun _ _ ⟨_, _, _, e⟩ => e) rfl rfl ?_
  clear h
  rintro _ _ ⟨y101, h, rfl, rfl⟩
  refine so_move (v := (.v (.flt .f32 a1))) rfl ?_
  refine so_bin rfl rfl ab_fgtr ?_
  refine so_un rfl au_not ?_
  refine so_assign (v := (.v (.bool (!(fcmp .gtr .f32 y101 a1))))) rfl ?_
  refine so_nil ?_
  replace h := ofT h; rcases h with ⟨c103, h⟩ | ⟨c103, h⟩
  · refine fi_false rfl (not_f c103) ?_
    refine fi_seq ?_
    refine fi_region ?_
    refine so_move (v := (.v (.bool a2))) rfl ?_
    refine so_assign (v := (.v (.bool a2))) rfl ?_
    refine so_nil ?_
    replace h := ofT h; rcases h with ⟨c104, h⟩ | ⟨c104, h⟩
    · refine fi_true rfl c104 ?_
      refine fi_seq ?_
      refine fi_region ?_
      refine so_move (v := (.v (.flt .f32 a0))) rfl ?_
      refine so_assign (v := (.v (.flt .f32 a0))) rfl ?_
      refine so_nil ?_
      exact by_ret rfl ⟨_, h, rfl, rfl⟩
    · refine fi_false rfl c104 ?_
      refine fi_skip ?_
      refine fi_inBlock ?_
      refine fi_seq ?_
      refine fi_region ?_
      refine so_move (v := (.v (.flt .f32 a0))) rfl ?_
      refine so_move (v := (.v (.flt .f32 a1))) rfl ?_
      refine sv_callS (impl_softer_ok a0 a1 hs  _ h) (fun _ _ ⟨_, _, _, e⟩ => e) rfl rfl ?_
      clear h
      rintro _ _ ⟨y105, h, rfl, rfl⟩
      refine so_assign (v := (.v (.flt .f32 y105))) rfl ?_
      refine so_nil ?_
      exact by_ret rfl ⟨_, h, rfl, rfl⟩
  · refine fi_true rfl (not_t c103) ?_
    refine fi_seq ?_
    refine fi_region ?_
    refine so_assign (v := (.v (.flt .f32 (cz .f32 0)))) rfl ?_
    refine so_nil ?_
    exact by_ret rfl ⟨_, h, rfl, rfl⟩
theorem F138.ag26 : tagg Try.prog 26 = some false := by kernel_rfl
theorem F138.sz26 : tsz Try.prog 26 = some 1 := by kernel_rfl
theorem F138.ta24_24 : tapp Try.prog 24 24 = some (1, 4) := by kernel_rfl
theorem F138.te24 : telem Try.prog 24 = some 26 := by kernel_rfl
theorem F138.ti24 : (telem Try.prog 24).isSome = true := by kernel_rfl
theorem F138.tl24 : (telem Try.prog 24).bind (tsz Try.prog) = some 1 := by kernel_rfl
theorem F138.ze26 : tzero Try.prog 26 = some [(.flt .f32 (0 : Nat))] := by kernel_rfl
theorem impl_shrunkList_ok {fr : List Pc} {H : Heap} (v0 : AV) (l0 : List (Nat)) (a1 : Nat) (a2 : Bool) (hs : Sep H (fr)) (g0 : ∀ H, Sep H fr → Shows H v0 1 (enc (eFlt .f32) l0)) (K : (List (Nat)) → Prop) (h : impl_shrunkList.wp l0 a1 a2 K) : OkQ Try.prog 138 [(.v v0), (.v (.flt .f32 a1)), (.v (.bool a2))] H (fun r H2 => ∃ (y0 : List (Nat)), K y0 ∧ ∃ (w0_ : AV), r = (.v w0_) ∧ Sep H2 (Pc.osl w0_ 1 (enc (eFlt .f32) y0) :: fr)) := by
  unfold impl_shrunkList.wp at h
  refine of_body Try.f138 F.hm Try.func138 rfl Try.call138 (by kernel_rfl) (by simp) ?_
  refine fi_seq ?_
  refine fi_region ?_
  refine so_assign (v := (.v .nilsl)) rfl ?_
  refine so_nil ?_
  refine fi_seq ?_
  refine fi_region ?_
  refine sv_bslice hs (eFlt .f32) ([] : List (Nat)) [] F138.te24 F138.sz26 F138.ze26 rfl rfl rfl rfl (fun _ => rfl) rfl (by decide) nofun (fun v101 H102 nv101 hs => ?_)
  refine so_assign (v := (.v v101)) rfl ?_
  refine so_nil ?_
  refine fi_seq ?_
  refine fi_seq ?_
  refine fi_region ?_
  refine so_move (v := (.v v0)) rfl ?_
  refine sv_len (g0 _ hs.tl) (fun _ => rfl) (by decide) rfl F138.ti24 ?_
  refine so_move (v := (.v (.int .i64 (0 : Int)))) rfl ?_
  refine so_nil ?_
  refine fi_block ?_
  refine fi_loop ?_
  refine fi_at [(1, (.v (.flt .f32 a1))), (2, (.v (.bool a2))), (7, (.v v101)), (11, (.v v0)), (12, (.v (.int .i64 (l0.length : Int)))), (13, (.v (.int .i64 (0 : Int))))] ⟨rfl, rfl, rfl, rfl, rfl, rfl, trivial⟩ ?_
  refine h (fun (out119 : List (Nat)) (x121 : Int) => ∀ (s : Nat → TV) (H : Heap) (v120 : AV) (nv120 : v120 ≠ .nilsl), Sep H (Pc.osl v120 1 (enc (eFlt .f32) out119) :: fr) → Fin _ _ (updL s [(1, (.v (.flt .f32 a1))), (2, (.v (.bool a2))), (7, (.v v120)), (11, (.v v0)), (12, (.v (.int .i64 (l0.length : Int)))), (13, (.v (.int .i64 x121)))]) H _) ?_ _ _ _ nv101 hs
  intro out119 x121 h s132 H133 v120 nv120 hs
  refine fi_inLoop ?_
  refine fi_seq ?_
  refine fi_region ?_
  refine so_bin rfl rfl ab_lss ?_
  refine so_nil ?_
  refine fi_seq ?_
  replace h := ofP h; rcases h with ⟨c122, h⟩ | ⟨c122, h⟩
  · refine fi_true rfl (decide_eq_true c122) ?_
    refine fi_skip ?_
    refine fi_seq ?_
    refine fi_block ?_
    refine fi_seq ?_
    refine fi_region ?_
    obtain ⟨c123, h⟩ := h
    refine sv_idx (g0 _ hs.tl) c123 (fun _ => rfl) (by decide) rfl rfl F138.tl24 ?_
    refine sv_cell (g0 _ hs.tl) c123 (0 : Nat) 0 (fun x => (AV.flt .f32 x)) (fun _ => rfl) (fun _ => rfl) rfl F138.ag26 ?_
    refine so_assign (v := (.v (.flt .f32 (l0.getD (x121).toNat (0 : Nat))))) rfl ?_
    refine so_nil ?_
    refine fi_region ?_
    refine so_move (v := (.v v120)) rfl ?_
    refine so_move (v := (.v (.flt .f32 (l0.getD (x121).toNat (0 : Nat))))) rfl ?_
    refine so_move (v := (.v (.flt .f32 a1))) rfl ?_
    refine so_move (v := (.v (.bool a2))) rfl ?_
    refine sv_callS (impl_shrunk_ok (l0.getD (x121).toNat (0 : Nat)) a1 a2 hs  _ h) (fun _ _ ⟨_, _, _, e⟩ => e) rfl rfl ?_
    clear h
    rintro _ _ ⟨y124, h, rfl, rfl⟩
    refine sv_bslice hs (eFlt .f32) ([y124] : List (Nat)) [[(.flt .f32 y124)]] F138.te24 F138.sz26 F138.ze26 rfl rfl rfl rfl (fun _ => rfl) rfl (by decide) nofun (fun v126 H127 nv126 hs => ?_)
    obtain ⟨c131, h⟩ := h
    refine sv_app hs 1 rfl (hs.shows 0 rfl) (fun _ => rfl) (by decide) F138.ta24_24 (by decide) c131 rfl rfl nofun (fun v129 H130 kv129 hs => ?_)
    replace hs := hs.del 0
    have nv129 := kv129 nv120
    refine so_assign (v := (.v v129)) rfl ?_
    refine so_nil ?_
    refine fi_inBlock ?_
    refine fi_region ?_
    refine so_bin rfl rfl ab_add ?_
    refine so_move (v := (.v (.int .i64 (IntKind.i64.wrap (x121 + (1 : Int)))))) rfl ?_
    refine so_nil ?_
    exact fi_at [(1, (.v (.flt .f32 a1))), (2, (.v (.bool a2))), (7, (.v v129)), (11, (.v v0)), (12, (.v (.int .i64 (l0.length : Int)))), (13, (.v (.int .i64 (IntKind.i64.wrap (x121 + (1 : Int))))))] ⟨rfl, rfl, rfl, rfl, rfl, rfl, trivial⟩ (h _ _ _ nv129 hs)
  · refine fi_false rfl (decide_eq_false c122) ?_
    refine fi_exit rfl ?_
    refine fi_seq ?_
    refine fi_region ?_
    refine so_move (v := (.v v120)) rfl ?_
    refine so_assign (v := (.v v120)) rfl ?_
    refine so_nil ?_
    exact by_ret rfl ⟨_, h, _, rfl, hs⟩
theorem F106.ag24 : tagg Try.prog 24 = some false := by kernel_rfl
theorem F106.ag26 : tagg Try.prog 26 = some false := by kernel_rfl
theorem F106.ag72 : tagg Try.prog 72 = some false := by kernel_rfl
theorem F106.ag91 : tagg Try.prog 91 = some true := by kernel_rfl
theorem F106.bp91 : bplan Try.prog 91 = some ([.nilsl, .nilsl], [(0, 1), (1, 1)]) := by kernel_rfl
theorem F106.fd91_0 : tfield Try.prog 91 0 = some (0, 1, false) := by kernel_rfl
theorem F106.fd91_1 : tfield Try.prog 91 1 = some (1, 1, false) := by kernel_rfl
theorem F106.inf91 : (Try.prog.info? 91).isSome = true := by kernel_rfl
theorem F106.sz24 : tsz Try.prog 24 = some 1 := by kernel_rfl
theorem F106.sz72 : tsz Try.prog 72 = some 1 := by kernel_rfl
theorem F106.sz91 : tsz Try.prog 91 = some 2 := by kernel_rfl
theorem F106.ta72_72 : tapp Try.prog 72 72 = some (1, 24) := by kernel_rfl
theorem F106.te72 : telem Try.prog 72 = some 24 := by kernel_rfl
theorem F106.ti24 : (telem Try.prog 24).isSome = true := by kernel_rfl
theorem F106.ti72 : (telem Try.prog 72).isSome = true := by kernel_rfl
theorem F106.tl24 : (telem Try.prog 24).bind (tsz Try.prog) = some 1 := by kernel_rfl
theorem F106.tl72 : (telem Try.prog 72).bind (tsz Try.prog) = some 1 := by kernel_rfl
theorem F106.ze24 : tzero Try.prog 24 = some [.nilsl] := by kernel_rfl
theorem F106.ze91 : tzero Try.prog 91 = some [.nilsl, .nilsl] := by kernel_rfl
theorem impl_ShrinkBands_ok {fr : List Pc} {H : Heap} (v0 : AV) (l0 : List (Nat)) (v1 : AV) (w1 : List (List AV)) (l1 : List (List (Nat))) (v2 : AV) (l2 : List (Nat)) (a3 : Bool) (hs : Sep H (fr)) (g0 : ∀ H, Sep H fr → Shows H v0 1 (enc (eFlt .f32) l0)) (g1 : ∀ H, Sep H fr → DSh H v1 1 R_LeFlt_f32_o l1 w1) (g2 : ∀ H, Sep H fr → Shows H v2 1 (enc (eFlt .f32) l2)) (K : (List (Nat)) → (List (List (Nat))) → Bool → Prop) (h : impl_ShrinkBands.wp l0 l1 l2 a3 K) : OkQ Try.prog 106 [(.g [v0, v1]), (.v v2), (.v (.bool a3))] H (fun r H2 => ∃ (y0 : List (Nat)) (y1 : List (List (Nat))) (y2 : Bool), K y0 y1 y2 ∧ ∃ (w0_ : AV) (w1_ : AV) (wsw1_ : List (List AV)) (Sw1_ : Nat → Prop), r = (.t [(.g [w0_, w1_]), (.v (.bool y2))]) ∧ Sep H2 (Pc.osl w0_ 1 (enc (eFlt .f32) y0) :: dpc w1_ 1 R_LeFlt_f32_o IR_LeFlt_f32_o y1 wsw1_ Sw1_ :: fr)) := by
  unfold impl_ShrinkBands.wp at h
  refine of_body Try.f106 F.hm Try.func106 rfl Try.call106 (by kernel_rfl) (by simp) ?_
  refine fi_seq ?_
  refine fi_region ?_
  refine sv_box hs rfl (c := [v0, v1]) rfl F106.inf91 (stc (g0 _ hs).stor (stc (g1 _ hs).stor stn)) nofun (fun id101 H102 hs => ?_)
  refine sv_alloc hs F106.ze91 rfl nofun (fun id104 H105 hs => ?_)
  refine so_assign (v := (.v (.bool false))) rfl ?_
  refine so_nil ?_
  refine fi_seq ?_
  refine fi_seq ?_
  refine fi_region ?_
  refine sv_lds hs 1 rfl rfl (leb rfl) rfl F106.ag91 F106.sz91 ?_
  refine sv_call (impl_ValidBands_ok v0 l0 v1 w1 l1 hs (fun _ hs => (g0 _ hs.tl.tl)) (fun _ hs => (g1 _ hs.tl.tl)) _ h) rfl rfl nofun ?_
  clear h hs
  rintro _ H108 ⟨y107, h, rfl, hs⟩
  refine so_un rfl au_not ?_
  refine so_move (v := (.v (.bool (!y107)))) rfl ?_
  replace h := ofT h; rcases h with ⟨c109, h⟩ | ⟨c109, h⟩
  · refine so_gyes rfl (not_f c109) ?_
    refine so_move (v := (.v v2)) rfl ?_
    refine so_gyes rfl (not_f c109) ?_
    refine sv_len (g2 _ hs.tl.tl) (fun _ => rfl) (by decide) rfl F106.ti24 ?_
    refine so_gyes rfl (not_f c109) ?_
    refine so_fieldAddr rfl F106.fd91_1 ?_
    refine so_gyes rfl (not_f c109) ?_
    refine sv_ld hs 1 rfl rfl rfl F106.ag72 ?_
    refine so_gyes rfl (not_f c109) ?_
    refine sd_len ((g1 _ hs.tl.tl) : DSh _ _ 1 R_LeFlt_f32_o l1 w1) (by decide) rfl F106.ti72 ?_
    refine so_gyes rfl (not_f c109) ?_
    refine so_bin rfl rfl ab_neq ?_
    refine so_pick_f (v := (.v (.bool (!(decide ((l2.length : Int) = (l1.length : Int))))))) rfl (not_f c109) rfl ?_
    refine so_nil ?_
    replace h := ofP h; rcases h with ⟨c110, h⟩ | ⟨c110, h⟩
    · refine fi_false rfl (not_f (decide_eq_true c110)) ?_
      refine fi_skip ?_
      refine fi_seq ?_
      refine fi_region ?_
      refine so_fieldAddr rfl F106.fd91_0 ?_
      refine sv_ld hs 1 rfl rfl rfl F106.ag24 ?_
      refine sv_call (impl_copyOf_ok v0 l0 hs (fun _ hs => (g0 _ hs.tl.tl)) _ h) rfl rfl nofun ?_
      clear h hs
      rintro _ H114 ⟨y111, h, v112, rfl, hs⟩
      refine so_build F106.bp91 (cps := [(0, [v112])]) rfl (fac (stc (hs.shows 0 rfl).stor stn) fan) rfl ?_
      refine sv_alloc hs F106.ze91 rfl nofun (fun id115 H116 hs => ?_)
      refine sv_st hs 0 rfl rfl rfl (c := [v112, .nilsl]) rfl F106.sz91 rfl (stc (hs.shows 1 rfl).stor (stc rfl stn)) (leb rfl) (cs' := [v112, .nilsl]) rfl nofun (fun H118 hs => ?_)
      refine so_nil ?_
      refine fi_seq ?_
      refine fi_seq ?_
      refine fi_region ?_
      refine so_fieldAddr rfl F106.fd91_1 ?_
      refine sv_ld hs 3 rfl rfl rfl F106.ag72 ?_
      refine sd_len ((g1 _ hs.tl.tl.tl.tl) : DSh _ _ 1 R_LeFlt_f32_o l1 w1) (by decide) rfl F106.ti72 ?_
      refine so_move (v := (.v (.int .i64 (0 : Int)))) rfl ?_
      refine so_nil ?_
      refine fi_block ?_
      refine fi_loop ?_
      replace hs := hs.del 3
      replace hs := hs.dnil 1 R_LeFlt_f32_o IR_LeFlt_f32_o
      replace hs := hs.nil 1
      replace hs := hs.dnil 1 R_LeFlt_f32_o IR_LeFlt_f32_o
      refine fi_at [(1, (.v v2)), (2, (.v (.bool a3))), (6, (.v (.ptr id104 0))), (8, (.v (.ptr id115 0))), (28, (.v v1)), (29, (.v (.int .i64 (l1.length : Int)))), (30, (.v (.int .i64 (0 : Int))))] ⟨rfl, rfl, rfl, rfl, rfl, rfl, rfl, trivial⟩ ?_
      refine h (fun (b145 : List (List (Nat))) (b150 : List (Nat)) (b153 : List (List (Nat))) (x157 : Int) => ∀ (s : Nat → TV) (H : Heap) (v146 : AV) (ws147 : List (List AV)) (S148 : Nat → Prop) (v151 : AV) (v154 : AV) (ws155 : List (List AV)) (S156 : Nat → Prop), Sep H (dpc v154 1 R_LeFlt_f32_o IR_LeFlt_f32_o b153 ws155 S156 :: Pc.osl v151 1 (enc (eFlt .f32) b150) :: dpc v146 1 R_LeFlt_f32_o IR_LeFlt_f32_o b145 ws147 S148 :: Pc.box id115 [v112, v146] :: Pc.osl v112 1 (enc (eFlt .f32) y111) :: Pc.box id104 [v151, v154] :: fr) → Fin _ _ (updL s [(1, (.v v2)), (2, (.v (.bool a3))), (6, (.v (.ptr id104 0))), (8, (.v (.ptr id115 0))), (28, (.v v1)), (29, (.v (.int .i64 (l1.length : Int)))), (30, (.v (.int .i64 x157)))]) H _) ?_ _ _ _ _ _ _ _ _ _ hs
      intro b145 b150 b153 x157 h s179 H180 v146 ws147 S148 v151 v154 ws155 S156 hs
      refine fi_inLoop ?_
      refine fi_seq ?_
      refine fi_region ?_
      refine so_bin rfl rfl ab_lss ?_
      refine so_nil ?_
      refine fi_seq ?_
      replace h := ofP h; rcases h with ⟨c158, h⟩ | ⟨c158, h⟩
      · refine fi_true rfl (decide_eq_true c158) ?_
        refine fi_skip ?_
        refine fi_seq ?_
        refine fi_block ?_
        refine fi_seq ?_
        refine fi_region ?_
        refine so_move (v := (.v (.int .i64 x157))) rfl ?_
        obtain ⟨c159, h⟩ := h
        refine sd_idx ((g1 _ hs.tl.tl.tl.tl.tl.tl) : DSh _ _ 1 R_LeFlt_f32_o l1 w1) c159 ([] : List (Nat)) (by decide) rfl rfl F106.tl72 ?_
        refine su_ld ((((g1 _ hs.tl.tl.tl.tl.tl.tl) : DSh _ _ 1 R_LeFlt_f32_o l1 w1)).at (by decide) c159 ([] : List (Nat))).2.2 0 (congrArg (fun c => c[0]?) ((((g1 _ hs.tl.tl.tl.tl.tl.tl) : DSh _ _ 1 R_LeFlt_f32_o l1 w1)).at (by decide) c159 ([] : List (Nat))).2.1.1) rfl F106.ag24 ?_
        refine so_assign (v := (.v (.int .i64 x157))) rfl ?_
        refine so_assign (v := (.v ((w1.getD (x157).toNat []).getD 0 .und))) rfl ?_
        refine so_nil ?_
        refine fi_seq ?_
        refine fi_seq ?_
        refine fi_region ?_
        refine so_move (v := (.v v2)) rfl ?_
        refine so_move (v := (.v (.int .i64 x157))) rfl ?_
        obtain ⟨c160, h⟩ := h
        refine sv_idx (g2 _ hs.tl.tl.tl.tl.tl.tl) c160 (fun _ => rfl) (by decide) rfl rfl F106.tl24 ?_
        refine sv_cell (g2 _ hs.tl.tl.tl.tl.tl.tl) c160 (0 : Nat) 0 (fun x => (AV.flt .f32 x)) (fun _ => rfl) (fun _ => rfl) rfl F106.ag26 ?_
        refine sv_callS (impl_isLeast_ok (l2.getD (x157).toNat (0 : Nat)) hs  _ h) (fun _ _ ⟨_, _, _, e⟩ => e) rfl rfl ?_
        clear h
        rintro _ _ ⟨y161, h, rfl, rfl⟩
        refine so_un rfl au_not ?_
        refine so_nil ?_
        replace h := ofT h; rcases h with ⟨c163, h⟩ | ⟨c163, h⟩
        · refine fi_false rfl (not_f c163) ?_
          refine fi_skip ?_
          refine fi_free [1] ?_
          refine wf_pure rfl (by kernel_rfl) ?_
          refine so_fieldAddr rfl F106.fd91_1 ?_
          refine so_end ?_
          refine wf_free (.v v146) rfl (by kernel_rfl) (stepr (i := 0) rfl (by refine sv_ld hs 3 rfl rfl rfl F106.ag72 ?_; exact so_end ⟨rfl, rfl⟩)) fan ?_
          refine wf_pure rfl (by kernel_rfl) ?_
          refine so_move (v := (.v ((w1.getD (x157).toNat []).getD 0 .und))) rfl ?_
          refine so_end ?_
          refine wf_pure rfl (by kernel_rfl) ?_
          refine so_move (v := (.v v2)) rfl ?_
          refine so_end ?_
          refine wf_pure rfl (by kernel_rfl) ?_
          refine so_move (v := (.v (.int .i64 x157))) rfl ?_
          refine so_end ?_
          refine wf_same (by decide +kernel) (by kernel_rfl) ?_
          refine sv_idx (g2 _ hs.tl.tl.tl.tl.tl.tl) c160 (fun _ => rfl) (by decide) rfl rfl F106.tl24 ?_
          refine so_end ⟨rfl, ?_⟩
          refine wf_same (by decide +kernel) (by kernel_rfl) ?_
          refine sv_cell (g2 _ hs.tl.tl.tl.tl.tl.tl) c160 (0 : Nat) 0 (fun x => (AV.flt .f32 x)) (fun _ => rfl) (fun _ => rfl) rfl F106.ag26 ?_
          refine so_end ⟨rfl, ?_⟩
          refine wf_pure rfl (by kernel_rfl) ?_
          refine so_move (v := (.v (.bool a3))) rfl ?_
          refine so_end ?_
          have hs0_ := hs
          refine wf_chg (by kernel_rfl) ?_
          refine sv_call (impl_shrunkList_ok ((w1.getD (x157).toNat []).getD 0 .und) (l1.getD (x157).toNat ([] : List (Nat))) (l2.getD (x157).toNat (0 : Nat)) a3 hs (fun _ hs => ((((g1 _ hs.tl.tl.tl.tl.tl.tl) : DSh _ _ 1 R_LeFlt_f32_o l1 w1)).at (by decide) c159 ([] : List (Nat))).2.1.2) _ h) rfl rfl nofun ?_
          clear h
          rintro _ H167 ⟨y164, h, v165, rfl, hs⟩
          refine so_end ⟨(fac (.inr (stepr (i := 0) rfl (by refine sv_ld hs 4 rfl rfl rfl F106.ag72 ?_; exact so_end ⟨rfl, rfl⟩))) fan), ?_⟩
          have hs1_ := hs
          refine wf_chg (by kernel_rfl) ?_
          refine sd_bslice hs [[v165]] F106.te72 F106.sz24 F106.ze24 rfl rfl rfl (by simp) (fac (stc (hs.shows 0 rfl).stor stn) fan) (by decide) rfl nofun (fun v168 H169 _ hs => ?_)
          refine so_end ⟨(fac (.inr (stepr (i := 0) rfl (by refine sv_ld hs 5 rfl rfl rfl F106.ag72 ?_; exact so_end ⟨rfl, rfl⟩))) fan), ?_⟩
          have hs2_ := hs
          refine wf_chg (by kernel_rfl) ?_
          obtain ⟨c171, h⟩ := h
          replace hs := Sep.front 1 hs rfl
          refine sk_app hs 3 rfl y164 [v165] (hs.tl.shows 0 rfl) (fun _ hh => ⟨rfl, hh⟩) rfl rfl (by decide) F106.ta72_72 (by decide) c171 rfl rfl nofun (fun v172 ws173 S174 H175 hs => ?_)
          replace hs := hs.del 0
          refine so_end ⟨(fac (.inl ⟨10, by kernel_rfl⟩) fan), ?_⟩
          refine wf_pure rfl (by kernel_rfl) ?_
          refine so_fieldAddr rfl F106.fd91_1 ?_
          refine so_end ?_
          have hs3_ := hs
          refine wf_chg (by kernel_rfl) ?_
          refine sv_st hs 3 rfl rfl rfl (c := [v172]) rfl F106.sz72 rfl (stc (hs.dshows 2 rfl).stor stn) (leb rfl) (cs' := [v112, v172]) rfl nofun (fun H176 hs => ?_)
          refine so_end ⟨(fac (.inl ⟨10, by kernel_rfl⟩) fan), ?_⟩
          refine wf_nil ?_
          refine fi_inBlock ?_
          refine fi_region ?_
          refine so_bin rfl rfl ab_add ?_
          refine so_move (v := (.v (.int .i64 (IntKind.i64.wrap (x157 + (1 : Int)))))) rfl ?_
          refine so_nil ?_
          exact fi_at [(1, (.v v2)), (2, (.v (.bool a3))), (6, (.v (.ptr id104 0))), (8, (.v (.ptr id115 0))), (28, (.v v1)), (29, (.v (.int .i64 (l1.length : Int)))), (30, (.v (.int .i64 (IntKind.i64.wrap (x157 + (1 : Int))))))] ⟨rfl, rfl, rfl, rfl, rfl, rfl, rfl, trivial⟩ (h _ _ _ _ _ _ _ _ _ hs)
        · refine fi_true rfl (not_t c163) ?_
          refine fi_seq ?_
          refine fi_region ?_
          refine so_build F106.bp91 (cps := []) rfl fan rfl ?_
          refine sv_st hs 5 rfl rfl rfl (c := [.nilsl, .nilsl]) rfl F106.sz91 rfl (stc rfl (stc rfl stn)) (leb rfl) (cs' := [.nilsl, .nilsl]) rfl nofun (fun H177 hs => ?_)
          refine so_assign (v := (.v (.bool false))) rfl ?_
          refine so_nil ?_
          exact by_ret (res_mk (ar_cells rfl F106.ag91 F106.sz91 (hs.lds 5 rfl (leb rfl) rfl) (ar_tmp rfl ar_nil)) rfl) ⟨_, _, _, h, _, _, _, _, rfl, (Sep.nil (Sep.dnil (Sep.dropn 6 hs) 1 R_LeFlt_f32_o IR_LeFlt_f32_o) 1)⟩
      · refine fi_false rfl (decide_eq_false c158) ?_
        refine fi_exit rfl ?_
        refine fi_seq ?_
        refine fi_region ?_
        refine sv_lds hs 3 rfl rfl (leb rfl) rfl F106.ag91 F106.sz91 ?_
        refine sv_st hs 5 rfl rfl rfl (c := [v112, v146]) rfl F106.sz91 rfl (stc (hs.shows 4 rfl).stor (stc (hs.dshows 2 rfl).stor stn)) (leb rfl) (cs' := [v112, v146]) rfl nofun (fun H178 hs => ?_)
        refine so_assign (v := (.v (.bool true))) rfl ?_
        refine so_nil ?_
        exact by_ret (res_mk (ar_cells rfl F106.ag91 F106.sz91 (hs.lds 5 rfl (leb rfl) rfl) (ar_tmp rfl ar_nil)) rfl) ⟨_, _, _, h, _, _, _, _, rfl, (Sep.front 1 (Sep.del 2 (Sep.del 1 (Sep.del 0 (Sep.del 0 hs)))) rfl)⟩
    · refine fi_true rfl (not_t (decide_eq_false c110)) ?_
      refine fi_seq ?_
      refine fi_region ?_
      refine so_build F106.bp91 (cps := []) rfl fan rfl ?_
      refine sv_st hs 0 rfl rfl rfl (c := [.nilsl, .nilsl]) rfl F106.sz91 rfl (stc rfl (stc rfl stn)) (leb rfl) (cs' := [.nilsl, .nilsl]) rfl nofun (fun H181 hs => ?_)
      refine so_assign (v := (.v (.bool false))) rfl ?_
      refine so_nil ?_
      exact by_ret (res_mk (ar_cells rfl F106.ag91 F106.sz91 (hs.lds 0 rfl (leb rfl) rfl) (ar_tmp rfl ar_nil)) rfl) ⟨_, _, _, h, _, _, _, _, rfl, (Sep.nil (Sep.dnil (Sep.del 0 (Sep.del 0 hs)) 1 R_LeFlt_f32_o IR_LeFlt_f32_o) 1)⟩
  · refine so_gno rfl (not_t c109) ?_
    refine so_gno rfl (not_t c109) ?_
    refine so_gno rfl (not_t c109) ?_
    refine so_gno rfl (not_t c109) ?_
    refine so_gno rfl (not_t c109) ?_
    refine so_gno rfl (not_t c109) ?_
    refine so_pick_t (v := (.v (.bool true))) rfl (not_t c109) rfl ?_
    refine so_nil ?_
    refine fi_true rfl rfl ?_
    refine fi_seq ?_
    refine fi_region ?_
    refine so_build F106.bp91 (cps := []) rfl fan rfl ?_
    refine sv_st hs 0 rfl rfl rfl (c := [.nilsl, .nilsl]) rfl F106.sz91 rfl (stc rfl (stc rfl stn)) (leb rfl) (cs' := [.nilsl, .nilsl]) rfl nofun (fun H182 hs => ?_)
    refine so_assign (v := (.v (.bool false))) rfl ?_
    refine so_nil ?_
    exact by_ret (res_mk (ar_cells rfl F106.ag91 F106.sz91 (hs.lds 0 rfl (leb rfl) rfl) (ar_tmp rfl ar_nil)) rfl) ⟨_, _, _, h, _, _, _, _, rfl, (Sep.nil (Sep.dnil (Sep.del 0 (Sep.del 0 hs)) 1 R_LeFlt_f32_o IR_LeFlt_f32_o) 1)⟩
theorem F139.ag24 : tagg Try.prog 24 = some false := by kernel_rfl
theorem F139.ag26 : tagg Try.prog 26 = some false := by kernel_rfl
theorem F139.ag46 : tagg Try.prog 46 = some true := by kernel_rfl
theorem F139.by26 : tbytes Try.prog 26 = some 4 := by kernel_rfl
theorem F139.fd46_0 : tfield Try.prog 46 0 = some (0, 1, false) := by kernel_rfl
theorem F139.inf46 : (Try.prog.info? 46).isSome = true := by kernel_rfl
theorem F139.sz24 : tsz Try.prog 24 = some 1 := by kernel_rfl
theorem F139.sz26 : tsz Try.prog 26 = some 1 := by kernel_rfl
theorem F139.sz46 : tsz Try.prog 46 = some 1 := by kernel_rfl
theorem F139.te24 : telem Try.prog 24 = some 26 := by kernel_rfl
theorem F139.te72 : telem Try.prog 72 = some 24 := by kernel_rfl
theorem F139.ti24 : (telem Try.prog 24).isSome = true := by kernel_rfl
theorem F139.tl24 : (telem Try.prog 24).bind (tsz Try.prog) = some 1 := by kernel_rfl
theorem F139.ze24 : tzero Try.prog 24 = some [.nilsl] := by kernel_rfl
theorem F139.ze26 : tzero Try.prog 26 = some [(.flt .f32 (0 : Nat))] := by kernel_rfl
theorem impl_JoinRing_ok {fr : List Pc} {H : Heap} (v0 : AV) (l0 : List (Nat)) (v1 : AV) (l1 : List (Nat)) (v2 : AV) (l2 : List (Nat)) (hs : Sep H (fr)) (g0 : ∀ H, Sep H fr → Shows H v0 1 (enc (eFlt .f32) l0)) (g1 : ∀ H, Sep H fr → Shows H v1 1 (enc (eFlt .f32) l1)) (g2 : ∀ H, Sep H fr → Shows H v2 1 (enc (eFlt .f32) l2)) (K : (List (Nat)) → Bool → Prop) (h : impl_JoinRing.wp l0 l1 l2 K) : OkQ Try.prog 139 [(.v v0), (.v v1), (.g [v2])] H (fun r H2 => ∃ (y0 : List (Nat)) (y1 : Bool), K y0 y1 ∧ ∃ (w0_ : AV), r = (.t [(.v w0_), (.v (.bool y1))]) ∧ Sep H2 (Pc.osl w0_ 1 (enc (eFlt .f32) y0) :: fr)) := by
  unfold impl_JoinRing.wp at h
  refine of_body Try.f139 F.hm Try.func139 rfl Try.call139 (by kernel_rfl) (by simp) ?_
  refine fi_seq ?_
  refine fi_region ?_
  refine sv_box hs rfl (c := [v2]) rfl F139.inf46 (stc (g2 _ hs).stor stn) nofun (fun id101 H102 hs => ?_)
  refine so_assign (v := (.v .nilsl)) rfl ?_
  refine so_assign (v := (.v (.bool false))) rfl ?_
  refine so_nil ?_
  refine fi_seq ?_
  refine fi_seq ?_
  refine fi_region ?_
  refine so_move (v := (.v v0)) rfl ?_
  refine sv_len (g0 _ hs.tl) (fun _ => rfl) (by decide) rfl F139.ti24 ?_
  refine sv_callS (impl_within_ok (l0.length : Int) (1 : Int) (64 : Int) hs  _ h) (fun _ _ ⟨_, _, _, e⟩ => e) rfl rfl ?_
  clear h
  rintro _ _ ⟨y104, h, rfl, rfl⟩
  refine so_un rfl au_not ?_
  refine so_move (v := (.v (.bool (!y104)))) rfl ?_
  replace h := ofT h; rcases h with ⟨c106, h⟩ | ⟨c106, h⟩
  · refine so_gyes rfl (not_f c106) ?_
    refine so_move (v := (.v v1)) rfl ?_
    refine so_gyes rfl (not_f c106) ?_
    refine sv_len (g1 _ hs.tl) (fun _ => rfl) (by decide) rfl F139.ti24 ?_
    refine so_gyes rfl (not_f c106) ?_
    refine so_move (v := (.v v0)) rfl ?_
    refine so_gyes rfl (not_f c106) ?_
    refine sv_len (g0 _ hs.tl) (fun _ => rfl) (by decide) rfl F139.ti24 ?_
    refine so_gyes rfl (not_f c106) ?_
    refine so_bin rfl rfl ab_neq ?_
    refine so_pick_f (v := (.v (.bool (!(decide ((l1.length : Int) = (l0.length : Int))))))) rfl (not_f c106) rfl ?_
    refine so_move (v := (.v (.bool (!(decide ((l1.length : Int) = (l0.length : Int))))))) rfl ?_
    replace h := ofP h; rcases h with ⟨c107, h⟩ | ⟨c107, h⟩
    · refine so_gyes rfl (not_f (decide_eq_true c107)) ?_
      refine so_move (v := (.v v0)) rfl ?_
      refine so_gyes rfl (not_f (decide_eq_true c107)) ?_
      refine so_move (v := (.v v1)) rfl ?_
      refine so_gyes rfl (not_f (decide_eq_true c107)) ?_
      refine sd_bslice hs [[v0], [v1]] F139.te72 F139.sz24 F139.ze24 rfl rfl rfl (by simp) (fac (stc (g0 _ hs.tl).stor stn) (fac (stc (g1 _ hs.tl).stor stn) fan)) (by decide) rfl nofun (fun v108 H109 _ hs => ?_)
      refine so_gyes rfl (not_f (decide_eq_true c107)) ?_
      refine sv_callS (impl_areFinite_ok v108 ([[v0], [v1]]) ([l0, l1] : List (List (Nat))) hs (fun _ hs => ⟨hs.shows 0 rfl, by simp, ⟨⟨rfl, (g0 _ hs.tl.tl)⟩, ⟨⟨rfl, (g1 _ hs.tl.tl)⟩, trivial⟩⟩⟩) _ h) (fun _ _ ⟨_, _, _, e⟩ => e) rfl rfl ?_
      clear h
      rintro _ _ ⟨y111, h, rfl, rfl⟩
      refine so_gyes rfl (not_f (decide_eq_true c107)) ?_
      refine so_un rfl au_not ?_
      refine so_pick_f (v := (.v (.bool (!y111)))) rfl (not_f (decide_eq_true c107)) rfl ?_
      refine so_move (v := (.v (.bool (!y111)))) rfl ?_
      replace h := ofT h; rcases h with ⟨c113, h⟩ | ⟨c113, h⟩
      · refine so_gyes rfl (not_f c113) ?_
        refine sv_lds hs 1 rfl rfl (leb rfl) rfl F139.ag46 F139.sz46 ?_
        refine so_gyes rfl (not_f c113) ?_
        refine sv_callS (impl_ValidPair_okS v2 l2 hs (fun _ hs => (g2 _ hs.tl.tl)) _ h) (fun _ _ ⟨_, _, _, e⟩ => e) rfl rfl ?_
        clear h
        rintro _ _ ⟨y114, h, rfl, rfl⟩
        refine so_gyes rfl (not_f c113) ?_
        refine so_un rfl au_not ?_
        refine so_pick_f (v := (.v (.bool (!y114)))) rfl (not_f c113) rfl ?_
        refine so_nil ?_
        replace h := ofT h; rcases h with ⟨c116, h⟩ | ⟨c116, h⟩
        · refine fi_false rfl (not_f c116) ?_
          refine fi_skip ?_
          refine fi_seq ?_
          refine fi_region ?_
          refine sv_lds hs 1 rfl rfl (leb rfl) rfl F139.ag46 F139.sz46 ?_
          refine sv_call (impl_highOf_ok v2 l2 hs (fun _ hs => (g2 _ hs.tl.tl)) _ h) rfl rfl nofun ?_
          clear h hs
          rintro _ H120 ⟨y117, h, v118, rfl, hs⟩
          refine so_assign (v := (.v v118)) rfl ?_
          refine so_nil ?_
          refine fi_seq ?_
          refine fi_region ?_
          refine so_move (v := (.v v0)) rfl ?_
          refine sv_len (g0 _ hs.tl.tl.tl) (fun _ => rfl) (by decide) rfl F139.ti24 ?_
          refine so_bin rfl rfl ab_mul ?_
          refine so_assign (v := (.v (.int .i64 (IntKind.i64.wrap ((2 : Int) * (l0.length : Int)))))) rfl ?_
          refine so_nil ?_
          refine fi_seq ?_
          refine fi_region ?_
          refine so_move (v := (.v (.int .i64 (IntKind.i64.wrap ((2 : Int) * (l0.length : Int)))))) rfl ?_
          obtain ⟨c121, h⟩ := h
          refine sv_make hs (eFlt .f32) (0 : Nat) c121 (fun _ => rfl) rfl rfl F139.te24 F139.sz26 F139.by26 F139.ze26 rfl rfl nofun (fun v122 H123 nv122 hs => ?_)
          refine so_assign (v := (.v v122)) rfl ?_
          refine so_nil ?_
          refine fi_seq ?_
          refine fi_seq ?_
          refine fi_region ?_
          refine so_move (v := (.v v0)) rfl ?_
          refine sv_len (g0 _ hs.tl.tl.tl.tl) (fun _ => rfl) (by decide) rfl F139.ti24 ?_
          refine so_move (v := (.v (.int .i64 (0 : Int)))) rfl ?_
          refine so_nil ?_
          refine fi_block ?_
          refine fi_loop ?_
          replace hs := hs.del 2
          refine fi_at [(0, (.v v0)), (1, (.v v1)), (5, (.v (.ptr id101 0))), (8, (.v v118)), (9, (.v (.int .i64 (IntKind.i64.wrap ((2 : Int) * (l0.length : Int)))))), (10, (.v v122)), (45, (.v (.int .i64 (l0.length : Int)))), (46, (.v (.int .i64 (0 : Int))))] ⟨rfl, rfl, rfl, rfl, rfl, rfl, rfl, rfl, trivial⟩ ?_
          refine h (fun (out156 : List (Nat)) (x157 : Int) => ∀ (s : Nat → TV) (H : Heap), Sep H (Pc.osl v122 1 (enc (eFlt .f32) out156) :: Pc.osl v118 1 (enc (eFlt .f32) y117) :: Pc.box id101 [v2] :: fr) → Fin _ _ (updL s [(0, (.v v0)), (1, (.v v1)), (5, (.v (.ptr id101 0))), (8, (.v v118)), (9, (.v (.int .i64 (IntKind.i64.wrap ((2 : Int) * (l0.length : Int)))))), (10, (.v v122)), (45, (.v (.int .i64 (l0.length : Int)))), (46, (.v (.int .i64 x157)))]) H _) ?_ _ _ hs
          intro out156 x157 h s186 H187 hs
          refine fi_inLoop ?_
          refine fi_seq ?_
          refine fi_region ?_
          refine so_bin rfl rfl ab_lss ?_
          refine so_nil ?_
          refine fi_seq ?_
          replace h := ofP h; rcases h with ⟨c158, h⟩ | ⟨c158, h⟩
          · refine fi_true rfl (decide_eq_true c158) ?_
            refine fi_skip ?_
            refine fi_seq ?_
            refine fi_block ?_
            refine fi_seq ?_
            refine fi_region ?_
            refine so_move (v := (.v (.int .i64 x157))) rfl ?_
            refine so_assign (v := (.v (.int .i64 x157))) rfl ?_
            refine so_nil ?_
            refine fi_seq ?_
            refine fi_region ?_
            refine so_fieldAddr rfl F139.fd46_0 ?_
            refine sv_ld hs 2 rfl rfl rfl F139.ag24 ?_
            refine sv_len (g2 _ hs.tl.tl.tl) (fun _ => rfl) (by decide) rfl F139.ti24 ?_
            refine so_move (v := (.v (.int .i64 (0 : Int)))) rfl ?_
            refine so_nil ?_
            refine fi_block ?_
            refine fi_loop ?_
            refine fi_at [(0, (.v v0)), (1, (.v v1)), (5, (.v (.ptr id101 0))), (8, (.v v118)), (9, (.v (.int .i64 (IntKind.i64.wrap ((2 : Int) * (l0.length : Int)))))), (10, (.v v122)), (11, (.v (.int .i64 x157))), (45, (.v (.int .i64 (l0.length : Int)))), (46, (.v (.int .i64 x157))), (50, (.v v2)), (51, (.v (.int .i64 (l2.length : Int)))), (52, (.v (.int .i64 (0 : Int))))] ⟨rfl, rfl, rfl, rfl, rfl, rfl, rfl, rfl, rfl, rfl, rfl, rfl, trivial⟩ ?_
            refine h (fun (out170 : List (Nat)) (x171 : Int) => ∀ (s : Nat → TV) (H : Heap), Sep H (Pc.osl v122 1 (enc (eFlt .f32) out170) :: Pc.osl v118 1 (enc (eFlt .f32) y117) :: Pc.box id101 [v2] :: fr) → Fin _ _ (updL s [(0, (.v v0)), (1, (.v v1)), (5, (.v (.ptr id101 0))), (8, (.v v118)), (9, (.v (.int .i64 (IntKind.i64.wrap ((2 : Int) * (l0.length : Int)))))), (10, (.v v122)), (11, (.v (.int .i64 x157))), (45, (.v (.int .i64 (l0.length : Int)))), (46, (.v (.int .i64 x157))), (50, (.v v2)), (51, (.v (.int .i64 (l2.length : Int)))), (52, (.v (.int .i64 x171)))]) H _) ?_ _ _ hs
            intro out170 x171 h s180 H181 hs
            refine fi_inLoop ?_
            refine fi_seq ?_
            refine fi_region ?_
            refine so_bin rfl rfl ab_lss ?_
            refine so_nil ?_
            refine fi_seq ?_
            replace h := ofP h; rcases h with ⟨c172, h⟩ | ⟨c172, h⟩
            · refine fi_true rfl (decide_eq_true c172) ?_
              refine fi_skip ?_
              refine fi_seq ?_
              refine fi_block ?_
              refine fi_seq ?_
              refine fi_region ?_
              refine so_move (v := (.v (.int .i64 x171))) rfl ?_
              obtain ⟨c173, h⟩ := h
              refine sv_idx (g2 _ hs.tl.tl.tl) c173 (fun _ => rfl) (by decide) rfl rfl F139.tl24 ?_
              refine sv_cell (g2 _ hs.tl.tl.tl) c173 (0 : Nat) 0 (fun x => (AV.flt .f32 x)) (fun _ => rfl) (fun _ => rfl) rfl F139.ag26 ?_
              refine so_assign (v := (.v (.int .i64 x171))) rfl ?_
              refine so_assign (v := (.v (.flt .f32 (l2.getD (x171).toNat (0 : Nat))))) rfl ?_
              refine so_nil ?_
              refine fi_region ?_
              refine so_move (v := (.v v122)) rfl ?_
              refine so_move (v := (.v (.int .i64 x157))) rfl ?_
              refine so_bin rfl rfl ab_mul ?_
              refine so_move (v := (.v (.int .i64 x171))) rfl ?_
              refine so_bin rfl rfl ab_add ?_
              refine so_move (v := (.v (.int .i64 (IntKind.i64.wrap ((2 : Int) * (l0.length : Int)))))) rfl ?_
              obtain ⟨c174, h⟩ := h
              refine so_bin rfl rfl (ab_rem c174) ?_
              obtain ⟨c175, h⟩ := h
              refine sv_idx (hs.shows 0 rfl) c175 (fun _ => rfl) (by decide) rfl rfl F139.tl24 ?_
              refine sv_cell (hs.shows 0 rfl) c175 (0 : Nat) 0 (fun x => (AV.flt .f32 x)) (fun _ => rfl) (fun _ => rfl) rfl F139.ag26 ?_
              refine so_move (v := (.v (.flt .f32 (l2.getD (x171).toNat (0 : Nat))))) rfl ?_
              refine so_move (v := (.v v0)) rfl ?_
              refine so_move (v := (.v (.int .i64 x157))) rfl ?_
              obtain ⟨c176, h⟩ := h
              refine sv_idx (g0 _ hs.tl.tl.tl) c176 (fun _ => rfl) (by decide) rfl rfl F139.tl24 ?_
              refine sv_cell (g0 _ hs.tl.tl.tl) c176 (0 : Nat) 0 (fun x => (AV.flt .f32 x)) (fun _ => rfl) (fun _ => rfl) rfl F139.ag26 ?_
              refine so_bin rfl rfl ab_fmul ?_
              refine so_move (v := (.v v118)) rfl ?_
              refine so_move (v := (.v (.int .i64 x171))) rfl ?_
              obtain ⟨c177, h⟩ := h
              refine sv_idx (hs.shows 1 rfl) c177 (fun _ => rfl) (by decide) rfl rfl F139.tl24 ?_
              refine sv_cell (hs.shows 1 rfl) c177 (0 : Nat) 0 (fun x => (AV.flt .f32 x)) (fun _ => rfl) (fun _ => rfl) rfl F139.ag26 ?_
              refine so_move (v := (.v v1)) rfl ?_
              refine so_move (v := (.v (.int .i64 x157))) rfl ?_
              obtain ⟨c178, h⟩ := h
              refine sv_idx (g1 _ hs.tl.tl.tl) c178 (fun _ => rfl) (by decide) rfl rfl F139.tl24 ?_
              refine sv_cell (g1 _ hs.tl.tl.tl) c178 (0 : Nat) 0 (fun x => (AV.flt .f32 x)) (fun _ => rfl) (fun _ => rfl) rfl F139.ag26 ?_
              refine so_bin rfl rfl ab_fmul ?_
              refine so_bin rfl rfl ab_fadd ?_
              refine so_bin rfl rfl ab_fadd ?_
              refine sv_idx (hs.shows 0 rfl) c175 (fun _ => rfl) (by decide) rfl rfl F139.tl24 ?_
              refine sv_set hs 0 rfl c175 (fop .add .f32 (out170.getD ((Int.tmod (IntKind.i64.wrap ((IntKind.i64.wrap ((2 : Int) * x157)) + x171)) (IntKind.i64.wrap ((2 : Int) * (l0.length : Int))))).toNat (0 : Nat)) (fop .add .f32 (fop .mul .f32 (l2.getD (x171).toNat (0 : Nat)) (l0.getD (x157).toNat (0 : Nat))) (fop .mul .f32 (y117.getD (x171).toNat (0 : Nat)) (l1.getD (x157).toNat (0 : Nat))))) (fun _ => rfl) (by decide) rfl rfl rfl rfl F139.sz26 (fun _ => by kernel_rfl) (fun H179 hs => ?_)
              refine so_nil ?_
              refine fi_inBlock ?_
              refine fi_region ?_
              refine so_bin rfl rfl ab_add ?_
              refine so_move (v := (.v (.int .i64 (IntKind.i64.wrap (x171 + (1 : Int)))))) rfl ?_
              refine so_nil ?_
              exact fi_at [(0, (.v v0)), (1, (.v v1)), (5, (.v (.ptr id101 0))), (8, (.v v118)), (9, (.v (.int .i64 (IntKind.i64.wrap ((2 : Int) * (l0.length : Int)))))), (10, (.v v122)), (11, (.v (.int .i64 x157))), (45, (.v (.int .i64 (l0.length : Int)))), (46, (.v (.int .i64 x157))), (50, (.v v2)), (51, (.v (.int .i64 (l2.length : Int)))), (52, (.v (.int .i64 (IntKind.i64.wrap (x171 + (1 : Int))))))] ⟨rfl, rfl, rfl, rfl, rfl, rfl, rfl, rfl, rfl, rfl, rfl, rfl, trivial⟩ (h _ _  hs)
            · refine fi_false rfl (decide_eq_false c172) ?_
              refine fi_exit rfl ?_
              refine fi_inBlock ?_
              refine fi_region ?_
              refine so_bin rfl rfl ab_add ?_
              refine so_move (v := (.v (.int .i64 (IntKind.i64.wrap (x157 + (1 : Int)))))) rfl ?_
              refine so_nil ?_
              exact fi_at [(0, (.v v0)), (1, (.v v1)), (5, (.v (.ptr id101 0))), (8, (.v v118)), (9, (.v (.int .i64 (IntKind.i64.wrap ((2 : Int) * (l0.length : Int)))))), (10, (.v v122)), (45, (.v (.int .i64 (l0.length : Int)))), (46, (.v (.int .i64 (IntKind.i64.wrap (x157 + (1 : Int))))))] ⟨rfl, rfl, rfl, rfl, rfl, rfl, rfl, rfl, trivial⟩ (h _ _  hs)
          · refine fi_false rfl (decide_eq_false c158) ?_
            refine fi_exit rfl ?_
            refine fi_seq ?_
            refine fi_region ?_
            refine so_move (v := (.v v122)) rfl ?_
            refine sv_call (impl_finiteList_ok v122 out156 hs (fun _ hs => (hs.shows 0 rfl)) _ h) rfl rfl nofun ?_
            clear h hs
            rintro _ H184 ⟨y182, y183, h, rfl, hs⟩
            replace h := ofT h; rcases h with ⟨c185, h⟩ | ⟨c185, h⟩
            · subst c185
              refine so_extract rfl rfl rfl ?_
              refine so_extract rfl rfl rfl ?_
              refine so_assign (v := (.v v122)) rfl ?_
              refine so_assign (v := (.v (.bool y183))) rfl ?_
              refine so_nil ?_
              exact by_ret rfl ⟨_, _, h, _, rfl, (Sep.del 1 (Sep.del 1 hs))⟩
            · subst c185
              refine so_extract rfl rfl rfl ?_
              refine so_extract rfl rfl rfl ?_
              refine so_assign (v := (.v .nilsl)) rfl ?_
              refine so_assign (v := (.v (.bool y183))) rfl ?_
              refine so_nil ?_
              exact by_ret rfl ⟨_, _, h, _, rfl, (Sep.nil (Sep.del 0 (Sep.del 0 (Sep.del 0 hs))) 1)⟩
        · refine fi_true rfl (not_t c116) ?_
          refine fi_seq ?_
          refine fi_region ?_
          refine so_assign (v := (.v .nilsl)) rfl ?_
          refine so_assign (v := (.v (.bool false))) rfl ?_
          refine so_nil ?_
          exact by_ret rfl ⟨_, _, h, _, rfl, (Sep.nil (Sep.del 0 (Sep.del 0 hs)) 1)⟩
      · refine so_gno rfl (not_t c113) ?_
        refine so_gno rfl (not_t c113) ?_
        refine so_gno rfl (not_t c113) ?_
        refine so_pick_t (v := (.v (.bool true))) rfl (not_t c113) rfl ?_
        refine so_nil ?_
        refine fi_true rfl rfl ?_
        refine fi_seq ?_
        refine fi_region ?_
        refine so_assign (v := (.v .nilsl)) rfl ?_
        refine so_assign (v := (.v (.bool false))) rfl ?_
        refine so_nil ?_
        exact by_ret rfl ⟨_, _, h, _, rfl, (Sep.nil (Sep.del 0 (Sep.del 0 hs)) 1)⟩
    · refine so_gno rfl (not_t (decide_eq_false c107)) ?_
      refine so_gno rfl (not_t (decide_eq_false c107)) ?_
      refine so_gno rfl (not_t (decide_eq_false c107)) ?_
      refine so_gno rfl (not_t (decide_eq_false c107)) ?_
      refine so_gno rfl (not_t (decide_eq_false c107)) ?_
      refine so_pick_t (v := (.v (.bool true))) rfl (not_t (decide_eq_false c107)) rfl ?_
      refine so_move (v := (.v (.bool true))) rfl ?_
      refine so_gno rfl rfl ?_
      refine so_gno rfl rfl ?_
      refine so_gno rfl rfl ?_
      refine so_pick_t (v := (.v (.bool true))) rfl rfl rfl ?_
      refine so_nil ?_
      refine fi_true rfl rfl ?_
      refine fi_seq ?_
      refine fi_region ?_
      refine so_assign (v := (.v .nilsl)) rfl ?_
      refine so_assign (v := (.v (.bool false))) rfl ?_
      refine so_nil ?_
      exact by_ret rfl ⟨_, _, h, _, rfl, (Sep.nil (Sep.del 0 hs) 1)⟩
  · refine so_gno rfl (not_t c106) ?_
    refine so_gno rfl (not_t c106) ?_
    refine so_gno rfl (not_t c106) ?_
    refine so_gno rfl (not_t c106) ?_
    refine so_gno rfl (not_t c106) ?_
    refine so_pick_t (v := (.v (.bool true))) rfl (not_t c106) rfl ?_
    refine so_move (v := (.v (.bool true))) rfl ?_
    refine so_gno rfl rfl ?_
    refine so_gno rfl rfl ?_
    refine so_gno rfl rfl ?_
    refine so_gno rfl rfl ?_
    refine so_gno rfl rfl ?_
    refine so_pick_t (v := (.v (.bool true))) rfl rfl rfl ?_
    refine so_move (v := (.v (.bool true))) rfl ?_
    refine so_gno rfl rfl ?_
    refine so_gno rfl rfl ?_
    refine so_gno rfl rfl ?_
    refine so_pick_t (v := (.v (.bool true))) rfl rfl rfl ?_
    refine so_nil ?_
    refine fi_true rfl rfl ?_
    refine fi_seq ?_
    refine fi_region ?_
    refine so_assign (v := (.v .nilsl)) rfl ?_
    refine so_assign (v := (.v (.bool false))) rfl ?_
    refine so_nil ?_
    exact by_ret rfl ⟨_, _, h, _, rfl, (Sep.nil (Sep.del 0 hs) 1)⟩
theorem F107.ag24 : tagg Try.prog 24 = some false := by kernel_rfl
theorem F107.ag46 : tagg Try.prog 46 = some true := by kernel_rfl
theorem F107.ag72 : tagg Try.prog 72 = some false := by kernel_rfl
theorem F107.ag91 : tagg Try.prog 91 = some true := by kernel_rfl
theorem F107.fd91_0 : tfield Try.prog 91 0 = some (0, 1, false) := by kernel_rfl
theorem F107.fd91_1 : tfield Try.prog 91 1 = some (1, 1, false) := by kernel_rfl
theorem F107.inf46 : (Try.prog.info? 46).isSome = true := by kernel_rfl
theorem F107.inf91 : (Try.prog.info? 91).isSome = true := by kernel_rfl
theorem F107.sz46 : tsz Try.prog 46 = some 1 := by kernel_rfl
theorem F107.sz91 : tsz Try.prog 91 = some 2 := by kernel_rfl
theorem F107.ti72 : (telem Try.prog 72).isSome = true := by kernel_rfl
theorem F107.tl72 : (telem Try.prog 72).bind (tsz Try.prog) = some 1 := by kernel_rfl
theorem impl_JoinLevels_ok {fr : List Pc} {H : Heap} (v0 : AV) (l0 : List (Nat)) (v1 : AV) (w1 : List (List AV)) (l1 : List (List (Nat))) (v2 : AV) (l2 : List (Nat)) (hs : Sep H (fr)) (g0 : ∀ H, Sep H fr → Shows H v0 1 (enc (eFlt .f32) l0)) (g1 : ∀ H, Sep H fr → DSh H v1 1 R_LeFlt_f32_o l1 w1) (g2 : ∀ H, Sep H fr → Shows H v2 1 (enc (eFlt .f32) l2)) (K : (List (Nat)) → Bool → Prop) (h : impl_JoinLevels.wp l0 l1 l2 K) : OkQ Try.prog 107 [(.g [v0, v1]), (.g [v2])] H (fun r H2 => ∃ (y0 : List (Nat)) (y1 : Bool), K y0 y1 ∧ ∃ (w0_ : AV), r = (.t [(.v w0_), (.v (.bool y1))]) ∧ Sep H2 (Pc.osl w0_ 1 (enc (eFlt .f32) y0) :: fr)) := by
  unfold impl_JoinLevels.wp at h
  refine of_body Try.f107 F.hm Try.func107 rfl Try.call107 (by kernel_rfl) (by simp) ?_
  refine fi_seq ?_
  refine fi_region ?_
  refine sv_box hs rfl (c := [v0, v1]) rfl F107.inf91 (stc (g0 _ hs).stor (stc (g1 _ hs).stor stn)) nofun (fun id101 H102 hs => ?_)
  refine sv_box hs rfl (c := [v2]) rfl F107.inf46 (stc (g2 _ hs.tl).stor stn) nofun (fun id104 H105 hs => ?_)
  refine so_assign (v := (.v .nilsl)) rfl ?_
  refine so_assign (v := (.v (.bool false))) rfl ?_
  refine so_nil ?_
  refine fi_seq ?_
  refine fi_seq ?_
  refine fi_region ?_
  refine sv_lds hs 1 rfl rfl (leb rfl) rfl F107.ag91 F107.sz91 ?_
  refine sv_call (impl_ValidBands_ok v0 l0 v1 w1 l1 hs (fun _ hs => (g0 _ hs.tl.tl)) (fun _ hs => (g1 _ hs.tl.tl)) _ h) rfl rfl nofun ?_
  clear h hs
  rintro _ H108 ⟨y107, h, rfl, hs⟩
  refine so_un rfl au_not ?_
  refine so_move (v := (.v (.bool (!y107)))) rfl ?_
  replace h := ofT h; rcases h with ⟨c109, h⟩ | ⟨c109, h⟩
  · refine so_gyes rfl (not_f c109) ?_
    refine sv_lds hs 0 rfl rfl (leb rfl) rfl F107.ag46 F107.sz46 ?_
    refine so_gyes rfl (not_f c109) ?_
    refine sv_callS (impl_ValidPair_okS v2 l2 hs (fun _ hs => (g2 _ hs.tl.tl)) _ h) (fun _ _ ⟨_, _, _, e⟩ => e) rfl rfl ?_
    clear h
    rintro _ _ ⟨y110, h, rfl, rfl⟩
    refine so_gyes rfl (not_f c109) ?_
    refine so_un rfl au_not ?_
    refine so_pick_f (v := (.v (.bool (!y110)))) rfl (not_f c109) rfl ?_
    refine so_nil ?_
    replace h := ofT h; rcases h with ⟨c112, h⟩ | ⟨c112, h⟩
    · refine fi_false rfl (not_f c112) ?_
      refine fi_skip ?_
      refine fi_seq ?_
      refine fi_region ?_
      refine so_fieldAddr rfl F107.fd91_0 ?_
      refine sv_ld hs 1 rfl rfl rfl F107.ag24 ?_
      refine so_assign (v := (.v v0)) rfl ?_
      refine so_nil ?_
      refine fi_seq ?_
      refine fi_seq ?_
      refine fi_region ?_
      refine so_fieldAddr rfl F107.fd91_1 ?_
      refine sv_ld hs 1 rfl rfl rfl F107.ag72 ?_
      refine sd_len ((g1 _ hs.tl.tl) : DSh _ _ 1 R_LeFlt_f32_o l1 w1) (by decide) rfl F107.ti72 ?_
      refine so_bin rfl rfl ab_sub ?_
      refine so_assign (v := (.v (.int .i64 (IntKind.i64.wrap ((l1.length : Int) - (1 : Int)))))) rfl ?_
      refine so_nil ?_
      refine fi_block ?_
      refine fi_loop ?_
      refine fi_inLoop ?_
      refine fi_seq ?_
      refine fi_seq ?_
      refine fi_region ?_
      refine so_move (v := (.v (.int .i64 (IntKind.i64.wrap ((l1.length : Int) - (1 : Int)))))) rfl ?_
      refine so_bin rfl rfl ab_geq ?_
      refine so_nil ?_
      replace h := ofP h; rcases h with ⟨c114, h⟩ | ⟨c114, h⟩
      · refine fi_true rfl (decide_eq_true c114) ?_
        refine fi_skip ?_
        refine fi_seq ?_
        refine fi_block ?_
        refine fi_seq ?_
        refine fi_region ?_
        refine so_move (v := (.v v0)) rfl ?_
        refine so_fieldAddr rfl F107.fd91_1 ?_
        refine sv_ld hs 1 rfl rfl rfl F107.ag72 ?_
        refine so_move (v := (.v (.int .i64 (IntKind.i64.wrap ((l1.length : Int) - (1 : Int)))))) rfl ?_
        obtain ⟨c115, h⟩ := h
        refine sd_idx ((g1 _ hs.tl.tl) : DSh _ _ 1 R_LeFlt_f32_o l1 w1) c115 ([] : List (Nat)) (by decide) rfl rfl F107.tl72 ?_
        refine su_ld ((((g1 _ hs.tl.tl) : DSh _ _ 1 R_LeFlt_f32_o l1 w1)).at (by decide) c115 ([] : List (Nat))).2.2 0 (congrArg (fun c => c[0]?) ((((g1 _ hs.tl.tl) : DSh _ _ 1 R_LeFlt_f32_o l1 w1)).at (by decide) c115 ([] : List (Nat))).2.1.1) rfl F107.ag24 ?_
        refine sv_lds hs 0 rfl rfl (leb rfl) rfl F107.ag46 F107.sz46 ?_
        refine sv_call (impl_JoinRing_ok v0 l0 ((w1.getD ((IntKind.i64.wrap ((l1.length : Int) - (1 : Int)))).toNat []).getD 0 .und) (l1.getD ((IntKind.i64.wrap ((l1.length : Int) - (1 : Int)))).toNat ([] : List (Nat))) v2 l2 hs (fun _ hs => (g0 _ hs.tl.tl)) (fun _ hs => ((((g1 _ hs.tl.tl) : DSh _ _ 1 R_LeFlt_f32_o l1 w1)).at (by decide) c115 ([] : List (Nat))).2.1.2) (fun _ hs => (g2 _ hs.tl.tl)) _ h) rfl rfl (fun _ => by kernel_rfl) ?_
        clear h hs
        rintro _ H120 ⟨y116, y119, h, v117, rfl, hs⟩
        refine so_move (v := (.t [(.v v117), (.v (.bool y119))])) rfl ?_
        refine so_extract rfl rfl rfl ?_
        refine so_extract rfl rfl rfl ?_
        refine so_assign (v := (.v v117)) rfl ?_
        refine so_assign (v := (.v (.bool y119))) rfl ?_
        refine so_nil ?_
        refine fi_seq ?_
        refine fi_seq ?_
        refine fi_region ?_
        refine so_move (v := (.v (.bool y119))) rfl ?_
        refine so_un rfl au_not ?_
        refine so_nil ?_
        replace h := ofT h; rcases h with ⟨c121, h⟩ | ⟨c121, h⟩
        · refine fi_false rfl (not_f c121) ?_
          refine fi_skip ?_
          refine fi_region ?_
          refine so_move (v := (.v v117)) rfl ?_
          refine so_assign (v := (.v v117)) rfl ?_
          refine so_nil ?_
          refine fi_inBlock ?_
          refine fi_region ?_
          refine so_move (v := (.v (.int .i64 (IntKind.i64.wrap ((l1.length : Int) - (1 : Int)))))) rfl ?_
          refine so_bin rfl rfl ab_sub ?_
          refine so_assign (v := (.v (.int .i64 (IntKind.i64.wrap ((IntKind.i64.wrap ((l1.length : Int) - (1 : Int))) - (1 : Int)))))) rfl ?_
          refine so_nil ?_
          refine fi_at [(2, (.v (.ptr id101 0))), (3, (.v (.ptr id104 0))), (6, (.v v117)), (7, (.v (.int .i64 (IntKind.i64.wrap ((IntKind.i64.wrap ((l1.length : Int) - (1 : Int))) - (1 : Int))))))] ⟨rfl, rfl, rfl, rfl, trivial⟩ ?_
          refine h (fun (now123 : List (Nat)) (i125 : Int) => ∀ (s : Nat → TV) (H : Heap) (v124 : AV), Sep H (Pc.osl v124 1 (enc (eFlt .f32) now123) :: Pc.box id104 [v2] :: Pc.box id101 [v0, v1] :: fr) → Fin _ _ (updL s [(2, (.v (.ptr id101 0))), (3, (.v (.ptr id104 0))), (6, (.v v124)), (7, (.v (.int .i64 i125)))]) H _) ?_ _ _ _ hs
          intro now123 i125 h s134 H135 v124 hs
          refine fi_inLoop ?_
          refine fi_seq ?_
          refine fi_seq ?_
          refine fi_region ?_
          refine so_move (v := (.v (.int .i64 i125))) rfl ?_
          refine so_bin rfl rfl ab_geq ?_
          refine so_nil ?_
          replace h := ofP h; rcases h with ⟨c126, h⟩ | ⟨c126, h⟩
          · refine fi_true rfl (decide_eq_true c126) ?_
            refine fi_skip ?_
            refine fi_seq ?_
            refine fi_block ?_
            refine fi_seq ?_
            refine fi_region ?_
            refine so_move (v := (.v v124)) rfl ?_
            refine so_fieldAddr rfl F107.fd91_1 ?_
            refine sv_ld hs 2 rfl rfl rfl F107.ag72 ?_
            refine so_move (v := (.v (.int .i64 i125))) rfl ?_
            obtain ⟨c127, h⟩ := h
            refine sd_idx ((g1 _ hs.tl.tl.tl) : DSh _ _ 1 R_LeFlt_f32_o l1 w1) c127 ([] : List (Nat)) (by decide) rfl rfl F107.tl72 ?_
            refine su_ld ((((g1 _ hs.tl.tl.tl) : DSh _ _ 1 R_LeFlt_f32_o l1 w1)).at (by decide) c127 ([] : List (Nat))).2.2 0 (congrArg (fun c => c[0]?) ((((g1 _ hs.tl.tl.tl) : DSh _ _ 1 R_LeFlt_f32_o l1 w1)).at (by decide) c127 ([] : List (Nat))).2.1.1) rfl F107.ag24 ?_
            refine sv_lds hs 1 rfl rfl (leb rfl) rfl F107.ag46 F107.sz46 ?_
            refine sv_call (impl_JoinRing_ok v124 now123 ((w1.getD (i125).toNat []).getD 0 .und) (l1.getD (i125).toNat ([] : List (Nat))) v2 l2 hs (fun _ hs => (hs.shows 0 rfl)) (fun _ hs => ((((g1 _ hs.tl.tl.tl) : DSh _ _ 1 R_LeFlt_f32_o l1 w1)).at (by decide) c127 ([] : List (Nat))).2.1.2) (fun _ hs => (g2 _ hs.tl.tl.tl)) _ h) rfl rfl (fun _ => by kernel_rfl) ?_
            clear h hs
            rintro _ H132 ⟨y128, y131, h, v129, rfl, hs⟩
            refine so_move (v := (.t [(.v v129), (.v (.bool y131))])) rfl ?_
            refine so_extract rfl rfl rfl ?_
            refine so_extract rfl rfl rfl ?_
            refine so_assign (v := (.v v129)) rfl ?_
            refine so_assign (v := (.v (.bool y131))) rfl ?_
            refine so_nil ?_
            refine fi_seq ?_
            refine fi_seq ?_
            refine fi_region ?_
            refine so_move (v := (.v (.bool y131))) rfl ?_
            refine so_un rfl au_not ?_
            refine so_nil ?_
            replace h := ofT h; rcases h with ⟨c133, h⟩ | ⟨c133, h⟩
            · refine fi_false rfl (not_f c133) ?_
              refine fi_skip ?_
              refine fi_region ?_
              refine so_move (v := (.v v129)) rfl ?_
              refine so_assign (v := (.v v129)) rfl ?_
              refine so_nil ?_
              refine fi_inBlock ?_
              refine fi_region ?_
              refine so_move (v := (.v (.int .i64 i125))) rfl ?_
              refine so_bin rfl rfl ab_sub ?_
              refine so_assign (v := (.v (.int .i64 (IntKind.i64.wrap (i125 - (1 : Int)))))) rfl ?_
              refine so_nil ?_
              exact fi_at [(2, (.v (.ptr id101 0))), (3, (.v (.ptr id104 0))), (6, (.v v129)), (7, (.v (.int .i64 (IntKind.i64.wrap (i125 - (1 : Int))))))] ⟨rfl, rfl, rfl, rfl, trivial⟩ (h _ _ _ (Sep.del 1 hs))
            · refine fi_true rfl (not_t c133) ?_
              refine fi_seq ?_
              refine fi_region ?_
              refine so_assign (v := (.v .nilsl)) rfl ?_
              refine so_assign (v := (.v (.bool false))) rfl ?_
              refine so_nil ?_
              exact by_ret rfl ⟨_, _, h, _, rfl, (Sep.nil (Sep.dropn 4 hs) 1)⟩
          · refine fi_false rfl (decide_eq_false c126) ?_
            refine fi_exit rfl ?_
            refine fi_seq ?_
            refine fi_region ?_
            refine so_move (v := (.v v124)) rfl ?_
            refine so_assign (v := (.v v124)) rfl ?_
            refine so_assign (v := (.v (.bool true))) rfl ?_
            refine so_nil ?_
            exact by_ret rfl ⟨_, _, h, _, rfl, (Sep.del 1 (Sep.del 1 hs))⟩
        · refine fi_true rfl (not_t c121) ?_
          refine fi_seq ?_
          refine fi_region ?_
          refine so_assign (v := (.v .nilsl)) rfl ?_
          refine so_assign (v := (.v (.bool false))) rfl ?_
          refine so_nil ?_
          exact by_ret rfl ⟨_, _, h, _, rfl, (Sep.nil (Sep.del 0 (Sep.del 0 (Sep.del 0 hs))) 1)⟩
      · refine fi_false rfl (decide_eq_false c114) ?_
        refine fi_exit rfl ?_
        refine fi_seq ?_
        refine fi_region ?_
        refine so_move (v := (.v v0)) rfl ?_
        refine so_assign (v := (.v v0)) rfl ?_
        refine so_assign (v := (.v (.bool true))) rfl ?_
        refine so_nil ?_
        exact h.elim
    · refine fi_true rfl (not_t c112) ?_
      refine fi_seq ?_
      refine fi_region ?_
      refine so_assign (v := (.v .nilsl)) rfl ?_
      refine so_assign (v := (.v (.bool false))) rfl ?_
      refine so_nil ?_
      exact by_ret rfl ⟨_, _, h, _, rfl, (Sep.nil (Sep.del 0 (Sep.del 0 hs)) 1)⟩
  · refine so_gno rfl (not_t c109) ?_
    refine so_gno rfl (not_t c109) ?_
    refine so_gno rfl (not_t c109) ?_
    refine so_pick_t (v := (.v (.bool true))) rfl (not_t c109) rfl ?_
    refine so_nil ?_
    refine fi_true rfl rfl ?_
    refine fi_seq ?_
    refine fi_region ?_
    refine so_assign (v := (.v .nilsl)) rfl ?_
    refine so_assign (v := (.v (.bool false))) rfl ?_
    refine so_nil ?_
    exact by_ret rfl ⟨_, _, h, _, rfl, (Sep.nil (Sep.del 0 (Sep.del 0 hs)) 1)⟩
theorem F61.ag46 : tagg Try.prog 46 = some true := by kernel_rfl
theorem F61.ag72 : tagg Try.prog 72 = some false := by kernel_rfl
theorem F61.ag91 : tagg Try.prog 91 = some true := by kernel_rfl
theorem F61.fd91_1 : tfield Try.prog 91 1 = some (1, 1, false) := by kernel_rfl
theorem F61.inf46 : (Try.prog.info? 46).isSome = true := by kernel_rfl
theorem F61.sz26 : tsz Try.prog 26 = some 1 := by kernel_rfl
theorem F61.sz46 : tsz Try.prog 46 = some 1 := by kernel_rfl
theorem F61.sz91 : tsz Try.prog 91 = some 2 := by kernel_rfl
theorem F61.ta24_24 : tapp Try.prog 24 24 = some (1, 4) := by kernel_rfl
theorem F61.te24 : telem Try.prog 24 = some 26 := by kernel_rfl
theorem F61.ti72 : (telem Try.prog 72).isSome = true := by kernel_rfl
theorem F61.ze26 : tzero Try.prog 26 = some [(.flt .f32 (0 : Nat))] := by kernel_rfl
theorem F61.ze91 : tzero Try.prog 91 = some [.nilsl, .nilsl] := by kernel_rfl
theorem impl_fillTurn_ok {fr : List Pc} {H : Heap} (v0 : AV) (l0 : List (Nat)) (v1 : AV) (l1 : List (Nat)) (a2 : Int) (a3 : Nat) (hs : Sep H (fr)) (g0 : ∀ H, Sep H fr → Shows H v0 1 (enc (eFlt .f32) l0)) (g1 : ∀ H, Sep H fr → Shows H v1 1 (enc (eFlt .f32) l1)) (K : (List (Nat)) → Bool → Prop) (h : impl_fillTurn.wp l0 l1 a2 a3 K) : OkQ Try.prog 61 [(.v v0), (.g [v1]), (.v (.int .i64 a2)), (.v (.flt .f32 a3))] H (fun r H2 => ∃ (y0 : List (Nat)) (y1 : Bool), K y0 y1 ∧ ∃ (w0_ : AV), r = (.t [(.v w0_), (.v (.bool y1))]) ∧ Sep H2 (Pc.osl w0_ 1 (enc (eFlt .f32) y0) :: fr)) := by
  unfold impl_fillTurn.wp at h
  refine of_body Try.f61 F.hm Try.func61 rfl Try.call61 (by kernel_rfl) (by simp) ?_
  refine fi_seq ?_
  refine fi_region ?_
  refine sv_box hs rfl (c := [v1]) rfl F61.inf46 (stc (g1 _ hs).stor stn) nofun (fun id101 H102 hs => ?_)
  refine so_assign (v := (.v .nilsl)) rfl ?_
  refine so_assign (v := (.v (.bool false))) rfl ?_
  refine so_nil ?_
  refine fi_seq ?_
  refine fi_region ?_
  refine so_move (v := (.v v0)) rfl ?_
  refine sv_lds hs 0 rfl rfl (leb rfl) rfl F61.ag46 F61.sz46 ?_
  refine so_move (v := (.v (.int .i64 a2))) rfl ?_
  refine sv_call (impl_SplitLevels_ok v0 l0 v1 l1 a2 hs (fun _ hs => (g0 _ hs.tl)) (fun _ hs => (g1 _ hs.tl)) _ h) rfl rfl nofun ?_
  clear h hs
  rintro _ H113 ⟨y104, y107, y112, h, v105, v108, ws110, S111, rfl, hs⟩
  refine so_move (v := (.t [(.g [v105, v108]), (.v (.bool y112))])) rfl ?_
  refine so_extract rfl rfl rfl ?_
  refine so_extract rfl rfl rfl ?_
  refine sv_alloc hs F61.ze91 rfl nofun (fun id114 H115 hs => ?_)
  refine sv_st hs 0 rfl rfl rfl (c := [v105, v108]) rfl F61.sz91 rfl (stc (hs.shows 1 rfl).stor (stc (hs.dshows 2 rfl).stor stn)) (leb rfl) (cs' := [v105, v108]) rfl nofun (fun H117 hs => ?_)
  refine so_assign (v := (.v (.bool y112))) rfl ?_
  refine so_nil ?_
  refine fi_seq ?_
  refine fi_seq ?_
  refine fi_region ?_
  refine so_move (v := (.v (.bool y112))) rfl ?_
  refine so_un rfl au_not ?_
  refine so_nil ?_
  replace h := ofT h; rcases h with ⟨c118, h⟩ | ⟨c118, h⟩
  · refine fi_false rfl (not_f c118) ?_
    refine fi_skip ?_
    refine fi_seq ?_
    refine fi_region ?_
    refine sv_bslice hs (eFlt .f32) ([] : List (Nat)) [] F61.te24 F61.sz26 F61.ze26 rfl rfl rfl rfl (fun _ => rfl) rfl (by decide) nofun (fun v119 H120 nv119 hs => ?_)
    refine so_assign (v := (.v v119)) rfl ?_
    refine so_nil ?_
    refine fi_seq ?_
    refine fi_seq ?_
    refine fi_region ?_
    refine so_fieldAddr rfl F61.fd91_1 ?_
    refine sv_ld hs 1 rfl rfl rfl F61.ag72 ?_
    refine sd_len ((hs.dshows 3 rfl) : DSh _ _ 1 R_LeFlt_f32_o y107 ws110) (by decide) rfl F61.ti72 ?_
    refine so_move (v := (.v (.int .i64 (0 : Int)))) rfl ?_
    refine so_nil ?_
    refine fi_block ?_
    refine fi_loop ?_
    refine fi_at [(3, (.v (.flt .f32 a3))), (5, (.v (.ptr id101 0))), (10, (.v (.ptr id114 0))), (12, (.v v119)), (25, (.v (.int .i64 (y107.length : Int)))), (26, (.v (.int .i64 (0 : Int))))] ⟨rfl, rfl, rfl, rfl, rfl, rfl, trivial⟩ ?_
    refine h (fun (limits151 : List (Nat)) (x153 : Int) => ∀ (s : Nat → TV) (H : Heap) (v152 : AV) (nv152 : v152 ≠ .nilsl), Sep H (Pc.osl v152 1 (enc (eFlt .f32) limits151) :: Pc.box id114 [v105, v108] :: Pc.osl v105 1 (enc (eFlt .f32) y104) :: dpc v108 1 R_LeFlt_f32_o IR_LeFlt_f32_o y107 ws110 S111 :: Pc.box id101 [v1] :: fr) → Fin _ _ (updL s [(3, (.v (.flt .f32 a3))), (5, (.v (.ptr id101 0))), (10, (.v (.ptr id114 0))), (12, (.v v152)), (25, (.v (.int .i64 (y107.length : Int)))), (26, (.v (.int .i64 x153)))]) H _) ?_ _ _ _ nv119 hs
    intro limits151 x153 h s178 H179 v152 nv152 hs
    refine fi_inLoop ?_
    refine fi_seq ?_
    refine fi_region ?_
    refine so_bin rfl rfl ab_lss ?_
    refine so_nil ?_
    refine fi_seq ?_
    replace h := ofP h; rcases h with ⟨c154, h⟩ | ⟨c154, h⟩
    · refine fi_true rfl (decide_eq_true c154) ?_
      refine fi_skip ?_
      refine fi_seq ?_
      refine fi_block ?_
      refine fi_region ?_
      refine so_move (v := (.v v152)) rfl ?_
      refine so_move (v := (.v (.flt .f32 a3))) rfl ?_
      refine sv_bslice hs (eFlt .f32) ([a3] : List (Nat)) [[(.flt .f32 a3)]] F61.te24 F61.sz26 F61.ze26 rfl rfl rfl rfl (fun _ => rfl) rfl (by decide) nofun (fun v155 H156 nv155 hs => ?_)
      obtain ⟨c160, h⟩ := h
      refine sv_app hs 1 rfl (hs.shows 0 rfl) (fun _ => rfl) (by decide) F61.ta24_24 (by decide) c160 rfl rfl nofun (fun v158 H159 kv158 hs => ?_)
      replace hs := hs.del 0
      have nv158 := kv158 nv152
      refine so_assign (v := (.v v158)) rfl ?_
      refine so_nil ?_
      refine fi_inBlock ?_
      refine fi_region ?_
      refine so_bin rfl rfl ab_add ?_
      refine so_move (v := (.v (.int .i64 (IntKind.i64.wrap (x153 + (1 : Int)))))) rfl ?_
      refine so_nil ?_
      exact fi_at [(3, (.v (.flt .f32 a3))), (5, (.v (.ptr id101 0))), (10, (.v (.ptr id114 0))), (12, (.v v158)), (25, (.v (.int .i64 (y107.length : Int)))), (26, (.v (.int .i64 (IntKind.i64.wrap (x153 + (1 : Int))))))] ⟨rfl, rfl, rfl, rfl, rfl, rfl, trivial⟩ (h _ _ _ nv158 hs)
    · refine fi_false rfl (decide_eq_false c154) ?_
      refine fi_exit rfl ?_
      refine fi_seq ?_
      refine fi_region ?_
      refine sv_lds hs 1 rfl rfl (leb rfl) rfl F61.ag91 F61.sz91 ?_
      refine so_move (v := (.v v152)) rfl ?_
      refine sv_call (impl_ShrinkBands_ok v105 y104 v108 ws110 y107 v152 limits151 false hs (fun _ hs => (hs.shows 2 rfl)) (fun _ hs => (hs.dshows 3 rfl)) (fun _ hs => (hs.shows 0 rfl)) _ h) rfl rfl nofun ?_
      clear h hs
      rintro _ H170 ⟨y161, y164, y169, h, v162, v165, ws167, S168, rfl, hs⟩
      refine so_move (v := (.t [(.g [v162, v165]), (.v (.bool y169))])) rfl ?_
      refine so_extract rfl rfl rfl ?_
      refine so_extract rfl rfl rfl ?_
      refine sv_st hs 3 rfl rfl rfl (c := [v162, v165]) rfl F61.sz91 rfl (stc (hs.shows 0 rfl).stor (stc (hs.dshows 1 rfl).stor stn)) (leb rfl) (cs' := [v162, v165]) rfl nofun (fun H171 hs => ?_)
      refine so_assign (v := (.v (.bool y169))) rfl ?_
      refine so_nil ?_
      refine fi_seq ?_
      refine fi_seq ?_
      refine fi_region ?_
      refine so_move (v := (.v (.bool y169))) rfl ?_
      refine so_un rfl au_not ?_
      refine so_nil ?_
      replace h := ofT h; rcases h with ⟨c172, h⟩ | ⟨c172, h⟩
      · refine fi_false rfl (not_f c172) ?_
        refine fi_skip ?_
        refine fi_seq ?_
        refine fi_region ?_
        refine sv_lds hs 3 rfl rfl (leb rfl) rfl F61.ag91 F61.sz91 ?_
        refine sv_lds hs 6 rfl rfl (leb rfl) rfl F61.ag46 F61.sz46 ?_
        refine sv_call (impl_JoinLevels_ok v162 y161 v165 ws167 y164 v1 l1 hs (fun _ hs => (hs.shows 0 rfl)) (fun _ hs => (hs.dshows 1 rfl)) (fun _ hs => (g1 _ hs.tl.tl.tl.tl.tl.tl.tl)) _ h) rfl rfl nofun ?_
        clear h hs
        rintro _ H177 ⟨y173, y176, h, v174, rfl, hs⟩
        refine so_extract rfl rfl rfl ?_
        refine so_extract rfl rfl rfl ?_
        refine so_assign (v := (.v v174)) rfl ?_
        refine so_assign (v := (.v (.bool y176))) rfl ?_
        refine so_nil ?_
        exact by_ret rfl ⟨_, _, h, _, rfl, (Sep.del 1 (Sep.del 1 (Sep.del 1 (Sep.del 1 (Sep.del 1 (Sep.del 1 (Sep.del 1 hs)))))))⟩
      · refine fi_true rfl (not_t c172) ?_
        refine fi_seq ?_
        refine fi_region ?_
        refine so_assign (v := (.v .nilsl)) rfl ?_
        refine so_assign (v := (.v (.bool false))) rfl ?_
        refine so_nil ?_
        exact by_ret rfl ⟨_, _, h, _, rfl, (Sep.nil (Sep.dropn 7 hs) 1)⟩
  · refine fi_true rfl (not_t c118) ?_
    refine fi_seq ?_
    refine fi_region ?_
    refine so_assign (v := (.v .nilsl)) rfl ?_
    refine so_assign (v := (.v (.bool false))) rfl ?_
    refine so_nil ?_
    exact by_ret rfl ⟨_, _, h, _, rfl, (Sep.nil (Sep.dropn 4 hs) 1)⟩
theorem F21.ag26 : tagg Try.prog 26 = some false := by kernel_rfl
theorem F21.ag4 : tagg Try.prog 4 = some false := by kernel_rfl
theorem F21.ag46 : tagg Try.prog 46 = some true := by kernel_rfl
theorem F21.inf46 : (Try.prog.info? 46).isSome = true := by kernel_rfl
theorem F21.sz26 : tsz Try.prog 26 = some 1 := by kernel_rfl
theorem F21.sz46 : tsz Try.prog 46 = some 1 := by kernel_rfl
theorem F21.ta24_24 : tapp Try.prog 24 24 = some (1, 4) := by kernel_rfl
theorem F21.te24 : telem Try.prog 24 = some 26 := by kernel_rfl
theorem F21.ti24 : (telem Try.prog 24).isSome = true := by kernel_rfl
theorem F21.ti49 : (telem Try.prog 49).isSome = true := by kernel_rfl
theorem F21.tl24 : (telem Try.prog 24).bind (tsz Try.prog) = some 1 := by kernel_rfl
theorem F21.tl49 : (telem Try.prog 49).bind (tsz Try.prog) = some 1 := by kernel_rfl
theorem F21.ze26 : tzero Try.prog 26 = some [(.flt .f32 (0 : Nat))] := by kernel_rfl
theorem impl_FillRounds_ok {fr : List Pc} {H : Heap} (v0 : AV) (l0 : List (Nat)) (v1 : AV) (l1 : List (Bool)) (v2 : AV) (l2 : List (Nat)) (a3 : Int) (a4 : Nat) (a5 : Nat) (a6 : Int) (hs : Sep H (fr)) (g0 : ∀ H, Sep H fr → Shows H v0 1 (enc (eFlt .f32) l0)) (g1 : ∀ H, Sep H fr → Shows H v1 1 (enc eBool l1)) (g2 : ∀ H, Sep H fr → Shows H v2 1 (enc (eFlt .f32) l2)) (K : (List (Nat)) → Bool → Prop) (h : impl_FillRounds.wp l0 l1 l2 a3 a4 a5 a6 K) : OkQ Try.prog 21 [(.v v0), (.v v1), (.g [v2]), (.v (.int .i64 a3)), (.v (.flt .f32 a4)), (.v (.flt .f32 a5)), (.v (.int .i64 a6))] H (fun r H2 => ∃ (y0 : List (Nat)) (y1 : Bool), K y0 y1 ∧ ∃ (w0_ : AV), r = (.t [(.v w0_), (.v (.bool y1))]) ∧ Sep H2 (Pc.osl w0_ 1 (enc (eFlt .f32) y0) :: fr)) := by
  unfold impl_FillRounds.wp at h
  refine of_body Try.f21 F.hm Try.func21 rfl Try.call21 (by kernel_rfl) (by simp) ?_
  refine fi_seq ?_
  refine fi_region ?_
  refine sv_box hs rfl (c := [v2]) rfl F21.inf46 (stc (g2 _ hs).stor stn) nofun (fun id101 H102 hs => ?_)
  refine so_assign (v := (.v .nilsl)) rfl ?_
  refine so_assign (v := (.v (.bool false))) rfl ?_
  refine so_nil ?_
  refine fi_seq ?_
  refine fi_seq ?_
  refine fi_region ?_
  refine so_move (v := (.v v0)) rfl ?_
  refine sv_callS (impl_isLong_okS v0 l0 hs (fun _ hs => (g0 _ hs.tl)) _ h) (fun _ _ ⟨_, _, _, e⟩ => e) rfl rfl ?_
  clear h
  rintro _ _ ⟨y104, h, rfl, rfl⟩
  refine so_un rfl au_not ?_
  refine so_move (v := (.v (.bool (!y104)))) rfl ?_
  replace h := ofT h; rcases h with ⟨c106, h⟩ | ⟨c106, h⟩
  · refine so_gyes rfl (not_f c106) ?_
    refine so_move (v := (.v v1)) rfl ?_
    refine so_gyes rfl (not_f c106) ?_
    refine sv_len (g1 _ hs.tl) (fun _ => rfl) (by decide) rfl F21.ti49 ?_
    refine so_gyes rfl (not_f c106) ?_
    refine so_move (v := (.v v0)) rfl ?_
    refine so_gyes rfl (not_f c106) ?_
    refine sv_len (g0 _ hs.tl) (fun _ => rfl) (by decide) rfl F21.ti24 ?_
    refine so_gyes rfl (not_f c106) ?_
    refine so_bin rfl rfl ab_neq ?_
    refine so_pick_f (v := (.v (.bool (!(decide ((l1.length : Int) = (l0.length : Int))))))) rfl (not_f c106) rfl ?_
    refine so_move (v := (.v (.bool (!(decide ((l1.length : Int) = (l0.length : Int))))))) rfl ?_
    replace h := ofP h; rcases h with ⟨c107, h⟩ | ⟨c107, h⟩
    · refine so_gyes rfl (not_f (decide_eq_true c107)) ?_
      refine sv_lds hs 0 rfl rfl (leb rfl) rfl F21.ag46 F21.sz46 ?_
      refine so_gyes rfl (not_f (decide_eq_true c107)) ?_
      refine sv_callS (impl_ValidPair_okS v2 l2 hs (fun _ hs => (g2 _ hs.tl)) _ h) (fun _ _ ⟨_, _, _, e⟩ => e) rfl rfl ?_
      clear h
      rintro _ _ ⟨y108, h, rfl, rfl⟩
      refine so_gyes rfl (not_f (decide_eq_true c107)) ?_
      refine so_un rfl au_not ?_
      refine so_pick_f (v := (.v (.bool (!y108)))) rfl (not_f (decide_eq_true c107)) rfl ?_
      refine so_move (v := (.v (.bool (!y108)))) rfl ?_
      replace h := ofT h; rcases h with ⟨c110, h⟩ | ⟨c110, h⟩
      · refine so_gyes rfl (not_f c110) ?_
        refine so_move (v := (.v (.int .i64 a3))) rfl ?_
        refine so_gyes rfl (not_f c110) ?_
        refine sv_callS (impl_within_ok a3 (1 : Int) (6 : Int) hs  _ h) (fun _ _ ⟨_, _, _, e⟩ => e) rfl rfl ?_
        clear h
        rintro _ _ ⟨y111, h, rfl, rfl⟩
        refine so_gyes rfl (not_f c110) ?_
        refine so_un rfl au_not ?_
        refine so_pick_f (v := (.v (.bool (!y111)))) rfl (not_f c110) rfl ?_
        refine so_move (v := (.v (.bool (!y111)))) rfl ?_
        replace h := ofT h; rcases h with ⟨c113, h⟩ | ⟨c113, h⟩
        · refine so_gyes rfl (not_f c113) ?_
          refine so_move (v := (.v v0)) rfl ?_
          refine so_gyes rfl (not_f c113) ?_
          refine sv_len (g0 _ hs.tl) (fun _ => rfl) (by decide) rfl F21.ti24 ?_
          refine so_gyes rfl (not_f c113) ?_
          refine so_move (v := (.v (.int .i64 a3))) rfl ?_
          refine so_gyes rfl (not_f c113) ?_
          obtain ⟨c114, h⟩ := h
          refine so_bin rfl rfl (ab_shl c114) ?_
          refine so_gyes rfl (not_f c113) ?_
          obtain ⟨c115, h⟩ := h
          refine so_bin rfl rfl (ab_rem c115) ?_
          refine so_gyes rfl (not_f c113) ?_
          refine so_bin rfl rfl ab_neq ?_
          refine so_pick_f (v := (.v (.bool (!(decide ((Int.tmod (l0.length : Int) (IntKind.i64.wrap ((1 : Int) * (2 ^ (min (a3).toNat IntKind.i64.bits))))) = (0 : Int))))))) rfl (not_f c113) rfl ?_
          refine so_nil ?_
          replace h := ofP h; rcases h with ⟨c116, h⟩ | ⟨c116, h⟩
          · refine fi_false rfl (not_f (decide_eq_true c116)) ?_
            refine fi_skip ?_
            refine fi_seq ?_
            refine fi_seq ?_
            refine fi_region ?_
            refine so_move (v := (.v (.flt .f32 a4))) rfl ?_
            refine sv_callS (impl_isLeast_ok a4 hs  _ h) (fun _ _ ⟨_, _, _, e⟩ => e) rfl rfl ?_
            clear h
            rintro _ _ ⟨y117, h, rfl, rfl⟩
            refine so_un rfl au_not ?_
            refine so_move (v := (.v (.bool (!y117)))) rfl ?_
            replace h := ofT h; rcases h with ⟨c119, h⟩ | ⟨c119, h⟩
            · refine so_gyes rfl (not_f c119) ?_
              refine so_move (v := (.v (.flt .f32 a5))) rfl ?_
              refine so_gyes rfl (not_f c119) ?_
              refine sv_callS (impl_isShare_ok a5 hs  _ h) (fun _ _ ⟨_, _, _, e⟩ => e) rfl rfl ?_
              clear h
              rintro _ _ ⟨y120, h, rfl, rfl⟩
              refine so_gyes rfl (not_f c119) ?_
              refine so_un rfl au_not ?_
              refine so_pick_f (v := (.v (.bool (!y120)))) rfl (not_f c119) rfl ?_
              refine so_move (v := (.v (.bool (!y120)))) rfl ?_
              replace h := ofT h; rcases h with ⟨c122, h⟩ | ⟨c122, h⟩
              · refine so_gyes rfl (not_f c122) ?_
                refine so_move (v := (.v (.int .i64 a6))) rfl ?_
                refine so_gyes rfl (not_f c122) ?_
                refine sv_callS (impl_within_ok a6 (0 : Int) (32 : Int) hs  _ h) (fun _ _ ⟨_, _, _, e⟩ => e) rfl rfl ?_
                clear h
                rintro _ _ ⟨y123, h, rfl, rfl⟩
                refine so_gyes rfl (not_f c122) ?_
                refine so_un rfl au_not ?_
                refine so_pick_f (v := (.v (.bool (!y123)))) rfl (not_f c122) rfl ?_
                refine so_move (v := (.v (.bool (!y123)))) rfl ?_
                replace h := ofT h; rcases h with ⟨c125, h⟩ | ⟨c125, h⟩
                · refine so_gyes rfl (not_f c125) ?_
                  refine so_move (v := (.v v1)) rfl ?_
                  refine so_gyes rfl (not_f c125) ?_
                  refine sv_callS (slices_Contains_bool_bool_ok v1 l1 true hs (fun _ hs => (g1 _ hs.tl)) _ h) (fun _ _ ⟨_, _, _, e⟩ => e) rfl rfl ?_
                  clear h
                  rintro _ _ ⟨y126, h, rfl, rfl⟩
                  refine so_gyes rfl (not_f c125) ?_
                  refine so_un rfl au_not ?_
                  refine so_pick_f (v := (.v (.bool (!y126)))) rfl (not_f c125) rfl ?_
                  refine so_nil ?_
                  replace h := ofT h; rcases h with ⟨c128, h⟩ | ⟨c128, h⟩
                  · refine fi_false rfl (not_f c128) ?_
                    refine fi_skip ?_
                    refine fi_seq ?_
                    refine fi_region ?_
                    refine sv_bslice hs (eFlt .f32) ([] : List (Nat)) [] F21.te24 F21.sz26 F21.ze26 rfl rfl rfl rfl (fun _ => rfl) rfl (by decide) nofun (fun v129 H130 nv129 hs => ?_)
                    refine so_assign (v := (.v v129)) rfl ?_
                    refine so_nil ?_
                    refine fi_seq ?_
                    refine fi_seq ?_
                    refine fi_region ?_
                    refine so_move (v := (.v v0)) rfl ?_
                    refine sv_len (g0 _ hs.tl.tl) (fun _ => rfl) (by decide) rfl F21.ti24 ?_
                    refine so_move (v := (.v (.int .i64 (0 : Int)))) rfl ?_
                    refine so_nil ?_
                    refine fi_block ?_
                    refine fi_loop ?_
                    refine fi_at [(0, (.v v0)), (1, (.v v1)), (3, (.v (.int .i64 a3))), (4, (.v (.flt .f32 a4))), (5, (.v (.flt .f32 a5))), (6, (.v (.int .i64 a6))), (9, (.v (.ptr id101 0))), (16, (.v v129)), (74, (.v v0)), (75, (.v (.int .i64 (l0.length : Int)))), (76, (.v (.int .i64 (0 : Int))))] ⟨rfl, rfl, rfl, rfl, rfl, rfl, rfl, rfl, rfl, rfl, rfl, trivial⟩ ?_
                    refine h (fun (some308 : List (Nat)) (x310 : Int) => ∀ (s : Nat → TV) (H : Heap) (v309 : AV) (nv309 : v309 ≠ .nilsl), Sep H (Pc.osl v309 1 (enc (eFlt .f32) some308) :: Pc.box id101 [v2] :: fr) → Fin _ _ (updL s [(0, (.v v0)), (1, (.v v1)), (3, (.v (.int .i64 a3))), (4, (.v (.flt .f32 a4))), (5, (.v (.flt .f32 a5))), (6, (.v (.int .i64 a6))), (9, (.v (.ptr id101 0))), (16, (.v v309)), (74, (.v v0)), (75, (.v (.int .i64 (l0.length : Int)))), (76, (.v (.int .i64 x310)))]) H _) ?_ _ _ _ nv129 hs
                    intro some308 x310 h s482 H483 v309 nv309 hs
                    refine fi_inLoop ?_
                    refine fi_seq ?_
                    refine fi_region ?_
                    refine so_bin rfl rfl ab_lss ?_
                    refine so_nil ?_
                    refine fi_seq ?_
                    replace h := ofP h; rcases h with ⟨c311, h⟩ | ⟨c311, h⟩
                    · refine fi_true rfl (decide_eq_true c311) ?_
                      refine fi_skip ?_
                      refine fi_seq ?_
                      refine fi_block ?_
                      refine fi_seq ?_
                      refine fi_region ?_
                      refine so_move (v := (.v (.int .i64 x310))) rfl ?_
                      obtain ⟨c312, h⟩ := h
                      refine sv_idx (g0 _ hs.tl.tl) c312 (fun _ => rfl) (by decide) rfl rfl F21.tl24 ?_
                      refine sv_cell (g0 _ hs.tl.tl) c312 (0 : Nat) 0 (fun x => (AV.flt .f32 x)) (fun _ => rfl) (fun _ => rfl) rfl F21.ag26 ?_
                      refine so_assign (v := (.v (.int .i64 x310))) rfl ?_
                      refine so_assign (v := (.v (.flt .f32 (l0.getD (x310).toNat (0 : Nat))))) rfl ?_
                      refine so_nil ?_
                      refine fi_seq ?_
                      refine fi_region ?_
                      refine so_move (v := (.v v1)) rfl ?_
                      refine so_move (v := (.v (.int .i64 x310))) rfl ?_
                      obtain ⟨c313, h⟩ := h
                      refine sv_idx (g1 _ hs.tl.tl) c313 (fun _ => rfl) (by decide) rfl rfl F21.tl49 ?_
                      refine sv_cell (g1 _ hs.tl.tl) c313 false 0 (fun x => (AV.bool x)) (fun _ => rfl) (fun _ => rfl) rfl F21.ag4 ?_
                      refine so_nil ?_
                      replace h := ofT h; rcases h with ⟨c314, h⟩ | ⟨c314, h⟩
                      · refine fi_true rfl c314 ?_
                        refine fi_region ?_
                        refine so_move (v := (.v v309)) rfl ?_
                        refine so_move (v := (.v (.flt .f32 (l0.getD (x310).toNat (0 : Nat))))) rfl ?_
                        refine sv_bslice hs (eFlt .f32) ([(l0.getD (x310).toNat (0 : Nat))] : List (Nat)) [[(.flt .f32 (l0.getD (x310).toNat (0 : Nat)))]] F21.te24 F21.sz26 F21.ze26 rfl rfl rfl rfl (fun _ => rfl) rfl (by decide) nofun (fun v315 H316 nv315 hs => ?_)
                        obtain ⟨c320, h⟩ := h
                        refine sv_app hs 1 rfl (hs.shows 0 rfl) (fun _ => rfl) (by decide) F21.ta24_24 (by decide) c320 rfl rfl nofun (fun v318 H319 kv318 hs => ?_)
                        replace hs := hs.del 0
                        have nv318 := kv318 nv309
                        refine so_assign (v := (.v v318)) rfl ?_
                        refine so_nil ?_
                        refine fi_inBlock ?_
                        refine fi_region ?_
                        refine so_bin rfl rfl ab_add ?_
                        refine so_move (v := (.v (.int .i64 (IntKind.i64.wrap (x310 + (1 : Int)))))) rfl ?_
                        refine so_nil ?_
                        exact fi_at [(0, (.v v0)), (1, (.v v1)), (3, (.v (.int .i64 a3))), (4, (.v (.flt .f32 a4))), (5, (.v (.flt .f32 a5))), (6, (.v (.int .i64 a6))), (9, (.v (.ptr id101 0))), (16, (.v v318)), (74, (.v v0)), (75, (.v (.int .i64 (l0.length : Int)))), (76, (.v (.int .i64 (IntKind.i64.wrap (x310 + (1 : Int))))))] ⟨rfl, rfl, rfl, rfl, rfl, rfl, rfl, rfl, rfl, rfl, rfl, trivial⟩ (h _ _ _ nv318 hs)
                      · refine fi_false rfl c314 ?_
                        refine fi_skip ?_
                        refine fi_inBlock ?_
                        refine fi_region ?_
                        refine so_bin rfl rfl ab_add ?_
                        refine so_move (v := (.v (.int .i64 (IntKind.i64.wrap (x310 + (1 : Int)))))) rfl ?_
                        refine so_nil ?_
                        exact fi_at [(0, (.v v0)), (1, (.v v1)), (3, (.v (.int .i64 a3))), (4, (.v (.flt .f32 a4))), (5, (.v (.flt .f32 a5))), (6, (.v (.int .i64 a6))), (9, (.v (.ptr id101 0))), (16, (.v v309)), (74, (.v v0)), (75, (.v (.int .i64 (l0.length : Int)))), (76, (.v (.int .i64 (IntKind.i64.wrap (x310 + (1 : Int))))))] ⟨rfl, rfl, rfl, rfl, rfl, rfl, rfl, rfl, rfl, rfl, rfl, trivial⟩ (h _ _ _ nv309 hs)
                    · refine fi_false rfl (decide_eq_false c311) ?_
                      refine fi_exit rfl ?_
                      refine fi_seq ?_
                      refine fi_region ?_
                      refine so_move (v := (.v v309)) rfl ?_
                      refine sv_callS (impl_mean_ok v309 some308 hs (fun _ hs => (hs.shows 0 rfl)) _ h) (fun _ _ ⟨_, _, _, e⟩ => e) rfl rfl ?_
                      clear h
                      rintro _ _ ⟨y321, h, rfl, rfl⟩
                      refine so_assign (v := (.v (.flt .f32 y321))) rfl ?_
                      refine so_nil ?_
                      refine fi_seq ?_
                      refine fi_region ?_
                      refine sv_bslice hs (eFlt .f32) ([] : List (Nat)) [] F21.te24 F21.sz26 F21.ze26 rfl rfl rfl rfl (fun _ => rfl) rfl (by decide) nofun (fun v323 H324 nv323 hs => ?_)
                      refine so_assign (v := (.v v323)) rfl ?_
                      refine so_nil ?_
                      refine fi_seq ?_
                      refine fi_seq ?_
                      refine fi_region ?_
                      refine so_move (v := (.v v0)) rfl ?_
                      refine sv_len (g0 _ hs.tl.tl.tl) (fun _ => rfl) (by decide) rfl F21.ti24 ?_
                      refine so_move (v := (.v (.int .i64 (0 : Int)))) rfl ?_
                      refine so_nil ?_
                      refine fi_block ?_
                      refine fi_loop ?_
                      replace hs := hs.del 1
                      refine fi_at [(0, (.v v0)), (1, (.v v1)), (3, (.v (.int .i64 a3))), (4, (.v (.flt .f32 a4))), (5, (.v (.flt .f32 a5))), (6, (.v (.int .i64 a6))), (9, (.v (.ptr id101 0))), (19, (.v (.flt .f32 y321))), (20, (.v v323)), (93, (.v v0)), (94, (.v (.int .i64 (l0.length : Int)))), (95, (.v (.int .i64 (0 : Int))))] ⟨rfl, rfl, rfl, rfl, rfl, rfl, rfl, rfl, rfl, rfl, rfl, rfl, trivial⟩ ?_
                      refine h (fun (now404 : List (Nat)) (x406 : Int) => ∀ (s : Nat → TV) (H : Heap) (v405 : AV) (nv405 : v405 ≠ .nilsl), Sep H (Pc.osl v405 1 (enc (eFlt .f32) now404) :: Pc.box id101 [v2] :: fr) → Fin _ _ (updL s [(0, (.v v0)), (1, (.v v1)), (3, (.v (.int .i64 a3))), (4, (.v (.flt .f32 a4))), (5, (.v (.flt .f32 a5))), (6, (.v (.int .i64 a6))), (9, (.v (.ptr id101 0))), (19, (.v (.flt .f32 y321))), (20, (.v v405)), (93, (.v v0)), (94, (.v (.int .i64 (l0.length : Int)))), (95, (.v (.int .i64 x406)))]) H _) ?_ _ _ _ nv323 hs
                      intro now404 x406 h s480 H481 v405 nv405 hs
                      refine fi_inLoop ?_
                      refine fi_seq ?_
                      refine fi_region ?_
                      refine so_bin rfl rfl ab_lss ?_
                      refine so_nil ?_
                      refine fi_seq ?_
                      replace h := ofP h; rcases h with ⟨c407, h⟩ | ⟨c407, h⟩
                      · refine fi_true rfl (decide_eq_true c407) ?_
                        refine fi_skip ?_
                        refine fi_seq ?_
                        refine fi_block ?_
                        refine fi_seq ?_
                        refine fi_region ?_
                        refine so_move (v := (.v (.int .i64 x406))) rfl ?_
                        obtain ⟨c408, h⟩ := h
                        refine sv_idx (g0 _ hs.tl.tl) c408 (fun _ => rfl) (by decide) rfl rfl F21.tl24 ?_
                        refine sv_cell (g0 _ hs.tl.tl) c408 (0 : Nat) 0 (fun x => (AV.flt .f32 x)) (fun _ => rfl) (fun _ => rfl) rfl F21.ag26 ?_
                        refine so_assign (v := (.v (.int .i64 x406))) rfl ?_
                        refine so_assign (v := (.v (.flt .f32 (l0.getD (x406).toNat (0 : Nat))))) rfl ?_
                        refine so_nil ?_
                        refine fi_seq ?_
                        refine fi_seq ?_
                        refine fi_region ?_
                        refine so_move (v := (.v v1)) rfl ?_
                        refine so_move (v := (.v (.int .i64 x406))) rfl ?_
                        obtain ⟨c409, h⟩ := h
                        refine sv_idx (g1 _ hs.tl.tl) c409 (fun _ => rfl) (by decide) rfl rfl F21.tl49 ?_
                        refine sv_cell (g1 _ hs.tl.tl) c409 false 0 (fun x => (AV.bool x)) (fun _ => rfl) (fun _ => rfl) rfl F21.ag4 ?_
                        refine so_un rfl au_not ?_
                        refine so_nil ?_
                        replace h := ofT h; rcases h with ⟨c410, h⟩ | ⟨c410, h⟩
                        · refine fi_false rfl (not_f c410) ?_
                          refine fi_skip ?_
                          refine fi_region ?_
                          refine so_move (v := (.v v405)) rfl ?_
                          refine so_move (v := (.v (.flt .f32 (l0.getD (x406).toNat (0 : Nat))))) rfl ?_
                          refine sv_bslice hs (eFlt .f32) ([(l0.getD (x406).toNat (0 : Nat))] : List (Nat)) [[(.flt .f32 (l0.getD (x406).toNat (0 : Nat)))]] F21.te24 F21.sz26 F21.ze26 rfl rfl rfl rfl (fun _ => rfl) rfl (by decide) nofun (fun v411 H412 nv411 hs => ?_)
                          obtain ⟨c416, h⟩ := h
                          refine sv_app hs 1 rfl (hs.shows 0 rfl) (fun _ => rfl) (by decide) F21.ta24_24 (by decide) c416 rfl rfl nofun (fun v414 H415 kv414 hs => ?_)
                          replace hs := hs.del 0
                          have nv414 := kv414 nv405
                          refine so_assign (v := (.v v414)) rfl ?_
                          refine so_nil ?_
                          refine fi_inBlock ?_
                          refine fi_region ?_
                          refine so_bin rfl rfl ab_add ?_
                          refine so_move (v := (.v (.int .i64 (IntKind.i64.wrap (x406 + (1 : Int)))))) rfl ?_
                          refine so_nil ?_
                          exact fi_at [(0, (.v v0)), (1, (.v v1)), (3, (.v (.int .i64 a3))), (4, (.v (.flt .f32 a4))), (5, (.v (.flt .f32 a5))), (6, (.v (.int .i64 a6))), (9, (.v (.ptr id101 0))), (19, (.v (.flt .f32 y321))), (20, (.v v414)), (93, (.v v0)), (94, (.v (.int .i64 (l0.length : Int)))), (95, (.v (.int .i64 (IntKind.i64.wrap (x406 + (1 : Int))))))] ⟨rfl, rfl, rfl, rfl, rfl, rfl, rfl, rfl, rfl, rfl, rfl, rfl, trivial⟩ (h _ _ _ nv414 hs)
                        · refine fi_true rfl (not_t c410) ?_
                          refine fi_region ?_
                          refine so_move (v := (.v (.flt .f32 y321))) rfl ?_
                          refine so_assign (v := (.v (.flt .f32 y321))) rfl ?_
                          refine so_nil ?_
                          refine fi_region ?_
                          refine so_move (v := (.v v405)) rfl ?_
                          refine so_move (v := (.v (.flt .f32 y321))) rfl ?_
                          refine sv_bslice hs (eFlt .f32) ([y321] : List (Nat)) [[(.flt .f32 y321)]] F21.te24 F21.sz26 F21.ze26 rfl rfl rfl rfl (fun _ => rfl) rfl (by decide) nofun (fun v417 H418 nv417 hs => ?_)
                          obtain ⟨c422, h⟩ := h
                          refine sv_app hs 1 rfl (hs.shows 0 rfl) (fun _ => rfl) (by decide) F21.ta24_24 (by decide) c422 rfl rfl nofun (fun v420 H421 kv420 hs => ?_)
                          replace hs := hs.del 0
                          have nv420 := kv420 nv405
                          refine so_assign (v := (.v v420)) rfl ?_
                          refine so_nil ?_
                          refine fi_inBlock ?_
                          refine fi_region ?_
                          refine so_bin rfl rfl ab_add ?_
                          refine so_move (v := (.v (.int .i64 (IntKind.i64.wrap (x406 + (1 : Int)))))) rfl ?_
                          refine so_nil ?_
                          exact fi_at [(0, (.v v0)), (1, (.v v1)), (3, (.v (.int .i64 a3))), (4, (.v (.flt .f32 a4))), (5, (.v (.flt .f32 a5))), (6, (.v (.int .i64 a6))), (9, (.v (.ptr id101 0))), (19, (.v (.flt .f32 y321))), (20, (.v v420)), (93, (.v v0)), (94, (.v (.int .i64 (l0.length : Int)))), (95, (.v (.int .i64 (IntKind.i64.wrap (x406 + (1 : Int))))))] ⟨rfl, rfl, rfl, rfl, rfl, rfl, rfl, rfl, rfl, rfl, rfl, rfl, trivial⟩ (h _ _ _ nv420 hs)
                      · refine fi_false rfl (decide_eq_false c407) ?_
                        refine fi_exit rfl ?_
                        refine fi_seq ?_
                        refine fi_seq ?_
                        refine fi_region ?_
                        refine so_move (v := (.v (.int .i64 a6))) rfl ?_
                        refine so_move (v := (.v (.int .i64 (0 : Int)))) rfl ?_
                        refine so_nil ?_
                        refine fi_block ?_
                        refine fi_loop ?_
                        refine fi_at [(0, (.v v0)), (1, (.v v1)), (3, (.v (.int .i64 a3))), (4, (.v (.flt .f32 a4))), (5, (.v (.flt .f32 a5))), (9, (.v (.ptr id101 0))), (20, (.v v405)), (111, (.v (.int .i64 a6))), (112, (.v (.int .i64 (0 : Int))))] ⟨rfl, rfl, rfl, rfl, rfl, rfl, rfl, rfl, rfl, trivial⟩ ?_
                        refine h (fun (now444 : List (Nat)) (limit446 : Nat) (x447 : Int) => ∀ (s : Nat → TV) (H : Heap) (v445 : AV), Sep H (Pc.osl v445 1 (enc (eFlt .f32) now444) :: Pc.box id101 [v2] :: fr) → Fin _ _ (updL s [(0, (.v v0)), (1, (.v v1)), (3, (.v (.int .i64 a3))), (4, (.v (.flt .f32 limit446))), (5, (.v (.flt .f32 a5))), (9, (.v (.ptr id101 0))), (20, (.v v445)), (111, (.v (.int .i64 a6))), (112, (.v (.int .i64 x447)))]) H _) ?_ _ _ _ hs
                        intro now444 limit446 x447 h s478 H479 v445 hs
                        refine fi_inLoop ?_
                        refine fi_seq ?_
                        refine fi_region ?_
                        refine so_bin rfl rfl ab_lss ?_
                        refine so_nil ?_
                        refine fi_seq ?_
                        replace h := ofP h; rcases h with ⟨c448, h⟩ | ⟨c448, h⟩
                        · refine fi_true rfl (decide_eq_true c448) ?_
                          refine fi_skip ?_
                          refine fi_seq ?_
                          refine fi_block ?_
                          refine fi_seq ?_
                          refine fi_region ?_
                          refine so_move (v := (.v v445)) rfl ?_
                          refine sv_lds hs 1 rfl rfl (leb rfl) rfl F21.ag46 F21.sz46 ?_
                          refine so_move (v := (.v (.int .i64 a3))) rfl ?_
                          refine so_move (v := (.v (.flt .f32 limit446))) rfl ?_
                          refine sv_call (impl_fillTurn_ok v445 now444 v2 l2 a3 limit446 hs (fun _ hs => (hs.shows 0 rfl)) (fun _ hs => (g2 _ hs.tl.tl)) _ h) rfl rfl nofun ?_
                          clear h hs
                          rintro _ H453 ⟨y449, y452, h, v450, rfl, hs⟩
                          refine so_move (v := (.t [(.v v450), (.v (.bool y452))])) rfl ?_
                          refine so_extract rfl rfl rfl ?_
                          refine so_extract rfl rfl rfl ?_
                          refine so_assign (v := (.v v450)) rfl ?_
                          refine so_assign (v := (.v (.bool y452))) rfl ?_
                          refine so_nil ?_
                          refine fi_seq ?_
                          refine fi_seq ?_
                          refine fi_region ?_
                          refine so_move (v := (.v (.bool y452))) rfl ?_
                          refine so_un rfl au_not ?_
                          refine so_nil ?_
                          replace h := ofT h; rcases h with ⟨c454, h⟩ | ⟨c454, h⟩
                          · refine fi_false rfl (not_f c454) ?_
                            refine fi_skip ?_
                            refine fi_seq ?_
                            refine fi_seq ?_
                            refine fi_region ?_
                            refine so_move (v := (.v v0)) rfl ?_
                            refine sv_len (g0 _ hs.tl.tl.tl) (fun _ => rfl) (by decide) rfl F21.ti24 ?_
                            refine so_move (v := (.v (.int .i64 (0 : Int)))) rfl ?_
                            refine so_nil ?_
                            refine fi_block ?_
                            refine fi_loop ?_
                            replace hs := hs.del 1
                            refine fi_at [(0, (.v v0)), (1, (.v v1)), (3, (.v (.int .i64 a3))), (4, (.v (.flt .f32 limit446))), (5, (.v (.flt .f32 a5))), (9, (.v (.ptr id101 0))), (23, (.v v450)), (111, (.v (.int .i64 a6))), (112, (.v (.int .i64 x447))), (124, (.v v0)), (125, (.v (.int .i64 (l0.length : Int)))), (126, (.v (.int .i64 (0 : Int))))] ⟨rfl, rfl, rfl, rfl, rfl, rfl, rfl, rfl, rfl, rfl, rfl, rfl, trivial⟩ ?_
                            refine h (fun (next464 : List (Nat)) (x465 : Int) => ∀ (s : Nat → TV) (H : Heap), Sep H (Pc.osl v450 1 (enc (eFlt .f32) next464) :: Pc.box id101 [v2] :: fr) → Fin _ _ (updL s [(0, (.v v0)), (1, (.v v1)), (3, (.v (.int .i64 a3))), (4, (.v (.flt .f32 limit446))), (5, (.v (.flt .f32 a5))), (9, (.v (.ptr id101 0))), (23, (.v v450)), (111, (.v (.int .i64 a6))), (112, (.v (.int .i64 x447))), (124, (.v v0)), (125, (.v (.int .i64 (l0.length : Int)))), (126, (.v (.int .i64 x465)))]) H _) ?_ _ _ hs
                            intro next464 x465 h s472 H473 hs
                            refine fi_inLoop ?_
                            refine fi_seq ?_
                            refine fi_region ?_
                            refine so_bin rfl rfl ab_lss ?_
                            refine so_nil ?_
                            refine fi_seq ?_
                            replace h := ofP h; rcases h with ⟨c466, h⟩ | ⟨c466, h⟩
                            · refine fi_true rfl (decide_eq_true c466) ?_
                              refine fi_skip ?_
                              refine fi_seq ?_
                              refine fi_block ?_
                              refine fi_seq ?_
                              refine fi_region ?_
                              refine so_move (v := (.v (.int .i64 x465))) rfl ?_
                              obtain ⟨c467, h⟩ := h
                              refine sv_idx (g0 _ hs.tl.tl) c467 (fun _ => rfl) (by decide) rfl rfl F21.tl24 ?_
                              refine sv_cell (g0 _ hs.tl.tl) c467 (0 : Nat) 0 (fun x => (AV.flt .f32 x)) (fun _ => rfl) (fun _ => rfl) rfl F21.ag26 ?_
                              refine so_assign (v := (.v (.int .i64 x465))) rfl ?_
                              refine so_assign (v := (.v (.flt .f32 (l0.getD (x465).toNat (0 : Nat))))) rfl ?_
                              refine so_nil ?_
                              refine fi_seq ?_
                              refine fi_region ?_
                              refine so_move (v := (.v v1)) rfl ?_
                              refine so_move (v := (.v (.int .i64 x465))) rfl ?_
                              obtain ⟨c468, h⟩ := h
                              refine sv_idx (g1 _ hs.tl.tl) c468 (fun _ => rfl) (by decide) rfl rfl F21.tl49 ?_
                              refine sv_cell (g1 _ hs.tl.tl) c468 false 0 (fun x => (AV.bool x)) (fun _ => rfl) (fun _ => rfl) rfl F21.ag4 ?_
                              refine so_nil ?_
                              replace h := ofT h; rcases h with ⟨c469, h⟩ | ⟨c469, h⟩
                              · refine fi_true rfl c469 ?_
                                refine fi_region ?_
                                refine so_move (v := (.v v450)) rfl ?_
                                refine so_move (v := (.v (.int .i64 x465))) rfl ?_
                                refine so_move (v := (.v (.flt .f32 (l0.getD (x465).toNat (0 : Nat))))) rfl ?_
                                obtain ⟨c470, h⟩ := h
                                refine sv_idx (hs.shows 0 rfl) c470 (fun _ => rfl) (by decide) rfl rfl F21.tl24 ?_
                                refine sv_set hs 0 rfl c470 (l0.getD (x465).toNat (0 : Nat)) (fun _ => rfl) (by decide) rfl rfl rfl rfl F21.sz26 nofun (fun H471 hs => ?_)
                                refine so_nil ?_
                                refine fi_inBlock ?_
                                refine fi_region ?_
                                refine so_bin rfl rfl ab_add ?_
                                refine so_move (v := (.v (.int .i64 (IntKind.i64.wrap (x465 + (1 : Int)))))) rfl ?_
                                refine so_nil ?_
                                exact fi_at [(0, (.v v0)), (1, (.v v1)), (3, (.v (.int .i64 a3))), (4, (.v (.flt .f32 limit446))), (5, (.v (.flt .f32 a5))), (9, (.v (.ptr id101 0))), (23, (.v v450)), (111, (.v (.int .i64 a6))), (112, (.v (.int .i64 x447))), (124, (.v v0)), (125, (.v (.int .i64 (l0.length : Int)))), (126, (.v (.int .i64 (IntKind.i64.wrap (x465 + (1 : Int))))))] ⟨rfl, rfl, rfl, rfl, rfl, rfl, rfl, rfl, rfl, rfl, rfl, rfl, trivial⟩ (h _ _  hs)
                              · refine fi_false rfl c469 ?_
                                refine fi_skip ?_
                                refine fi_inBlock ?_
                                refine fi_region ?_
                                refine so_bin rfl rfl ab_add ?_
                                refine so_move (v := (.v (.int .i64 (IntKind.i64.wrap (x465 + (1 : Int)))))) rfl ?_
                                refine so_nil ?_
                                exact fi_at [(0, (.v v0)), (1, (.v v1)), (3, (.v (.int .i64 a3))), (4, (.v (.flt .f32 limit446))), (5, (.v (.flt .f32 a5))), (9, (.v (.ptr id101 0))), (23, (.v v450)), (111, (.v (.int .i64 a6))), (112, (.v (.int .i64 x447))), (124, (.v v0)), (125, (.v (.int .i64 (l0.length : Int)))), (126, (.v (.int .i64 (IntKind.i64.wrap (x465 + (1 : Int))))))] ⟨rfl, rfl, rfl, rfl, rfl, rfl, rfl, rfl, rfl, rfl, rfl, rfl, trivial⟩ (h _ _  hs)
                            · refine fi_false rfl (decide_eq_false c466) ?_
                              refine fi_exit rfl ?_
                              refine fi_seq ?_
                              refine fi_region ?_
                              refine so_move (v := (.v v450)) rfl ?_
                              refine so_assign (v := (.v v450)) rfl ?_
                              refine so_nil ?_
                              refine fi_region ?_
                              refine so_move (v := (.v (.flt .f32 limit446))) rfl ?_
                              refine so_move (v := (.v (.flt .f32 a5))) rfl ?_
                              refine so_bin rfl rfl ab_fmul ?_
                              refine so_assign (v := (.v (.flt .f32 (fop .mul .f32 limit446 a5)))) rfl ?_
                              refine so_nil ?_
                              refine fi_inBlock ?_
                              refine fi_region ?_
                              refine so_bin rfl rfl ab_add ?_
                              refine so_move (v := (.v (.int .i64 (IntKind.i64.wrap (x447 + (1 : Int)))))) rfl ?_
                              refine so_nil ?_
                              exact fi_at [(0, (.v v0)), (1, (.v v1)), (3, (.v (.int .i64 a3))), (4, (.v (.flt .f32 (fop .mul .f32 limit446 a5)))), (5, (.v (.flt .f32 a5))), (9, (.v (.ptr id101 0))), (20, (.v v450)), (111, (.v (.int .i64 a6))), (112, (.v (.int .i64 (IntKind.i64.wrap (x447 + (1 : Int))))))] ⟨rfl, rfl, rfl, rfl, rfl, rfl, rfl, rfl, rfl, trivial⟩ (h _ _ _ hs)
                          · refine fi_true rfl (not_t c454) ?_
                            refine fi_seq ?_
                            refine fi_region ?_
                            refine so_assign (v := (.v .nilsl)) rfl ?_
                            refine so_assign (v := (.v (.bool false))) rfl ?_
                            refine so_nil ?_
                            exact by_ret rfl ⟨_, _, h, _, rfl, (Sep.nil (Sep.del 0 (Sep.del 0 (Sep.del 0 hs))) 1)⟩
                        · refine fi_false rfl (decide_eq_false c448) ?_
                          refine fi_exit rfl ?_
                          refine fi_seq ?_
                          refine fi_region ?_
                          refine so_move (v := (.v v445)) rfl ?_
                          refine sv_call (impl_finiteList_ok v445 now444 hs (fun _ hs => (hs.shows 0 rfl)) _ h) rfl rfl nofun ?_
                          clear h hs
                          rintro _ H476 ⟨y474, y475, h, rfl, hs⟩
                          replace h := ofT h; rcases h with ⟨c477, h⟩ | ⟨c477, h⟩
                          · subst c477
                            refine so_extract rfl rfl rfl ?_
                            refine so_extract rfl rfl rfl ?_
                            refine so_assign (v := (.v v445)) rfl ?_
                            refine so_assign (v := (.v (.bool y475))) rfl ?_
                            refine so_nil ?_
                            exact by_ret rfl ⟨_, _, h, _, rfl, (Sep.del 1 hs)⟩
                          · subst c477
                            refine so_extract rfl rfl rfl ?_
                            refine so_extract rfl rfl rfl ?_
                            refine so_assign (v := (.v .nilsl)) rfl ?_
                            refine so_assign (v := (.v (.bool y475))) rfl ?_
                            refine so_nil ?_
                            exact by_ret rfl ⟨_, _, h, _, rfl, (Sep.nil (Sep.del 0 (Sep.del 0 hs)) 1)⟩
                  · refine fi_true rfl (not_t c128) ?_
                    refine fi_seq ?_
                    refine fi_region ?_
                    refine so_assign (v := (.v .nilsl)) rfl ?_
                    refine so_assign (v := (.v (.bool false))) rfl ?_
                    refine so_nil ?_
                    exact by_ret rfl ⟨_, _, h, _, rfl, (Sep.nil (Sep.del 0 hs) 1)⟩
                · refine so_gno rfl (not_t c125) ?_
                  refine so_gno rfl (not_t c125) ?_
                  refine so_gno rfl (not_t c125) ?_
                  refine so_pick_t (v := (.v (.bool true))) rfl (not_t c125) rfl ?_
                  refine so_nil ?_
                  refine fi_true rfl rfl ?_
                  refine fi_seq ?_
                  refine fi_region ?_
                  refine so_assign (v := (.v .nilsl)) rfl ?_
                  refine so_assign (v := (.v (.bool false))) rfl ?_
                  refine so_nil ?_
                  exact by_ret rfl ⟨_, _, h, _, rfl, (Sep.nil (Sep.del 0 hs) 1)⟩
              · refine so_gno rfl (not_t c122) ?_
                refine so_gno rfl (not_t c122) ?_
                refine so_gno rfl (not_t c122) ?_
                refine so_pick_t (v := (.v (.bool true))) rfl (not_t c122) rfl ?_
                refine so_move (v := (.v (.bool true))) rfl ?_
                refine so_gno rfl rfl ?_
                refine so_gno rfl rfl ?_
                refine so_gno rfl rfl ?_
                refine so_pick_t (v := (.v (.bool true))) rfl rfl rfl ?_
                refine so_nil ?_
                refine fi_true rfl rfl ?_
                refine fi_seq ?_
                refine fi_region ?_
                refine so_assign (v := (.v .nilsl)) rfl ?_
                refine so_assign (v := (.v (.bool false))) rfl ?_
                refine so_nil ?_
                exact by_ret rfl ⟨_, _, h, _, rfl, (Sep.nil (Sep.del 0 hs) 1)⟩
            · refine so_gno rfl (not_t c119) ?_
              refine so_gno rfl (not_t c119) ?_
              refine so_gno rfl (not_t c119) ?_
              refine so_pick_t (v := (.v (.bool true))) rfl (not_t c119) rfl ?_
              refine so_move (v := (.v (.bool true))) rfl ?_
              refine so_gno rfl rfl ?_
              refine so_gno rfl rfl ?_
              refine so_gno rfl rfl ?_
              refine so_pick_t (v := (.v (.bool true))) rfl rfl rfl ?_
              refine so_move (v := (.v (.bool true))) rfl ?_
              refine so_gno rfl rfl ?_
              refine so_gno rfl rfl ?_
              refine so_gno rfl rfl ?_
              refine so_pick_t (v := (.v (.bool true))) rfl rfl rfl ?_
              refine so_nil ?_
              refine fi_true rfl rfl ?_
              refine fi_seq ?_
              refine fi_region ?_
              refine so_assign (v := (.v .nilsl)) rfl ?_
              refine so_assign (v := (.v (.bool false))) rfl ?_
              refine so_nil ?_
              exact by_ret rfl ⟨_, _, h, _, rfl, (Sep.nil (Sep.del 0 hs) 1)⟩
          · refine fi_true rfl (not_t (decide_eq_false c116)) ?_
            refine fi_seq ?_
            refine fi_region ?_
            refine so_assign (v := (.v .nilsl)) rfl ?_
            refine so_assign (v := (.v (.bool false))) rfl ?_
            refine so_nil ?_
            exact by_ret rfl ⟨_, _, h, _, rfl, (Sep.nil (Sep.del 0 hs) 1)⟩
        · refine so_gno rfl (not_t c113) ?_
          refine so_gno rfl (not_t c113) ?_
          refine so_gno rfl (not_t c113) ?_
          refine so_gno rfl (not_t c113) ?_
          refine so_gno rfl (not_t c113) ?_
          refine so_gno rfl (not_t c113) ?_
          refine so_pick_t (v := (.v (.bool true))) rfl (not_t c113) rfl ?_
          refine so_nil ?_
          refine fi_true rfl rfl ?_
          refine fi_seq ?_
          refine fi_region ?_
          refine so_assign (v := (.v .nilsl)) rfl ?_
          refine so_assign (v := (.v (.bool false))) rfl ?_
          refine so_nil ?_
          exact by_ret rfl ⟨_, _, h, _, rfl, (Sep.nil (Sep.del 0 hs) 1)⟩
      · refine so_gno rfl (not_t c110) ?_
        refine so_gno rfl (not_t c110) ?_
        refine so_gno rfl (not_t c110) ?_
        refine so_pick_t (v := (.v (.bool true))) rfl (not_t c110) rfl ?_
        refine so_move (v := (.v (.bool true))) rfl ?_
        refine so_gno rfl rfl ?_
        refine so_gno rfl rfl ?_
        refine so_gno rfl rfl ?_
        refine so_gno rfl rfl ?_
        refine so_gno rfl rfl ?_
        refine so_gno rfl rfl ?_
        refine so_pick_t (v := (.v (.bool true))) rfl rfl rfl ?_
        refine so_nil ?_
        refine fi_true rfl rfl ?_
        refine fi_seq ?_
        refine fi_region ?_
        refine so_assign (v := (.v .nilsl)) rfl ?_
        refine so_assign (v := (.v (.bool false))) rfl ?_
        refine so_nil ?_
        exact by_ret rfl ⟨_, _, h, _, rfl, (Sep.nil (Sep.del 0 hs) 1)⟩
    · refine so_gno rfl (not_t (decide_eq_false c107)) ?_
      refine so_gno rfl (not_t (decide_eq_false c107)) ?_
      refine so_gno rfl (not_t (decide_eq_false c107)) ?_
      refine so_pick_t (v := (.v (.bool true))) rfl (not_t (decide_eq_false c107)) rfl ?_
      refine so_move (v := (.v (.bool true))) rfl ?_
      refine so_gno rfl rfl ?_
      refine so_gno rfl rfl ?_
      refine so_gno rfl rfl ?_
      refine so_pick_t (v := (.v (.bool true))) rfl rfl rfl ?_
      refine so_move (v := (.v (.bool true))) rfl ?_
      refine so_gno rfl rfl ?_
      refine so_gno rfl rfl ?_
      refine so_gno rfl rfl ?_
      refine so_gno rfl rfl ?_
      refine so_gno rfl rfl ?_
      refine so_gno rfl rfl ?_
      refine so_pick_t (v := (.v (.bool true))) rfl rfl rfl ?_
      refine so_nil ?_
      refine fi_true rfl rfl ?_
      refine fi_seq ?_
      refine fi_region ?_
      refine so_assign (v := (.v .nilsl)) rfl ?_
      refine so_assign (v := (.v (.bool false))) rfl ?_
      refine so_nil ?_
      exact by_ret rfl ⟨_, _, h, _, rfl, (Sep.nil (Sep.del 0 hs) 1)⟩
  · refine so_gno rfl (not_t c106) ?_
    refine so_gno rfl (not_t c106) ?_
    refine so_gno rfl (not_t c106) ?_
    refine so_gno rfl (not_t c106) ?_
    refine so_gno rfl (not_t c106) ?_
    refine so_pick_t (v := (.v (.bool true))) rfl (not_t c106) rfl ?_
    refine so_move (v := (.v (.bool true))) rfl ?_
    refine so_gno rfl rfl ?_
    refine so_gno rfl rfl ?_
    refine so_gno rfl rfl ?_
    refine so_pick_t (v := (.v (.bool true))) rfl rfl rfl ?_
    refine so_move (v := (.v (.bool true))) rfl ?_
    refine so_gno rfl rfl ?_
    refine so_gno rfl rfl ?_
    refine so_gno rfl rfl ?_
    refine so_pick_t (v := (.v (.bool true))) rfl rfl rfl ?_
    refine so_move (v := (.v (.bool true))) rfl ?_
    refine so_gno rfl rfl ?_
    refine so_gno rfl rfl ?_
    refine so_gno rfl rfl ?_
    refine so_gno rfl rfl ?_
    refine so_gno rfl rfl ?_
    refine so_gno rfl rfl ?_
    refine so_pick_t (v := (.v (.bool true))) rfl rfl rfl ?_
    refine so_nil ?_
    refine fi_true rfl rfl ?_
    refine fi_seq ?_
    refine fi_region ?_
    refine so_assign (v := (.v .nilsl)) rfl ?_
    refine so_assign (v := (.v (.bool false))) rfl ?_
    refine so_nil ?_
    exact by_ret rfl ⟨_, _, h, _, rfl, (Sep.nil (Sep.del 0 hs) 1)⟩
theorem spec_l01Finite_ok {fr : List Pc} {H : Heap} (a0 : Nat) (hs : Sep H (fr))  (K : Bool → Prop) (h : spec_l01Finite.wp a0 K) : OkQ Try.prog 108 [(.v (.flt .f32 a0))] H (fun r H2 => ∃ (y0 : Bool), K y0 ∧ r = (.v (.bool y0)) ∧ H = H2) := by
  unfold spec_l01Finite.wp at h
  refine of_body Try.f108 F.hm Try.func108 rfl Try.call108 (by kernel_rfl) (by simp) ?_
  refine fi_seq ?_
  refine fi_region ?_
  refine so_assign (v := (.v (.bool false))) rfl ?_
  refine so_nil ?_
  refine fi_seq ?_
  refine fi_region ?_
  refine so_move (v := (.v (.flt .f32 a0))) rfl ?_
  refine so_move (v := (.v (.flt .f32 a0))) rfl ?_
  refine so_bin rfl rfl ab_fsub ?_
  refine so_bin rfl rfl ab_feql ?_
  refine so_assign (v := (.v (.bool (fcmp .eql .f32 (fop .sub .f32 a0 a0) (cz .f32 0))))) rfl ?_
  refine so_nil ?_
  exact by_ret rfl ⟨_, h, rfl, rfl⟩
end Go.Proofs.Ytfhlhgnipmgfdaa.G
