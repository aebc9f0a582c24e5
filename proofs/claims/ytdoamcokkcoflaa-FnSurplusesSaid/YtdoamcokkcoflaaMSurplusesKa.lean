/-
  The model ends so. Printed by a program of the session; nothing here is trusted.
-/
import Derived.Test.YtdoamcokkcoflaaProg
import Derived.KernelRfl
import Derived.Test.YtdoamcokkcoflaaMSurplusesWa
namespace Go.Proofs.Ytdoamcokkcoflaa.F
open Go Go.Ab Go.Proofs
set_option maxRecDepth 100000
set_option linter.unusedVariables false
set_option linter.unusedSimpArgs false
set_option maxHeartbeats 1000000
theorem hm : Try.prog.follows .mixedOrders = true := by kernel_rfl
end Go.Proofs.Ytdoamcokkcoflaa.F

namespace Go.Proofs.Ytdoamcokkcoflaa.G
open Go Go.Ab Go.Proofs Go.Proofs.Ytdoamcokkcoflaa
set_option maxRecDepth 100000
set_option linter.unusedVariables false
set_option linter.unusedSimpArgs false
set_option maxHeartbeats 1000000
attribute [local irreducible] wops wopf Go.Ab.Fin
theorem laws_b10Gap_ok {fr : List Pc} {H : Heap} (a0 : Nat) (a1 : Nat) (hs : Sep H (fr))  (K : Nat → Prop) (h : laws_b10Gap.wp a0 a1 K) : OkQ Try.prog 12 [(.v (.flt .f64 a0)), (.v (.flt .f64 a1))] H (fun r H2 => ∃ (y0 : Nat), K y0 ∧ r = (.v (.flt .f64 y0)) ∧ H = H2) := by
  unfold laws_b10Gap.wp at h
  refine of_body Try.f12 F.hm Try.func12 rfl Try.call12 (by kernel_rfl) (by simp) ?_
  refine fi_seq ?_
  refine fi_region ?_
  refine so_assign (v := (.v (.flt .f64 (cz .f64 0)))) rfl ?_
  refine so_nil ?_
  refine fi_seq ?_
  refine fi_seq ?_
  refine fi_region ?_
  refine so_move (v := (.v (.flt .f64 a0))) rfl ?_
  refine so_move (v := (.v (.flt .f64 a1))) rfl ?_
  refine so_bin rfl rfl ab_flss ?_
  refine so_nil ?_
  replace h := ofT h; rcases h with ⟨c101, h⟩ | ⟨c101, h⟩
  · refine fi_true rfl c101 ?_
    refine fi_seq ?_
    refine fi_region ?_
    refine so_move (v := (.v (.flt .f64 a1))) rfl ?_
    refine so_move (v := (.v (.flt .f64 a0))) rfl ?_
    refine so_bin rfl rfl ab_fsub ?_
    refine so_assign (v := (.v (.flt .f64 (fop .sub .f64 a1 a0)))) rfl ?_
    refine so_nil ?_
    exact by_ret rfl ⟨_, h, rfl, rfl⟩
  · refine fi_false rfl c101 ?_
    refine fi_skip ?_
    refine fi_seq ?_
    refine fi_region ?_
    refine so_move (v := (.v (.flt .f64 a0))) rfl ?_
    refine so_move (v := (.v (.flt .f64 a1))) rfl ?_
    refine so_bin rfl rfl ab_fsub ?_
    refine so_assign (v := (.v (.flt .f64 (fop .sub .f64 a0 a1)))) rfl ?_
    refine so_nil ?_
    exact by_ret rfl ⟨_, h, rfl, rfl⟩

end Go.Proofs.Ytdoamcokkcoflaa.G

namespace Go.Proofs.Ytdoamcokkcoflaa.G
open Go Go.Ab Go.Proofs Go.Proofs.Ytdoamcokkcoflaa
set_option maxRecDepth 100000
set_option linter.unusedVariables false
set_option linter.unusedSimpArgs false
set_option maxHeartbeats 1000000
attribute [local irreducible] wops wopf Go.Ab.Fin
theorem F38.bp110 : bplan Try.prog 110 = some ([.nilsl, (.int .i64 (0 : Int)), (.int .u64 (0 : Int))], [(0, 1), (1, 1), (2, 1)]) := by kernel_rfl
theorem F38.inf110 : (Try.prog.info? 110).isSome = true := by kernel_rfl
theorem spec_l00From_ok {fr : List Pc} {H : Heap} (v0 : AV) (l0 : List (Int)) (hs : Sep H (fr)) (g0 : ∀ H, Sep H fr → Shows H v0 1 (enc (eInt .u8) l0)) (K : Bool → Int → Int → Prop) (h : spec_l00From.wp l0 K) : OkQ Try.prog 38 [(.v v0)] H (fun r H2 => ∃ (y0 : Bool) (y1 : Int) (y2 : Int), K y0 y1 y2 ∧ ∃ (w0_ : Nat), r = (.v (.ptr w0_ 0)) ∧ Sep H2 (Pc.box w0_ [(bif y0 then v0 else .nilsl), (.int .i64 y1), (.int .u64 y2)] :: fr)) := by
  unfold spec_l00From.wp at h
  refine of_body Try.f38 F.hm Try.func38 rfl Try.call38 (by kernel_rfl) (by simp) ?_
  refine fi_seq ?_
  refine fi_region ?_
  refine so_assign (v := (.v .nilptr)) rfl ?_
  refine so_nil ?_
  refine fi_seq ?_
  refine fi_region ?_
  refine so_move (v := (.v v0)) rfl ?_
  refine so_build F38.bp110 (cps := [(0, [v0])]) rfl (fac (stc (g0 _ hs).stor stn) fan) rfl ?_
  refine sv_box hs rfl (c := [v0, (.int .i64 (0 : Int)), (.int .u64 (0 : Int))]) rfl F38.inf110 (stc (g0 _ hs).stor (stc rfl (stc rfl stn))) nofun (fun id101 H102 hs => ?_)
  refine so_assign (v := (.v (.ptr id101 0))) rfl ?_
  refine so_nil ?_
  exact by_ret rfl ⟨_, _, _, h, _, rfl, hs⟩

end Go.Proofs.Ytdoamcokkcoflaa.G

namespace Go.Proofs.Ytdoamcokkcoflaa.G
open Go Go.Ab Go.Proofs Go.Proofs.Ytdoamcokkcoflaa
set_option maxRecDepth 100000
set_option linter.unusedVariables false
set_option linter.unusedSimpArgs false
set_option maxHeartbeats 1000000
attribute [local irreducible] wops wopf Go.Ab.Fin
theorem F79.ag108 : tagg Try.prog 108 = some false := by kernel_rfl
theorem F79.ag22 : tagg Try.prog 22 = some false := by kernel_rfl
theorem F79.ag3 : tagg Try.prog 3 = some false := by kernel_rfl
theorem F79.ag5 : tagg Try.prog 5 = some false := by kernel_rfl
theorem F79.fd110_0 : tfield Try.prog 110 0 = some (0, 1, false) := by kernel_rfl
theorem F79.fd110_1 : tfield Try.prog 110 1 = some (1, 1, false) := by kernel_rfl
theorem F79.fd110_2 : tfield Try.prog 110 2 = some (2, 1, false) := by kernel_rfl
theorem F79.it108 : tint Try.prog 108 = some .u64 := by kernel_rfl
theorem F79.it2 : tint Try.prog 2 = some .i64 := by kernel_rfl
theorem F79.it3 : tint Try.prog 3 = some .i64 := by kernel_rfl
theorem F79.sz108 : tsz Try.prog 108 = some 1 := by kernel_rfl
theorem F79.sz3 : tsz Try.prog 3 = some 1 := by kernel_rfl
theorem F79.ti22 : (telem Try.prog 22).isSome = true := by kernel_rfl
theorem F79.tl22 : (telem Try.prog 22).bind (tsz Try.prog) = some 1 := by kernel_rfl
theorem F79.us108 : (Try.prog.underlying 108).isSome = true := by kernel_rfl
theorem F79.us3 : (Try.prog.underlying 3).isSome = true := by kernel_rfl
theorem F79.us5 : (Try.prog.underlying 5).isSome = true := by kernel_rfl
theorem spec_l00Src_next_ok {fr : List Pc} {H : Heap} (i0 : Nat) (v0 : AV) (l0 : List (Int)) (a1 : Int) (a2 : Int) (hs : Sep H (Pc.box i0 [v0, (.int .i64 a1), (.int .u64 a2)] :: fr)) (g0 : ∀ H, Sep H fr → Shows H v0 1 (enc (eInt .u8) l0)) (K : Int → Int → Int → Prop) (h : spec_l00Src_next.wp l0 a1 a2 K) : OkQ Try.prog 79 [(.v (.ptr i0 0))] H (fun r H2 => ∃ (y0 : Int) (y1 : Int) (y2 : Int), K y0 y1 y2 ∧ r = (.v (.int .i64 y0)) ∧ Sep H2 (Pc.box i0 [v0, (.int .i64 y1), (.int .u64 y2)] :: fr)) := by
  unfold spec_l00Src_next.wp at h
  refine of_body Try.f79 F.hm Try.func79 rfl Try.call79 (by kernel_rfl) (by simp) ?_
  refine fi_seq ?_
  refine fi_region ?_
  refine so_assign (v := (.v (.int .i64 (0 : Int)))) rfl ?_
  refine so_nil ?_
  refine fi_seq ?_
  refine fi_region ?_
  refine so_assign (v := (.v (.int .i64 (0 : Int)))) rfl ?_
  refine so_nil ?_
  refine fi_seq ?_
  refine fi_seq ?_
  refine fi_region ?_
  refine so_move (v := (.v (.ptr i0 0))) rfl ?_
  refine so_nilCheck rfl ?_
  refine so_fieldAddr rfl F79.fd110_1 ?_
  refine sv_ld hs 0 rfl rfl rfl F79.ag3 ?_
  refine so_move (v := (.v (.ptr i0 0))) rfl ?_
  refine so_nilCheck rfl ?_
  refine so_fieldAddr rfl F79.fd110_0 ?_
  refine sv_ld hs 0 rfl rfl rfl F79.ag22 ?_
  refine sv_len (g0 _ hs.tl) (fun _ => rfl) (by decide) rfl F79.ti22 ?_
  refine so_bin rfl rfl ab_lss ?_
  refine so_nil ?_
  replace h := ofP h; rcases h with ⟨c102, h⟩ | ⟨c102, h⟩
  · refine fi_true rfl (decide_eq_true c102) ?_
    refine fi_region ?_
    refine so_move (v := (.v (.ptr i0 0))) rfl ?_
    refine so_nilCheck rfl ?_
    refine so_fieldAddr rfl F79.fd110_0 ?_
    refine sv_ld hs 0 rfl rfl rfl F79.ag22 ?_
    refine so_move (v := (.v (.ptr i0 0))) rfl ?_
    refine so_nilCheck rfl ?_
    refine so_fieldAddr rfl F79.fd110_1 ?_
    refine sv_ld hs 0 rfl rfl rfl F79.ag3 ?_
    obtain ⟨c103, h⟩ := h
    refine sv_idx (g0 _ hs.tl) c103 (fun _ => rfl) (by decide) rfl rfl F79.tl22 ?_
    refine sv_cell (g0 _ hs.tl) c103 (0 : Int) 0 (fun x => (AV.int .u8 x)) (fun _ => rfl) (fun _ => rfl) rfl F79.ag5 ?_
    refine sv_ii rfl F79.us5 F79.it3 ?_
    refine so_assign (v := (.v (.int .i64 (IntKind.i64.wrap (l0.getD (a1).toNat (0 : Int)))))) rfl ?_
    refine so_nil ?_
    refine fi_seq ?_
    refine fi_region ?_
    refine so_move (v := (.v (.ptr i0 0))) rfl ?_
    refine so_nilCheck rfl ?_
    refine so_fieldAddr rfl F79.fd110_1 ?_
    refine sv_ld hs 0 rfl rfl rfl F79.ag3 ?_
    refine so_bin rfl rfl ab_add ?_
    refine so_nilCheck rfl ?_
    refine so_fieldAddr rfl F79.fd110_1 ?_
    refine sv_st hs 0 rfl rfl rfl (c := [(.int .i64 (IntKind.i64.wrap (a1 + (1 : Int))))]) rfl F79.sz3 rfl (stc rfl stn) (leb rfl) (cs' := [v0, (.int .i64 (IntKind.i64.wrap (a1 + (1 : Int)))), (.int .u64 a2)]) rfl nofun (fun H104 hs => ?_)
    refine so_nil ?_
    refine fi_seq ?_
    refine fi_region ?_
    refine so_move (v := (.v (.ptr i0 0))) rfl ?_
    refine so_move (v := (.v (.ptr i0 0))) rfl ?_
    refine so_nilCheck rfl ?_
    refine so_fieldAddr rfl F79.fd110_2 ?_
    refine sv_ld hs 0 rfl rfl rfl F79.ag108 ?_
    refine so_bin rfl rfl ab_mul ?_
    refine so_move (v := (.v (.int .i64 (IntKind.i64.wrap (l0.getD (a1).toNat (0 : Int)))))) rfl ?_
    refine sv_ii rfl F79.us3 F79.it108 ?_
    refine so_bin rfl rfl ab_add ?_
    refine so_bin rfl rfl ab_add ?_
    refine so_nilCheck rfl ?_
    refine so_fieldAddr rfl F79.fd110_2 ?_
    refine sv_st hs 0 rfl rfl rfl (c := [(.int .u64 (IntKind.u64.wrap ((IntKind.u64.wrap ((IntKind.u64.wrap (a2 * (6364136223846793005 : Int))) + (IntKind.u64.wrap (IntKind.i64.wrap (l0.getD (a1).toNat (0 : Int)))))) + (1442695040888963407 : Int))))]) rfl F79.sz108 rfl (stc rfl stn) (leb rfl) (cs' := [v0, (.int .i64 (IntKind.i64.wrap (a1 + (1 : Int)))), (.int .u64 (IntKind.u64.wrap ((IntKind.u64.wrap ((IntKind.u64.wrap (a2 * (6364136223846793005 : Int))) + (IntKind.u64.wrap (IntKind.i64.wrap (l0.getD (a1).toNat (0 : Int)))))) + (1442695040888963407 : Int))))]) rfl nofun (fun H105 hs => ?_)
    refine so_nil ?_
    refine fi_seq ?_
    refine fi_seq ?_
    refine fi_region ?_
    refine so_move (v := (.v (.ptr i0 0))) rfl ?_
    refine so_nilCheck rfl ?_
    refine so_fieldAddr rfl F79.fd110_1 ?_
    refine sv_ld hs 0 rfl rfl rfl F79.ag3 ?_
    refine so_move (v := (.v (.ptr i0 0))) rfl ?_
    refine so_nilCheck rfl ?_
    refine so_fieldAddr rfl F79.fd110_0 ?_
    refine sv_ld hs 0 rfl rfl rfl F79.ag22 ?_
    refine sv_len (g0 _ hs.tl) (fun _ => rfl) (by decide) rfl F79.ti22 ?_
    refine so_bin rfl rfl ab_leq ?_
    refine so_nil ?_
    replace h := ofP h; rcases h with ⟨c106, h⟩ | ⟨c106, h⟩
    · refine fi_true rfl (decide_eq_true c106) ?_
      refine fi_seq ?_
      refine fi_region ?_
      refine so_move (v := (.v (.int .i64 (IntKind.i64.wrap (l0.getD (a1).toNat (0 : Int)))))) rfl ?_
      refine so_assign (v := (.v (.int .i64 (IntKind.i64.wrap (l0.getD (a1).toNat (0 : Int)))))) rfl ?_
      refine so_nil ?_
      exact by_ret rfl ⟨_, _, _, h, rfl, hs⟩
    · refine fi_false rfl (decide_eq_false c106) ?_
      refine fi_skip ?_
      refine fi_seq ?_
      refine fi_region ?_
      refine so_move (v := (.v (.ptr i0 0))) rfl ?_
      refine so_nilCheck rfl ?_
      refine so_fieldAddr rfl F79.fd110_2 ?_
      refine sv_ld hs 0 rfl rfl rfl F79.ag108 ?_
      refine so_bin rfl rfl (ab_shr (by decide)) ?_
      refine so_bin rfl rfl ab_and ?_
      refine sv_ii rfl F79.us108 F79.it2 ?_
      refine so_assign (v := (.v (.int .i64 (IntKind.i64.wrap (ibits .and .u64 (Int.fdiv (IntKind.u64.wrap ((IntKind.u64.wrap ((IntKind.u64.wrap (a2 * (6364136223846793005 : Int))) + (IntKind.u64.wrap (IntKind.i64.wrap (l0.getD (a1).toNat (0 : Int)))))) + (1442695040888963407 : Int))) (2 ^ (min ((40 : Int)).toNat IntKind.u64.bits))) (255 : Int)))))) rfl ?_
      refine so_nil ?_
      exact by_ret rfl ⟨_, _, _, h, rfl, hs⟩
  · refine fi_false rfl (decide_eq_false c102) ?_
    refine fi_skip ?_
    refine fi_seq ?_
    refine fi_region ?_
    refine so_move (v := (.v (.ptr i0 0))) rfl ?_
    refine so_nilCheck rfl ?_
    refine so_fieldAddr rfl F79.fd110_1 ?_
    refine sv_ld hs 0 rfl rfl rfl F79.ag3 ?_
    refine so_bin rfl rfl ab_add ?_
    refine so_nilCheck rfl ?_
    refine so_fieldAddr rfl F79.fd110_1 ?_
    refine sv_st hs 0 rfl rfl rfl (c := [(.int .i64 (IntKind.i64.wrap (a1 + (1 : Int))))]) rfl F79.sz3 rfl (stc rfl stn) (leb rfl) (cs' := [v0, (.int .i64 (IntKind.i64.wrap (a1 + (1 : Int)))), (.int .u64 a2)]) rfl nofun (fun H107 hs => ?_)
    refine so_nil ?_
    refine fi_seq ?_
    refine fi_region ?_
    refine so_move (v := (.v (.ptr i0 0))) rfl ?_
    refine so_move (v := (.v (.ptr i0 0))) rfl ?_
    refine so_nilCheck rfl ?_
    refine so_fieldAddr rfl F79.fd110_2 ?_
    refine sv_ld hs 0 rfl rfl rfl F79.ag108 ?_
    refine so_bin rfl rfl ab_mul ?_
    refine so_move (v := (.v (.int .i64 (0 : Int)))) rfl ?_
    refine sv_ii rfl F79.us3 F79.it108 ?_
    refine so_bin rfl rfl ab_add ?_
    refine so_bin rfl rfl ab_add ?_
    refine so_nilCheck rfl ?_
    refine so_fieldAddr rfl F79.fd110_2 ?_
    refine sv_st hs 0 rfl rfl rfl (c := [(.int .u64 (IntKind.u64.wrap ((IntKind.u64.wrap ((IntKind.u64.wrap (a2 * (6364136223846793005 : Int))) + (IntKind.u64.wrap (0 : Int)))) + (1442695040888963407 : Int))))]) rfl F79.sz108 rfl (stc rfl stn) (leb rfl) (cs' := [v0, (.int .i64 (IntKind.i64.wrap (a1 + (1 : Int)))), (.int .u64 (IntKind.u64.wrap ((IntKind.u64.wrap ((IntKind.u64.wrap (a2 * (6364136223846793005 : Int))) + (IntKind.u64.wrap (0 : Int)))) + (1442695040888963407 : Int))))]) rfl nofun (fun H108 hs => ?_)
    refine so_nil ?_
    refine fi_seq ?_
    refine fi_seq ?_
    refine fi_region ?_
    refine so_move (v := (.v (.ptr i0 0))) rfl ?_
    refine so_nilCheck rfl ?_
    refine so_fieldAddr rfl F79.fd110_1 ?_
    refine sv_ld hs 0 rfl rfl rfl F79.ag3 ?_
    refine so_move (v := (.v (.ptr i0 0))) rfl ?_
    refine so_nilCheck rfl ?_
    refine so_fieldAddr rfl F79.fd110_0 ?_
    refine sv_ld hs 0 rfl rfl rfl F79.ag22 ?_
    refine sv_len (g0 _ hs.tl) (fun _ => rfl) (by decide) rfl F79.ti22 ?_
    refine so_bin rfl rfl ab_leq ?_
    refine so_nil ?_
    replace h := ofP h; rcases h with ⟨c109, h⟩ | ⟨c109, h⟩
    · refine fi_true rfl (decide_eq_true c109) ?_
      refine fi_seq ?_
      refine fi_region ?_
      refine so_move (v := (.v (.int .i64 (0 : Int)))) rfl ?_
      refine so_assign (v := (.v (.int .i64 (0 : Int)))) rfl ?_
      refine so_nil ?_
      exact by_ret rfl ⟨_, _, _, h, rfl, hs⟩
    · refine fi_false rfl (decide_eq_false c109) ?_
      refine fi_skip ?_
      refine fi_seq ?_
      refine fi_region ?_
      refine so_move (v := (.v (.ptr i0 0))) rfl ?_
      refine so_nilCheck rfl ?_
      refine so_fieldAddr rfl F79.fd110_2 ?_
      refine sv_ld hs 0 rfl rfl rfl F79.ag108 ?_
      refine so_bin rfl rfl (ab_shr (by decide)) ?_
      refine so_bin rfl rfl ab_and ?_
      refine sv_ii rfl F79.us108 F79.it2 ?_
      refine so_assign (v := (.v (.int .i64 (IntKind.i64.wrap (ibits .and .u64 (Int.fdiv (IntKind.u64.wrap ((IntKind.u64.wrap ((IntKind.u64.wrap (a2 * (6364136223846793005 : Int))) + (IntKind.u64.wrap (0 : Int)))) + (1442695040888963407 : Int))) (2 ^ (min ((40 : Int)).toNat IntKind.u64.bits))) (255 : Int)))))) rfl ?_
      refine so_nil ?_
      exact by_ret rfl ⟨_, _, _, h, rfl, hs⟩

end Go.Proofs.Ytdoamcokkcoflaa.G

namespace Go.Proofs.Ytdoamcokkcoflaa.G
open Go Go.Ab Go.Proofs Go.Proofs.Ytdoamcokkcoflaa
set_option maxRecDepth 100000
set_option linter.unusedVariables false
set_option linter.unusedSimpArgs false
set_option maxHeartbeats 1000000
attribute [local irreducible] wops wopf Go.Ab.Fin
theorem spec_l00Src_pick_ok {fr : List Pc} {H : Heap} (i0 : Nat) (v0 : AV) (l0 : List (Int)) (a1 : Int) (a2 : Int) (a3 : Int) (hs : Sep H (Pc.box i0 [v0, (.int .i64 a1), (.int .u64 a2)] :: fr)) (g0 : ∀ H, Sep H fr → Shows H v0 1 (enc (eInt .u8) l0)) (K : Int → Int → Int → Prop) (h : spec_l00Src_pick.wp l0 a1 a2 a3 K) : OkQ Try.prog 39 [(.v (.ptr i0 0)), (.v (.int .i64 a3))] H (fun r H2 => ∃ (y0 : Int) (y1 : Int) (y2 : Int), K y0 y1 y2 ∧ r = (.v (.int .i64 y0)) ∧ Sep H2 (Pc.box i0 [v0, (.int .i64 y1), (.int .u64 y2)] :: fr)) := by
  unfold spec_l00Src_pick.wp at h
  refine of_body Try.f39 F.hm Try.func39 rfl Try.call39 (by kernel_rfl) (by simp) ?_
  refine fi_seq ?_
  refine fi_region ?_
  refine so_assign (v := (.v (.int .i64 (0 : Int)))) rfl ?_
  refine so_nil ?_
  refine fi_seq ?_
  refine fi_seq ?_
  refine fi_region ?_
  refine so_move (v := (.v (.int .i64 a3))) rfl ?_
  refine so_bin rfl rfl ab_leq ?_
  refine so_nil ?_
  replace h := ofP h; rcases h with ⟨c102, h⟩ | ⟨c102, h⟩
  · refine fi_true rfl (decide_eq_true c102) ?_
    refine fi_seq ?_
    refine fi_region ?_
    refine so_assign (v := (.v (.int .i64 (0 : Int)))) rfl ?_
    refine so_nil ?_
    exact by_ret rfl ⟨_, _, _, h, rfl, hs⟩
  · refine fi_false rfl (decide_eq_false c102) ?_
    refine fi_skip ?_
    refine fi_seq ?_
    refine fi_region ?_
    refine so_move (v := (.v (.ptr i0 0))) rfl ?_
    refine sv_call (spec_l00Src_next_ok i0 v0 l0 a1 a2 hs (fun _ hs => (g0 _ hs)) _ h) rfl rfl nofun ?_
    clear h hs
    rintro _ H106 ⟨y103, y104, y105, h, rfl, hs⟩
    refine so_assign (v := (.v (.int .i64 y103))) rfl ?_
    refine so_nil ?_
    refine fi_seq ?_
    refine fi_seq ?_
    refine fi_region ?_
    refine so_move (v := (.v (.int .i64 a3))) rfl ?_
    refine so_bin rfl rfl ab_gtr ?_
    refine so_nil ?_
    replace h := ofP h; rcases h with ⟨c107, h⟩ | ⟨c107, h⟩
    · refine fi_true rfl (decide_eq_true c107) ?_
      refine fi_region ?_
      refine so_move (v := (.v (.int .i64 y103))) rfl ?_
      refine so_bin rfl rfl ab_mul ?_
      refine so_move (v := (.v (.ptr i0 0))) rfl ?_
      refine sv_call (spec_l00Src_next_ok i0 v0 l0 y104 y105 hs (fun _ hs => (g0 _ hs)) _ h) rfl rfl nofun ?_
      clear h hs
      rintro _ H111 ⟨y108, y109, y110, h, rfl, hs⟩
      refine so_bin rfl rfl ab_add ?_
      refine so_assign (v := (.v (.int .i64 (IntKind.i64.wrap ((IntKind.i64.wrap (y103 * (256 : Int))) + y108))))) rfl ?_
      refine so_nil ?_
      refine fi_seq ?_
      refine fi_region ?_
      refine so_move (v := (.v (.int .i64 (IntKind.i64.wrap ((IntKind.i64.wrap (y103 * (256 : Int))) + y108))))) rfl ?_
      refine so_move (v := (.v (.int .i64 a3))) rfl ?_
      obtain ⟨c112, h⟩ := h
      refine so_bin rfl rfl (ab_rem c112) ?_
      refine so_assign (v := (.v (.int .i64 (Int.tmod (IntKind.i64.wrap ((IntKind.i64.wrap (y103 * (256 : Int))) + y108)) a3)))) rfl ?_
      refine so_nil ?_
      exact by_ret rfl ⟨_, _, _, h, rfl, hs⟩
    · refine fi_false rfl (decide_eq_false c107) ?_
      refine fi_skip ?_
      refine fi_seq ?_
      refine fi_region ?_
      refine so_move (v := (.v (.int .i64 y103))) rfl ?_
      refine so_move (v := (.v (.int .i64 a3))) rfl ?_
      obtain ⟨c113, h⟩ := h
      refine so_bin rfl rfl (ab_rem c113) ?_
      refine so_assign (v := (.v (.int .i64 (Int.tmod y103 a3)))) rfl ?_
      refine so_nil ?_
      exact by_ret rfl ⟨_, _, _, h, rfl, hs⟩

end Go.Proofs.Ytdoamcokkcoflaa.G

namespace Go.Proofs.Ytdoamcokkcoflaa.G
open Go Go.Ab Go.Proofs Go.Proofs.Ytdoamcokkcoflaa
set_option maxRecDepth 100000
set_option linter.unusedVariables false
set_option linter.unusedSimpArgs false
set_option maxHeartbeats 1000000
attribute [local irreducible] wops wopf Go.Ab.Fin
theorem F18.fl26 : tflt Try.prog 26 = some .f32 := by kernel_rfl
theorem F18.in26 : tint Try.prog 26 = none := by kernel_rfl
theorem F18.sz26 : tsz Try.prog 26 = some 1 := by kernel_rfl
theorem F18.ta43_43 : tapp Try.prog 43 43 = some (1, 4) := by kernel_rfl
theorem F18.te43 : telem Try.prog 43 = some 26 := by kernel_rfl
theorem F18.us2 : (Try.prog.underlying 2).isSome = true := by kernel_rfl
theorem F18.ze26 : tzero Try.prog 26 = some [(.flt .f32 (0 : Nat))] := by kernel_rfl
theorem spec_B10Signal_ok {fr : List Pc} {H : Heap} (v0 : AV) (l0 : List (Int)) (a1 : Int) (hs : Sep H (fr)) (g0 : ∀ H, Sep H fr → Shows H v0 1 (enc (eInt .u8) l0)) (K : (List (Nat)) → Prop) (h : spec_B10Signal.wp l0 a1 K) : OkQ Try.prog 18 [(.v v0), (.v (.int .i64 a1))] H (fun r H2 => ∃ (y0 : List (Nat)), K y0 ∧ ∃ (w0_ : AV), r = (.v w0_) ∧ Sep H2 (Pc.osl w0_ 1 (enc (eFlt .f32) y0) :: fr)) := by
  unfold spec_B10Signal.wp at h
  refine of_body Try.f18 F.hm Try.func18 rfl Try.call18 (by kernel_rfl) (by simp) ?_
  refine fi_seq ?_
  refine fi_region ?_
  refine so_assign (v := (.v .nilsl)) rfl ?_
  refine so_nil ?_
  refine fi_seq ?_
  refine fi_region ?_
  refine so_move (v := (.v v0)) rfl ?_
  refine sv_call (spec_l00From_ok v0 l0 hs (fun _ hs => (g0 _ hs)) _ h) rfl rfl nofun ?_
  clear h hs
  rintro _ H106 ⟨y101, y102, y103, h, i104, rfl, hs⟩
  replace h := ofT h; rcases h with ⟨c107, h⟩ | ⟨c107, h⟩
  · subst c107
    refine so_assign (v := (.v (.ptr i104 0))) rfl ?_
    refine so_nil ?_
    refine fi_seq ?_
    refine fi_region ?_
    refine sv_bslice hs (eFlt .f32) ([] : List (Nat)) [] F18.te43 F18.sz26 F18.ze26 rfl rfl rfl rfl (fun _ => rfl) rfl (by decide) nofun (fun v108 H109 nv108 hs => ?_)
    refine so_assign (v := (.v v108)) rfl ?_
    refine so_nil ?_
    refine fi_seq ?_
    refine fi_block ?_
    refine fi_loop ?_
    refine fi_at [(1, (.v (.int .i64 a1))), (5, (.v (.ptr i104 0))), (6, (.v v108))] ⟨rfl, rfl, rfl, trivial⟩ ?_
    refine h (fun (out127 : List (Nat)) (b129 : Int) (b130 : Int) (n131 : Int) => ∀ (s : Nat → TV) (H : Heap) (v128 : AV) (nv128 : v128 ≠ .nilsl), Sep H (Pc.osl v128 1 (enc (eFlt .f32) out127) :: Pc.box i104 [v0, (.int .i64 b129), (.int .u64 b130)] :: fr) → Fin _ _ (updL s [(1, (.v (.int .i64 n131))), (5, (.v (.ptr i104 0))), (6, (.v v128))]) H _) ?_ _ _ _ nv108 hs
    intro out127 b129 b130 n131 h s143 H144 v128 nv128 hs
    refine fi_inLoop ?_
    refine fi_seq ?_
    refine fi_seq ?_
    refine fi_region ?_
    refine so_move (v := (.v (.int .i64 n131))) rfl ?_
    refine so_bin rfl rfl ab_gtr ?_
    refine so_nil ?_
    replace h := ofP h; rcases h with ⟨c132, h⟩ | ⟨c132, h⟩
    · refine fi_true rfl (decide_eq_true c132) ?_
      refine fi_skip ?_
      refine fi_seq ?_
      refine fi_block ?_
      refine fi_region ?_
      refine so_move (v := (.v v128)) rfl ?_
      refine so_move (v := (.v (.ptr i104 0))) rfl ?_
      replace hs := (Sep.front 1 hs rfl)
      refine sv_call (spec_l00Src_pick_ok i104 v0 l0 b129 b130 (65 : Int) hs (fun _ hs => (g0 _ hs.tl)) _ h) rfl rfl nofun ?_
      clear h hs
      rintro _ H136 ⟨y133, y134, y135, h, rfl, hs⟩
      refine so_bin rfl rfl ab_sub ?_
      refine sv_if rfl F18.us2 F18.in26 F18.fl26 ?_
      refine so_bin rfl rfl ab_fquo ?_
      refine sv_bslice hs (eFlt .f32) ([(fop .quo .f32 (itof .f32 (IntKind.i64.wrap (y133 - (32 : Int)))) (cz .f32 1082130432))] : List (Nat)) [[(.flt .f32 (fop .quo .f32 (itof .f32 (IntKind.i64.wrap (y133 - (32 : Int)))) (cz .f32 1082130432)))]] F18.te43 F18.sz26 F18.ze26 rfl rfl rfl rfl (fun _ => rfl) rfl (by decide) nofun (fun v137 H138 nv137 hs => ?_)
      obtain ⟨c142, h⟩ := h
      refine sv_app hs 2 rfl (hs.shows 0 rfl) (fun _ => rfl) (by decide) F18.ta43_43 (by decide) c142 rfl rfl nofun (fun v140 H141 kv140 hs => ?_)
      replace hs := hs.del 0
      have nv140 := kv140 nv128
      refine so_assign (v := (.v v140)) rfl ?_
      refine so_nil ?_
      refine fi_inBlock ?_
      refine fi_region ?_
      refine so_move (v := (.v (.int .i64 n131))) rfl ?_
      refine so_bin rfl rfl ab_sub ?_
      refine so_assign (v := (.v (.int .i64 (IntKind.i64.wrap (n131 - (1 : Int)))))) rfl ?_
      refine so_nil ?_
      exact fi_at [(1, (.v (.int .i64 (IntKind.i64.wrap (n131 - (1 : Int)))))), (5, (.v (.ptr i104 0))), (6, (.v v140))] ⟨rfl, rfl, rfl, trivial⟩ (h _ _ _ nv140 (Sep.front 1 (Sep.front 0 hs rfl) rfl))
    · refine fi_false rfl (decide_eq_false c132) ?_
      refine fi_exit rfl ?_
      refine fi_seq ?_
      refine fi_region ?_
      refine so_move (v := (.v v128)) rfl ?_
      refine so_assign (v := (.v v128)) rfl ?_
      refine so_nil ?_
      exact by_ret rfl ⟨_, h, _, rfl, (Sep.del 1 hs)⟩
  · subst c107
    refine so_assign (v := (.v (.ptr i104 0))) rfl ?_
    refine so_nil ?_
    refine fi_seq ?_
    refine fi_region ?_
    refine sv_bslice hs (eFlt .f32) ([] : List (Nat)) [] F18.te43 F18.sz26 F18.ze26 rfl rfl rfl rfl (fun _ => rfl) rfl (by decide) nofun (fun v145 H146 nv145 hs => ?_)
    refine so_assign (v := (.v v145)) rfl ?_
    refine so_nil ?_
    refine fi_seq ?_
    refine fi_block ?_
    refine fi_loop ?_
    replace hs := hs.nil 1
    refine fi_at [(1, (.v (.int .i64 a1))), (5, (.v (.ptr i104 0))), (6, (.v v145))] ⟨rfl, rfl, rfl, trivial⟩ ?_
    refine h (fun (out164 : List (Nat)) (b167 : List (Int)) (b169 : Int) (b170 : Int) (n171 : Int) => ∀ (s : Nat → TV) (H : Heap) (v165 : AV) (nv165 : v165 ≠ .nilsl) (v168 : AV), Sep H (Pc.osl v168 1 (enc (eInt .u8) b167) :: Pc.osl v165 1 (enc (eFlt .f32) out164) :: Pc.box i104 [v168, (.int .i64 b169), (.int .u64 b170)] :: fr) → Fin _ _ (updL s [(1, (.v (.int .i64 n171))), (5, (.v (.ptr i104 0))), (6, (.v v165))]) H _) ?_ _ _ _ nv145 _ hs
    intro out164 b167 b169 b170 n171 h s183 H184 v165 nv165 v168 hs
    refine fi_inLoop ?_
    refine fi_seq ?_
    refine fi_seq ?_
    refine fi_region ?_
    refine so_move (v := (.v (.int .i64 n171))) rfl ?_
    refine so_bin rfl rfl ab_gtr ?_
    refine so_nil ?_
    replace h := ofP h; rcases h with ⟨c172, h⟩ | ⟨c172, h⟩
    · refine fi_true rfl (decide_eq_true c172) ?_
      refine fi_skip ?_
      refine fi_seq ?_
      refine fi_block ?_
      refine fi_region ?_
      refine so_move (v := (.v v165)) rfl ?_
      refine so_move (v := (.v (.ptr i104 0))) rfl ?_
      replace hs := (Sep.front 2 hs rfl)
      refine sv_call (spec_l00Src_pick_ok i104 v168 b167 b169 b170 (65 : Int) hs (fun _ hs => (hs.shows 0 rfl)) _ h) rfl rfl nofun ?_
      clear h hs
      rintro _ H176 ⟨y173, y174, y175, h, rfl, hs⟩
      refine so_bin rfl rfl ab_sub ?_
      refine sv_if rfl F18.us2 F18.in26 F18.fl26 ?_
      refine so_bin rfl rfl ab_fquo ?_
      refine sv_bslice hs (eFlt .f32) ([(fop .quo .f32 (itof .f32 (IntKind.i64.wrap (y173 - (32 : Int)))) (cz .f32 1082130432))] : List (Nat)) [[(.flt .f32 (fop .quo .f32 (itof .f32 (IntKind.i64.wrap (y173 - (32 : Int)))) (cz .f32 1082130432)))]] F18.te43 F18.sz26 F18.ze26 rfl rfl rfl rfl (fun _ => rfl) rfl (by decide) nofun (fun v177 H178 nv177 hs => ?_)
      obtain ⟨c182, h⟩ := h
      refine sv_app hs 3 rfl (hs.shows 0 rfl) (fun _ => rfl) (by decide) F18.ta43_43 (by decide) c182 rfl rfl nofun (fun v180 H181 kv180 hs => ?_)
      replace hs := hs.del 0
      have nv180 := kv180 nv165
      refine so_assign (v := (.v v180)) rfl ?_
      refine so_nil ?_
      refine fi_inBlock ?_
      refine fi_region ?_
      refine so_move (v := (.v (.int .i64 n171))) rfl ?_
      refine so_bin rfl rfl ab_sub ?_
      refine so_assign (v := (.v (.int .i64 (IntKind.i64.wrap (n171 - (1 : Int)))))) rfl ?_
      refine so_nil ?_
      exact fi_at [(1, (.v (.int .i64 (IntKind.i64.wrap (n171 - (1 : Int)))))), (5, (.v (.ptr i104 0))), (6, (.v v180))] ⟨rfl, rfl, rfl, trivial⟩ (h _ _ _ nv180 _ (Sep.front 2 (Sep.front 2 (Sep.front 0 hs rfl) rfl) rfl))
    · refine fi_false rfl (decide_eq_false c172) ?_
      refine fi_exit rfl ?_
      refine fi_seq ?_
      refine fi_region ?_
      refine so_move (v := (.v v165)) rfl ?_
      refine so_assign (v := (.v v165)) rfl ?_
      refine so_nil ?_
      exact by_ret rfl ⟨_, h, _, rfl, (Sep.del 1 (Sep.del 0 hs))⟩

end Go.Proofs.Ytdoamcokkcoflaa.G

namespace Go.Proofs.Ytdoamcokkcoflaa.G
open Go Go.Ab Go.Proofs Go.Proofs.Ytdoamcokkcoflaa
set_option maxRecDepth 100000
set_option linter.unusedVariables false
set_option linter.unusedSimpArgs false
set_option maxHeartbeats 1000000
attribute [local irreducible] wops wopf Go.Ab.Fin
theorem impl_IsFinite_ok {fr : List Pc} {H : Heap} (a0 : Nat) (hs : Sep H (fr))  (K : Bool → Prop) (h : impl_IsFinite.wp a0 K) : OkQ Try.prog 43 [(.v (.flt .f32 a0))] H (fun r H2 => ∃ (y0 : Bool), K y0 ∧ r = (.v (.bool y0)) ∧ H = H2) := by
  unfold impl_IsFinite.wp at h
  refine of_body Try.f43 F.hm Try.func43 rfl Try.call43 (by kernel_rfl) (by simp) ?_
  refine fi_seq ?_
  refine fi_region ?_
  refine so_assign (v := (.v (.bool false))) rfl ?_
  refine so_nil ?_
  refine fi_seq ?_
  refine fi_region ?_
  refine so_move (v := (.v (.flt .f32 a0))) rfl ?_
  refine so_move (v := (.v (.flt .f32 a0))) rfl ?_
  refine so_bin rfl rfl ab_fsub ?_
  refine so_bin rfl rfl ab_feql ?_
  refine so_assign (v := (.v (.bool (fcmp .eql .f32 (fop .sub .f32 a0 a0) (cz .f32 0))))) rfl ?_
  refine so_nil ?_
  exact by_ret rfl ⟨_, h, rfl, rfl⟩

end Go.Proofs.Ytdoamcokkcoflaa.G

namespace Go.Proofs.Ytdoamcokkcoflaa.G
open Go Go.Ab Go.Proofs Go.Proofs.Ytdoamcokkcoflaa
set_option maxRecDepth 100000
set_option linter.unusedVariables false
set_option linter.unusedSimpArgs false
set_option maxHeartbeats 1000000
attribute [local irreducible] wops wopf Go.Ab.Fin
theorem F82.ag26 : tagg Try.prog 26 = some false := by kernel_rfl
theorem F82.ag43 : tagg Try.prog 43 = some false := by kernel_rfl
theorem F82.ti43 : (telem Try.prog 43).isSome = true := by kernel_rfl
theorem F82.ti86 : (telem Try.prog 86).isSome = true := by kernel_rfl
theorem F82.tl43 : (telem Try.prog 43).bind (tsz Try.prog) = some 1 := by kernel_rfl
theorem F82.tl86 : (telem Try.prog 86).bind (tsz Try.prog) = some 1 := by kernel_rfl
theorem impl_areFinite_ok {fr : List Pc} {H : Heap} (v0 : AV) (w0 : List (List AV)) (l0 : List (List (Nat))) (hs : Sep H (fr)) (g0 : ∀ H, Sep H fr → DSh H v0 1 R_LeFlt_f32_o l0 w0) (K : Bool → Prop) (h : impl_areFinite.wp l0 K) : OkQ Try.prog 82 [(.v v0)] H (fun r H2 => ∃ (y0 : Bool), K y0 ∧ r = (.v (.bool y0)) ∧ H = H2) := by
  unfold impl_areFinite.wp at h
  refine of_body Try.f82 F.hm Try.func82 rfl Try.call82 (by kernel_rfl) (by simp) ?_
  refine fi_seq ?_
  refine fi_region ?_
  refine so_assign (v := (.v (.bool false))) rfl ?_
  refine so_nil ?_
  refine fi_seq ?_
  refine fi_seq ?_
  refine fi_region ?_
  refine so_move (v := (.v v0)) rfl ?_
  refine sd_len ((g0 _ hs) : DSh _ _ 1 R_LeFlt_f32_o l0 w0) (by decide) rfl F82.ti86 ?_
  refine so_move (v := (.v (.int .i64 (0 : Int)))) rfl ?_
  refine so_nil ?_
  refine fi_block ?_
  refine fi_loop ?_
  refine fi_at [(7, (.v v0)), (8, (.v (.int .i64 (l0.length : Int)))), (9, (.v (.int .i64 (0 : Int))))] ⟨rfl, rfl, rfl, trivial⟩ ?_
  refine h (fun (x102 : Int) => ∀ (s : Nat → TV), Fin _ _ (updL s [(7, (.v v0)), (8, (.v (.int .i64 (l0.length : Int)))), (9, (.v (.int .i64 x102)))]) _ _) ?_ _
  intro x102 h s114
  refine fi_inLoop ?_
  refine fi_seq ?_
  refine fi_region ?_
  refine so_bin rfl rfl ab_lss ?_
  refine so_nil ?_
  refine fi_seq ?_
  replace h := ofP h; rcases h with ⟨c103, h⟩ | ⟨c103, h⟩
  · refine fi_true rfl (decide_eq_true c103) ?_
    refine fi_skip ?_
    refine fi_seq ?_
    refine fi_block ?_
    refine fi_seq ?_
    refine fi_region ?_
    obtain ⟨c104, h⟩ := h
    refine sd_idx ((g0 _ hs) : DSh _ _ 1 R_LeFlt_f32_o l0 w0) c104 ([] : List (Nat)) (by decide) rfl rfl F82.tl86 ?_
    refine su_ld ((((g0 _ hs) : DSh _ _ 1 R_LeFlt_f32_o l0 w0)).at (by decide) c104 ([] : List (Nat))).2.2 0 (congrArg (fun c => c[0]?) ((((g0 _ hs) : DSh _ _ 1 R_LeFlt_f32_o l0 w0)).at (by decide) c104 ([] : List (Nat))).2.1.1) rfl F82.ag43 ?_
    refine so_assign (v := (.v ((w0.getD (x102).toNat []).getD 0 .und))) rfl ?_
    refine so_nil ?_
    refine fi_seq ?_
    refine fi_region ?_
    refine so_move (v := (.v ((w0.getD (x102).toNat []).getD 0 .und))) rfl ?_
    refine sv_len ((((g0 _ hs) : DSh _ _ 1 R_LeFlt_f32_o l0 w0)).at (by decide) c104 ([] : List (Nat))).2.1.2 (fun _ => rfl) (by decide) rfl F82.ti43 ?_
    refine so_move (v := (.v (.int .i64 (0 : Int)))) rfl ?_
    refine so_nil ?_
    refine fi_block ?_
    refine fi_loop ?_
    refine fi_at [(7, (.v v0)), (8, (.v (.int .i64 (l0.length : Int)))), (9, (.v (.int .i64 x102))), (13, (.v ((w0.getD (x102).toNat []).getD 0 .und))), (14, (.v (.int .i64 ((l0.getD (x102).toNat ([] : List (Nat))).length : Int)))), (15, (.v (.int .i64 (0 : Int))))] ⟨rfl, rfl, rfl, rfl, rfl, rfl, trivial⟩ ?_
    refine h (fun (x106 : Int) => ∀ (s : Nat → TV), Fin _ _ (updL s [(7, (.v v0)), (8, (.v (.int .i64 (l0.length : Int)))), (9, (.v (.int .i64 x102))), (13, (.v ((w0.getD (x102).toNat []).getD 0 .und))), (14, (.v (.int .i64 ((l0.getD (x102).toNat ([] : List (Nat))).length : Int)))), (15, (.v (.int .i64 x106)))]) _ _) ?_ _
    intro x106 h s112
    refine fi_inLoop ?_
    refine fi_seq ?_
    refine fi_region ?_
    refine so_bin rfl rfl ab_lss ?_
    refine so_nil ?_
    refine fi_seq ?_
    replace h := ofP h; rcases h with ⟨c107, h⟩ | ⟨c107, h⟩
    · refine fi_true rfl (decide_eq_true c107) ?_
      refine fi_skip ?_
      refine fi_seq ?_
      refine fi_block ?_
      refine fi_seq ?_
      refine fi_region ?_
      obtain ⟨c108, h⟩ := h
      refine sv_idx ((((g0 _ hs) : DSh _ _ 1 R_LeFlt_f32_o l0 w0)).at (by decide) c104 ([] : List (Nat))).2.1.2 c108 (fun _ => rfl) (by decide) rfl rfl F82.tl43 ?_
      refine sv_cell ((((g0 _ hs) : DSh _ _ 1 R_LeFlt_f32_o l0 w0)).at (by decide) c104 ([] : List (Nat))).2.1.2 c108 (0 : Nat) 0 (fun x => (AV.flt .f32 x)) (fun _ => rfl) (fun _ => rfl) rfl F82.ag26 ?_
      refine so_assign (v := (.v (.flt .f32 ((l0.getD (x102).toNat ([] : List (Nat))).getD (x106).toNat (0 : Nat))))) rfl ?_
      refine so_nil ?_
      refine fi_seq ?_
      refine fi_region ?_
      refine so_move (v := (.v (.flt .f32 ((l0.getD (x102).toNat ([] : List (Nat))).getD (x106).toNat (0 : Nat))))) rfl ?_
      refine sv_callS (impl_IsFinite_ok ((l0.getD (x102).toNat ([] : List (Nat))).getD (x106).toNat (0 : Nat)) hs  _ h) (fun _ _ ⟨_, _, _, e⟩ => e) rfl rfl ?_
      clear h
      rintro _ _ ⟨y109, h, rfl, rfl⟩
      refine so_un rfl au_not ?_
      refine so_nil ?_
      replace h := ofT h; rcases h with ⟨c111, h⟩ | ⟨c111, h⟩
      · refine fi_false rfl (not_f c111) ?_
        refine fi_skip ?_
        refine fi_inBlock ?_
        refine fi_region ?_
        refine so_bin rfl rfl ab_add ?_
        refine so_move (v := (.v (.int .i64 (IntKind.i64.wrap (x106 + (1 : Int)))))) rfl ?_
        refine so_nil ?_
        exact fi_at [(7, (.v v0)), (8, (.v (.int .i64 (l0.length : Int)))), (9, (.v (.int .i64 x102))), (13, (.v ((w0.getD (x102).toNat []).getD 0 .und))), (14, (.v (.int .i64 ((l0.getD (x102).toNat ([] : List (Nat))).length : Int)))), (15, (.v (.int .i64 (IntKind.i64.wrap (x106 + (1 : Int))))))] ⟨rfl, rfl, rfl, rfl, rfl, rfl, trivial⟩ (h _)
      · refine fi_true rfl (not_t c111) ?_
        refine fi_seq ?_
        refine fi_region ?_
        refine so_assign (v := (.v (.bool false))) rfl ?_
        refine so_nil ?_
        exact by_ret rfl ⟨_, h, rfl, rfl⟩
    · refine fi_false rfl (decide_eq_false c107) ?_
      refine fi_exit rfl ?_
      refine fi_inBlock ?_
      refine fi_region ?_
      refine so_bin rfl rfl ab_add ?_
      refine so_move (v := (.v (.int .i64 (IntKind.i64.wrap (x102 + (1 : Int)))))) rfl ?_
      refine so_nil ?_
      exact fi_at [(7, (.v v0)), (8, (.v (.int .i64 (l0.length : Int)))), (9, (.v (.int .i64 (IntKind.i64.wrap (x102 + (1 : Int))))))] ⟨rfl, rfl, rfl, trivial⟩ (h _)
  · refine fi_false rfl (decide_eq_false c103) ?_
    refine fi_exit rfl ?_
    refine fi_seq ?_
    refine fi_region ?_
    refine so_assign (v := (.v (.bool true))) rfl ?_
    refine so_nil ?_
    exact by_ret rfl ⟨_, h, rfl, rfl⟩

end Go.Proofs.Ytdoamcokkcoflaa.G

namespace Go.Proofs.Ytdoamcokkcoflaa.G
open Go Go.Ab Go.Proofs Go.Proofs.Ytdoamcokkcoflaa
set_option maxRecDepth 100000
set_option linter.unusedVariables false
set_option linter.unusedSimpArgs false
set_option maxHeartbeats 1000000
attribute [local irreducible] wops wopf Go.Ab.Fin
theorem F49.sz43 : tsz Try.prog 43 = some 1 := by kernel_rfl
theorem F49.te86 : telem Try.prog 86 = some 43 := by kernel_rfl
theorem F49.ti43 : (telem Try.prog 43).isSome = true := by kernel_rfl
theorem F49.ze43 : tzero Try.prog 43 = some [.nilsl] := by kernel_rfl
theorem impl_isGrid_ok {fr : List Pc} {H : Heap} (v0 : AV) (l0 : List (Nat)) (hs : Sep H (fr)) (g0 : ∀ H, Sep H fr → Shows H v0 1 (enc (eFlt .f32) l0)) (K : Bool → Prop) (h : impl_isGrid.wp l0 K) : OkQ Try.prog 49 [(.v v0)] H (fun r H2 => ∃ (y0 : Bool), K y0 ∧ r = (.v (.bool y0)) ∧ Sep H2 (fr)) := by
  unfold impl_isGrid.wp at h
  refine of_body Try.f49 F.hm Try.func49 rfl Try.call49 (by kernel_rfl) (by simp) ?_
  refine fi_seq ?_
  refine fi_region ?_
  refine so_assign (v := (.v (.bool false))) rfl ?_
  refine so_nil ?_
  refine fi_seq ?_
  refine fi_region ?_
  refine so_move (v := (.v v0)) rfl ?_
  refine sv_len (g0 _ hs) (fun _ => rfl) (by decide) rfl F49.ti43 ?_
  refine so_bin rfl rfl ab_sub ?_
  refine so_assign (v := (.v (.int .i64 (IntKind.i64.wrap ((l0.length : Int) - (1 : Int)))))) rfl ?_
  refine so_nil ?_
  refine fi_seq ?_
  refine fi_region ?_
  refine so_move (v := (.v (.int .i64 (IntKind.i64.wrap ((l0.length : Int) - (1 : Int)))))) rfl ?_
  refine so_bin rfl rfl ab_geq ?_
  refine so_move (v := (.v (.bool (decide ((1 : Int) ≤ (IntKind.i64.wrap ((l0.length : Int) - (1 : Int)))))))) rfl ?_
  replace h := ofP h; rcases h with ⟨c101, h⟩ | ⟨c101, h⟩
  · refine so_gyes rfl (decide_eq_true c101) ?_
    refine so_move (v := (.v (.int .i64 (IntKind.i64.wrap ((l0.length : Int) - (1 : Int)))))) rfl ?_
    refine so_gyes rfl (decide_eq_true c101) ?_
    refine so_bin rfl rfl ab_leq ?_
    refine so_pick_t (v := (.v (.bool (decide ((IntKind.i64.wrap ((l0.length : Int) - (1 : Int))) ≤ (64 : Int)))))) rfl (decide_eq_true c101) rfl ?_
    refine so_move (v := (.v (.bool (decide ((IntKind.i64.wrap ((l0.length : Int) - (1 : Int))) ≤ (64 : Int)))))) rfl ?_
    replace h := ofP h; rcases h with ⟨c102, h⟩ | ⟨c102, h⟩
    · refine so_gyes rfl (decide_eq_true c102) ?_
      refine so_move (v := (.v (.int .i64 (IntKind.i64.wrap ((l0.length : Int) - (1 : Int)))))) rfl ?_
      refine so_gyes rfl (decide_eq_true c102) ?_
      refine so_move (v := (.v (.int .i64 (IntKind.i64.wrap ((l0.length : Int) - (1 : Int)))))) rfl ?_
      refine so_gyes rfl (decide_eq_true c102) ?_
      refine so_bin rfl rfl ab_sub ?_
      refine so_gyes rfl (decide_eq_true c102) ?_
      refine so_bin rfl rfl ab_and ?_
      refine so_gyes rfl (decide_eq_true c102) ?_
      refine so_bin rfl rfl ab_eql ?_
      refine so_pick_t (v := (.v (.bool (decide ((ibits .and .i64 (IntKind.i64.wrap ((l0.length : Int) - (1 : Int))) (IntKind.i64.wrap ((IntKind.i64.wrap ((l0.length : Int) - (1 : Int))) - (1 : Int)))) = (0 : Int)))))) rfl (decide_eq_true c102) rfl ?_
      refine so_move (v := (.v (.bool (decide ((ibits .and .i64 (IntKind.i64.wrap ((l0.length : Int) - (1 : Int))) (IntKind.i64.wrap ((IntKind.i64.wrap ((l0.length : Int) - (1 : Int))) - (1 : Int)))) = (0 : Int)))))) rfl ?_
      replace h := ofP h; rcases h with ⟨c103, h⟩ | ⟨c103, h⟩
      · refine so_gyes rfl (decide_eq_true c103) ?_
        refine so_move (v := (.v v0)) rfl ?_
        refine so_gyes rfl (decide_eq_true c103) ?_
        refine sd_bslice hs [[v0]] F49.te86 F49.sz43 F49.ze43 rfl rfl rfl (by simp) (fac (stc (g0 _ hs).stor stn) fan) (by decide) rfl nofun (fun v104 H105 _ hs => ?_)
        refine so_gyes rfl (decide_eq_true c103) ?_
        refine sv_callS (impl_areFinite_ok v104 ([[v0]]) ([l0] : List (List (Nat))) hs (fun _ hs => ⟨hs.shows 0 rfl, by simp, ⟨⟨rfl, (g0 _ hs.tl)⟩, trivial⟩⟩) _ h) (fun _ _ ⟨_, _, _, e⟩ => e) rfl rfl ?_
        clear h
        rintro _ _ ⟨y107, h, rfl, rfl⟩
        refine so_pick_t (v := (.v (.bool y107))) rfl (decide_eq_true c103) rfl ?_
        refine so_assign (v := (.v (.bool y107))) rfl ?_
        refine so_nil ?_
        exact by_ret rfl ⟨_, h, rfl, (Sep.del 0 hs)⟩
      · refine so_gno rfl (decide_eq_false c103) ?_
        refine so_gno rfl (decide_eq_false c103) ?_
        refine so_gno rfl (decide_eq_false c103) ?_
        refine so_pick_f (v := (.v (.bool false))) rfl (decide_eq_false c103) rfl ?_
        refine so_assign (v := (.v (.bool false))) rfl ?_
        refine so_nil ?_
        exact by_ret rfl ⟨_, h, rfl, hs⟩
    · refine so_gno rfl (decide_eq_false c102) ?_
      refine so_gno rfl (decide_eq_false c102) ?_
      refine so_gno rfl (decide_eq_false c102) ?_
      refine so_gno rfl (decide_eq_false c102) ?_
      refine so_gno rfl (decide_eq_false c102) ?_
      refine so_pick_f (v := (.v (.bool false))) rfl (decide_eq_false c102) rfl ?_
      refine so_move (v := (.v (.bool false))) rfl ?_
      refine so_gno rfl rfl ?_
      refine so_gno rfl rfl ?_
      refine so_gno rfl rfl ?_
      refine so_pick_f (v := (.v (.bool false))) rfl rfl rfl ?_
      refine so_assign (v := (.v (.bool false))) rfl ?_
      refine so_nil ?_
      exact by_ret rfl ⟨_, h, rfl, hs⟩
  · refine so_gno rfl (decide_eq_false c101) ?_
    refine so_gno rfl (decide_eq_false c101) ?_
    refine so_pick_f (v := (.v (.bool false))) rfl (decide_eq_false c101) rfl ?_
    refine so_move (v := (.v (.bool false))) rfl ?_
    refine so_gno rfl rfl ?_
    refine so_gno rfl rfl ?_
    refine so_gno rfl rfl ?_
    refine so_gno rfl rfl ?_
    refine so_gno rfl rfl ?_
    refine so_pick_f (v := (.v (.bool false))) rfl rfl rfl ?_
    refine so_move (v := (.v (.bool false))) rfl ?_
    refine so_gno rfl rfl ?_
    refine so_gno rfl rfl ?_
    refine so_gno rfl rfl ?_
    refine so_pick_f (v := (.v (.bool false))) rfl rfl rfl ?_
    refine so_assign (v := (.v (.bool false))) rfl ?_
    refine so_nil ?_
    exact by_ret rfl ⟨_, h, rfl, hs⟩

end Go.Proofs.Ytdoamcokkcoflaa.G

namespace Go.Proofs.Ytdoamcokkcoflaa.G
open Go Go.Ab Go.Proofs Go.Proofs.Ytdoamcokkcoflaa
set_option maxRecDepth 100000
set_option linter.unusedVariables false
set_option linter.unusedSimpArgs false
set_option maxHeartbeats 1000000
attribute [local irreducible] wops wopf Go.Ab.Fin
theorem F50.sz26 : tsz Try.prog 26 = some 1 := by kernel_rfl
theorem F50.ta43_43 : tapp Try.prog 43 43 = some (1, 4) := by kernel_rfl
theorem F50.te43 : telem Try.prog 43 = some 26 := by kernel_rfl
theorem F50.ze26 : tzero Try.prog 26 = some [(.flt .f32 (0 : Nat))] := by kernel_rfl
theorem impl_copyOf_ok {fr : List Pc} {H : Heap} (v0 : AV) (l0 : List (Nat)) (hs : Sep H (fr)) (g0 : ∀ H, Sep H fr → Shows H v0 1 (enc (eFlt .f32) l0)) (K : (List (Nat)) → Prop) (h : impl_copyOf.wp l0 K) : OkQ Try.prog 50 [(.v v0)] H (fun r H2 => ∃ (y0 : List (Nat)), K y0 ∧ ∃ (w0_ : AV), r = (.v w0_) ∧ Sep H2 (Pc.osl w0_ 1 (enc (eFlt .f32) y0) :: fr)) := by
  unfold impl_copyOf.wp at h
  refine of_body Try.f50 F.hm Try.func50 rfl Try.call50 (by kernel_rfl) (by simp) ?_
  refine fi_seq ?_
  refine fi_region ?_
  refine so_assign (v := (.v .nilsl)) rfl ?_
  refine so_nil ?_
  refine fi_seq ?_
  refine fi_region ?_
  refine sv_bslice hs (eFlt .f32) ([] : List (Nat)) [] F50.te43 F50.sz26 F50.ze26 rfl rfl rfl rfl (fun _ => rfl) rfl (by decide) nofun (fun v101 H102 nv101 hs => ?_)
  refine so_move (v := (.v v0)) rfl ?_
  obtain ⟨c106, h⟩ := h
  refine sv_app hs 0 rfl (g0 _ hs.tl) (fun _ => rfl) (by decide) F50.ta43_43 (by decide) c106 rfl rfl nofun (fun v104 H105 kv104 hs => ?_)
  have nv104 := kv104 nv101
  refine so_assign (v := (.v v104)) rfl ?_
  refine so_nil ?_
  exact by_ret rfl ⟨_, h, _, rfl, hs⟩

end Go.Proofs.Ytdoamcokkcoflaa.G

namespace Go.Proofs.Ytdoamcokkcoflaa.G
open Go Go.Ab Go.Proofs Go.Proofs.Ytdoamcokkcoflaa
set_option maxRecDepth 100000
set_option linter.unusedVariables false
set_option linter.unusedSimpArgs false
set_option maxHeartbeats 1000000
attribute [local irreducible] wops wopf Go.Ab.Fin
theorem F51.sz43 : tsz Try.prog 43 = some 1 := by kernel_rfl
theorem F51.te86 : telem Try.prog 86 = some 43 := by kernel_rfl
theorem F51.ze43 : tzero Try.prog 43 = some [.nilsl] := by kernel_rfl
theorem impl_finiteList_ok {fr : List Pc} {H : Heap} (v0 : AV) (l0 : List (Nat)) (hs : Sep H (fr)) (g0 : ∀ H, Sep H fr → Shows H v0 1 (enc (eFlt .f32) l0)) (K : Bool → Bool → Prop) (h : impl_finiteList.wp l0 K) : OkQ Try.prog 51 [(.v v0)] H (fun r H2 => ∃ (y0 : Bool) (y1 : Bool), K y0 y1 ∧ r = (.t [(.v (bif y0 then v0 else .nilsl)), (.v (.bool y1))]) ∧ Sep H2 (fr)) := by
  unfold impl_finiteList.wp at h
  refine of_body Try.f51 F.hm Try.func51 rfl Try.call51 (by kernel_rfl) (by simp) ?_
  refine fi_seq ?_
  refine fi_region ?_
  refine so_assign (v := (.v .nilsl)) rfl ?_
  refine so_assign (v := (.v (.bool false))) rfl ?_
  refine so_nil ?_
  refine fi_seq ?_
  refine fi_seq ?_
  refine fi_region ?_
  refine so_move (v := (.v v0)) rfl ?_
  refine sd_bslice hs [[v0]] F51.te86 F51.sz43 F51.ze43 rfl rfl rfl (by simp) (fac (stc (g0 _ hs).stor stn) fan) (by decide) rfl nofun (fun v101 H102 _ hs => ?_)
  refine sv_callS (impl_areFinite_ok v101 ([[v0]]) ([l0] : List (List (Nat))) hs (fun _ hs => ⟨hs.shows 0 rfl, by simp, ⟨⟨rfl, (g0 _ hs.tl)⟩, trivial⟩⟩) _ h) (fun _ _ ⟨_, _, _, e⟩ => e) rfl rfl ?_
  clear h
  rintro _ _ ⟨y104, h, rfl, rfl⟩
  refine so_un rfl au_not ?_
  refine so_nil ?_
  replace h := ofT h; rcases h with ⟨c106, h⟩ | ⟨c106, h⟩
  · refine fi_false rfl (not_f c106) ?_
    refine fi_skip ?_
    refine fi_seq ?_
    refine fi_region ?_
    refine so_move (v := (.v v0)) rfl ?_
    refine so_assign (v := (.v v0)) rfl ?_
    refine so_assign (v := (.v (.bool true))) rfl ?_
    refine so_nil ?_
    exact by_ret rfl ⟨_, _, h, rfl, (Sep.del 0 hs)⟩
  · refine fi_true rfl (not_t c106) ?_
    refine fi_seq ?_
    refine fi_region ?_
    refine so_assign (v := (.v .nilsl)) rfl ?_
    refine so_assign (v := (.v (.bool false))) rfl ?_
    refine so_nil ?_
    exact by_ret rfl ⟨_, _, h, rfl, (Sep.del 0 hs)⟩

end Go.Proofs.Ytdoamcokkcoflaa.G

namespace Go.Proofs.Ytdoamcokkcoflaa.G
open Go Go.Ab Go.Proofs Go.Proofs.Ytdoamcokkcoflaa
set_option maxRecDepth 100000
set_option linter.unusedVariables false
set_option linter.unusedSimpArgs false
set_option maxHeartbeats 1000000
attribute [local irreducible] wops wopf Go.Ab.Fin
theorem F19.ag26 : tagg Try.prog 26 = some false := by kernel_rfl
theorem F19.sz26 : tsz Try.prog 26 = some 1 := by kernel_rfl
theorem F19.ti43 : (telem Try.prog 43).isSome = true := by kernel_rfl
theorem F19.tl43 : (telem Try.prog 43).bind (tsz Try.prog) = some 1 := by kernel_rfl
theorem impl_SurplusOf_ok {fr : List Pc} {H : Heap} (v0 : AV) (l0 : List (Nat)) (hs : Sep H (fr)) (g0 : ∀ H, Sep H fr → Shows H v0 1 (enc (eFlt .f32) l0)) (K : (List (Nat)) → Bool → Prop) (h : impl_SurplusOf.wp l0 K) : OkQ Try.prog 19 [(.v v0)] H (fun r H2 => ∃ (y0 : List (Nat)) (y1 : Bool), K y0 y1 ∧ ∃ (w0_ : AV), r = (.t [(.v w0_), (.v (.bool y1))]) ∧ Sep H2 (Pc.osl w0_ 1 (enc (eFlt .f32) y0) :: fr)) := by
  unfold impl_SurplusOf.wp at h
  refine of_body Try.f19 F.hm Try.func19 rfl Try.call19 (by kernel_rfl) (by simp) ?_
  refine fi_seq ?_
  refine fi_region ?_
  refine so_assign (v := (.v .nilsl)) rfl ?_
  refine so_assign (v := (.v (.bool false))) rfl ?_
  refine so_nil ?_
  refine fi_seq ?_
  refine fi_seq ?_
  refine fi_region ?_
  refine so_move (v := (.v v0)) rfl ?_
  refine sv_call (impl_isGrid_ok v0 l0 hs (fun _ hs => (g0 _ hs)) _ h) rfl rfl nofun ?_
  clear h hs
  rintro _ H102 ⟨y101, h, rfl, hs⟩
  refine so_un rfl au_not ?_
  refine so_nil ?_
  replace h := ofT h; rcases h with ⟨c103, h⟩ | ⟨c103, h⟩
  · refine fi_false rfl (not_f c103) ?_
    refine fi_skip ?_
    refine fi_seq ?_
    refine fi_region ?_
    refine so_move (v := (.v v0)) rfl ?_
    refine sv_call (impl_copyOf_ok v0 l0 hs (fun _ hs => (g0 _ hs)) _ h) rfl rfl nofun ?_
    clear h hs
    rintro _ H107 ⟨y104, h, v105, rfl, hs⟩
    refine so_assign (v := (.v v105)) rfl ?_
    refine so_nil ?_
    refine fi_seq ?_
    refine fi_seq ?_
    refine fi_region ?_
    refine so_assign (v := (.v (.int .i64 (1 : Int)))) rfl ?_
    refine so_nil ?_
    refine fi_block ?_
    refine fi_loop ?_
    refine fi_at [(0, (.v v0)), (4, (.v v105)), (5, (.v (.int .i64 (1 : Int))))] ⟨rfl, rfl, rfl, trivial⟩ ?_
    refine h (fun (out121 : List (Nat)) (i122 : Int) => ∀ (s : Nat → TV) (H : Heap), Sep H (Pc.osl v105 1 (enc (eFlt .f32) out121) :: fr) → Fin _ _ (updL s [(0, (.v v0)), (4, (.v v105)), (5, (.v (.int .i64 i122)))]) H _) ?_ _ _ hs
    intro out121 i122 h s133 H134 hs
    refine fi_inLoop ?_
    refine fi_seq ?_
    refine fi_seq ?_
    refine fi_region ?_
    refine so_move (v := (.v (.int .i64 i122))) rfl ?_
    refine so_move (v := (.v v0)) rfl ?_
    refine sv_len (g0 _ hs.tl) (fun _ => rfl) (by decide) rfl F19.ti43 ?_
    refine so_bin rfl rfl ab_sub ?_
    refine so_bin rfl rfl ab_lss ?_
    refine so_nil ?_
    replace h := ofP h; rcases h with ⟨c123, h⟩ | ⟨c123, h⟩
    · refine fi_true rfl (decide_eq_true c123) ?_
      refine fi_skip ?_
      refine fi_seq ?_
      refine fi_block ?_
      refine fi_seq ?_
      refine fi_region ?_
      refine so_move (v := (.v (.int .i64 i122))) rfl ?_
      refine so_move (v := (.v (.int .i64 i122))) rfl ?_
      refine so_un rfl au_neg ?_
      refine so_bin rfl rfl ab_and ?_
      refine so_assign (v := (.v (.int .i64 (ibits .and .i64 i122 (IntKind.i64.wrap (0 - i122)))))) rfl ?_
      refine so_nil ?_
      refine fi_region ?_
      refine so_move (v := (.v v105)) rfl ?_
      refine so_move (v := (.v (.int .i64 i122))) rfl ?_
      refine so_move (v := (.v v0)) rfl ?_
      refine so_move (v := (.v (.int .i64 i122))) rfl ?_
      obtain ⟨c124, h⟩ := h
      refine sv_idx (g0 _ hs.tl) c124 (fun _ => rfl) (by decide) rfl rfl F19.tl43 ?_
      refine sv_cell (g0 _ hs.tl) c124 (0 : Nat) 0 (fun x => (AV.flt .f32 x)) (fun _ => rfl) (fun _ => rfl) rfl F19.ag26 ?_
      refine so_move (v := (.v v0)) rfl ?_
      refine so_move (v := (.v (.int .i64 i122))) rfl ?_
      refine so_move (v := (.v (.int .i64 (ibits .and .i64 i122 (IntKind.i64.wrap (0 - i122)))))) rfl ?_
      refine so_bin rfl rfl ab_sub ?_
      obtain ⟨c125, h⟩ := h
      refine sv_idx (g0 _ hs.tl) c125 (fun _ => rfl) (by decide) rfl rfl F19.tl43 ?_
      refine sv_cell (g0 _ hs.tl) c125 (0 : Nat) 0 (fun x => (AV.flt .f32 x)) (fun _ => rfl) (fun _ => rfl) rfl F19.ag26 ?_
      refine so_move (v := (.v v0)) rfl ?_
      refine so_move (v := (.v (.int .i64 i122))) rfl ?_
      refine so_move (v := (.v (.int .i64 (ibits .and .i64 i122 (IntKind.i64.wrap (0 - i122)))))) rfl ?_
      refine so_bin rfl rfl ab_add ?_
      obtain ⟨c126, h⟩ := h
      refine sv_idx (g0 _ hs.tl) c126 (fun _ => rfl) (by decide) rfl rfl F19.tl43 ?_
      refine sv_cell (g0 _ hs.tl) c126 (0 : Nat) 0 (fun x => (AV.flt .f32 x)) (fun _ => rfl) (fun _ => rfl) rfl F19.ag26 ?_
      refine so_bin rfl rfl ab_fadd ?_
      refine so_bin rfl rfl ab_fquo ?_
      refine so_bin rfl rfl ab_fsub ?_
      obtain ⟨c127, h⟩ := h
      refine sv_idx (hs.shows 0 rfl) c127 (fun _ => rfl) (by decide) rfl rfl F19.tl43 ?_
      refine sv_set hs 0 rfl c127 (fop .sub .f32 (l0.getD (i122).toNat (0 : Nat)) (fop .quo .f32 (fop .add .f32 (l0.getD ((IntKind.i64.wrap (i122 - (ibits .and .i64 i122 (IntKind.i64.wrap (0 - i122)))))).toNat (0 : Nat)) (l0.getD ((IntKind.i64.wrap (i122 + (ibits .and .i64 i122 (IntKind.i64.wrap (0 - i122)))))).toNat (0 : Nat))) (cz .f32 1073741824))) (fun _ => rfl) (by decide) rfl rfl rfl rfl F19.sz26 (fun _ => by kernel_rfl) (fun H128 hs => ?_)
      refine so_nil ?_
      refine fi_inBlock ?_
      refine fi_region ?_
      refine so_move (v := (.v (.int .i64 i122))) rfl ?_
      refine so_bin rfl rfl ab_add ?_
      refine so_assign (v := (.v (.int .i64 (IntKind.i64.wrap (i122 + (1 : Int)))))) rfl ?_
      refine so_nil ?_
      exact fi_at [(0, (.v v0)), (4, (.v v105)), (5, (.v (.int .i64 (IntKind.i64.wrap (i122 + (1 : Int))))))] ⟨rfl, rfl, rfl, trivial⟩ (h _ _  hs)
    · refine fi_false rfl (decide_eq_false c123) ?_
      refine fi_exit rfl ?_
      refine fi_seq ?_
      refine fi_region ?_
      refine so_move (v := (.v v105)) rfl ?_
      refine sv_call (impl_finiteList_ok v105 out121 hs (fun _ hs => (hs.shows 0 rfl)) _ h) rfl rfl nofun ?_
      clear h hs
      rintro _ H131 ⟨y129, y130, h, rfl, hs⟩
      replace h := ofT h; rcases h with ⟨c132, h⟩ | ⟨c132, h⟩
      · subst c132
        refine so_extract rfl rfl rfl ?_
        refine so_extract rfl rfl rfl ?_
        refine so_assign (v := (.v v105)) rfl ?_
        refine so_assign (v := (.v (.bool y130))) rfl ?_
        refine so_nil ?_
        exact by_ret rfl ⟨_, _, h, _, rfl, hs⟩
      · subst c132
        refine so_extract rfl rfl rfl ?_
        refine so_extract rfl rfl rfl ?_
        refine so_assign (v := (.v .nilsl)) rfl ?_
        refine so_assign (v := (.v (.bool y130))) rfl ?_
        refine so_nil ?_
        exact by_ret rfl ⟨_, _, h, _, rfl, (Sep.nil (Sep.del 0 hs) 1)⟩
  · refine fi_true rfl (not_t c103) ?_
    refine fi_seq ?_
    refine fi_region ?_
    refine so_assign (v := (.v .nilsl)) rfl ?_
    refine so_assign (v := (.v (.bool false))) rfl ?_
    refine so_nil ?_
    exact by_ret rfl ⟨_, _, h, _, rfl, (Sep.nil hs 1)⟩

end Go.Proofs.Ytdoamcokkcoflaa.G

namespace Go.Proofs.Ytdoamcokkcoflaa.G
open Go Go.Ab Go.Proofs Go.Proofs.Ytdoamcokkcoflaa
set_option maxRecDepth 100000
set_option linter.unusedVariables false
set_option linter.unusedSimpArgs false
set_option maxHeartbeats 1000000
attribute [local irreducible] wops wopf Go.Ab.Fin
theorem F20.ag26 : tagg Try.prog 26 = some false := by kernel_rfl
theorem F20.sz26 : tsz Try.prog 26 = some 1 := by kernel_rfl
theorem F20.ti43 : (telem Try.prog 43).isSome = true := by kernel_rfl
theorem F20.tl43 : (telem Try.prog 43).bind (tsz Try.prog) = some 1 := by kernel_rfl
theorem impl_FromSurplus_ok {fr : List Pc} {H : Heap} (v0 : AV) (l0 : List (Nat)) (hs : Sep H (fr)) (g0 : ∀ H, Sep H fr → Shows H v0 1 (enc (eFlt .f32) l0)) (K : (List (Nat)) → Bool → Prop) (h : impl_FromSurplus.wp l0 K) : OkQ Try.prog 20 [(.v v0)] H (fun r H2 => ∃ (y0 : List (Nat)) (y1 : Bool), K y0 y1 ∧ ∃ (w0_ : AV), r = (.t [(.v w0_), (.v (.bool y1))]) ∧ Sep H2 (Pc.osl w0_ 1 (enc (eFlt .f32) y0) :: fr)) := by
  unfold impl_FromSurplus.wp at h
  refine of_body Try.f20 F.hm Try.func20 rfl Try.call20 (by kernel_rfl) (by simp) ?_
  refine fi_seq ?_
  refine fi_region ?_
  refine so_assign (v := (.v .nilsl)) rfl ?_
  refine so_assign (v := (.v (.bool false))) rfl ?_
  refine so_nil ?_
  refine fi_seq ?_
  refine fi_seq ?_
  refine fi_region ?_
  refine so_move (v := (.v v0)) rfl ?_
  refine sv_call (impl_isGrid_ok v0 l0 hs (fun _ hs => (g0 _ hs)) _ h) rfl rfl nofun ?_
  clear h hs
  rintro _ H102 ⟨y101, h, rfl, hs⟩
  refine so_un rfl au_not ?_
  refine so_nil ?_
  replace h := ofT h; rcases h with ⟨c103, h⟩ | ⟨c103, h⟩
  · refine fi_false rfl (not_f c103) ?_
    refine fi_skip ?_
    refine fi_seq ?_
    refine fi_region ?_
    refine so_move (v := (.v v0)) rfl ?_
    refine sv_call (impl_copyOf_ok v0 l0 hs (fun _ hs => (g0 _ hs)) _ h) rfl rfl nofun ?_
    clear h hs
    rintro _ H107 ⟨y104, h, v105, rfl, hs⟩
    refine so_assign (v := (.v v105)) rfl ?_
    refine so_nil ?_
    refine fi_seq ?_
    refine fi_seq ?_
    refine fi_region ?_
    refine so_move (v := (.v v0)) rfl ?_
    refine sv_len (g0 _ hs.tl) (fun _ => rfl) (by decide) rfl F20.ti43 ?_
    refine so_bin rfl rfl ab_sub ?_
    refine so_bin rfl rfl (ab_quo (by decide)) ?_
    refine so_assign (v := (.v (.int .i64 (IntKind.i64.wrap (Int.tdiv (IntKind.i64.wrap ((l0.length : Int) - (1 : Int))) (2 : Int)))))) rfl ?_
    refine so_nil ?_
    refine fi_block ?_
    refine fi_loop ?_
    refine fi_at [(0, (.v v0)), (4, (.v v105)), (5, (.v (.int .i64 (IntKind.i64.wrap (Int.tdiv (IntKind.i64.wrap ((l0.length : Int) - (1 : Int))) (2 : Int))))))] ⟨rfl, rfl, rfl, trivial⟩ ?_
    refine h (fun (out133 : List (Nat)) (hq134 : Int) => ∀ (s : Nat → TV) (H : Heap), Sep H (Pc.osl v105 1 (enc (eFlt .f32) out133) :: fr) → Fin _ _ (updL s [(0, (.v v0)), (4, (.v v105)), (5, (.v (.int .i64 hq134)))]) H _) ?_ _ _ hs
    intro out133 hq134 h s157 H158 hs
    refine fi_inLoop ?_
    refine fi_seq ?_
    refine fi_seq ?_
    refine fi_region ?_
    refine so_move (v := (.v (.int .i64 hq134))) rfl ?_
    refine so_bin rfl rfl ab_geq ?_
    refine so_nil ?_
    replace h := ofP h; rcases h with ⟨c135, h⟩ | ⟨c135, h⟩
    · refine fi_true rfl (decide_eq_true c135) ?_
      refine fi_skip ?_
      refine fi_seq ?_
      refine fi_block ?_
      refine fi_seq ?_
      refine fi_region ?_
      refine so_move (v := (.v (.int .i64 hq134))) rfl ?_
      refine so_assign (v := (.v (.int .i64 hq134))) rfl ?_
      refine so_nil ?_
      refine fi_block ?_
      refine fi_loop ?_
      refine fi_at [(0, (.v v0)), (4, (.v v105)), (5, (.v (.int .i64 hq134))), (6, (.v (.int .i64 hq134)))] ⟨rfl, rfl, rfl, rfl, trivial⟩ ?_
      refine h (fun (out144 : List (Nat)) (i145 : Int) => ∀ (s : Nat → TV) (H : Heap), Sep H (Pc.osl v105 1 (enc (eFlt .f32) out144) :: fr) → Fin _ _ (updL s [(0, (.v v0)), (4, (.v v105)), (5, (.v (.int .i64 hq134))), (6, (.v (.int .i64 i145)))]) H _) ?_ _ _ hs
      intro out144 i145 h s151 H152 hs
      refine fi_inLoop ?_
      refine fi_seq ?_
      refine fi_seq ?_
      refine fi_region ?_
      refine so_move (v := (.v (.int .i64 i145))) rfl ?_
      refine so_move (v := (.v v0)) rfl ?_
      refine sv_len (g0 _ hs.tl) (fun _ => rfl) (by decide) rfl F20.ti43 ?_
      refine so_bin rfl rfl ab_sub ?_
      refine so_bin rfl rfl ab_lss ?_
      refine so_nil ?_
      replace h := ofP h; rcases h with ⟨c146, h⟩ | ⟨c146, h⟩
      · refine fi_true rfl (decide_eq_true c146) ?_
        refine fi_skip ?_
        refine fi_seq ?_
        refine fi_block ?_
        refine fi_region ?_
        refine so_move (v := (.v v105)) rfl ?_
        refine so_move (v := (.v (.int .i64 i145))) rfl ?_
        obtain ⟨c147, h⟩ := h
        refine sv_idx (hs.shows 0 rfl) c147 (fun _ => rfl) (by decide) rfl rfl F20.tl43 ?_
        refine sv_cell (hs.shows 0 rfl) c147 (0 : Nat) 0 (fun x => (AV.flt .f32 x)) (fun _ => rfl) (fun _ => rfl) rfl F20.ag26 ?_
        refine so_move (v := (.v v105)) rfl ?_
        refine so_move (v := (.v (.int .i64 i145))) rfl ?_
        refine so_move (v := (.v (.int .i64 hq134))) rfl ?_
        refine so_bin rfl rfl ab_sub ?_
        obtain ⟨c148, h⟩ := h
        refine sv_idx (hs.shows 0 rfl) c148 (fun _ => rfl) (by decide) rfl rfl F20.tl43 ?_
        refine sv_cell (hs.shows 0 rfl) c148 (0 : Nat) 0 (fun x => (AV.flt .f32 x)) (fun _ => rfl) (fun _ => rfl) rfl F20.ag26 ?_
        refine so_move (v := (.v v105)) rfl ?_
        refine so_move (v := (.v (.int .i64 i145))) rfl ?_
        refine so_move (v := (.v (.int .i64 hq134))) rfl ?_
        refine so_bin rfl rfl ab_add ?_
        obtain ⟨c149, h⟩ := h
        refine sv_idx (hs.shows 0 rfl) c149 (fun _ => rfl) (by decide) rfl rfl F20.tl43 ?_
        refine sv_cell (hs.shows 0 rfl) c149 (0 : Nat) 0 (fun x => (AV.flt .f32 x)) (fun _ => rfl) (fun _ => rfl) rfl F20.ag26 ?_
        refine so_bin rfl rfl ab_fadd ?_
        refine so_bin rfl rfl ab_fquo ?_
        refine so_bin rfl rfl ab_fadd ?_
        refine sv_idx (hs.shows 0 rfl) c147 (fun _ => rfl) (by decide) rfl rfl F20.tl43 ?_
        refine sv_set hs 0 rfl c147 (fop .add .f32 (out144.getD (i145).toNat (0 : Nat)) (fop .quo .f32 (fop .add .f32 (out144.getD ((IntKind.i64.wrap (i145 - hq134))).toNat (0 : Nat)) (out144.getD ((IntKind.i64.wrap (i145 + hq134))).toNat (0 : Nat))) (cz .f32 1073741824))) (fun _ => rfl) (by decide) rfl rfl rfl rfl F20.sz26 (fun _ => by kernel_rfl) (fun H150 hs => ?_)
        refine so_nil ?_
        refine fi_inBlock ?_
        refine fi_region ?_
        refine so_move (v := (.v (.int .i64 i145))) rfl ?_
        refine so_move (v := (.v (.int .i64 hq134))) rfl ?_
        refine so_bin rfl rfl ab_mul ?_
        refine so_bin rfl rfl ab_add ?_
        refine so_assign (v := (.v (.int .i64 (IntKind.i64.wrap (i145 + (IntKind.i64.wrap ((2 : Int) * hq134))))))) rfl ?_
        refine so_nil ?_
        exact fi_at [(0, (.v v0)), (4, (.v v105)), (5, (.v (.int .i64 hq134))), (6, (.v (.int .i64 (IntKind.i64.wrap (i145 + (IntKind.i64.wrap ((2 : Int) * hq134)))))))] ⟨rfl, rfl, rfl, rfl, trivial⟩ (h _ _  hs)
      · refine fi_false rfl (decide_eq_false c146) ?_
        refine fi_exit rfl ?_
        refine fi_inBlock ?_
        refine fi_region ?_
        refine so_move (v := (.v (.int .i64 hq134))) rfl ?_
        refine so_bin rfl rfl (ab_quo (by decide)) ?_
        refine so_assign (v := (.v (.int .i64 (IntKind.i64.wrap (Int.tdiv hq134 (2 : Int)))))) rfl ?_
        refine so_nil ?_
        exact fi_at [(0, (.v v0)), (4, (.v v105)), (5, (.v (.int .i64 (IntKind.i64.wrap (Int.tdiv hq134 (2 : Int))))))] ⟨rfl, rfl, rfl, trivial⟩ (h _ _  hs)
    · refine fi_false rfl (decide_eq_false c135) ?_
      refine fi_exit rfl ?_
      refine fi_seq ?_
      refine fi_region ?_
      refine so_move (v := (.v v105)) rfl ?_
      refine sv_call (impl_finiteList_ok v105 out133 hs (fun _ hs => (hs.shows 0 rfl)) _ h) rfl rfl nofun ?_
      clear h hs
      rintro _ H155 ⟨y153, y154, h, rfl, hs⟩
      replace h := ofT h; rcases h with ⟨c156, h⟩ | ⟨c156, h⟩
      · subst c156
        refine so_extract rfl rfl rfl ?_
        refine so_extract rfl rfl rfl ?_
        refine so_assign (v := (.v v105)) rfl ?_
        refine so_assign (v := (.v (.bool y154))) rfl ?_
        refine so_nil ?_
        exact by_ret rfl ⟨_, _, h, _, rfl, hs⟩
      · subst c156
        refine so_extract rfl rfl rfl ?_
        refine so_extract rfl rfl rfl ?_
        refine so_assign (v := (.v .nilsl)) rfl ?_
        refine so_assign (v := (.v (.bool y154))) rfl ?_
        refine so_nil ?_
        exact by_ret rfl ⟨_, _, h, _, rfl, (Sep.nil (Sep.del 0 hs) 1)⟩
  · refine fi_true rfl (not_t c103) ?_
    refine fi_seq ?_
    refine fi_region ?_
    refine so_assign (v := (.v .nilsl)) rfl ?_
    refine so_assign (v := (.v (.bool false))) rfl ?_
    refine so_nil ?_
    exact by_ret rfl ⟨_, _, h, _, rfl, (Sep.nil hs 1)⟩

end Go.Proofs.Ytdoamcokkcoflaa.G

namespace Go.Proofs.Ytdoamcokkcoflaa.G
open Go Go.Ab Go.Proofs Go.Proofs.Ytdoamcokkcoflaa
set_option maxRecDepth 100000
set_option linter.unusedVariables false
set_option linter.unusedSimpArgs false
set_option maxHeartbeats 1000000
attribute [local irreducible] wops wopf Go.Ab.Fin
theorem impl_isLeast_ok {fr : List Pc} {H : Heap} (a0 : Nat) (hs : Sep H (fr))  (K : Bool → Prop) (h : impl_isLeast.wp a0 K) : OkQ Try.prog 41 [(.v (.flt .f32 a0))] H (fun r H2 => ∃ (y0 : Bool), K y0 ∧ r = (.v (.bool y0)) ∧ H = H2) := by
  unfold impl_isLeast.wp at h
  refine of_body Try.f41 F.hm Try.func41 rfl Try.call41 (by kernel_rfl) (by simp) ?_
  refine fi_seq ?_
  refine fi_region ?_
  refine so_assign (v := (.v (.bool false))) rfl ?_
  refine so_nil ?_
  refine fi_seq ?_
  refine fi_region ?_
  refine so_move (v := (.v (.flt .f32 a0))) rfl ?_
  refine sv_callS (impl_IsFinite_ok a0 hs  _ h) (fun _ _ ⟨_, _, _, e⟩ => e) rfl rfl ?_
  clear h
  rintro _ _ ⟨y101, h, rfl, rfl⟩
  refine so_move (v := (.v (.bool y101))) rfl ?_
  replace h := ofT h; rcases h with ⟨c103, h⟩ | ⟨c103, h⟩
  · refine so_gyes rfl c103 ?_
    refine so_move (v := (.v (.flt .f32 a0))) rfl ?_
    refine so_gyes rfl c103 ?_
    refine so_bin rfl rfl ab_fgeq ?_
    refine so_pick_t (v := (.v (.bool (fcmp .geq .f32 a0 (cz .f32 0))))) rfl c103 rfl ?_
    refine so_assign (v := (.v (.bool (fcmp .geq .f32 a0 (cz .f32 0))))) rfl ?_
    refine so_nil ?_
    exact by_ret rfl ⟨_, h, rfl, rfl⟩
  · refine so_gno rfl c103 ?_
    refine so_gno rfl c103 ?_
    refine so_pick_f (v := (.v (.bool false))) rfl c103 rfl ?_
    refine so_assign (v := (.v (.bool false))) rfl ?_
    refine so_nil ?_
    exact by_ret rfl ⟨_, h, rfl, rfl⟩

end Go.Proofs.Ytdoamcokkcoflaa.G

namespace Go.Proofs.Ytdoamcokkcoflaa.G
open Go Go.Ab Go.Proofs Go.Proofs.Ytdoamcokkcoflaa
set_option maxRecDepth 100000
set_option linter.unusedVariables false
set_option linter.unusedSimpArgs false
set_option maxHeartbeats 1000000
attribute [local irreducible] wops wopf Go.Ab.Fin
theorem impl_size_ok {fr : List Pc} {H : Heap} (a0 : Nat) (hs : Sep H (fr))  (K : Nat → Prop) (h : impl_size.wp a0 K) : OkQ Try.prog 52 [(.v (.flt .f32 a0))] H (fun r H2 => ∃ (y0 : Nat), K y0 ∧ r = (.v (.flt .f32 y0)) ∧ H = H2) := by
  unfold impl_size.wp at h
  refine of_body Try.f52 F.hm Try.func52 rfl Try.call52 (by kernel_rfl) (by simp) ?_
  refine fi_seq ?_
  refine fi_region ?_
  refine so_assign (v := (.v (.flt .f32 (cz .f32 0)))) rfl ?_
  refine so_nil ?_
  refine fi_seq ?_
  refine fi_seq ?_
  refine fi_region ?_
  refine so_move (v := (.v (.flt .f32 a0))) rfl ?_
  refine so_bin rfl rfl ab_flss ?_
  refine so_nil ?_
  replace h := ofT h; rcases h with ⟨c101, h⟩ | ⟨c101, h⟩
  · refine fi_true rfl c101 ?_
    refine fi_seq ?_
    refine fi_region ?_
    refine so_move (v := (.v (.flt .f32 a0))) rfl ?_
    refine so_un rfl au_fneg' ?_
    refine so_assign (v := (.v (.flt .f32 (fneg .f32 a0)))) rfl ?_
    refine so_nil ?_
    exact by_ret rfl ⟨_, h, rfl, rfl⟩
  · refine fi_false rfl c101 ?_
    refine fi_skip ?_
    refine fi_seq ?_
    refine fi_seq ?_
    refine fi_region ?_
    refine so_move (v := (.v (.flt .f32 a0))) rfl ?_
    refine so_bin rfl rfl ab_feql ?_
    refine so_nil ?_
    replace h := ofT h; rcases h with ⟨c102, h⟩ | ⟨c102, h⟩
    · refine fi_true rfl c102 ?_
      refine fi_seq ?_
      refine fi_region ?_
      refine so_assign (v := (.v (.flt .f32 (cz .f32 0)))) rfl ?_
      refine so_nil ?_
      exact by_ret rfl ⟨_, h, rfl, rfl⟩
    · refine fi_false rfl c102 ?_
      refine fi_skip ?_
      refine fi_seq ?_
      refine fi_region ?_
      refine so_move (v := (.v (.flt .f32 a0))) rfl ?_
      refine so_assign (v := (.v (.flt .f32 a0))) rfl ?_
      refine so_nil ?_
      exact by_ret rfl ⟨_, h, rfl, rfl⟩

end Go.Proofs.Ytdoamcokkcoflaa.G

namespace Go.Proofs.Ytdoamcokkcoflaa.G
open Go Go.Ab Go.Proofs Go.Proofs.Ytdoamcokkcoflaa
set_option maxRecDepth 100000
set_option linter.unusedVariables false
set_option linter.unusedSimpArgs false
set_option maxHeartbeats 1000000
attribute [local irreducible] wops wopf Go.Ab.Fin
theorem F21.ag26 : tagg Try.prog 26 = some false := by kernel_rfl
theorem F21.sz26 : tsz Try.prog 26 = some 1 := by kernel_rfl
theorem F21.ti43 : (telem Try.prog 43).isSome = true := by kernel_rfl
theorem F21.tl43 : (telem Try.prog 43).bind (tsz Try.prog) = some 1 := by kernel_rfl
theorem impl_ThinSurplus_ok {fr : List Pc} {H : Heap} (v0 : AV) (l0 : List (Nat)) (a1 : Nat) (hs : Sep H (fr)) (g0 : ∀ H, Sep H fr → Shows H v0 1 (enc (eFlt .f32) l0)) (K : (List (Nat)) → Int → Bool → Prop) (h : impl_ThinSurplus.wp l0 a1 K) : OkQ Try.prog 21 [(.v v0), (.v (.flt .f32 a1))] H (fun r H2 => ∃ (y0 : List (Nat)) (y1 : Int) (y2 : Bool), K y0 y1 y2 ∧ ∃ (w0_ : AV), r = (.t [(.v w0_), (.v (.int .i64 y1)), (.v (.bool y2))]) ∧ Sep H2 (Pc.osl w0_ 1 (enc (eFlt .f32) y0) :: fr)) := by
  unfold impl_ThinSurplus.wp at h
  refine of_body Try.f21 F.hm Try.func21 rfl Try.call21 (by kernel_rfl) (by simp) ?_
  refine fi_seq ?_
  refine fi_region ?_
  refine so_assign (v := (.v .nilsl)) rfl ?_
  refine so_assign (v := (.v (.int .i64 (0 : Int)))) rfl ?_
  refine so_assign (v := (.v (.bool false))) rfl ?_
  refine so_nil ?_
  refine fi_seq ?_
  refine fi_region ?_
  refine so_move (v := (.v v0)) rfl ?_
  refine sv_call (impl_SurplusOf_ok v0 l0 hs (fun _ hs => (g0 _ hs)) _ h) rfl rfl nofun ?_
  clear h hs
  rintro _ H105 ⟨y101, y104, h, v102, rfl, hs⟩
  refine so_move (v := (.t [(.v v102), (.v (.bool y104))])) rfl ?_
  refine so_extract rfl rfl rfl ?_
  refine so_extract rfl rfl rfl ?_
  refine so_assign (v := (.v v102)) rfl ?_
  refine so_assign (v := (.v (.bool y104))) rfl ?_
  refine so_nil ?_
  refine fi_seq ?_
  refine fi_seq ?_
  refine fi_region ?_
  refine so_move (v := (.v (.bool y104))) rfl ?_
  refine so_un rfl au_not ?_
  refine so_move (v := (.v (.bool (!y104)))) rfl ?_
  replace h := ofT h; rcases h with ⟨c106, h⟩ | ⟨c106, h⟩
  · refine so_gyes rfl (not_f c106) ?_
    refine so_move (v := (.v (.flt .f32 a1))) rfl ?_
    refine so_gyes rfl (not_f c106) ?_
    refine sv_callS (impl_isLeast_ok a1 hs  _ h) (fun _ _ ⟨_, _, _, e⟩ => e) rfl rfl ?_
    clear h
    rintro _ _ ⟨y107, h, rfl, rfl⟩
    refine so_gyes rfl (not_f c106) ?_
    refine so_un rfl au_not ?_
    refine so_pick_f (v := (.v (.bool (!y107)))) rfl (not_f c106) rfl ?_
    refine so_nil ?_
    replace h := ofT h; rcases h with ⟨c109, h⟩ | ⟨c109, h⟩
    · refine fi_false rfl (not_f c109) ?_
      refine fi_skip ?_
      refine fi_seq ?_
      refine fi_region ?_
      refine so_assign (v := (.v (.int .i64 (0 : Int)))) rfl ?_
      refine so_nil ?_
      refine fi_seq ?_
      refine fi_seq ?_
      refine fi_region ?_
      refine so_assign (v := (.v (.int .i64 (1 : Int)))) rfl ?_
      refine so_nil ?_
      refine fi_block ?_
      refine fi_loop ?_
      refine fi_at [(1, (.v (.flt .f32 a1))), (7, (.v v102)), (9, (.v (.int .i64 (0 : Int)))), (10, (.v (.int .i64 (1 : Int))))] ⟨rfl, rfl, rfl, rfl, trivial⟩ ?_
      refine h (fun (more126 : List (Nat)) (left127 : Int) (i128 : Int) => ∀ (s : Nat → TV) (H : Heap), Sep H (Pc.osl v102 1 (enc (eFlt .f32) more126) :: fr) → Fin _ _ (updL s [(1, (.v (.flt .f32 a1))), (7, (.v v102)), (9, (.v (.int .i64 left127))), (10, (.v (.int .i64 i128)))]) H _) ?_ _ _ hs
      intro more126 left127 i128 h s141 H142 hs
      refine fi_inLoop ?_
      refine fi_seq ?_
      refine fi_seq ?_
      refine fi_region ?_
      refine so_move (v := (.v (.int .i64 i128))) rfl ?_
      refine so_move (v := (.v v102)) rfl ?_
      refine sv_len (hs.shows 0 rfl) (fun _ => rfl) (by decide) rfl F21.ti43 ?_
      refine so_bin rfl rfl ab_sub ?_
      refine so_bin rfl rfl ab_lss ?_
      refine so_nil ?_
      replace h := ofP h; rcases h with ⟨c129, h⟩ | ⟨c129, h⟩
      · refine fi_true rfl (decide_eq_true c129) ?_
        refine fi_skip ?_
        refine fi_seq ?_
        refine fi_block ?_
        refine fi_seq ?_
        refine fi_region ?_
        refine so_move (v := (.v v102)) rfl ?_
        refine so_move (v := (.v (.int .i64 i128))) rfl ?_
        obtain ⟨c130, h⟩ := h
        refine sv_idx (hs.shows 0 rfl) c130 (fun _ => rfl) (by decide) rfl rfl F21.tl43 ?_
        refine sv_cell (hs.shows 0 rfl) c130 (0 : Nat) 0 (fun x => (AV.flt .f32 x)) (fun _ => rfl) (fun _ => rfl) rfl F21.ag26 ?_
        refine sv_callS (impl_size_ok (more126.getD (i128).toNat (0 : Nat)) hs  _ h) (fun _ _ ⟨_, _, _, e⟩ => e) rfl rfl ?_
        clear h
        rintro _ _ ⟨y131, h, rfl, rfl⟩
        refine so_move (v := (.v (.flt .f32 a1))) rfl ?_
        refine so_bin rfl rfl ab_fleq ?_
        refine so_nil ?_
        replace h := ofT h; rcases h with ⟨c133, h⟩ | ⟨c133, h⟩
        · refine fi_true rfl c133 ?_
          refine fi_region ?_
          refine so_move (v := (.v v102)) rfl ?_
          refine so_move (v := (.v (.int .i64 i128))) rfl ?_
          refine sv_idx (hs.shows 0 rfl) c130 (fun _ => rfl) (by decide) rfl rfl F21.tl43 ?_
          refine sv_set hs 0 rfl c130 (cz .f32 0) (fun _ => rfl) (by decide) rfl rfl rfl rfl F21.sz26 nofun (fun H134 hs => ?_)
          refine so_nil ?_
          refine fi_inBlock ?_
          refine fi_region ?_
          refine so_move (v := (.v (.int .i64 i128))) rfl ?_
          refine so_bin rfl rfl ab_add ?_
          refine so_assign (v := (.v (.int .i64 (IntKind.i64.wrap (i128 + (1 : Int)))))) rfl ?_
          refine so_nil ?_
          exact fi_at [(1, (.v (.flt .f32 a1))), (7, (.v v102)), (9, (.v (.int .i64 left127))), (10, (.v (.int .i64 (IntKind.i64.wrap (i128 + (1 : Int))))))] ⟨rfl, rfl, rfl, rfl, trivial⟩ (h _ _  hs)
        · refine fi_false rfl c133 ?_
          refine fi_region ?_
          refine so_move (v := (.v (.int .i64 left127))) rfl ?_
          refine so_bin rfl rfl ab_add ?_
          refine so_assign (v := (.v (.int .i64 (IntKind.i64.wrap (left127 + (1 : Int)))))) rfl ?_
          refine so_nil ?_
          refine fi_inBlock ?_
          refine fi_region ?_
          refine so_move (v := (.v (.int .i64 i128))) rfl ?_
          refine so_bin rfl rfl ab_add ?_
          refine so_assign (v := (.v (.int .i64 (IntKind.i64.wrap (i128 + (1 : Int)))))) rfl ?_
          refine so_nil ?_
          exact fi_at [(1, (.v (.flt .f32 a1))), (7, (.v v102)), (9, (.v (.int .i64 (IntKind.i64.wrap (left127 + (1 : Int)))))), (10, (.v (.int .i64 (IntKind.i64.wrap (i128 + (1 : Int))))))] ⟨rfl, rfl, rfl, rfl, trivial⟩ (h _ _  hs)
      · refine fi_false rfl (decide_eq_false c129) ?_
        refine fi_exit rfl ?_
        refine fi_seq ?_
        refine fi_region ?_
        refine so_move (v := (.v v102)) rfl ?_
        refine sv_call (impl_FromSurplus_ok v102 more126 hs (fun _ hs => (hs.shows 0 rfl)) _ h) rfl rfl nofun ?_
        clear h hs
        rintro _ H139 ⟨y135, y138, h, v136, rfl, hs⟩
        refine so_move (v := (.t [(.v v136), (.v (.bool y138))])) rfl ?_
        refine so_extract rfl rfl rfl ?_
        refine so_extract rfl rfl rfl ?_
        refine so_assign (v := (.v v136)) rfl ?_
        refine so_assign (v := (.v (.bool y138))) rfl ?_
        refine so_nil ?_
        refine fi_seq ?_
        refine fi_seq ?_
        refine fi_region ?_
        refine so_move (v := (.v (.bool y138))) rfl ?_
        refine so_un rfl au_not ?_
        refine so_nil ?_
        replace h := ofT h; rcases h with ⟨c140, h⟩ | ⟨c140, h⟩
        · refine fi_false rfl (not_f c140) ?_
          refine fi_skip ?_
          refine fi_seq ?_
          refine fi_region ?_
          refine so_move (v := (.v v136)) rfl ?_
          refine so_move (v := (.v (.int .i64 left127))) rfl ?_
          refine so_assign (v := (.v v136)) rfl ?_
          refine so_assign (v := (.v (.int .i64 left127))) rfl ?_
          refine so_assign (v := (.v (.bool true))) rfl ?_
          refine so_nil ?_
          exact by_ret rfl ⟨_, _, _, h, _, rfl, (Sep.del 1 hs)⟩
        · refine fi_true rfl (not_t c140) ?_
          refine fi_seq ?_
          refine fi_region ?_
          refine so_assign (v := (.v .nilsl)) rfl ?_
          refine so_assign (v := (.v (.int .i64 (0 : Int)))) rfl ?_
          refine so_assign (v := (.v (.bool false))) rfl ?_
          refine so_nil ?_
          exact by_ret rfl ⟨_, _, _, h, _, rfl, (Sep.nil (Sep.del 0 (Sep.del 0 hs)) 1)⟩
    · refine fi_true rfl (not_t c109) ?_
      refine fi_seq ?_
      refine fi_region ?_
      refine so_assign (v := (.v .nilsl)) rfl ?_
      refine so_assign (v := (.v (.int .i64 (0 : Int)))) rfl ?_
      refine so_assign (v := (.v (.bool false))) rfl ?_
      refine so_nil ?_
      exact by_ret rfl ⟨_, _, _, h, _, rfl, (Sep.nil (Sep.del 0 hs) 1)⟩
  · refine so_gno rfl (not_t c106) ?_
    refine so_gno rfl (not_t c106) ?_
    refine so_gno rfl (not_t c106) ?_
    refine so_pick_t (v := (.v (.bool true))) rfl (not_t c106) rfl ?_
    refine so_nil ?_
    refine fi_true rfl rfl ?_
    refine fi_seq ?_
    refine fi_region ?_
    refine so_assign (v := (.v .nilsl)) rfl ?_
    refine so_assign (v := (.v (.int .i64 (0 : Int)))) rfl ?_
    refine so_assign (v := (.v (.bool false))) rfl ?_
    refine so_nil ?_
    exact by_ret rfl ⟨_, _, _, h, _, rfl, (Sep.nil (Sep.del 0 hs) 1)⟩

end Go.Proofs.Ytdoamcokkcoflaa.G

namespace Go.Proofs.Ytdoamcokkcoflaa.G
open Go Go.Ab Go.Proofs Go.Proofs.Ytdoamcokkcoflaa
set_option maxRecDepth 100000
set_option linter.unusedVariables false
set_option linter.unusedSimpArgs false
set_option maxHeartbeats 1000000
attribute [local irreducible] wops wopf Go.Ab.Fin
theorem F22.ag26 : tagg Try.prog 26 = some false := by kernel_rfl
theorem F22.fl31 : tflt Try.prog 31 = some .f64 := by kernel_rfl
theorem F22.in31 : tint Try.prog 31 = none := by kernel_rfl
theorem F22.ti43 : (telem Try.prog 43).isSome = true := by kernel_rfl
theorem F22.tl43 : (telem Try.prog 43).bind (tsz Try.prog) = some 1 := by kernel_rfl
theorem F22.us26 : (Try.prog.underlying 26).isSome = true := by kernel_rfl
theorem laws_b10Apart_ok {fr : List Pc} {H : Heap} (v0 : AV) (l0 : List (Nat)) (v1 : AV) (l1 : List (Nat)) (a2 : Nat) (hs : Sep H (fr)) (g0 : ∀ H, Sep H fr → Shows H v0 1 (enc (eFlt .f32) l0)) (g1 : ∀ H, Sep H fr → Shows H v1 1 (enc (eFlt .f32) l1)) (K : Bool → Prop) (h : laws_b10Apart.wp l0 l1 a2 K) : OkQ Try.prog 22 [(.v v0), (.v v1), (.v (.flt .f64 a2))] H (fun r H2 => ∃ (y0 : Bool), K y0 ∧ r = (.v (.bool y0)) ∧ H = H2) := by
  unfold laws_b10Apart.wp at h
  refine of_body Try.f22 F.hm Try.func22 rfl Try.call22 (by kernel_rfl) (by simp) ?_
  refine fi_seq ?_
  refine fi_region ?_
  refine so_assign (v := (.v (.bool false))) rfl ?_
  refine so_nil ?_
  refine fi_seq ?_
  refine fi_seq ?_
  refine fi_region ?_
  refine so_move (v := (.v v0)) rfl ?_
  refine sv_len (g0 _ hs) (fun _ => rfl) (by decide) rfl F22.ti43 ?_
  refine so_move (v := (.v v1)) rfl ?_
  refine sv_len (g1 _ hs) (fun _ => rfl) (by decide) rfl F22.ti43 ?_
  refine so_bin rfl rfl ab_neq ?_
  refine so_nil ?_
  replace h := ofP h; rcases h with ⟨c101, h⟩ | ⟨c101, h⟩
  · refine fi_false rfl (not_f (decide_eq_true c101)) ?_
    refine fi_skip ?_
    refine fi_seq ?_
    refine fi_seq ?_
    refine fi_region ?_
    refine so_move (v := (.v v0)) rfl ?_
    refine sv_len (g0 _ hs) (fun _ => rfl) (by decide) rfl F22.ti43 ?_
    refine so_move (v := (.v (.int .i64 (0 : Int)))) rfl ?_
    refine so_nil ?_
    refine fi_block ?_
    refine fi_loop ?_
    refine fi_at [(0, (.v v0)), (1, (.v v1)), (2, (.v (.flt .f64 a2))), (14, (.v (.int .i64 (l0.length : Int)))), (15, (.v (.int .i64 (0 : Int))))] ⟨rfl, rfl, rfl, rfl, rfl, trivial⟩ ?_
    refine h (fun (x103 : Int) => ∀ (s : Nat → TV), Fin _ _ (updL s [(0, (.v v0)), (1, (.v v1)), (2, (.v (.flt .f64 a2))), (14, (.v (.int .i64 (l0.length : Int)))), (15, (.v (.int .i64 x103)))]) _ _) ?_ _
    intro x103 h s110
    refine fi_inLoop ?_
    refine fi_seq ?_
    refine fi_region ?_
    refine so_bin rfl rfl ab_lss ?_
    refine so_nil ?_
    refine fi_seq ?_
    replace h := ofP h; rcases h with ⟨c104, h⟩ | ⟨c104, h⟩
    · refine fi_true rfl (decide_eq_true c104) ?_
      refine fi_skip ?_
      refine fi_seq ?_
      refine fi_block ?_
      refine fi_seq ?_
      refine fi_region ?_
      refine so_move (v := (.v (.int .i64 x103))) rfl ?_
      refine so_assign (v := (.v (.int .i64 x103))) rfl ?_
      refine so_nil ?_
      refine fi_seq ?_
      refine fi_region ?_
      refine so_move (v := (.v v0)) rfl ?_
      refine so_move (v := (.v (.int .i64 x103))) rfl ?_
      obtain ⟨c105, h⟩ := h
      refine sv_idx (g0 _ hs) c105 (fun _ => rfl) (by decide) rfl rfl F22.tl43 ?_
      refine sv_cell (g0 _ hs) c105 (0 : Nat) 0 (fun x => (AV.flt .f32 x)) (fun _ => rfl) (fun _ => rfl) rfl F22.ag26 ?_
      refine sv_ffw rfl F22.us26 F22.in31 F22.fl31 ?_
      refine so_move (v := (.v v1)) rfl ?_
      refine so_move (v := (.v (.int .i64 x103))) rfl ?_
      obtain ⟨c106, h⟩ := h
      refine sv_idx (g1 _ hs) c106 (fun _ => rfl) (by decide) rfl rfl F22.tl43 ?_
      refine sv_cell (g1 _ hs) c106 (0 : Nat) 0 (fun x => (AV.flt .f32 x)) (fun _ => rfl) (fun _ => rfl) rfl F22.ag26 ?_
      refine sv_ffw rfl F22.us26 F22.in31 F22.fl31 ?_
      refine sv_callS (laws_b10Gap_ok (widen (l0.getD (x103).toNat (0 : Nat))) (widen (l1.getD (x103).toNat (0 : Nat))) hs  _ h) (fun _ _ ⟨_, _, _, e⟩ => e) rfl rfl ?_
      clear h
      rintro _ _ ⟨y107, h, rfl, rfl⟩
      refine so_move (v := (.v (.flt .f64 a2))) rfl ?_
      refine so_bin rfl rfl ab_fleq ?_
      refine so_un rfl au_not ?_
      refine so_nil ?_
      replace h := ofT h; rcases h with ⟨c109, h⟩ | ⟨c109, h⟩
      · refine fi_false rfl (not_f c109) ?_
        refine fi_skip ?_
        refine fi_inBlock ?_
        refine fi_region ?_
        refine so_bin rfl rfl ab_add ?_
        refine so_move (v := (.v (.int .i64 (IntKind.i64.wrap (x103 + (1 : Int)))))) rfl ?_
        refine so_nil ?_
        exact fi_at [(0, (.v v0)), (1, (.v v1)), (2, (.v (.flt .f64 a2))), (14, (.v (.int .i64 (l0.length : Int)))), (15, (.v (.int .i64 (IntKind.i64.wrap (x103 + (1 : Int))))))] ⟨rfl, rfl, rfl, rfl, rfl, trivial⟩ (h _)
      · refine fi_true rfl (not_t c109) ?_
        refine fi_seq ?_
        refine fi_region ?_
        refine so_assign (v := (.v (.bool true))) rfl ?_
        refine so_nil ?_
        exact by_ret rfl ⟨_, h, rfl, rfl⟩
    · refine fi_false rfl (decide_eq_false c104) ?_
      refine fi_exit rfl ?_
      refine fi_seq ?_
      refine fi_region ?_
      refine so_assign (v := (.v (.bool false))) rfl ?_
      refine so_nil ?_
      exact by_ret rfl ⟨_, h, rfl, rfl⟩
  · refine fi_true rfl (not_t (decide_eq_false c101)) ?_
    refine fi_seq ?_
    refine fi_region ?_
    refine so_assign (v := (.v (.bool true))) rfl ?_
    refine so_nil ?_
    exact by_ret rfl ⟨_, h, rfl, rfl⟩

end Go.Proofs.Ytdoamcokkcoflaa.G

namespace Go.Proofs.Ytdoamcokkcoflaa.G
open Go Go.Ab Go.Proofs Go.Proofs.Ytdoamcokkcoflaa
set_option maxRecDepth 100000
set_option linter.unusedVariables false
set_option linter.unusedSimpArgs false
set_option maxHeartbeats 1000000
attribute [local irreducible] wops wopf Go.Ab.Fin
theorem F7.ti22 : (telem Try.prog 22).isSome = true := by kernel_rfl
theorem laws_b10Long_ok {fr : List Pc} {H : Heap} (v0 : AV) (l0 : List (Int)) (v1 : AV) (l1 : List (Int)) (hs : Sep H (fr)) (g0 : ∀ H, Sep H fr → Shows H v0 1 (enc (eInt .u8) l0)) (g1 : ∀ H, Sep H fr → Shows H v1 1 (enc (eInt .u8) l1)) (K : Bool → Prop) (h : laws_b10Long.wp l0 l1 K) : OkQ Try.prog 7 [(.v v0), (.v v1)] H (fun r H2 => ∃ (y0 : Bool), K y0 ∧ r = (.v (.bool y0)) ∧ H = H2) := by
  unfold laws_b10Long.wp at h
  refine of_body Try.f7 F.hm Try.func7 rfl Try.call7 (by kernel_rfl) (by simp) ?_
  refine fi_seq ?_
  refine fi_region ?_
  refine so_assign (v := (.v (.bool false))) rfl ?_
  refine so_nil ?_
  refine fi_seq ?_
  refine fi_region ?_
  refine so_move (v := (.v v0)) rfl ?_
  refine sv_len (g0 _ hs) (fun _ => rfl) (by decide) rfl F7.ti22 ?_
  refine so_bin rfl rfl ab_gtr ?_
  refine so_move (v := (.v (.bool (decide ((1048576 : Int) < (l0.length : Int)))))) rfl ?_
  replace h := ofP h; rcases h with ⟨c101, h⟩ | ⟨c101, h⟩
  · refine so_gno rfl (decide_eq_true c101) ?_
    refine so_gno rfl (decide_eq_true c101) ?_
    refine so_gno rfl (decide_eq_true c101) ?_
    refine so_pick_t (v := (.v (.bool true))) rfl (decide_eq_true c101) rfl ?_
    refine so_assign (v := (.v (.bool true))) rfl ?_
    refine so_nil ?_
    exact by_ret rfl ⟨_, h, rfl, rfl⟩
  · refine so_gyes rfl (decide_eq_false c101) ?_
    refine so_move (v := (.v v1)) rfl ?_
    refine so_gyes rfl (decide_eq_false c101) ?_
    refine sv_len (g1 _ hs) (fun _ => rfl) (by decide) rfl F7.ti22 ?_
    refine so_gyes rfl (decide_eq_false c101) ?_
    refine so_bin rfl rfl ab_gtr ?_
    refine so_pick_f (v := (.v (.bool (decide ((1048576 : Int) < (l1.length : Int)))))) rfl (decide_eq_false c101) rfl ?_
    refine so_assign (v := (.v (.bool (decide ((1048576 : Int) < (l1.length : Int)))))) rfl ?_
    refine so_nil ?_
    exact by_ret rfl ⟨_, h, rfl, rfl⟩

end Go.Proofs.Ytdoamcokkcoflaa.G

namespace Go.Proofs.Ytdoamcokkcoflaa.G
open Go Go.Ab Go.Proofs Go.Proofs.Ytdoamcokkcoflaa
set_option maxRecDepth 100000
set_option linter.unusedVariables false
set_option linter.unusedSimpArgs false
set_option maxHeartbeats 1000000
attribute [local irreducible] wops wopf Go.Ab.Fin
theorem F9.ag5 : tagg Try.prog 5 = some false := by kernel_rfl
theorem F9.it2 : tint Try.prog 2 = some .i64 := by kernel_rfl
theorem F9.ti22 : (telem Try.prog 22).isSome = true := by kernel_rfl
theorem F9.tl22 : (telem Try.prog 22).bind (tsz Try.prog) = some 1 := by kernel_rfl
theorem F9.us5 : (Try.prog.underlying 5).isSome = true := by kernel_rfl
theorem laws_b10At_ok {fr : List Pc} {H : Heap} (v0 : AV) (l0 : List (Int)) (a1 : Int) (a2 : Int) (hs : Sep H (fr)) (g0 : ∀ H, Sep H fr → Shows H v0 1 (enc (eInt .u8) l0)) (K : Int → Prop) (h : laws_b10At.wp l0 a1 a2 K) : OkQ Try.prog 9 [(.v v0), (.v (.int .i64 a1)), (.v (.int .i64 a2))] H (fun r H2 => ∃ (y0 : Int), K y0 ∧ r = (.v (.int .i64 y0)) ∧ H = H2) := by
  unfold laws_b10At.wp at h
  refine of_body Try.f9 F.hm Try.func9 rfl Try.call9 (by kernel_rfl) (by simp) ?_
  refine fi_seq ?_
  refine fi_region ?_
  refine so_assign (v := (.v (.int .i64 (0 : Int)))) rfl ?_
  refine so_nil ?_
  refine fi_seq ?_
  refine fi_seq ?_
  refine fi_region ?_
  refine so_move (v := (.v (.int .i64 a2))) rfl ?_
  refine so_bin rfl rfl ab_leq ?_
  refine so_nil ?_
  replace h := ofP h; rcases h with ⟨c101, h⟩ | ⟨c101, h⟩
  · refine fi_true rfl (decide_eq_true c101) ?_
    refine fi_seq ?_
    refine fi_region ?_
    refine so_assign (v := (.v (.int .i64 (0 : Int)))) rfl ?_
    refine so_nil ?_
    exact by_ret rfl ⟨_, h, rfl, rfl⟩
  · refine fi_false rfl (decide_eq_false c101) ?_
    refine fi_skip ?_
    refine fi_seq ?_
    refine fi_seq ?_
    refine fi_region ?_
    refine so_move (v := (.v (.int .i64 a1))) rfl ?_
    refine so_move (v := (.v v0)) rfl ?_
    refine sv_len (g0 _ hs) (fun _ => rfl) (by decide) rfl F9.ti22 ?_
    refine so_bin rfl rfl ab_lss ?_
    refine so_nil ?_
    replace h := ofP h; rcases h with ⟨c102, h⟩ | ⟨c102, h⟩
    · refine fi_true rfl (decide_eq_true c102) ?_
      refine fi_seq ?_
      refine fi_region ?_
      refine so_move (v := (.v v0)) rfl ?_
      refine so_move (v := (.v (.int .i64 a1))) rfl ?_
      obtain ⟨c103, h⟩ := h
      refine sv_idx (g0 _ hs) c103 (fun _ => rfl) (by decide) rfl rfl F9.tl22 ?_
      refine sv_cell (g0 _ hs) c103 (0 : Int) 0 (fun x => (AV.int .u8 x)) (fun _ => rfl) (fun _ => rfl) rfl F9.ag5 ?_
      refine sv_ii rfl F9.us5 F9.it2 ?_
      refine so_move (v := (.v (.int .i64 a2))) rfl ?_
      obtain ⟨c104, h⟩ := h
      refine so_bin rfl rfl (ab_rem c104) ?_
      refine so_assign (v := (.v (.int .i64 (Int.tmod (IntKind.i64.wrap (l0.getD (a1).toNat (0 : Int))) a2)))) rfl ?_
      refine so_nil ?_
      exact by_ret rfl ⟨_, h, rfl, rfl⟩
    · refine fi_false rfl (decide_eq_false c102) ?_
      refine fi_skip ?_
      refine fi_seq ?_
      refine fi_region ?_
      refine so_move (v := (.v (.int .i64 a1))) rfl ?_
      refine so_bin rfl rfl ab_mul ?_
      refine so_bin rfl rfl ab_add ?_
      refine so_move (v := (.v (.int .i64 a2))) rfl ?_
      obtain ⟨c105, h⟩ := h
      refine so_bin rfl rfl (ab_rem c105) ?_
      refine so_assign (v := (.v (.int .i64 (Int.tmod (IntKind.i64.wrap ((IntKind.i64.wrap (a1 * (37 : Int))) + (11 : Int))) a2)))) rfl ?_
      refine so_nil ?_
      exact by_ret rfl ⟨_, h, rfl, rfl⟩

end Go.Proofs.Ytdoamcokkcoflaa.G

namespace Go.Proofs.Ytdoamcokkcoflaa.G
open Go Go.Ab Go.Proofs Go.Proofs.Ytdoamcokkcoflaa
set_option maxRecDepth 100000
set_option linter.unusedVariables false
set_option linter.unusedSimpArgs false
set_option maxHeartbeats 1000000
attribute [local irreducible] wops wopf Go.Ab.Fin
theorem F4.ag2 : tagg Try.prog 2 = some false := by kernel_rfl
theorem F4.ag26 : tagg Try.prog 26 = some false := by kernel_rfl
theorem F4.fl26 : tflt Try.prog 26 = some .f32 := by kernel_rfl
theorem F4.fl31 : tflt Try.prog 31 = some .f64 := by kernel_rfl
theorem F4.in26 : tint Try.prog 26 = none := by kernel_rfl
theorem F4.in31 : tint Try.prog 31 = none := by kernel_rfl
theorem F4.sz2 : tsz Try.prog 2 = some 1 := by kernel_rfl
theorem F4.sz26 : tsz Try.prog 26 = some 1 := by kernel_rfl
theorem F4.ta43_43 : tapp Try.prog 43 43 = some (1, 4) := by kernel_rfl
theorem F4.te28 : telem Try.prog 28 = some 2 := by kernel_rfl
theorem F4.te43 : telem Try.prog 43 = some 26 := by kernel_rfl
theorem F4.ti43 : (telem Try.prog 43).isSome = true := by kernel_rfl
theorem F4.tl28 : (telem Try.prog 28).bind (tsz Try.prog) = some 1 := by kernel_rfl
theorem F4.tl43 : (telem Try.prog 43).bind (tsz Try.prog) = some 1 := by kernel_rfl
theorem F4.us2 : (Try.prog.underlying 2).isSome = true := by kernel_rfl
theorem F4.us26 : (Try.prog.underlying 26).isSome = true := by kernel_rfl
theorem F4.ze2 : tzero Try.prog 2 = some [(.int .i64 (0 : Int))] := by kernel_rfl
theorem F4.ze26 : tzero Try.prog 26 = some [(.flt .f32 (0 : Nat))] := by kernel_rfl
theorem laws_FnSurpluses_ok {fr : List Pc} {H : Heap} (v0 : AV) (l0 : List (Int)) (v1 : AV) (l1 : List (Int)) (hs : Sep H (fr)) (g0 : ∀ H, Sep H fr → Shows H v0 1 (enc (eInt .u8) l0)) (g1 : ∀ H, Sep H fr → Shows H v1 1 (enc (eInt .u8) l1)) (K : Bool → Prop) (h : laws_FnSurpluses.wp l0 l1 K) : OkQ Try.prog 4 [(.v v0), (.v v1)] H (fun r H2 => ∃ (y0 : Bool), K y0 ∧ r = (.v (.bool y0)) ∧ Sep H2 (fr)) := by
  unfold laws_FnSurpluses.wp at h
  refine of_body Try.f4 F.hm Try.func4 rfl Try.call4 (by kernel_rfl) (by simp) ?_
  refine fi_seq ?_
  refine fi_region ?_
  refine so_assign (v := (.v (.bool false))) rfl ?_
  refine so_nil ?_
  refine fi_seq ?_
  refine fi_seq ?_
  refine fi_region ?_
  refine so_move (v := (.v v0)) rfl ?_
  refine so_move (v := (.v v1)) rfl ?_
  refine sv_callS (laws_b10Long_ok v0 l0 v1 l1 hs (fun _ hs => (g0 _ hs)) (fun _ hs => (g1 _ hs)) _ h) (fun _ _ ⟨_, _, _, e⟩ => e) rfl rfl ?_
  clear h
  rintro _ _ ⟨y101, h, rfl, rfl⟩
  refine so_nil ?_
  replace h := ofT h; rcases h with ⟨c103, h⟩ | ⟨c103, h⟩
  · refine fi_true rfl c103 ?_
    refine fi_seq ?_
    refine fi_region ?_
    refine so_assign (v := (.v (.bool true))) rfl ?_
    refine so_nil ?_
    exact by_ret rfl ⟨_, h, rfl, hs⟩
  · refine fi_false rfl c103 ?_
    refine fi_skip ?_
    refine fi_seq ?_
    refine fi_region ?_
    refine sv_bslice hs (eInt .i64) ([(2 : Int), (3 : Int), (5 : Int), (9 : Int), (17 : Int)] : List (Int)) [[(.int .i64 (2 : Int))], [(.int .i64 (3 : Int))], [(.int .i64 (5 : Int))], [(.int .i64 (9 : Int))], [(.int .i64 (17 : Int))]] F4.te28 F4.sz2 F4.ze2 rfl rfl rfl rfl (fun _ => rfl) rfl (by decide) nofun (fun v104 H105 nv104 hs => ?_)
    refine so_assign (v := (.v v104)) rfl ?_
    refine so_nil ?_
    refine fi_seq ?_
    refine fi_region ?_
    refine so_move (v := (.v v104)) rfl ?_
    refine so_move (v := (.v v1)) rfl ?_
    refine sv_callS (laws_b10At_ok v1 l1 (0 : Int) (5 : Int) hs (fun _ hs => (g1 _ hs.tl)) _ h) (fun _ _ ⟨_, _, _, e⟩ => e) rfl rfl ?_
    clear h
    rintro _ _ ⟨y107, h, rfl, rfl⟩
    obtain ⟨c109, h⟩ := h
    refine sv_idx (hs.shows 0 rfl) c109 (fun _ => rfl) (by decide) rfl rfl F4.tl28 ?_
    refine sv_cell (hs.shows 0 rfl) c109 (0 : Int) 0 (fun x => (AV.int .i64 x)) (fun _ => rfl) (fun _ => rfl) rfl F4.ag2 ?_
    refine so_assign (v := (.v (.int .i64 (([(2 : Int), (3 : Int), (5 : Int), (9 : Int), (17 : Int)] : List (Int)).getD (y107).toNat (0 : Int))))) rfl ?_
    refine so_nil ?_
    refine fi_seq ?_
    refine fi_region ?_
    refine so_move (v := (.v v0)) rfl ?_
    refine so_move (v := (.v (.int .i64 (([(2 : Int), (3 : Int), (5 : Int), (9 : Int), (17 : Int)] : List (Int)).getD (y107).toNat (0 : Int))))) rfl ?_
    refine sv_call (spec_B10Signal_ok v0 l0 (([(2 : Int), (3 : Int), (5 : Int), (9 : Int), (17 : Int)] : List (Int)).getD (y107).toNat (0 : Int)) hs (fun _ hs => (g0 _ hs.tl)) _ h) rfl rfl nofun ?_
    clear h hs
    rintro _ H113 ⟨y110, h, v111, rfl, hs⟩
    refine so_assign (v := (.v v111)) rfl ?_
    refine so_nil ?_
    refine fi_seq ?_
    refine fi_region ?_
    refine so_move (v := (.v v111)) rfl ?_
    refine sv_call (impl_SurplusOf_ok v111 y110 hs (fun _ hs => (hs.shows 0 rfl)) _ h) rfl rfl nofun ?_
    clear h hs
    rintro _ H118 ⟨y114, y117, h, v115, rfl, hs⟩
    refine so_move (v := (.t [(.v v115), (.v (.bool y117))])) rfl ?_
    refine so_extract rfl rfl rfl ?_
    refine so_extract rfl rfl rfl ?_
    refine so_assign (v := (.v v115)) rfl ?_
    refine so_assign (v := (.v (.bool y117))) rfl ?_
    refine so_nil ?_
    refine fi_seq ?_
    refine fi_region ?_
    refine so_move (v := (.v v115)) rfl ?_
    refine sv_call (impl_FromSurplus_ok v115 y114 hs (fun _ hs => (hs.shows 0 rfl)) _ h) rfl rfl nofun ?_
    clear h hs
    rintro _ H123 ⟨y119, y122, h, v120, rfl, hs⟩
    refine so_move (v := (.t [(.v v120), (.v (.bool y122))])) rfl ?_
    refine so_extract rfl rfl rfl ?_
    refine so_extract rfl rfl rfl ?_
    refine so_assign (v := (.v v120)) rfl ?_
    refine so_assign (v := (.v (.bool y122))) rfl ?_
    refine so_nil ?_
    refine fi_seq ?_
    refine fi_region ?_
    refine so_move (v := (.v v1)) rfl ?_
    refine sv_callS (laws_b10At_ok v1 l1 (1 : Int) (17 : Int) hs (fun _ hs => (g1 _ hs.tl.tl.tl.tl)) _ h) (fun _ _ ⟨_, _, _, e⟩ => e) rfl rfl ?_
    clear h
    rintro _ _ ⟨y124, h, rfl, rfl⟩
    refine sv_if rfl F4.us2 F4.in26 F4.fl26 ?_
    refine so_bin rfl rfl ab_fquo ?_
    refine so_assign (v := (.v (.flt .f32 (fop .quo .f32 (itof .f32 y124) (cz .f32 1082130432))))) rfl ?_
    refine so_nil ?_
    refine fi_seq ?_
    refine fi_region ?_
    refine so_move (v := (.v v111)) rfl ?_
    refine so_move (v := (.v (.flt .f32 (fop .quo .f32 (itof .f32 y124) (cz .f32 1082130432))))) rfl ?_
    refine sv_call (impl_ThinSurplus_ok v111 y110 (fop .quo .f32 (itof .f32 y124) (cz .f32 1082130432)) hs (fun _ hs => (hs.shows 2 rfl)) _ h) rfl rfl nofun ?_
    clear h hs
    rintro _ H131 ⟨y126, y129, y130, h, v127, rfl, hs⟩
    refine so_move (v := (.t [(.v v127), (.v (.int .i64 y129)), (.v (.bool y130))])) rfl ?_
    refine so_extract rfl rfl rfl ?_
    refine so_extract rfl rfl rfl ?_
    refine so_extract rfl rfl rfl ?_
    refine so_assign (v := (.v v127)) rfl ?_
    refine so_assign (v := (.v (.int .i64 y129))) rfl ?_
    refine so_assign (v := (.v (.bool y130))) rfl ?_
    refine so_nil ?_
    refine fi_seq ?_
    refine fi_region ?_
    refine sv_bslice hs (eFlt .f32) ([] : List (Nat)) [] F4.te43 F4.sz26 F4.ze26 rfl rfl rfl rfl (fun _ => rfl) rfl (by decide) nofun (fun v132 H133 nv132 hs => ?_)
    refine so_assign (v := (.v v132)) rfl ?_
    refine so_nil ?_
    refine fi_seq ?_
    refine fi_region ?_
    refine so_move (v := (.v v1)) rfl ?_
    refine sv_callS (laws_b10At_ok v1 l1 (2 : Int) (17 : Int) hs (fun _ hs => (g1 _ hs.tl.tl.tl.tl.tl.tl)) _ h) (fun _ _ ⟨_, _, _, e⟩ => e) rfl rfl ?_
    clear h
    rintro _ _ ⟨y135, h, rfl, rfl⟩
    refine so_bin rfl rfl ab_sub ?_
    refine sv_if rfl F4.us2 F4.in26 F4.fl26 ?_
    refine so_bin rfl rfl ab_fquo ?_
    refine so_assign (v := (.v (.flt .f32 (fop .quo .f32 (itof .f32 (IntKind.i64.wrap (y135 - (8 : Int)))) (cz .f32 1082130432))))) rfl ?_
    refine so_nil ?_
    refine fi_seq ?_
    refine fi_seq ?_
    refine fi_region ?_
    refine so_assign (v := (.v (.int .i64 (0 : Int)))) rfl ?_
    refine so_nil ?_
    refine fi_block ?_
    refine fi_loop ?_
    replace hs := hs.del 5
    refine fi_at [(6, (.v (.int .i64 (([(2 : Int), (3 : Int), (5 : Int), (9 : Int), (17 : Int)] : List (Int)).getD (y107).toNat (0 : Int))))), (7, (.v v111)), (8, (.v v115)), (9, (.v (.bool y117))), (10, (.v v120)), (11, (.v (.bool y122))), (12, (.v (.flt .f32 (fop .quo .f32 (itof .f32 y124) (cz .f32 1082130432))))), (13, (.v v127)), (14, (.v (.int .i64 y129))), (15, (.v (.bool y130))), (16, (.v v132)), (17, (.v (.flt .f32 (fop .quo .f32 (itof .f32 (IntKind.i64.wrap (y135 - (8 : Int)))) (cz .f32 1082130432))))), (18, (.v (.int .i64 (0 : Int))))] ⟨rfl, rfl, rfl, rfl, rfl, rfl, rfl, rfl, rfl, rfl, rfl, rfl, rfl, trivial⟩ ?_
    refine h (fun (line196 : List (Nat)) (k198 : Int) => ∀ (s : Nat → TV) (H : Heap) (v197 : AV) (nv197 : v197 ≠ .nilsl), Sep H (Pc.osl v197 1 (enc (eFlt .f32) line196) :: Pc.osl v127 1 (enc (eFlt .f32) y126) :: Pc.osl v120 1 (enc (eFlt .f32) y119) :: Pc.osl v115 1 (enc (eFlt .f32) y114) :: Pc.osl v111 1 (enc (eFlt .f32) y110) :: fr) → Fin _ _ (updL s [(6, (.v (.int .i64 (([(2 : Int), (3 : Int), (5 : Int), (9 : Int), (17 : Int)] : List (Int)).getD (y107).toNat (0 : Int))))), (7, (.v v111)), (8, (.v v115)), (9, (.v (.bool y117))), (10, (.v v120)), (11, (.v (.bool y122))), (12, (.v (.flt .f32 (fop .quo .f32 (itof .f32 y124) (cz .f32 1082130432))))), (13, (.v v127)), (14, (.v (.int .i64 y129))), (15, (.v (.bool y130))), (16, (.v v197)), (17, (.v (.flt .f32 (fop .quo .f32 (itof .f32 (IntKind.i64.wrap (y135 - (8 : Int)))) (cz .f32 1082130432))))), (18, (.v (.int .i64 k198)))]) H _) ?_ _ _ _ nv132 hs
    intro line196 k198 h s253 H254 v197 nv197 hs
    refine fi_inLoop ?_
    refine fi_seq ?_
    refine fi_seq ?_
    refine fi_region ?_
    refine so_move (v := (.v (.int .i64 k198))) rfl ?_
    refine so_move (v := (.v (.int .i64 (([(2 : Int), (3 : Int), (5 : Int), (9 : Int), (17 : Int)] : List (Int)).getD (y107).toNat (0 : Int))))) rfl ?_
    refine so_bin rfl rfl ab_lss ?_
    refine so_nil ?_
    replace h := ofP h; rcases h with ⟨c199, h⟩ | ⟨c199, h⟩
    · refine fi_true rfl (decide_eq_true c199) ?_
      refine fi_skip ?_
      refine fi_seq ?_
      refine fi_block ?_
      refine fi_region ?_
      refine so_move (v := (.v v197)) rfl ?_
      refine so_move (v := (.v (.flt .f32 (fop .quo .f32 (itof .f32 (IntKind.i64.wrap (y135 - (8 : Int)))) (cz .f32 1082130432))))) rfl ?_
      refine so_move (v := (.v (.int .i64 k198))) rfl ?_
      refine sv_if rfl F4.us2 F4.in26 F4.fl26 ?_
      refine so_bin rfl rfl ab_fmul ?_
      refine so_bin rfl rfl ab_fadd ?_
      refine sv_bslice hs (eFlt .f32) ([(fop .add .f32 (fop .mul .f32 (fop .quo .f32 (itof .f32 (IntKind.i64.wrap (y135 - (8 : Int)))) (cz .f32 1082130432)) (itof .f32 k198)) (cz .f32 1065353216))] : List (Nat)) [[(.flt .f32 (fop .add .f32 (fop .mul .f32 (fop .quo .f32 (itof .f32 (IntKind.i64.wrap (y135 - (8 : Int)))) (cz .f32 1082130432)) (itof .f32 k198)) (cz .f32 1065353216)))]] F4.te43 F4.sz26 F4.ze26 rfl rfl rfl rfl (fun _ => rfl) rfl (by decide) nofun (fun v200 H201 nv200 hs => ?_)
      obtain ⟨c205, h⟩ := h
      refine sv_app hs 1 rfl (hs.shows 0 rfl) (fun _ => rfl) (by decide) F4.ta43_43 (by decide) c205 rfl rfl nofun (fun v203 H204 kv203 hs => ?_)
      replace hs := hs.del 0
      have nv203 := kv203 nv197
      refine so_assign (v := (.v v203)) rfl ?_
      refine so_nil ?_
      refine fi_inBlock ?_
      refine fi_region ?_
      refine so_move (v := (.v (.int .i64 k198))) rfl ?_
      refine so_bin rfl rfl ab_add ?_
      refine so_assign (v := (.v (.int .i64 (IntKind.i64.wrap (k198 + (1 : Int)))))) rfl ?_
      refine so_nil ?_
      exact fi_at [(6, (.v (.int .i64 (([(2 : Int), (3 : Int), (5 : Int), (9 : Int), (17 : Int)] : List (Int)).getD (y107).toNat (0 : Int))))), (7, (.v v111)), (8, (.v v115)), (9, (.v (.bool y117))), (10, (.v v120)), (11, (.v (.bool y122))), (12, (.v (.flt .f32 (fop .quo .f32 (itof .f32 y124) (cz .f32 1082130432))))), (13, (.v v127)), (14, (.v (.int .i64 y129))), (15, (.v (.bool y130))), (16, (.v v203)), (17, (.v (.flt .f32 (fop .quo .f32 (itof .f32 (IntKind.i64.wrap (y135 - (8 : Int)))) (cz .f32 1082130432))))), (18, (.v (.int .i64 (IntKind.i64.wrap (k198 + (1 : Int))))))] ⟨rfl, rfl, rfl, rfl, rfl, rfl, rfl, rfl, rfl, rfl, rfl, rfl, rfl, trivial⟩ (h _ _ _ nv203 hs)
    · refine fi_false rfl (decide_eq_false c199) ?_
      refine fi_exit rfl ?_
      refine fi_seq ?_
      refine fi_region ?_
      refine so_move (v := (.v v197)) rfl ?_
      refine sv_call (impl_SurplusOf_ok v197 line196 hs (fun _ hs => (hs.shows 0 rfl)) _ h) rfl rfl nofun ?_
      clear h hs
      rintro _ H210 ⟨y206, y209, h, v207, rfl, hs⟩
      refine so_move (v := (.t [(.v v207), (.v (.bool y209))])) rfl ?_
      refine so_extract rfl rfl rfl ?_
      refine so_extract rfl rfl rfl ?_
      refine so_assign (v := (.v v207)) rfl ?_
      refine so_assign (v := (.v (.bool y209))) rfl ?_
      refine so_nil ?_
      refine fi_seq ?_
      refine fi_seq ?_
      refine fi_region ?_
      refine so_move (v := (.v (.bool y117))) rfl ?_
      refine so_un rfl au_not ?_
      refine so_move (v := (.v (.bool (!y117)))) rfl ?_
      replace h := ofT h; rcases h with ⟨c211, h⟩ | ⟨c211, h⟩
      · refine so_gyes rfl (not_f c211) ?_
        refine so_move (v := (.v (.bool y122))) rfl ?_
        refine so_gyes rfl (not_f c211) ?_
        refine so_un rfl au_not ?_
        refine so_pick_f (v := (.v (.bool (!y122)))) rfl (not_f c211) rfl ?_
        refine so_move (v := (.v (.bool (!y122)))) rfl ?_
        replace h := ofT h; rcases h with ⟨c212, h⟩ | ⟨c212, h⟩
        · refine so_gyes rfl (not_f c212) ?_
          refine so_move (v := (.v (.bool y130))) rfl ?_
          refine so_gyes rfl (not_f c212) ?_
          refine so_un rfl au_not ?_
          refine so_pick_f (v := (.v (.bool (!y130)))) rfl (not_f c212) rfl ?_
          refine so_move (v := (.v (.bool (!y130)))) rfl ?_
          replace h := ofT h; rcases h with ⟨c213, h⟩ | ⟨c213, h⟩
          · refine so_gyes rfl (not_f c213) ?_
            refine so_move (v := (.v (.bool y209))) rfl ?_
            refine so_gyes rfl (not_f c213) ?_
            refine so_un rfl au_not ?_
            refine so_pick_f (v := (.v (.bool (!y209)))) rfl (not_f c213) rfl ?_
            refine so_move (v := (.v (.bool (!y209)))) rfl ?_
            replace h := ofT h; rcases h with ⟨c214, h⟩ | ⟨c214, h⟩
            · refine so_gyes rfl (not_f c214) ?_
              refine so_move (v := (.v v115)) rfl ?_
              refine so_gyes rfl (not_f c214) ?_
              refine sv_len (hs.shows 4 rfl) (fun _ => rfl) (by decide) rfl F4.ti43 ?_
              refine so_gyes rfl (not_f c214) ?_
              refine so_move (v := (.v v111)) rfl ?_
              refine so_gyes rfl (not_f c214) ?_
              refine sv_len (hs.shows 5 rfl) (fun _ => rfl) (by decide) rfl F4.ti43 ?_
              refine so_gyes rfl (not_f c214) ?_
              refine so_bin rfl rfl ab_neq ?_
              refine so_pick_f (v := (.v (.bool (!(decide ((y114.length : Int) = (y110.length : Int))))))) rfl (not_f c214) rfl ?_
              refine so_move (v := (.v (.bool (!(decide ((y114.length : Int) = (y110.length : Int))))))) rfl ?_
              replace h := ofP h; rcases h with ⟨c215, h⟩ | ⟨c215, h⟩
              · refine so_gyes rfl (not_f (decide_eq_true c215)) ?_
                refine so_move (v := (.v v207)) rfl ?_
                refine so_gyes rfl (not_f (decide_eq_true c215)) ?_
                refine sv_len (hs.shows 0 rfl) (fun _ => rfl) (by decide) rfl F4.ti43 ?_
                refine so_gyes rfl (not_f (decide_eq_true c215)) ?_
                refine so_move (v := (.v v111)) rfl ?_
                refine so_gyes rfl (not_f (decide_eq_true c215)) ?_
                refine sv_len (hs.shows 5 rfl) (fun _ => rfl) (by decide) rfl F4.ti43 ?_
                refine so_gyes rfl (not_f (decide_eq_true c215)) ?_
                refine so_bin rfl rfl ab_neq ?_
                refine so_pick_f (v := (.v (.bool (!(decide ((y206.length : Int) = (y110.length : Int))))))) rfl (not_f (decide_eq_true c215)) rfl ?_
                refine so_move (v := (.v (.bool (!(decide ((y206.length : Int) = (y110.length : Int))))))) rfl ?_
                replace h := ofP h; rcases h with ⟨c216, h⟩ | ⟨c216, h⟩
                · refine so_gyes rfl (not_f (decide_eq_true c216)) ?_
                  refine so_move (v := (.v v127)) rfl ?_
                  refine so_gyes rfl (not_f (decide_eq_true c216)) ?_
                  refine sv_len (hs.shows 2 rfl) (fun _ => rfl) (by decide) rfl F4.ti43 ?_
                  refine so_gyes rfl (not_f (decide_eq_true c216)) ?_
                  refine so_move (v := (.v v111)) rfl ?_
                  refine so_gyes rfl (not_f (decide_eq_true c216)) ?_
                  refine sv_len (hs.shows 5 rfl) (fun _ => rfl) (by decide) rfl F4.ti43 ?_
                  refine so_gyes rfl (not_f (decide_eq_true c216)) ?_
                  refine so_bin rfl rfl ab_neq ?_
                  refine so_pick_f (v := (.v (.bool (!(decide ((y126.length : Int) = (y110.length : Int))))))) rfl (not_f (decide_eq_true c216)) rfl ?_
                  refine so_move (v := (.v (.bool (!(decide ((y126.length : Int) = (y110.length : Int))))))) rfl ?_
                  replace h := ofP h; rcases h with ⟨c217, h⟩ | ⟨c217, h⟩
                  · refine so_gyes rfl (not_f (decide_eq_true c217)) ?_
                    refine so_move (v := (.v (.int .i64 y129))) rfl ?_
                    refine so_gyes rfl (not_f (decide_eq_true c217)) ?_
                    refine so_bin rfl rfl ab_lss ?_
                    refine so_pick_f (v := (.v (.bool (decide (y129 < (0 : Int)))))) rfl (not_f (decide_eq_true c217)) rfl ?_
                    refine so_move (v := (.v (.bool (decide (y129 < (0 : Int)))))) rfl ?_
                    replace h := ofP h; rcases h with ⟨c218, h⟩ | ⟨c218, h⟩
                    · refine so_gno rfl (decide_eq_true c218) ?_
                      refine so_gno rfl (decide_eq_true c218) ?_
                      refine so_gno rfl (decide_eq_true c218) ?_
                      refine so_gno rfl (decide_eq_true c218) ?_
                      refine so_pick_t (v := (.v (.bool true))) rfl (decide_eq_true c218) rfl ?_
                      refine so_move (v := (.v (.bool true))) rfl ?_
                      refine so_gno rfl rfl ?_
                      refine so_gno rfl rfl ?_
                      refine so_gno rfl rfl ?_
                      refine so_pick_t (v := (.v (.bool true))) rfl rfl rfl ?_
                      refine so_move (v := (.v (.bool true))) rfl ?_
                      refine so_gno rfl rfl ?_
                      refine so_gno rfl rfl ?_
                      refine so_gno rfl rfl ?_
                      refine so_gno rfl rfl ?_
                      refine so_gno rfl rfl ?_
                      refine so_gno rfl rfl ?_
                      refine so_gno rfl rfl ?_
                      refine so_pick_t (v := (.v (.bool true))) rfl rfl rfl ?_
                      refine so_move (v := (.v (.bool true))) rfl ?_
                      refine so_gno rfl rfl ?_
                      refine so_gno rfl rfl ?_
                      refine so_gno rfl rfl ?_
                      refine so_gno rfl rfl ?_
                      refine so_gno rfl rfl ?_
                      refine so_gno rfl rfl ?_
                      refine so_gno rfl rfl ?_
                      refine so_gno rfl rfl ?_
                      refine so_gno rfl rfl ?_
                      refine so_gno rfl rfl ?_
                      refine so_gno rfl rfl ?_
                      refine so_pick_t (v := (.v (.bool true))) rfl rfl rfl ?_
                      refine so_nil ?_
                      refine fi_true rfl rfl ?_
                      refine fi_seq ?_
                      refine fi_region ?_
                      refine so_assign (v := (.v (.bool false))) rfl ?_
                      refine so_nil ?_
                      exact by_ret rfl ⟨_, h, rfl, (Sep.dropn 6 hs)⟩
                    · refine so_gyes rfl (decide_eq_false c218) ?_
                      refine so_move (v := (.v (.int .i64 y129))) rfl ?_
                      refine so_gyes rfl (decide_eq_false c218) ?_
                      refine so_move (v := (.v (.int .i64 (([(2 : Int), (3 : Int), (5 : Int), (9 : Int), (17 : Int)] : List (Int)).getD (y107).toNat (0 : Int))))) rfl ?_
                      refine so_gyes rfl (decide_eq_false c218) ?_
                      refine so_bin rfl rfl ab_sub ?_
                      refine so_gyes rfl (decide_eq_false c218) ?_
                      refine so_bin rfl rfl ab_gtr ?_
                      refine so_pick_f (v := (.v (.bool (decide ((IntKind.i64.wrap ((([(2 : Int), (3 : Int), (5 : Int), (9 : Int), (17 : Int)] : List (Int)).getD (y107).toNat (0 : Int)) - (2 : Int))) < y129))))) rfl (decide_eq_false c218) rfl ?_
                      refine so_move (v := (.v (.bool (decide ((IntKind.i64.wrap ((([(2 : Int), (3 : Int), (5 : Int), (9 : Int), (17 : Int)] : List (Int)).getD (y107).toNat (0 : Int)) - (2 : Int))) < y129))))) rfl ?_
                      replace h := ofP h; rcases h with ⟨c219, h⟩ | ⟨c219, h⟩
                      · refine so_gno rfl (decide_eq_true c219) ?_
                        refine so_gno rfl (decide_eq_true c219) ?_
                        refine so_gno rfl (decide_eq_true c219) ?_
                        refine so_pick_t (v := (.v (.bool true))) rfl (decide_eq_true c219) rfl ?_
                        refine so_move (v := (.v (.bool true))) rfl ?_
                        refine so_gno rfl rfl ?_
                        refine so_gno rfl rfl ?_
                        refine so_gno rfl rfl ?_
                        refine so_gno rfl rfl ?_
                        refine so_gno rfl rfl ?_
                        refine so_gno rfl rfl ?_
                        refine so_gno rfl rfl ?_
                        refine so_pick_t (v := (.v (.bool true))) rfl rfl rfl ?_
                        refine so_move (v := (.v (.bool true))) rfl ?_
                        refine so_gno rfl rfl ?_
                        refine so_gno rfl rfl ?_
                        refine so_gno rfl rfl ?_
                        refine so_gno rfl rfl ?_
                        refine so_gno rfl rfl ?_
                        refine so_gno rfl rfl ?_
                        refine so_gno rfl rfl ?_
                        refine so_gno rfl rfl ?_
                        refine so_gno rfl rfl ?_
                        refine so_gno rfl rfl ?_
                        refine so_gno rfl rfl ?_
                        refine so_pick_t (v := (.v (.bool true))) rfl rfl rfl ?_
                        refine so_nil ?_
                        refine fi_true rfl rfl ?_
                        refine fi_seq ?_
                        refine fi_region ?_
                        refine so_assign (v := (.v (.bool false))) rfl ?_
                        refine so_nil ?_
                        exact by_ret rfl ⟨_, h, rfl, (Sep.dropn 6 hs)⟩
                      · refine so_gyes rfl (decide_eq_false c219) ?_
                        refine so_move (v := (.v v120)) rfl ?_
                        refine so_gyes rfl (decide_eq_false c219) ?_
                        refine so_move (v := (.v v111)) rfl ?_
                        refine so_gyes rfl (decide_eq_false c219) ?_
                        refine sv_callS (laws_b10Apart_ok v120 y119 v111 y110 (cz .f64 4562254508917369340) hs (fun _ hs => (hs.shows 3 rfl)) (fun _ hs => (hs.shows 5 rfl)) _ h) (fun _ _ ⟨_, _, _, e⟩ => e) rfl rfl ?_
                        clear h
                        rintro _ _ ⟨y220, h, rfl, rfl⟩
                        refine so_pick_f (v := (.v (.bool y220))) rfl (decide_eq_false c219) rfl ?_
                        refine so_move (v := (.v (.bool y220))) rfl ?_
                        replace h := ofT h; rcases h with ⟨c222, h⟩ | ⟨c222, h⟩
                        · refine so_gno rfl c222 ?_
                          refine so_gno rfl c222 ?_
                          refine so_gno rfl c222 ?_
                          refine so_gno rfl c222 ?_
                          refine so_gno rfl c222 ?_
                          refine so_gno rfl c222 ?_
                          refine so_gno rfl c222 ?_
                          refine so_pick_t (v := (.v (.bool true))) rfl c222 rfl ?_
                          refine so_move (v := (.v (.bool true))) rfl ?_
                          refine so_gno rfl rfl ?_
                          refine so_gno rfl rfl ?_
                          refine so_gno rfl rfl ?_
                          refine so_gno rfl rfl ?_
                          refine so_gno rfl rfl ?_
                          refine so_gno rfl rfl ?_
                          refine so_gno rfl rfl ?_
                          refine so_gno rfl rfl ?_
                          refine so_gno rfl rfl ?_
                          refine so_gno rfl rfl ?_
                          refine so_gno rfl rfl ?_
                          refine so_pick_t (v := (.v (.bool true))) rfl rfl rfl ?_
                          refine so_nil ?_
                          refine fi_true rfl rfl ?_
                          refine fi_seq ?_
                          refine fi_region ?_
                          refine so_assign (v := (.v (.bool false))) rfl ?_
                          refine so_nil ?_
                          exact by_ret rfl ⟨_, h, rfl, (Sep.dropn 6 hs)⟩
                        · refine so_gyes rfl c222 ?_
                          refine so_move (v := (.v v115)) rfl ?_
                          refine so_gyes rfl c222 ?_
                          obtain ⟨c223, h⟩ := h
                          refine sv_idx (hs.shows 4 rfl) c223 (fun _ => rfl) (by decide) rfl rfl F4.tl43 ?_
                          refine so_gyes rfl c222 ?_
                          refine sv_cell (hs.shows 4 rfl) c223 (0 : Nat) 0 (fun x => (AV.flt .f32 x)) (fun _ => rfl) (fun _ => rfl) rfl F4.ag26 ?_
                          refine so_gyes rfl c222 ?_
                          refine so_move (v := (.v v111)) rfl ?_
                          refine so_gyes rfl c222 ?_
                          obtain ⟨c224, h⟩ := h
                          refine sv_idx (hs.shows 5 rfl) c224 (fun _ => rfl) (by decide) rfl rfl F4.tl43 ?_
                          refine so_gyes rfl c222 ?_
                          refine sv_cell (hs.shows 5 rfl) c224 (0 : Nat) 0 (fun x => (AV.flt .f32 x)) (fun _ => rfl) (fun _ => rfl) rfl F4.ag26 ?_
                          refine so_gyes rfl c222 ?_
                          refine so_bin rfl rfl ab_fneq ?_
                          refine so_pick_f (v := (.v (.bool (fcmp .neq .f32 (y114.getD ((0 : Int)).toNat (0 : Nat)) (y110.getD ((0 : Int)).toNat (0 : Nat)))))) rfl c222 rfl ?_
                          refine so_move (v := (.v (.bool (fcmp .neq .f32 (y114.getD ((0 : Int)).toNat (0 : Nat)) (y110.getD ((0 : Int)).toNat (0 : Nat)))))) rfl ?_
                          replace h := ofT h; rcases h with ⟨c225, h⟩ | ⟨c225, h⟩
                          · refine so_gno rfl c225 ?_
                            refine so_gno rfl c225 ?_
                            refine so_gno rfl c225 ?_
                            refine so_gno rfl c225 ?_
                            refine so_gno rfl c225 ?_
                            refine so_gno rfl c225 ?_
                            refine so_gno rfl c225 ?_
                            refine so_gno rfl c225 ?_
                            refine so_gno rfl c225 ?_
                            refine so_gno rfl c225 ?_
                            refine so_gno rfl c225 ?_
                            refine so_pick_t (v := (.v (.bool true))) rfl c225 rfl ?_
                            refine so_nil ?_
                            refine fi_true rfl rfl ?_
                            refine fi_seq ?_
                            refine fi_region ?_
                            refine so_assign (v := (.v (.bool false))) rfl ?_
                            refine so_nil ?_
                            exact by_ret rfl ⟨_, h, rfl, (Sep.dropn 6 hs)⟩
                          · refine so_gyes rfl c225 ?_
                            refine so_move (v := (.v v115)) rfl ?_
                            refine so_gyes rfl c225 ?_
                            refine so_move (v := (.v (.int .i64 (([(2 : Int), (3 : Int), (5 : Int), (9 : Int), (17 : Int)] : List (Int)).getD (y107).toNat (0 : Int))))) rfl ?_
                            refine so_gyes rfl c225 ?_
                            refine so_bin rfl rfl ab_sub ?_
                            refine so_gyes rfl c225 ?_
                            obtain ⟨c226, h⟩ := h
                            refine sv_idx (hs.shows 4 rfl) c226 (fun _ => rfl) (by decide) rfl rfl F4.tl43 ?_
                            refine so_gyes rfl c225 ?_
                            refine sv_cell (hs.shows 4 rfl) c226 (0 : Nat) 0 (fun x => (AV.flt .f32 x)) (fun _ => rfl) (fun _ => rfl) rfl F4.ag26 ?_
                            refine so_gyes rfl c225 ?_
                            refine so_move (v := (.v v111)) rfl ?_
                            refine so_gyes rfl c225 ?_
                            refine so_move (v := (.v (.int .i64 (([(2 : Int), (3 : Int), (5 : Int), (9 : Int), (17 : Int)] : List (Int)).getD (y107).toNat (0 : Int))))) rfl ?_
                            refine so_gyes rfl c225 ?_
                            refine so_bin rfl rfl ab_sub ?_
                            refine so_gyes rfl c225 ?_
                            obtain ⟨c227, h⟩ := h
                            refine sv_idx (hs.shows 5 rfl) c227 (fun _ => rfl) (by decide) rfl rfl F4.tl43 ?_
                            refine so_gyes rfl c225 ?_
                            refine sv_cell (hs.shows 5 rfl) c227 (0 : Nat) 0 (fun x => (AV.flt .f32 x)) (fun _ => rfl) (fun _ => rfl) rfl F4.ag26 ?_
                            refine so_gyes rfl c225 ?_
                            refine so_bin rfl rfl ab_fneq ?_
                            refine so_pick_f (v := (.v (.bool (fcmp .neq .f32 (y114.getD ((IntKind.i64.wrap ((([(2 : Int), (3 : Int), (5 : Int), (9 : Int), (17 : Int)] : List (Int)).getD (y107).toNat (0 : Int)) - (1 : Int)))).toNat (0 : Nat)) (y110.getD ((IntKind.i64.wrap ((([(2 : Int), (3 : Int), (5 : Int), (9 : Int), (17 : Int)] : List (Int)).getD (y107).toNat (0 : Int)) - (1 : Int)))).toNat (0 : Nat)))))) rfl c225 rfl ?_
                            refine so_nil ?_
                            replace h := ofT h; rcases h with ⟨c228, h⟩ | ⟨c228, h⟩
                            · refine fi_true rfl c228 ?_
                              refine fi_seq ?_
                              refine fi_region ?_
                              refine so_assign (v := (.v (.bool false))) rfl ?_
                              refine so_nil ?_
                              exact by_ret rfl ⟨_, h, rfl, (Sep.dropn 6 hs)⟩
                            · refine fi_false rfl c228 ?_
                              refine fi_skip ?_
                              refine fi_seq ?_
                              refine fi_region ?_
                              refine so_assign (v := (.v (.int .i64 (0 : Int)))) rfl ?_
                              refine so_nil ?_
                              refine fi_seq ?_
                              refine fi_seq ?_
                              refine fi_region ?_
                              refine so_assign (v := (.v (.int .i64 (1 : Int)))) rfl ?_
                              refine so_nil ?_
                              refine fi_block ?_
                              refine fi_loop ?_
                              replace hs := hs.del 1
                              replace hs := hs.del 2
                              refine fi_at [(6, (.v (.int .i64 (([(2 : Int), (3 : Int), (5 : Int), (9 : Int), (17 : Int)] : List (Int)).getD (y107).toNat (0 : Int))))), (7, (.v v111)), (8, (.v v115)), (12, (.v (.flt .f32 (fop .quo .f32 (itof .f32 y124) (cz .f32 1082130432))))), (13, (.v v127)), (14, (.v (.int .i64 y129))), (19, (.v v207)), (21, (.v (.int .i64 (0 : Int)))), (22, (.v (.int .i64 (1 : Int))))] ⟨rfl, rfl, rfl, rfl, rfl, rfl, rfl, rfl, rfl, trivial⟩ ?_
                              refine h (fun (many230 : Int) (i231 : Int) => ∀ (s : Nat → TV) (H : Heap), Sep H (Pc.osl v207 1 (enc (eFlt .f32) y206) :: Pc.osl v127 1 (enc (eFlt .f32) y126) :: Pc.osl v115 1 (enc (eFlt .f32) y114) :: Pc.osl v111 1 (enc (eFlt .f32) y110) :: fr) → Fin _ _ (updL s [(6, (.v (.int .i64 (([(2 : Int), (3 : Int), (5 : Int), (9 : Int), (17 : Int)] : List (Int)).getD (y107).toNat (0 : Int))))), (7, (.v v111)), (8, (.v v115)), (12, (.v (.flt .f32 (fop .quo .f32 (itof .f32 y124) (cz .f32 1082130432))))), (13, (.v v127)), (14, (.v (.int .i64 y129))), (19, (.v v207)), (21, (.v (.int .i64 many230))), (22, (.v (.int .i64 i231)))]) H _) ?_ _ _ hs
                              intro many230 i231 h s251 H252 hs
                              refine fi_inLoop ?_
                              refine fi_seq ?_
                              refine fi_seq ?_
                              refine fi_region ?_
                              refine so_move (v := (.v (.int .i64 i231))) rfl ?_
                              refine so_move (v := (.v (.int .i64 (([(2 : Int), (3 : Int), (5 : Int), (9 : Int), (17 : Int)] : List (Int)).getD (y107).toNat (0 : Int))))) rfl ?_
                              refine so_bin rfl rfl ab_sub ?_
                              refine so_bin rfl rfl ab_lss ?_
                              refine so_nil ?_
                              replace h := ofP h; rcases h with ⟨c232, h⟩ | ⟨c232, h⟩
                              · refine fi_true rfl (decide_eq_true c232) ?_
                                refine fi_skip ?_
                                refine fi_seq ?_
                                refine fi_block ?_
                                refine fi_seq ?_
                                refine fi_seq ?_
                                refine fi_region ?_
                                refine so_move (v := (.v v207)) rfl ?_
                                refine so_move (v := (.v (.int .i64 i231))) rfl ?_
                                obtain ⟨c233, h⟩ := h
                                refine sv_idx (hs.shows 0 rfl) c233 (fun _ => rfl) (by decide) rfl rfl F4.tl43 ?_
                                refine sv_cell (hs.shows 0 rfl) c233 (0 : Nat) 0 (fun x => (AV.flt .f32 x)) (fun _ => rfl) (fun _ => rfl) rfl F4.ag26 ?_
                                refine sv_ffw rfl F4.us26 F4.in31 F4.fl31 ?_
                                refine sv_callS (laws_b10Gap_ok (widen (y206.getD (i231).toNat (0 : Nat))) (cz .f64 0) hs  _ h) (fun _ _ ⟨_, _, _, e⟩ => e) rfl rfl ?_
                                clear h
                                rintro _ _ ⟨y234, h, rfl, rfl⟩
                                refine so_bin rfl rfl ab_fgtr ?_
                                refine so_nil ?_
                                replace h := ofT h; rcases h with ⟨c236, h⟩ | ⟨c236, h⟩
                                · refine fi_true rfl c236 ?_
                                  refine fi_seq ?_
                                  refine fi_region ?_
                                  refine so_assign (v := (.v (.bool false))) rfl ?_
                                  refine so_nil ?_
                                  exact by_ret rfl ⟨_, h, rfl, (Sep.dropn 4 hs)⟩
                                · refine fi_false rfl c236 ?_
                                  refine fi_skip ?_
                                  refine fi_seq ?_
                                  refine fi_region ?_
                                  refine so_move (v := (.v v115)) rfl ?_
                                  refine so_move (v := (.v (.int .i64 i231))) rfl ?_
                                  obtain ⟨c237, h⟩ := h
                                  refine sv_idx (hs.shows 2 rfl) c237 (fun _ => rfl) (by decide) rfl rfl F4.tl43 ?_
                                  refine sv_cell (hs.shows 2 rfl) c237 (0 : Nat) 0 (fun x => (AV.flt .f32 x)) (fun _ => rfl) (fun _ => rfl) rfl F4.ag26 ?_
                                  refine sv_ffw rfl F4.us26 F4.in31 F4.fl31 ?_
                                  refine sv_callS (laws_b10Gap_ok (widen (y114.getD (i231).toNat (0 : Nat))) (cz .f64 0) hs  _ h) (fun _ _ ⟨_, _, _, e⟩ => e) rfl rfl ?_
                                  clear h
                                  rintro _ _ ⟨y238, h, rfl, rfl⟩
                                  refine so_move (v := (.v (.flt .f32 (fop .quo .f32 (itof .f32 y124) (cz .f32 1082130432))))) rfl ?_
                                  refine sv_ffw rfl F4.us26 F4.in31 F4.fl31 ?_
                                  refine so_bin rfl rfl ab_fgtr ?_
                                  refine so_nil ?_
                                  replace h := ofT h; rcases h with ⟨c240, h⟩ | ⟨c240, h⟩
                                  · refine fi_true rfl c240 ?_
                                    refine fi_region ?_
                                    refine so_move (v := (.v (.int .i64 many230))) rfl ?_
                                    refine so_bin rfl rfl ab_add ?_
                                    refine so_assign (v := (.v (.int .i64 (IntKind.i64.wrap (many230 + (1 : Int)))))) rfl ?_
                                    refine so_nil ?_
                                    refine fi_inBlock ?_
                                    refine fi_region ?_
                                    refine so_move (v := (.v (.int .i64 i231))) rfl ?_
                                    refine so_bin rfl rfl ab_add ?_
                                    refine so_assign (v := (.v (.int .i64 (IntKind.i64.wrap (i231 + (1 : Int)))))) rfl ?_
                                    refine so_nil ?_
                                    exact fi_at [(6, (.v (.int .i64 (([(2 : Int), (3 : Int), (5 : Int), (9 : Int), (17 : Int)] : List (Int)).getD (y107).toNat (0 : Int))))), (7, (.v v111)), (8, (.v v115)), (12, (.v (.flt .f32 (fop .quo .f32 (itof .f32 y124) (cz .f32 1082130432))))), (13, (.v v127)), (14, (.v (.int .i64 y129))), (19, (.v v207)), (21, (.v (.int .i64 (IntKind.i64.wrap (many230 + (1 : Int)))))), (22, (.v (.int .i64 (IntKind.i64.wrap (i231 + (1 : Int))))))] ⟨rfl, rfl, rfl, rfl, rfl, rfl, rfl, rfl, rfl, trivial⟩ (h _ _  hs)
                                  · refine fi_false rfl c240 ?_
                                    refine fi_skip ?_
                                    refine fi_inBlock ?_
                                    refine fi_region ?_
                                    refine so_move (v := (.v (.int .i64 i231))) rfl ?_
                                    refine so_bin rfl rfl ab_add ?_
                                    refine so_assign (v := (.v (.int .i64 (IntKind.i64.wrap (i231 + (1 : Int)))))) rfl ?_
                                    refine so_nil ?_
                                    exact fi_at [(6, (.v (.int .i64 (([(2 : Int), (3 : Int), (5 : Int), (9 : Int), (17 : Int)] : List (Int)).getD (y107).toNat (0 : Int))))), (7, (.v v111)), (8, (.v v115)), (12, (.v (.flt .f32 (fop .quo .f32 (itof .f32 y124) (cz .f32 1082130432))))), (13, (.v v127)), (14, (.v (.int .i64 y129))), (19, (.v v207)), (21, (.v (.int .i64 many230))), (22, (.v (.int .i64 (IntKind.i64.wrap (i231 + (1 : Int))))))] ⟨rfl, rfl, rfl, rfl, rfl, rfl, rfl, rfl, rfl, trivial⟩ (h _ _  hs)
                              · refine fi_false rfl (decide_eq_false c232) ?_
                                refine fi_exit rfl ?_
                                refine fi_seq ?_
                                refine fi_seq ?_
                                refine fi_region ?_
                                refine so_move (v := (.v v111)) rfl ?_
                                refine sv_len (hs.shows 3 rfl) (fun _ => rfl) (by decide) rfl F4.ti43 ?_
                                refine so_move (v := (.v (.int .i64 (0 : Int)))) rfl ?_
                                refine so_nil ?_
                                refine fi_block ?_
                                refine fi_loop ?_
                                replace hs := hs.del 0
                                replace hs := hs.del 1
                                refine fi_at [(7, (.v v111)), (12, (.v (.flt .f32 (fop .quo .f32 (itof .f32 y124) (cz .f32 1082130432))))), (13, (.v v127)), (14, (.v (.int .i64 y129))), (21, (.v (.int .i64 many230))), (178, (.v (.int .i64 (y110.length : Int)))), (179, (.v (.int .i64 (0 : Int))))] ⟨rfl, rfl, rfl, rfl, rfl, rfl, rfl, trivial⟩ ?_
                                refine h (fun (x242 : Int) => ∀ (s : Nat → TV) (H : Heap), Sep H (Pc.osl v127 1 (enc (eFlt .f32) y126) :: Pc.osl v111 1 (enc (eFlt .f32) y110) :: fr) → Fin _ _ (updL s [(7, (.v v111)), (12, (.v (.flt .f32 (fop .quo .f32 (itof .f32 y124) (cz .f32 1082130432))))), (13, (.v v127)), (14, (.v (.int .i64 y129))), (21, (.v (.int .i64 many230))), (178, (.v (.int .i64 (y110.length : Int)))), (179, (.v (.int .i64 x242)))]) H _) ?_ _ _ hs
                                intro x242 h s249 H250 hs
                                refine fi_inLoop ?_
                                refine fi_seq ?_
                                refine fi_region ?_
                                refine so_bin rfl rfl ab_lss ?_
                                refine so_nil ?_
                                refine fi_seq ?_
                                replace h := ofP h; rcases h with ⟨c243, h⟩ | ⟨c243, h⟩
                                · refine fi_true rfl (decide_eq_true c243) ?_
                                  refine fi_skip ?_
                                  refine fi_seq ?_
                                  refine fi_block ?_
                                  refine fi_seq ?_
                                  refine fi_region ?_
                                  refine so_move (v := (.v (.int .i64 x242))) rfl ?_
                                  refine so_assign (v := (.v (.int .i64 x242))) rfl ?_
                                  refine so_nil ?_
                                  refine fi_seq ?_
                                  refine fi_region ?_
                                  refine so_move (v := (.v v127)) rfl ?_
                                  refine so_move (v := (.v (.int .i64 x242))) rfl ?_
                                  obtain ⟨c244, h⟩ := h
                                  refine sv_idx (hs.shows 0 rfl) c244 (fun _ => rfl) (by decide) rfl rfl F4.tl43 ?_
                                  refine sv_cell (hs.shows 0 rfl) c244 (0 : Nat) 0 (fun x => (AV.flt .f32 x)) (fun _ => rfl) (fun _ => rfl) rfl F4.ag26 ?_
                                  refine sv_ffw rfl F4.us26 F4.in31 F4.fl31 ?_
                                  refine so_move (v := (.v v111)) rfl ?_
                                  refine so_move (v := (.v (.int .i64 x242))) rfl ?_
                                  obtain ⟨c245, h⟩ := h
                                  refine sv_idx (hs.shows 1 rfl) c245 (fun _ => rfl) (by decide) rfl rfl F4.tl43 ?_
                                  refine sv_cell (hs.shows 1 rfl) c245 (0 : Nat) 0 (fun x => (AV.flt .f32 x)) (fun _ => rfl) (fun _ => rfl) rfl F4.ag26 ?_
                                  refine sv_ffw rfl F4.us26 F4.in31 F4.fl31 ?_
                                  refine sv_callS (laws_b10Gap_ok (widen (y126.getD (x242).toNat (0 : Nat))) (widen (y110.getD (x242).toNat (0 : Nat))) hs  _ h) (fun _ _ ⟨_, _, _, e⟩ => e) rfl rfl ?_
                                  clear h
                                  rintro _ _ ⟨y246, h, rfl, rfl⟩
                                  refine so_move (v := (.v (.flt .f32 (fop .quo .f32 (itof .f32 y124) (cz .f32 1082130432))))) rfl ?_
                                  refine sv_ffw rfl F4.us26 F4.in31 F4.fl31 ?_
                                  refine so_bin rfl rfl ab_fmul ?_
                                  refine so_bin rfl rfl ab_fadd ?_
                                  refine so_bin rfl rfl ab_fgtr ?_
                                  refine so_nil ?_
                                  replace h := ofT h; rcases h with ⟨c248, h⟩ | ⟨c248, h⟩
                                  · refine fi_true rfl c248 ?_
                                    refine fi_seq ?_
                                    refine fi_region ?_
                                    refine so_assign (v := (.v (.bool false))) rfl ?_
                                    refine so_nil ?_
                                    exact by_ret rfl ⟨_, h, rfl, (Sep.del 0 (Sep.del 0 hs))⟩
                                  · refine fi_false rfl c248 ?_
                                    refine fi_skip ?_
                                    refine fi_inBlock ?_
                                    refine fi_region ?_
                                    refine so_bin rfl rfl ab_add ?_
                                    refine so_move (v := (.v (.int .i64 (IntKind.i64.wrap (x242 + (1 : Int)))))) rfl ?_
                                    refine so_nil ?_
                                    exact fi_at [(7, (.v v111)), (12, (.v (.flt .f32 (fop .quo .f32 (itof .f32 y124) (cz .f32 1082130432))))), (13, (.v v127)), (14, (.v (.int .i64 y129))), (21, (.v (.int .i64 many230))), (178, (.v (.int .i64 (y110.length : Int)))), (179, (.v (.int .i64 (IntKind.i64.wrap (x242 + (1 : Int))))))] ⟨rfl, rfl, rfl, rfl, rfl, rfl, rfl, trivial⟩ (h _ _  hs)
                                · refine fi_false rfl (decide_eq_false c243) ?_
                                  refine fi_exit rfl ?_
                                  refine fi_seq ?_
                                  refine fi_region ?_
                                  refine so_move (v := (.v (.int .i64 many230))) rfl ?_
                                  refine so_move (v := (.v (.int .i64 y129))) rfl ?_
                                  refine so_bin rfl rfl ab_eql ?_
                                  refine so_assign (v := (.v (.bool (decide (many230 = y129))))) rfl ?_
                                  refine so_nil ?_
                                  exact by_ret rfl ⟨_, h, rfl, (Sep.del 0 (Sep.del 0 hs))⟩
                  · refine so_gno rfl (not_t (decide_eq_false c217)) ?_
                    refine so_gno rfl (not_t (decide_eq_false c217)) ?_
                    refine so_pick_t (v := (.v (.bool true))) rfl (not_t (decide_eq_false c217)) rfl ?_
                    refine so_move (v := (.v (.bool true))) rfl ?_
                    refine so_gno rfl rfl ?_
                    refine so_gno rfl rfl ?_
                    refine so_gno rfl rfl ?_
                    refine so_gno rfl rfl ?_
                    refine so_pick_t (v := (.v (.bool true))) rfl rfl rfl ?_
                    refine so_move (v := (.v (.bool true))) rfl ?_
                    refine so_gno rfl rfl ?_
                    refine so_gno rfl rfl ?_
                    refine so_gno rfl rfl ?_
                    refine so_pick_t (v := (.v (.bool true))) rfl rfl rfl ?_
                    refine so_move (v := (.v (.bool true))) rfl ?_
                    refine so_gno rfl rfl ?_
                    refine so_gno rfl rfl ?_
                    refine so_gno rfl rfl ?_
                    refine so_gno rfl rfl ?_
                    refine so_gno rfl rfl ?_
                    refine so_gno rfl rfl ?_
                    refine so_gno rfl rfl ?_
                    refine so_pick_t (v := (.v (.bool true))) rfl rfl rfl ?_
                    refine so_move (v := (.v (.bool true))) rfl ?_
                    refine so_gno rfl rfl ?_
                    refine so_gno rfl rfl ?_
                    refine so_gno rfl rfl ?_
                    refine so_gno rfl rfl ?_
                    refine so_gno rfl rfl ?_
                    refine so_gno rfl rfl ?_
                    refine so_gno rfl rfl ?_
                    refine so_gno rfl rfl ?_
                    refine so_gno rfl rfl ?_
                    refine so_gno rfl rfl ?_
                    refine so_gno rfl rfl ?_
                    refine so_pick_t (v := (.v (.bool true))) rfl rfl rfl ?_
                    refine so_nil ?_
                    refine fi_true rfl rfl ?_
                    refine fi_seq ?_
                    refine fi_region ?_
                    refine so_assign (v := (.v (.bool false))) rfl ?_
                    refine so_nil ?_
                    exact by_ret rfl ⟨_, h, rfl, (Sep.dropn 6 hs)⟩
                · refine so_gno rfl (not_t (decide_eq_false c216)) ?_
                  refine so_gno rfl (not_t (decide_eq_false c216)) ?_
                  refine so_gno rfl (not_t (decide_eq_false c216)) ?_
                  refine so_gno rfl (not_t (decide_eq_false c216)) ?_
                  refine so_gno rfl (not_t (decide_eq_false c216)) ?_
                  refine so_pick_t (v := (.v (.bool true))) rfl (not_t (decide_eq_false c216)) rfl ?_
                  refine so_move (v := (.v (.bool true))) rfl ?_
                  refine so_gno rfl rfl ?_
                  refine so_gno rfl rfl ?_
                  refine so_pick_t (v := (.v (.bool true))) rfl rfl rfl ?_
                  refine so_move (v := (.v (.bool true))) rfl ?_
                  refine so_gno rfl rfl ?_
                  refine so_gno rfl rfl ?_
                  refine so_gno rfl rfl ?_
                  refine so_gno rfl rfl ?_
                  refine so_pick_t (v := (.v (.bool true))) rfl rfl rfl ?_
                  refine so_move (v := (.v (.bool true))) rfl ?_
                  refine so_gno rfl rfl ?_
                  refine so_gno rfl rfl ?_
                  refine so_gno rfl rfl ?_
                  refine so_pick_t (v := (.v (.bool true))) rfl rfl rfl ?_
                  refine so_move (v := (.v (.bool true))) rfl ?_
                  refine so_gno rfl rfl ?_
                  refine so_gno rfl rfl ?_
                  refine so_gno rfl rfl ?_
                  refine so_gno rfl rfl ?_
                  refine so_gno rfl rfl ?_
                  refine so_gno rfl rfl ?_
                  refine so_gno rfl rfl ?_
                  refine so_pick_t (v := (.v (.bool true))) rfl rfl rfl ?_
                  refine so_move (v := (.v (.bool true))) rfl ?_
                  refine so_gno rfl rfl ?_
                  refine so_gno rfl rfl ?_
                  refine so_gno rfl rfl ?_
                  refine so_gno rfl rfl ?_
                  refine so_gno rfl rfl ?_
                  refine so_gno rfl rfl ?_
                  refine so_gno rfl rfl ?_
                  refine so_gno rfl rfl ?_
                  refine so_gno rfl rfl ?_
                  refine so_gno rfl rfl ?_
                  refine so_gno rfl rfl ?_
                  refine so_pick_t (v := (.v (.bool true))) rfl rfl rfl ?_
                  refine so_nil ?_
                  refine fi_true rfl rfl ?_
                  refine fi_seq ?_
                  refine fi_region ?_
                  refine so_assign (v := (.v (.bool false))) rfl ?_
                  refine so_nil ?_
                  exact by_ret rfl ⟨_, h, rfl, (Sep.dropn 6 hs)⟩
              · refine so_gno rfl (not_t (decide_eq_false c215)) ?_
                refine so_gno rfl (not_t (decide_eq_false c215)) ?_
                refine so_gno rfl (not_t (decide_eq_false c215)) ?_
                refine so_gno rfl (not_t (decide_eq_false c215)) ?_
                refine so_gno rfl (not_t (decide_eq_false c215)) ?_
                refine so_pick_t (v := (.v (.bool true))) rfl (not_t (decide_eq_false c215)) rfl ?_
                refine so_move (v := (.v (.bool true))) rfl ?_
                refine so_gno rfl rfl ?_
                refine so_gno rfl rfl ?_
                refine so_gno rfl rfl ?_
                refine so_gno rfl rfl ?_
                refine so_gno rfl rfl ?_
                refine so_pick_t (v := (.v (.bool true))) rfl rfl rfl ?_
                refine so_move (v := (.v (.bool true))) rfl ?_
                refine so_gno rfl rfl ?_
                refine so_gno rfl rfl ?_
                refine so_pick_t (v := (.v (.bool true))) rfl rfl rfl ?_
                refine so_move (v := (.v (.bool true))) rfl ?_
                refine so_gno rfl rfl ?_
                refine so_gno rfl rfl ?_
                refine so_gno rfl rfl ?_
                refine so_gno rfl rfl ?_
                refine so_pick_t (v := (.v (.bool true))) rfl rfl rfl ?_
                refine so_move (v := (.v (.bool true))) rfl ?_
                refine so_gno rfl rfl ?_
                refine so_gno rfl rfl ?_
                refine so_gno rfl rfl ?_
                refine so_pick_t (v := (.v (.bool true))) rfl rfl rfl ?_
                refine so_move (v := (.v (.bool true))) rfl ?_
                refine so_gno rfl rfl ?_
                refine so_gno rfl rfl ?_
                refine so_gno rfl rfl ?_
                refine so_gno rfl rfl ?_
                refine so_gno rfl rfl ?_
                refine so_gno rfl rfl ?_
                refine so_gno rfl rfl ?_
                refine so_pick_t (v := (.v (.bool true))) rfl rfl rfl ?_
                refine so_move (v := (.v (.bool true))) rfl ?_
                refine so_gno rfl rfl ?_
                refine so_gno rfl rfl ?_
                refine so_gno rfl rfl ?_
                refine so_gno rfl rfl ?_
                refine so_gno rfl rfl ?_
                refine so_gno rfl rfl ?_
                refine so_gno rfl rfl ?_
                refine so_gno rfl rfl ?_
                refine so_gno rfl rfl ?_
                refine so_gno rfl rfl ?_
                refine so_gno rfl rfl ?_
                refine so_pick_t (v := (.v (.bool true))) rfl rfl rfl ?_
                refine so_nil ?_
                refine fi_true rfl rfl ?_
                refine fi_seq ?_
                refine fi_region ?_
                refine so_assign (v := (.v (.bool false))) rfl ?_
                refine so_nil ?_
                exact by_ret rfl ⟨_, h, rfl, (Sep.dropn 6 hs)⟩
            · refine so_gno rfl (not_t c214) ?_
              refine so_gno rfl (not_t c214) ?_
              refine so_gno rfl (not_t c214) ?_
              refine so_gno rfl (not_t c214) ?_
              refine so_gno rfl (not_t c214) ?_
              refine so_pick_t (v := (.v (.bool true))) rfl (not_t c214) rfl ?_
              refine so_move (v := (.v (.bool true))) rfl ?_
              refine so_gno rfl rfl ?_
              refine so_gno rfl rfl ?_
              refine so_gno rfl rfl ?_
              refine so_gno rfl rfl ?_
              refine so_gno rfl rfl ?_
              refine so_pick_t (v := (.v (.bool true))) rfl rfl rfl ?_
              refine so_move (v := (.v (.bool true))) rfl ?_
              refine so_gno rfl rfl ?_
              refine so_gno rfl rfl ?_
              refine so_gno rfl rfl ?_
              refine so_gno rfl rfl ?_
              refine so_gno rfl rfl ?_
              refine so_pick_t (v := (.v (.bool true))) rfl rfl rfl ?_
              refine so_move (v := (.v (.bool true))) rfl ?_
              refine so_gno rfl rfl ?_
              refine so_gno rfl rfl ?_
              refine so_pick_t (v := (.v (.bool true))) rfl rfl rfl ?_
              refine so_move (v := (.v (.bool true))) rfl ?_
              refine so_gno rfl rfl ?_
              refine so_gno rfl rfl ?_
              refine so_gno rfl rfl ?_
              refine so_gno rfl rfl ?_
              refine so_pick_t (v := (.v (.bool true))) rfl rfl rfl ?_
              refine so_move (v := (.v (.bool true))) rfl ?_
              refine so_gno rfl rfl ?_
              refine so_gno rfl rfl ?_
              refine so_gno rfl rfl ?_
              refine so_pick_t (v := (.v (.bool true))) rfl rfl rfl ?_
              refine so_move (v := (.v (.bool true))) rfl ?_
              refine so_gno rfl rfl ?_
              refine so_gno rfl rfl ?_
              refine so_gno rfl rfl ?_
              refine so_gno rfl rfl ?_
              refine so_gno rfl rfl ?_
              refine so_gno rfl rfl ?_
              refine so_gno rfl rfl ?_
              refine so_pick_t (v := (.v (.bool true))) rfl rfl rfl ?_
              refine so_move (v := (.v (.bool true))) rfl ?_
              refine so_gno rfl rfl ?_
              refine so_gno rfl rfl ?_
              refine so_gno rfl rfl ?_
              refine so_gno rfl rfl ?_
              refine so_gno rfl rfl ?_
              refine so_gno rfl rfl ?_
              refine so_gno rfl rfl ?_
              refine so_gno rfl rfl ?_
              refine so_gno rfl rfl ?_
              refine so_gno rfl rfl ?_
              refine so_gno rfl rfl ?_
              refine so_pick_t (v := (.v (.bool true))) rfl rfl rfl ?_
              refine so_nil ?_
              refine fi_true rfl rfl ?_
              refine fi_seq ?_
              refine fi_region ?_
              refine so_assign (v := (.v (.bool false))) rfl ?_
              refine so_nil ?_
              exact by_ret rfl ⟨_, h, rfl, (Sep.dropn 6 hs)⟩
          · refine so_gno rfl (not_t c213) ?_
            refine so_gno rfl (not_t c213) ?_
            refine so_pick_t (v := (.v (.bool true))) rfl (not_t c213) rfl ?_
            refine so_move (v := (.v (.bool true))) rfl ?_
            refine so_gno rfl rfl ?_
            refine so_gno rfl rfl ?_
            refine so_gno rfl rfl ?_
            refine so_gno rfl rfl ?_
            refine so_gno rfl rfl ?_
            refine so_pick_t (v := (.v (.bool true))) rfl rfl rfl ?_
            refine so_move (v := (.v (.bool true))) rfl ?_
            refine so_gno rfl rfl ?_
            refine so_gno rfl rfl ?_
            refine so_gno rfl rfl ?_
            refine so_gno rfl rfl ?_
            refine so_gno rfl rfl ?_
            refine so_pick_t (v := (.v (.bool true))) rfl rfl rfl ?_
            refine so_move (v := (.v (.bool true))) rfl ?_
            refine so_gno rfl rfl ?_
            refine so_gno rfl rfl ?_
            refine so_gno rfl rfl ?_
            refine so_gno rfl rfl ?_
            refine so_gno rfl rfl ?_
            refine so_pick_t (v := (.v (.bool true))) rfl rfl rfl ?_
            refine so_move (v := (.v (.bool true))) rfl ?_
            refine so_gno rfl rfl ?_
            refine so_gno rfl rfl ?_
            refine so_pick_t (v := (.v (.bool true))) rfl rfl rfl ?_
            refine so_move (v := (.v (.bool true))) rfl ?_
            refine so_gno rfl rfl ?_
            refine so_gno rfl rfl ?_
            refine so_gno rfl rfl ?_
            refine so_gno rfl rfl ?_
            refine so_pick_t (v := (.v (.bool true))) rfl rfl rfl ?_
            refine so_move (v := (.v (.bool true))) rfl ?_
            refine so_gno rfl rfl ?_
            refine so_gno rfl rfl ?_
            refine so_gno rfl rfl ?_
            refine so_pick_t (v := (.v (.bool true))) rfl rfl rfl ?_
            refine so_move (v := (.v (.bool true))) rfl ?_
            refine so_gno rfl rfl ?_
            refine so_gno rfl rfl ?_
            refine so_gno rfl rfl ?_
            refine so_gno rfl rfl ?_
            refine so_gno rfl rfl ?_
            refine so_gno rfl rfl ?_
            refine so_gno rfl rfl ?_
            refine so_pick_t (v := (.v (.bool true))) rfl rfl rfl ?_
            refine so_move (v := (.v (.bool true))) rfl ?_
            refine so_gno rfl rfl ?_
            refine so_gno rfl rfl ?_
            refine so_gno rfl rfl ?_
            refine so_gno rfl rfl ?_
            refine so_gno rfl rfl ?_
            refine so_gno rfl rfl ?_
            refine so_gno rfl rfl ?_
            refine so_gno rfl rfl ?_
            refine so_gno rfl rfl ?_
            refine so_gno rfl rfl ?_
            refine so_gno rfl rfl ?_
            refine so_pick_t (v := (.v (.bool true))) rfl rfl rfl ?_
            refine so_nil ?_
            refine fi_true rfl rfl ?_
            refine fi_seq ?_
            refine fi_region ?_
            refine so_assign (v := (.v (.bool false))) rfl ?_
            refine so_nil ?_
            exact by_ret rfl ⟨_, h, rfl, (Sep.dropn 6 hs)⟩
        · refine so_gno rfl (not_t c212) ?_
          refine so_gno rfl (not_t c212) ?_
          refine so_pick_t (v := (.v (.bool true))) rfl (not_t c212) rfl ?_
          refine so_move (v := (.v (.bool true))) rfl ?_
          refine so_gno rfl rfl ?_
          refine so_gno rfl rfl ?_
          refine so_pick_t (v := (.v (.bool true))) rfl rfl rfl ?_
          refine so_move (v := (.v (.bool true))) rfl ?_
          refine so_gno rfl rfl ?_
          refine so_gno rfl rfl ?_
          refine so_gno rfl rfl ?_
          refine so_gno rfl rfl ?_
          refine so_gno rfl rfl ?_
          refine so_pick_t (v := (.v (.bool true))) rfl rfl rfl ?_
          refine so_move (v := (.v (.bool true))) rfl ?_
          refine so_gno rfl rfl ?_
          refine so_gno rfl rfl ?_
          refine so_gno rfl rfl ?_
          refine so_gno rfl rfl ?_
          refine so_gno rfl rfl ?_
          refine so_pick_t (v := (.v (.bool true))) rfl rfl rfl ?_
          refine so_move (v := (.v (.bool true))) rfl ?_
          refine so_gno rfl rfl ?_
          refine so_gno rfl rfl ?_
          refine so_gno rfl rfl ?_
          refine so_gno rfl rfl ?_
          refine so_gno rfl rfl ?_
          refine so_pick_t (v := (.v (.bool true))) rfl rfl rfl ?_
          refine so_move (v := (.v (.bool true))) rfl ?_
          refine so_gno rfl rfl ?_
          refine so_gno rfl rfl ?_
          refine so_pick_t (v := (.v (.bool true))) rfl rfl rfl ?_
          refine so_move (v := (.v (.bool true))) rfl ?_
          refine so_gno rfl rfl ?_
          refine so_gno rfl rfl ?_
          refine so_gno rfl rfl ?_
          refine so_gno rfl rfl ?_
          refine so_pick_t (v := (.v (.bool true))) rfl rfl rfl ?_
          refine so_move (v := (.v (.bool true))) rfl ?_
          refine so_gno rfl rfl ?_
          refine so_gno rfl rfl ?_
          refine so_gno rfl rfl ?_
          refine so_pick_t (v := (.v (.bool true))) rfl rfl rfl ?_
          refine so_move (v := (.v (.bool true))) rfl ?_
          refine so_gno rfl rfl ?_
          refine so_gno rfl rfl ?_
          refine so_gno rfl rfl ?_
          refine so_gno rfl rfl ?_
          refine so_gno rfl rfl ?_
          refine so_gno rfl rfl ?_
          refine so_gno rfl rfl ?_
          refine so_pick_t (v := (.v (.bool true))) rfl rfl rfl ?_
          refine so_move (v := (.v (.bool true))) rfl ?_
          refine so_gno rfl rfl ?_
          refine so_gno rfl rfl ?_
          refine so_gno rfl rfl ?_
          refine so_gno rfl rfl ?_
          refine so_gno rfl rfl ?_
          refine so_gno rfl rfl ?_
          refine so_gno rfl rfl ?_
          refine so_gno rfl rfl ?_
          refine so_gno rfl rfl ?_
          refine so_gno rfl rfl ?_
          refine so_gno rfl rfl ?_
          refine so_pick_t (v := (.v (.bool true))) rfl rfl rfl ?_
          refine so_nil ?_
          refine fi_true rfl rfl ?_
          refine fi_seq ?_
          refine fi_region ?_
          refine so_assign (v := (.v (.bool false))) rfl ?_
          refine so_nil ?_
          exact by_ret rfl ⟨_, h, rfl, (Sep.dropn 6 hs)⟩
      · refine so_gno rfl (not_t c211) ?_
        refine so_gno rfl (not_t c211) ?_
        refine so_pick_t (v := (.v (.bool true))) rfl (not_t c211) rfl ?_
        refine so_move (v := (.v (.bool true))) rfl ?_
        refine so_gno rfl rfl ?_
        refine so_gno rfl rfl ?_
        refine so_pick_t (v := (.v (.bool true))) rfl rfl rfl ?_
        refine so_move (v := (.v (.bool true))) rfl ?_
        refine so_gno rfl rfl ?_
        refine so_gno rfl rfl ?_
        refine so_pick_t (v := (.v (.bool true))) rfl rfl rfl ?_
        refine so_move (v := (.v (.bool true))) rfl ?_
        refine so_gno rfl rfl ?_
        refine so_gno rfl rfl ?_
        refine so_gno rfl rfl ?_
        refine so_gno rfl rfl ?_
        refine so_gno rfl rfl ?_
        refine so_pick_t (v := (.v (.bool true))) rfl rfl rfl ?_
        refine so_move (v := (.v (.bool true))) rfl ?_
        refine so_gno rfl rfl ?_
        refine so_gno rfl rfl ?_
        refine so_gno rfl rfl ?_
        refine so_gno rfl rfl ?_
        refine so_gno rfl rfl ?_
        refine so_pick_t (v := (.v (.bool true))) rfl rfl rfl ?_
        refine so_move (v := (.v (.bool true))) rfl ?_
        refine so_gno rfl rfl ?_
        refine so_gno rfl rfl ?_
        refine so_gno rfl rfl ?_
        refine so_gno rfl rfl ?_
        refine so_gno rfl rfl ?_
        refine so_pick_t (v := (.v (.bool true))) rfl rfl rfl ?_
        refine so_move (v := (.v (.bool true))) rfl ?_
        refine so_gno rfl rfl ?_
        refine so_gno rfl rfl ?_
        refine so_pick_t (v := (.v (.bool true))) rfl rfl rfl ?_
        refine so_move (v := (.v (.bool true))) rfl ?_
        refine so_gno rfl rfl ?_
        refine so_gno rfl rfl ?_
        refine so_gno rfl rfl ?_
        refine so_gno rfl rfl ?_
        refine so_pick_t (v := (.v (.bool true))) rfl rfl rfl ?_
        refine so_move (v := (.v (.bool true))) rfl ?_
        refine so_gno rfl rfl ?_
        refine so_gno rfl rfl ?_
        refine so_gno rfl rfl ?_
        refine so_pick_t (v := (.v (.bool true))) rfl rfl rfl ?_
        refine so_move (v := (.v (.bool true))) rfl ?_
        refine so_gno rfl rfl ?_
        refine so_gno rfl rfl ?_
        refine so_gno rfl rfl ?_
        refine so_gno rfl rfl ?_
        refine so_gno rfl rfl ?_
        refine so_gno rfl rfl ?_
        refine so_gno rfl rfl ?_
        refine so_pick_t (v := (.v (.bool true))) rfl rfl rfl ?_
        refine so_move (v := (.v (.bool true))) rfl ?_
        refine so_gno rfl rfl ?_
        refine so_gno rfl rfl ?_
        refine so_gno rfl rfl ?_
        refine so_gno rfl rfl ?_
        refine so_gno rfl rfl ?_
        refine so_gno rfl rfl ?_
        refine so_gno rfl rfl ?_
        refine so_gno rfl rfl ?_
        refine so_gno rfl rfl ?_
        refine so_gno rfl rfl ?_
        refine so_gno rfl rfl ?_
        refine so_pick_t (v := (.v (.bool true))) rfl rfl rfl ?_
        refine so_nil ?_
        refine fi_true rfl rfl ?_
        refine fi_seq ?_
        refine fi_region ?_
        refine so_assign (v := (.v (.bool false))) rfl ?_
        refine so_nil ?_
        exact by_ret rfl ⟨_, h, rfl, (Sep.dropn 6 hs)⟩

end Go.Proofs.Ytdoamcokkcoflaa.G

