/-
  The model ends so. Printed by a program of the session; nothing here is trusted.
-/
import Derived.Test.YtecdkjnomkdbkaaDoorProg
import Derived.KernelRfl
import Derived.Test.YtecdkjnomkdbkaaDoorMStreamsWa
import Derived.Test.YtecdkjnomkdbkaaDoorShelf
namespace Go.Proofs.YtecdkjnomkdbkaaDoor.F
open Go Go.Ab Go.Proofs
set_option maxRecDepth 100000
set_option linter.unusedVariables false
set_option linter.unusedSimpArgs false
set_option maxHeartbeats 1000000
theorem hm : Tryd.prog.follows .mixedOrders = true := by kernel_rfl
def tab2 : Obj → Prop := showsTab Tryd.prog "internal/strconv.uint64pow10" .u64 Lib.pow10Tab 2
def tab6 : Obj → Prop := showsTab Tryd.prog "math/bits.deBruijn64tab" .u8 (Lib.deBruijn64tab.map Int.ofNat) 6
end Go.Proofs.YtecdkjnomkdbkaaDoor.F

namespace Go.Proofs.YtecdkjnomkdbkaaDoor.G
open Go Go.Ab Go.Proofs Go.Proofs.YtecdkjnomkdbkaaDoor
set_option maxRecDepth 100000
set_option linter.unusedVariables false
set_option linter.unusedSimpArgs false
set_option maxHeartbeats 1000000
attribute [local irreducible] wops wopf Go.Ab.Fin
theorem F10.ti29 : (telem Tryd.prog 29).isSome = true := by kernel_rfl
theorem laws_r8Long_ok {fr : List Pc} {H : Heap} (v0 : AV) (l0 : List (Int)) (v1 : AV) (l1 : List (Int)) (hs : Sep H (fr)) (g0 : ∀ H, Sep H fr → Shows H v0 1 (enc (eInt .u8) l0)) (g1 : ∀ H, Sep H fr → Shows H v1 1 (enc (eInt .u8) l1)) (K : Bool → Prop) (h : laws_r8Long.wp l0 l1 K) : OkQ Tryd.prog 10 [(.v v0), (.v v1)] H (fun r H2 => ∃ (y0 : Bool), K y0 ∧ r = (.v (.bool y0)) ∧ H = H2) := by
  unfold laws_r8Long.wp at h
  refine of_body Tryd.f10 F.hm Tryd.func10 rfl Tryd.call10 (by kernel_rfl) (by simp) ?_
  refine fi_seq ?_
  refine fi_region ?_
  refine so_assign (v := (.v (.bool false))) rfl ?_
  refine so_nil ?_
  refine fi_seq ?_
  refine fi_region ?_
  refine so_move (v := (.v v0)) rfl ?_
  refine sv_len (g0 _ hs) (fun _ => rfl) (by decide) rfl F10.ti29 ?_
  refine so_bin rfl rfl ab_gtr ?_
  refine so_move (v := (.v (.bool (decide ((48 : Int) < (l0.length : Int)))))) rfl ?_
  replace h := ofP h; rcases h with ⟨c101, h⟩ | ⟨c101, h⟩
  · refine so_gno rfl (decide_eq_true c101) ?_
    refine so_gno rfl (decide_eq_true c101) ?_
    refine so_gno rfl (decide_eq_true c101) ?_
    refine so_pick_t (v := (.v (.bool true))) rfl (decide_eq_true c101) rfl ?_
    refine so_assign (v := (.v (.bool true))) rfl ?_
    refine so_nil ?_
    exact by_ret rfl ⟨_, h, rfl, rfl⟩
  · refine so_gyes rfl (decide_eq_false c101) ?_
    refine so_move (v := (.v v1)) rfl ?_
    refine so_gyes rfl (decide_eq_false c101) ?_
    refine sv_len (g1 _ hs) (fun _ => rfl) (by decide) rfl F10.ti29 ?_
    refine so_gyes rfl (decide_eq_false c101) ?_
    refine so_bin rfl rfl ab_gtr ?_
    refine so_pick_f (v := (.v (.bool (decide ((48 : Int) < (l1.length : Int)))))) rfl (decide_eq_false c101) rfl ?_
    refine so_assign (v := (.v (.bool (decide ((48 : Int) < (l1.length : Int)))))) rfl ?_
    refine so_nil ?_
    exact by_ret rfl ⟨_, h, rfl, rfl⟩

end Go.Proofs.YtecdkjnomkdbkaaDoor.G

namespace Go.Proofs.YtecdkjnomkdbkaaDoor.G
open Go Go.Ab Go.Proofs Go.Proofs.YtecdkjnomkdbkaaDoor
set_option maxRecDepth 100000
set_option linter.unusedVariables false
set_option linter.unusedSimpArgs false
set_option maxHeartbeats 1000000
attribute [local irreducible] wops wopf Go.Ab.Fin
theorem F35.bp90 : bplan Tryd.prog 90 = some ([.nilsl, (.int .i64 (0 : Int)), (.int .u64 (0 : Int))], [(0, 1), (1, 1), (2, 1)]) := by kernel_rfl
theorem F35.inf90 : (Tryd.prog.info? 90).isSome = true := by kernel_rfl
theorem spec_l00From_ok {fr : List Pc} {H : Heap} (v0 : AV) (l0 : List (Int)) (hs : Sep H (fr)) (g0 : ∀ H, Sep H fr → Shows H v0 1 (enc (eInt .u8) l0)) (K : Bool → Int → Int → Prop) (h : spec_l00From.wp l0 K) : OkQ Tryd.prog 35 [(.v v0)] H (fun r H2 => ∃ (y0 : Bool) (y1 : Int) (y2 : Int), K y0 y1 y2 ∧ ∃ (w0_ : Nat), r = (.v (.ptr w0_ 0)) ∧ Sep H2 (Pc.box w0_ [(bif y0 then v0 else .nilsl), (.int .i64 y1), (.int .u64 y2)] :: fr)) := by
  unfold spec_l00From.wp at h
  refine of_body Tryd.f35 F.hm Tryd.func35 rfl Tryd.call35 (by kernel_rfl) (by simp) ?_
  refine fi_seq ?_
  refine fi_region ?_
  refine so_assign (v := (.v .nilptr)) rfl ?_
  refine so_nil ?_
  refine fi_seq ?_
  refine fi_region ?_
  refine so_move (v := (.v v0)) rfl ?_
  refine so_build F35.bp90 (cps := [(0, [v0])]) rfl (fac (stc (g0 _ hs).stor stn) fan) rfl ?_
  refine sv_box hs rfl (c := [v0, (.int .i64 (0 : Int)), (.int .u64 (0 : Int))]) rfl F35.inf90 (stc (g0 _ hs).stor (stc rfl (stc rfl stn))) nofun (fun id101 H102 hs => ?_)
  refine so_assign (v := (.v (.ptr id101 0))) rfl ?_
  refine so_nil ?_
  exact by_ret rfl ⟨_, _, _, h, _, rfl, hs⟩

end Go.Proofs.YtecdkjnomkdbkaaDoor.G

namespace Go.Proofs.YtecdkjnomkdbkaaDoor.G
open Go Go.Ab Go.Proofs Go.Proofs.YtecdkjnomkdbkaaDoor
set_option maxRecDepth 100000
set_option linter.unusedVariables false
set_option linter.unusedSimpArgs false
set_option maxHeartbeats 1000000
attribute [local irreducible] wops wopf Go.Ab.Fin
theorem F53.ag29 : tagg Tryd.prog 29 = some false := by kernel_rfl
theorem F53.ag3 : tagg Tryd.prog 3 = some false := by kernel_rfl
theorem F53.ag5 : tagg Tryd.prog 5 = some false := by kernel_rfl
theorem F53.ag88 : tagg Tryd.prog 88 = some false := by kernel_rfl
theorem F53.fd90_0 : tfield Tryd.prog 90 0 = some (0, 1, false) := by kernel_rfl
theorem F53.fd90_1 : tfield Tryd.prog 90 1 = some (1, 1, false) := by kernel_rfl
theorem F53.fd90_2 : tfield Tryd.prog 90 2 = some (2, 1, false) := by kernel_rfl
theorem F53.it2 : tint Tryd.prog 2 = some .i64 := by kernel_rfl
theorem F53.it3 : tint Tryd.prog 3 = some .i64 := by kernel_rfl
theorem F53.it88 : tint Tryd.prog 88 = some .u64 := by kernel_rfl
theorem F53.sz3 : tsz Tryd.prog 3 = some 1 := by kernel_rfl
theorem F53.sz88 : tsz Tryd.prog 88 = some 1 := by kernel_rfl
theorem F53.ti29 : (telem Tryd.prog 29).isSome = true := by kernel_rfl
theorem F53.tl29 : (telem Tryd.prog 29).bind (tsz Tryd.prog) = some 1 := by kernel_rfl
theorem F53.us3 : (Tryd.prog.underlying 3).isSome = true := by kernel_rfl
theorem F53.us5 : (Tryd.prog.underlying 5).isSome = true := by kernel_rfl
theorem F53.us88 : (Tryd.prog.underlying 88).isSome = true := by kernel_rfl
theorem spec_l00Src_next_ok {fr : List Pc} {H : Heap} (i0 : Nat) (v0 : AV) (l0 : List (Int)) (a1 : Int) (a2 : Int) (hs : Sep H (Pc.box i0 [v0, (.int .i64 a1), (.int .u64 a2)] :: fr)) (g0 : ∀ H, Sep H fr → Shows H v0 1 (enc (eInt .u8) l0)) (K : Int → Int → Int → Prop) (h : spec_l00Src_next.wp l0 a1 a2 K) : OkQ Tryd.prog 53 [(.v (.ptr i0 0))] H (fun r H2 => ∃ (y0 : Int) (y1 : Int) (y2 : Int), K y0 y1 y2 ∧ r = (.v (.int .i64 y0)) ∧ Sep H2 (Pc.box i0 [v0, (.int .i64 y1), (.int .u64 y2)] :: fr)) := by
  unfold spec_l00Src_next.wp at h
  refine of_body Tryd.f53 F.hm Tryd.func53 rfl Tryd.call53 (by kernel_rfl) (by simp) ?_
  refine fi_seq ?_
  refine fi_region ?_
  refine so_assign (v := (.v (.int .i64 (0 : Int)))) rfl ?_
  refine so_nil ?_
  refine fi_seq ?_
  refine fi_region ?_
  refine so_assign (v := (.v (.int .i64 (0 : Int)))) rfl ?_
  refine so_nil ?_
  refine fi_seq ?_
  refine fi_seq ?_
  refine fi_region ?_
  refine so_move (v := (.v (.ptr i0 0))) rfl ?_
  refine so_nilCheck rfl ?_
  refine so_fieldAddr rfl F53.fd90_1 ?_
  refine sv_ld hs 0 rfl rfl rfl F53.ag3 ?_
  refine so_move (v := (.v (.ptr i0 0))) rfl ?_
  refine so_nilCheck rfl ?_
  refine so_fieldAddr rfl F53.fd90_0 ?_
  refine sv_ld hs 0 rfl rfl rfl F53.ag29 ?_
  refine sv_len (g0 _ hs.tl) (fun _ => rfl) (by decide) rfl F53.ti29 ?_
  refine so_bin rfl rfl ab_lss ?_
  refine so_nil ?_
  replace h := ofP h; rcases h with ⟨c102, h⟩ | ⟨c102, h⟩
  · refine fi_true rfl (decide_eq_true c102) ?_
    refine fi_region ?_
    refine so_move (v := (.v (.ptr i0 0))) rfl ?_
    refine so_nilCheck rfl ?_
    refine so_fieldAddr rfl F53.fd90_0 ?_
    refine sv_ld hs 0 rfl rfl rfl F53.ag29 ?_
    refine so_move (v := (.v (.ptr i0 0))) rfl ?_
    refine so_nilCheck rfl ?_
    refine so_fieldAddr rfl F53.fd90_1 ?_
    refine sv_ld hs 0 rfl rfl rfl F53.ag3 ?_
    obtain ⟨c103, h⟩ := h
    refine sv_idx (g0 _ hs.tl) c103 (fun _ => rfl) (by decide) rfl rfl F53.tl29 ?_
    refine sv_cell (g0 _ hs.tl) c103 (0 : Int) 0 (fun x => (AV.int .u8 x)) (fun _ => rfl) (fun _ => rfl) rfl F53.ag5 ?_
    refine sv_ii rfl F53.us5 F53.it3 ?_
    refine so_assign (v := (.v (.int .i64 (IntKind.i64.wrap (l0.getD (a1).toNat (0 : Int)))))) rfl ?_
    refine so_nil ?_
    refine fi_seq ?_
    refine fi_region ?_
    refine so_move (v := (.v (.ptr i0 0))) rfl ?_
    refine so_nilCheck rfl ?_
    refine so_fieldAddr rfl F53.fd90_1 ?_
    refine sv_ld hs 0 rfl rfl rfl F53.ag3 ?_
    refine so_bin rfl rfl ab_add ?_
    refine so_nilCheck rfl ?_
    refine so_fieldAddr rfl F53.fd90_1 ?_
    refine sv_st hs 0 rfl rfl rfl (c := [(.int .i64 (IntKind.i64.wrap (a1 + (1 : Int))))]) rfl F53.sz3 rfl (stc rfl stn) (leb rfl) (cs' := [v0, (.int .i64 (IntKind.i64.wrap (a1 + (1 : Int)))), (.int .u64 a2)]) rfl nofun (fun H104 hs => ?_)
    refine so_nil ?_
    refine fi_seq ?_
    refine fi_region ?_
    refine so_move (v := (.v (.ptr i0 0))) rfl ?_
    refine so_move (v := (.v (.ptr i0 0))) rfl ?_
    refine so_nilCheck rfl ?_
    refine so_fieldAddr rfl F53.fd90_2 ?_
    refine sv_ld hs 0 rfl rfl rfl F53.ag88 ?_
    refine so_bin rfl rfl ab_mul ?_
    refine so_move (v := (.v (.int .i64 (IntKind.i64.wrap (l0.getD (a1).toNat (0 : Int)))))) rfl ?_
    refine sv_ii rfl F53.us3 F53.it88 ?_
    refine so_bin rfl rfl ab_add ?_
    refine so_bin rfl rfl ab_add ?_
    refine so_nilCheck rfl ?_
    refine so_fieldAddr rfl F53.fd90_2 ?_
    refine sv_st hs 0 rfl rfl rfl (c := [(.int .u64 (IntKind.u64.wrap ((IntKind.u64.wrap ((IntKind.u64.wrap (a2 * (6364136223846793005 : Int))) + (IntKind.u64.wrap (IntKind.i64.wrap (l0.getD (a1).toNat (0 : Int)))))) + (1442695040888963407 : Int))))]) rfl F53.sz88 rfl (stc rfl stn) (leb rfl) (cs' := [v0, (.int .i64 (IntKind.i64.wrap (a1 + (1 : Int)))), (.int .u64 (IntKind.u64.wrap ((IntKind.u64.wrap ((IntKind.u64.wrap (a2 * (6364136223846793005 : Int))) + (IntKind.u64.wrap (IntKind.i64.wrap (l0.getD (a1).toNat (0 : Int)))))) + (1442695040888963407 : Int))))]) rfl nofun (fun H105 hs => ?_)
    refine so_nil ?_
    refine fi_seq ?_
    refine fi_seq ?_
    refine fi_region ?_
    refine so_move (v := (.v (.ptr i0 0))) rfl ?_
    refine so_nilCheck rfl ?_
    refine so_fieldAddr rfl F53.fd90_1 ?_
    refine sv_ld hs 0 rfl rfl rfl F53.ag3 ?_
    refine so_move (v := (.v (.ptr i0 0))) rfl ?_
    refine so_nilCheck rfl ?_
    refine so_fieldAddr rfl F53.fd90_0 ?_
    refine sv_ld hs 0 rfl rfl rfl F53.ag29 ?_
    refine sv_len (g0 _ hs.tl) (fun _ => rfl) (by decide) rfl F53.ti29 ?_
    refine so_bin rfl rfl ab_leq ?_
    refine so_nil ?_
    replace h := ofP h; rcases h with ⟨c106, h⟩ | ⟨c106, h⟩
    · refine fi_true rfl (decide_eq_true c106) ?_
      refine fi_seq ?_
      refine fi_region ?_
      refine so_move (v := (.v (.int .i64 (IntKind.i64.wrap (l0.getD (a1).toNat (0 : Int)))))) rfl ?_
      refine so_assign (v := (.v (.int .i64 (IntKind.i64.wrap (l0.getD (a1).toNat (0 : Int)))))) rfl ?_
      refine so_nil ?_
      exact by_ret rfl ⟨_, _, _, h, rfl, hs⟩
    · refine fi_false rfl (decide_eq_false c106) ?_
      refine fi_skip ?_
      refine fi_seq ?_
      refine fi_region ?_
      refine so_move (v := (.v (.ptr i0 0))) rfl ?_
      refine so_nilCheck rfl ?_
      refine so_fieldAddr rfl F53.fd90_2 ?_
      refine sv_ld hs 0 rfl rfl rfl F53.ag88 ?_
      refine so_bin rfl rfl (ab_shr (by decide)) ?_
      refine so_bin rfl rfl ab_and ?_
      refine sv_ii rfl F53.us88 F53.it2 ?_
      refine so_assign (v := (.v (.int .i64 (IntKind.i64.wrap (ibits .and .u64 (Int.fdiv (IntKind.u64.wrap ((IntKind.u64.wrap ((IntKind.u64.wrap (a2 * (6364136223846793005 : Int))) + (IntKind.u64.wrap (IntKind.i64.wrap (l0.getD (a1).toNat (0 : Int)))))) + (1442695040888963407 : Int))) (2 ^ (min ((40 : Int)).toNat IntKind.u64.bits))) (255 : Int)))))) rfl ?_
      refine so_nil ?_
      exact by_ret rfl ⟨_, _, _, h, rfl, hs⟩
  · refine fi_false rfl (decide_eq_false c102) ?_
    refine fi_skip ?_
    refine fi_seq ?_
    refine fi_region ?_
    refine so_move (v := (.v (.ptr i0 0))) rfl ?_
    refine so_nilCheck rfl ?_
    refine so_fieldAddr rfl F53.fd90_1 ?_
    refine sv_ld hs 0 rfl rfl rfl F53.ag3 ?_
    refine so_bin rfl rfl ab_add ?_
    refine so_nilCheck rfl ?_
    refine so_fieldAddr rfl F53.fd90_1 ?_
    refine sv_st hs 0 rfl rfl rfl (c := [(.int .i64 (IntKind.i64.wrap (a1 + (1 : Int))))]) rfl F53.sz3 rfl (stc rfl stn) (leb rfl) (cs' := [v0, (.int .i64 (IntKind.i64.wrap (a1 + (1 : Int)))), (.int .u64 a2)]) rfl nofun (fun H107 hs => ?_)
    refine so_nil ?_
    refine fi_seq ?_
    refine fi_region ?_
    refine so_move (v := (.v (.ptr i0 0))) rfl ?_
    refine so_move (v := (.v (.ptr i0 0))) rfl ?_
    refine so_nilCheck rfl ?_
    refine so_fieldAddr rfl F53.fd90_2 ?_
    refine sv_ld hs 0 rfl rfl rfl F53.ag88 ?_
    refine so_bin rfl rfl ab_mul ?_
    refine so_move (v := (.v (.int .i64 (0 : Int)))) rfl ?_
    refine sv_ii rfl F53.us3 F53.it88 ?_
    refine so_bin rfl rfl ab_add ?_
    refine so_bin rfl rfl ab_add ?_
    refine so_nilCheck rfl ?_
    refine so_fieldAddr rfl F53.fd90_2 ?_
    refine sv_st hs 0 rfl rfl rfl (c := [(.int .u64 (IntKind.u64.wrap ((IntKind.u64.wrap ((IntKind.u64.wrap (a2 * (6364136223846793005 : Int))) + (IntKind.u64.wrap (0 : Int)))) + (1442695040888963407 : Int))))]) rfl F53.sz88 rfl (stc rfl stn) (leb rfl) (cs' := [v0, (.int .i64 (IntKind.i64.wrap (a1 + (1 : Int)))), (.int .u64 (IntKind.u64.wrap ((IntKind.u64.wrap ((IntKind.u64.wrap (a2 * (6364136223846793005 : Int))) + (IntKind.u64.wrap (0 : Int)))) + (1442695040888963407 : Int))))]) rfl nofun (fun H108 hs => ?_)
    refine so_nil ?_
    refine fi_seq ?_
    refine fi_seq ?_
    refine fi_region ?_
    refine so_move (v := (.v (.ptr i0 0))) rfl ?_
    refine so_nilCheck rfl ?_
    refine so_fieldAddr rfl F53.fd90_1 ?_
    refine sv_ld hs 0 rfl rfl rfl F53.ag3 ?_
    refine so_move (v := (.v (.ptr i0 0))) rfl ?_
    refine so_nilCheck rfl ?_
    refine so_fieldAddr rfl F53.fd90_0 ?_
    refine sv_ld hs 0 rfl rfl rfl F53.ag29 ?_
    refine sv_len (g0 _ hs.tl) (fun _ => rfl) (by decide) rfl F53.ti29 ?_
    refine so_bin rfl rfl ab_leq ?_
    refine so_nil ?_
    replace h := ofP h; rcases h with ⟨c109, h⟩ | ⟨c109, h⟩
    · refine fi_true rfl (decide_eq_true c109) ?_
      refine fi_seq ?_
      refine fi_region ?_
      refine so_move (v := (.v (.int .i64 (0 : Int)))) rfl ?_
      refine so_assign (v := (.v (.int .i64 (0 : Int)))) rfl ?_
      refine so_nil ?_
      exact by_ret rfl ⟨_, _, _, h, rfl, hs⟩
    · refine fi_false rfl (decide_eq_false c109) ?_
      refine fi_skip ?_
      refine fi_seq ?_
      refine fi_region ?_
      refine so_move (v := (.v (.ptr i0 0))) rfl ?_
      refine so_nilCheck rfl ?_
      refine so_fieldAddr rfl F53.fd90_2 ?_
      refine sv_ld hs 0 rfl rfl rfl F53.ag88 ?_
      refine so_bin rfl rfl (ab_shr (by decide)) ?_
      refine so_bin rfl rfl ab_and ?_
      refine sv_ii rfl F53.us88 F53.it2 ?_
      refine so_assign (v := (.v (.int .i64 (IntKind.i64.wrap (ibits .and .u64 (Int.fdiv (IntKind.u64.wrap ((IntKind.u64.wrap ((IntKind.u64.wrap (a2 * (6364136223846793005 : Int))) + (IntKind.u64.wrap (0 : Int)))) + (1442695040888963407 : Int))) (2 ^ (min ((40 : Int)).toNat IntKind.u64.bits))) (255 : Int)))))) rfl ?_
      refine so_nil ?_
      exact by_ret rfl ⟨_, _, _, h, rfl, hs⟩

end Go.Proofs.YtecdkjnomkdbkaaDoor.G

namespace Go.Proofs.YtecdkjnomkdbkaaDoor.G
open Go Go.Ab Go.Proofs Go.Proofs.YtecdkjnomkdbkaaDoor
set_option maxRecDepth 100000
set_option linter.unusedVariables false
set_option linter.unusedSimpArgs false
set_option maxHeartbeats 1000000
attribute [local irreducible] wops wopf Go.Ab.Fin
theorem spec_l00Src_pick_ok {fr : List Pc} {H : Heap} (i0 : Nat) (v0 : AV) (l0 : List (Int)) (a1 : Int) (a2 : Int) (a3 : Int) (hs : Sep H (Pc.box i0 [v0, (.int .i64 a1), (.int .u64 a2)] :: fr)) (g0 : ∀ H, Sep H fr → Shows H v0 1 (enc (eInt .u8) l0)) (K : Int → Int → Int → Prop) (h : spec_l00Src_pick.wp l0 a1 a2 a3 K) : OkQ Tryd.prog 36 [(.v (.ptr i0 0)), (.v (.int .i64 a3))] H (fun r H2 => ∃ (y0 : Int) (y1 : Int) (y2 : Int), K y0 y1 y2 ∧ r = (.v (.int .i64 y0)) ∧ Sep H2 (Pc.box i0 [v0, (.int .i64 y1), (.int .u64 y2)] :: fr)) := by
  unfold spec_l00Src_pick.wp at h
  refine of_body Tryd.f36 F.hm Tryd.func36 rfl Tryd.call36 (by kernel_rfl) (by simp) ?_
  refine fi_seq ?_
  refine fi_region ?_
  refine so_assign (v := (.v (.int .i64 (0 : Int)))) rfl ?_
  refine so_nil ?_
  refine fi_seq ?_
  refine fi_seq ?_
  refine fi_region ?_
  refine so_move (v := (.v (.int .i64 a3))) rfl ?_
  refine so_bin rfl rfl ab_leq ?_
  refine so_nil ?_
  replace h := ofP h; rcases h with ⟨c102, h⟩ | ⟨c102, h⟩
  · refine fi_true rfl (decide_eq_true c102) ?_
    refine fi_seq ?_
    refine fi_region ?_
    refine so_assign (v := (.v (.int .i64 (0 : Int)))) rfl ?_
    refine so_nil ?_
    exact by_ret rfl ⟨_, _, _, h, rfl, hs⟩
  · refine fi_false rfl (decide_eq_false c102) ?_
    refine fi_skip ?_
    refine fi_seq ?_
    refine fi_region ?_
    refine so_move (v := (.v (.ptr i0 0))) rfl ?_
    refine sv_call (spec_l00Src_next_ok i0 v0 l0 a1 a2 hs (fun _ hs => (g0 _ hs)) _ h) rfl rfl nofun ?_
    clear h hs
    rintro _ H106 ⟨y103, y104, y105, h, rfl, hs⟩
    refine so_assign (v := (.v (.int .i64 y103))) rfl ?_
    refine so_nil ?_
    refine fi_seq ?_
    refine fi_seq ?_
    refine fi_region ?_
    refine so_move (v := (.v (.int .i64 a3))) rfl ?_
    refine so_bin rfl rfl ab_gtr ?_
    refine so_nil ?_
    replace h := ofP h; rcases h with ⟨c107, h⟩ | ⟨c107, h⟩
    · refine fi_true rfl (decide_eq_true c107) ?_
      refine fi_region ?_
      refine so_move (v := (.v (.int .i64 y103))) rfl ?_
      refine so_bin rfl rfl ab_mul ?_
      refine so_move (v := (.v (.ptr i0 0))) rfl ?_
      refine sv_call (spec_l00Src_next_ok i0 v0 l0 y104 y105 hs (fun _ hs => (g0 _ hs)) _ h) rfl rfl nofun ?_
      clear h hs
      rintro _ H111 ⟨y108, y109, y110, h, rfl, hs⟩
      refine so_bin rfl rfl ab_add ?_
      refine so_assign (v := (.v (.int .i64 (IntKind.i64.wrap ((IntKind.i64.wrap (y103 * (256 : Int))) + y108))))) rfl ?_
      refine so_nil ?_
      refine fi_seq ?_
      refine fi_region ?_
      refine so_move (v := (.v (.int .i64 (IntKind.i64.wrap ((IntKind.i64.wrap (y103 * (256 : Int))) + y108))))) rfl ?_
      refine so_move (v := (.v (.int .i64 a3))) rfl ?_
      obtain ⟨c112, h⟩ := h
      refine so_bin rfl rfl (ab_rem c112) ?_
      refine so_assign (v := (.v (.int .i64 (Int.tmod (IntKind.i64.wrap ((IntKind.i64.wrap (y103 * (256 : Int))) + y108)) a3)))) rfl ?_
      refine so_nil ?_
      exact by_ret rfl ⟨_, _, _, h, rfl, hs⟩
    · refine fi_false rfl (decide_eq_false c107) ?_
      refine fi_skip ?_
      refine fi_seq ?_
      refine fi_region ?_
      refine so_move (v := (.v (.int .i64 y103))) rfl ?_
      refine so_move (v := (.v (.int .i64 a3))) rfl ?_
      obtain ⟨c113, h⟩ := h
      refine so_bin rfl rfl (ab_rem c113) ?_
      refine so_assign (v := (.v (.int .i64 (Int.tmod y103 a3)))) rfl ?_
      refine so_nil ?_
      exact by_ret rfl ⟨_, _, _, h, rfl, hs⟩

end Go.Proofs.YtecdkjnomkdbkaaDoor.G

namespace Go.Proofs.YtecdkjnomkdbkaaDoor.G
open Go Go.Ab Go.Proofs Go.Proofs.YtecdkjnomkdbkaaDoor
set_option maxRecDepth 100000
set_option linter.unusedVariables false
set_option linter.unusedSimpArgs false
set_option maxHeartbeats 1000000
attribute [local irreducible] wops wopf Go.Ab.Fin
theorem F11.sz2 : tsz Tryd.prog 2 = some 1 := by kernel_rfl
theorem F11.ta31_31 : tapp Tryd.prog 31 31 = some (1, 8) := by kernel_rfl
theorem F11.te31 : telem Tryd.prog 31 = some 2 := by kernel_rfl
theorem F11.ze2 : tzero Tryd.prog 2 = some [(.int .i64 (0 : Int))] := by kernel_rfl
theorem spec_R8Integers_ok {fr : List Pc} {H : Heap} (v0 : AV) (l0 : List (Int)) (hs : Sep H (fr)) (g0 : ∀ H, Sep H fr → Shows H v0 1 (enc (eInt .u8) l0)) (K : (List (Int)) → Prop) (h : spec_R8Integers.wp l0 K) : OkQ Tryd.prog 11 [(.v v0)] H (fun r H2 => ∃ (y0 : List (Int)), K y0 ∧ ∃ (w0_ : AV), r = (.v w0_) ∧ Sep H2 (Pc.osl w0_ 1 (enc (eInt .i64) y0) :: fr)) := by
  unfold spec_R8Integers.wp at h
  refine of_body Tryd.f11 F.hm Tryd.func11 rfl Tryd.call11 (by kernel_rfl) (by simp) ?_
  refine fi_seq ?_
  refine fi_region ?_
  refine so_assign (v := (.v .nilsl)) rfl ?_
  refine so_nil ?_
  refine fi_seq ?_
  refine fi_region ?_
  refine so_move (v := (.v v0)) rfl ?_
  refine sv_call (spec_l00From_ok v0 l0 hs (fun _ hs => (g0 _ hs)) _ h) rfl rfl nofun ?_
  clear h hs
  rintro _ H106 ⟨y101, y102, y103, h, i104, rfl, hs⟩
  replace h := ofT h; rcases h with ⟨c107, h⟩ | ⟨c107, h⟩
  · subst c107
    refine so_assign (v := (.v (.ptr i104 0))) rfl ?_
    refine so_nil ?_
    refine fi_seq ?_
    refine fi_region ?_
    refine sv_bslice hs (eInt .i64) ([] : List (Int)) [] F11.te31 F11.sz2 F11.ze2 rfl rfl rfl rfl (fun _ => rfl) rfl (by decide) nofun (fun v108 H109 nv108 hs => ?_)
    refine so_assign (v := (.v v108)) rfl ?_
    refine so_nil ?_
    refine fi_seq ?_
    refine fi_seq ?_
    refine fi_region ?_
    refine so_move (v := (.v (.ptr i104 0))) rfl ?_
    replace hs := (Sep.front 1 hs rfl)
    refine sv_call (spec_l00Src_pick_ok i104 v0 l0 y102 y103 (16 : Int) hs (fun _ hs => (g0 _ hs.tl)) _ h) rfl rfl nofun ?_
    clear h hs
    rintro _ H114 ⟨y111, y112, y113, h, rfl, hs⟩
    refine so_bin rfl rfl ab_add ?_
    refine so_assign (v := (.v (.int .i64 (IntKind.i64.wrap ((1 : Int) + y111))))) rfl ?_
    refine so_nil ?_
    refine fi_block ?_
    refine fi_loop ?_
    refine fi_at [(3, (.v (.ptr i104 0))), (4, (.v v108)), (5, (.v (.int .i64 (IntKind.i64.wrap ((1 : Int) + y111)))))] ⟨rfl, rfl, rfl, trivial⟩ ?_
    refine h (fun (out131 : List (Int)) (b133 : Int) (b134 : Int) (n135 : Int) => ∀ (s : Nat → TV) (H : Heap) (v132 : AV) (nv132 : v132 ≠ .nilsl), Sep H (Pc.box i104 [v0, (.int .i64 b133), (.int .u64 b134)] :: Pc.osl v132 1 (enc (eInt .i64) out131) :: fr) → Fin _ _ (updL s [(3, (.v (.ptr i104 0))), (4, (.v v132)), (5, (.v (.int .i64 n135)))]) H _) ?_ _ _ _ nv108 hs
    intro out131 b133 b134 n135 h s147 H148 v132 nv132 hs
    refine fi_inLoop ?_
    refine fi_seq ?_
    refine fi_seq ?_
    refine fi_region ?_
    refine so_move (v := (.v (.int .i64 n135))) rfl ?_
    refine so_bin rfl rfl ab_gtr ?_
    refine so_nil ?_
    replace h := ofP h; rcases h with ⟨c136, h⟩ | ⟨c136, h⟩
    · refine fi_true rfl (decide_eq_true c136) ?_
      refine fi_skip ?_
      refine fi_seq ?_
      refine fi_block ?_
      refine fi_region ?_
      refine so_move (v := (.v v132)) rfl ?_
      refine so_move (v := (.v (.ptr i104 0))) rfl ?_
      refine sv_call (spec_l00Src_pick_ok i104 v0 l0 b133 b134 (201 : Int) hs (fun _ hs => (g0 _ hs.tl)) _ h) rfl rfl nofun ?_
      clear h hs
      rintro _ H140 ⟨y137, y138, y139, h, rfl, hs⟩
      refine so_bin rfl rfl ab_sub ?_
      refine sv_bslice hs (eInt .i64) ([(IntKind.i64.wrap (y137 - (100 : Int)))] : List (Int)) [[(.int .i64 (IntKind.i64.wrap (y137 - (100 : Int))))]] F11.te31 F11.sz2 F11.ze2 rfl rfl rfl rfl (fun _ => rfl) rfl (by decide) nofun (fun v141 H142 nv141 hs => ?_)
      obtain ⟨c146, h⟩ := h
      refine sv_app hs 2 rfl (hs.shows 0 rfl) (fun _ => rfl) (by decide) F11.ta31_31 (by decide) c146 rfl rfl nofun (fun v144 H145 kv144 hs => ?_)
      replace hs := hs.del 0
      have nv144 := kv144 nv132
      refine so_assign (v := (.v v144)) rfl ?_
      refine so_nil ?_
      refine fi_inBlock ?_
      refine fi_region ?_
      refine so_move (v := (.v (.int .i64 n135))) rfl ?_
      refine so_bin rfl rfl ab_sub ?_
      refine so_assign (v := (.v (.int .i64 (IntKind.i64.wrap (n135 - (1 : Int)))))) rfl ?_
      refine so_nil ?_
      exact fi_at [(3, (.v (.ptr i104 0))), (4, (.v v144)), (5, (.v (.int .i64 (IntKind.i64.wrap (n135 - (1 : Int))))))] ⟨rfl, rfl, rfl, trivial⟩ (h _ _ _ nv144 hs)
    · refine fi_false rfl (decide_eq_false c136) ?_
      refine fi_exit rfl ?_
      refine fi_seq ?_
      refine fi_region ?_
      refine so_move (v := (.v v132)) rfl ?_
      refine so_assign (v := (.v v132)) rfl ?_
      refine so_nil ?_
      exact by_ret rfl ⟨_, h, _, rfl, (Sep.del 0 hs)⟩
  · subst c107
    refine so_assign (v := (.v (.ptr i104 0))) rfl ?_
    refine so_nil ?_
    refine fi_seq ?_
    refine fi_region ?_
    refine sv_bslice hs (eInt .i64) ([] : List (Int)) [] F11.te31 F11.sz2 F11.ze2 rfl rfl rfl rfl (fun _ => rfl) rfl (by decide) nofun (fun v149 H150 nv149 hs => ?_)
    refine so_assign (v := (.v v149)) rfl ?_
    refine so_nil ?_
    refine fi_seq ?_
    refine fi_seq ?_
    refine fi_region ?_
    refine so_move (v := (.v (.ptr i104 0))) rfl ?_
    replace hs := (Sep.front 1 hs rfl)
    refine sv_call (spec_l00Src_pick_ok i104 .nilsl ([] : List (Int)) y102 y103 (16 : Int) hs (fun _ hs => (.inl ⟨rfl, rfl⟩ : Shows _ .nilsl 1 (enc (eInt .u8) []))) _ h) rfl rfl nofun ?_
    clear h hs
    rintro _ H155 ⟨y152, y153, y154, h, rfl, hs⟩
    refine so_bin rfl rfl ab_add ?_
    refine so_assign (v := (.v (.int .i64 (IntKind.i64.wrap ((1 : Int) + y152))))) rfl ?_
    refine so_nil ?_
    refine fi_block ?_
    refine fi_loop ?_
    replace hs := hs.nil 1
    refine fi_at [(3, (.v (.ptr i104 0))), (4, (.v v149)), (5, (.v (.int .i64 (IntKind.i64.wrap ((1 : Int) + y152)))))] ⟨rfl, rfl, rfl, trivial⟩ ?_
    refine h (fun (out172 : List (Int)) (b175 : List (Int)) (b177 : Int) (b178 : Int) (n179 : Int) => ∀ (s : Nat → TV) (H : Heap) (v173 : AV) (nv173 : v173 ≠ .nilsl) (v176 : AV), Sep H (Pc.osl v176 1 (enc (eInt .u8) b175) :: Pc.box i104 [v176, (.int .i64 b177), (.int .u64 b178)] :: Pc.osl v173 1 (enc (eInt .i64) out172) :: fr) → Fin _ _ (updL s [(3, (.v (.ptr i104 0))), (4, (.v v173)), (5, (.v (.int .i64 n179)))]) H _) ?_ _ _ _ nv149 _ hs
    intro out172 b175 b177 b178 n179 h s191 H192 v173 nv173 v176 hs
    refine fi_inLoop ?_
    refine fi_seq ?_
    refine fi_seq ?_
    refine fi_region ?_
    refine so_move (v := (.v (.int .i64 n179))) rfl ?_
    refine so_bin rfl rfl ab_gtr ?_
    refine so_nil ?_
    replace h := ofP h; rcases h with ⟨c180, h⟩ | ⟨c180, h⟩
    · refine fi_true rfl (decide_eq_true c180) ?_
      refine fi_skip ?_
      refine fi_seq ?_
      refine fi_block ?_
      refine fi_region ?_
      refine so_move (v := (.v v173)) rfl ?_
      refine so_move (v := (.v (.ptr i104 0))) rfl ?_
      replace hs := (Sep.front 1 hs rfl)
      refine sv_call (spec_l00Src_pick_ok i104 v176 b175 b177 b178 (201 : Int) hs (fun _ hs => (hs.shows 0 rfl)) _ h) rfl rfl nofun ?_
      clear h hs
      rintro _ H184 ⟨y181, y182, y183, h, rfl, hs⟩
      refine so_bin rfl rfl ab_sub ?_
      refine sv_bslice hs (eInt .i64) ([(IntKind.i64.wrap (y181 - (100 : Int)))] : List (Int)) [[(.int .i64 (IntKind.i64.wrap (y181 - (100 : Int))))]] F11.te31 F11.sz2 F11.ze2 rfl rfl rfl rfl (fun _ => rfl) rfl (by decide) nofun (fun v185 H186 nv185 hs => ?_)
      obtain ⟨c190, h⟩ := h
      refine sv_app hs 3 rfl (hs.shows 0 rfl) (fun _ => rfl) (by decide) F11.ta31_31 (by decide) c190 rfl rfl nofun (fun v188 H189 kv188 hs => ?_)
      replace hs := hs.del 0
      have nv188 := kv188 nv173
      refine so_assign (v := (.v v188)) rfl ?_
      refine so_nil ?_
      refine fi_inBlock ?_
      refine fi_region ?_
      refine so_move (v := (.v (.int .i64 n179))) rfl ?_
      refine so_bin rfl rfl ab_sub ?_
      refine so_assign (v := (.v (.int .i64 (IntKind.i64.wrap (n179 - (1 : Int)))))) rfl ?_
      refine so_nil ?_
      exact fi_at [(3, (.v (.ptr i104 0))), (4, (.v v188)), (5, (.v (.int .i64 (IntKind.i64.wrap (n179 - (1 : Int))))))] ⟨rfl, rfl, rfl, trivial⟩ (h _ _ _ nv188 _ (Sep.front 2 (Sep.front 1 (Sep.front 2 hs rfl) rfl) rfl))
    · refine fi_false rfl (decide_eq_false c180) ?_
      refine fi_exit rfl ?_
      refine fi_seq ?_
      refine fi_region ?_
      refine so_move (v := (.v v173)) rfl ?_
      refine so_assign (v := (.v v173)) rfl ?_
      refine so_nil ?_
      exact by_ret rfl ⟨_, h, _, rfl, (Sep.del 0 (Sep.del 0 hs))⟩

end Go.Proofs.YtecdkjnomkdbkaaDoor.G

namespace Go.Proofs.YtecdkjnomkdbkaaDoor.G
open Go Go.Ab Go.Proofs Go.Proofs.YtecdkjnomkdbkaaDoor
set_option maxRecDepth 100000
set_option linter.unusedVariables false
set_option linter.unusedSimpArgs false
set_option maxHeartbeats 1000000
attribute [local irreducible] wops wopf Go.Ab.Fin
theorem impl_within_ok {fr : List Pc} {H : Heap} (a0 : Int) (a1 : Int) (a2 : Int) (hs : Sep H (fr))  (K : Bool → Prop) (h : impl_within.wp a0 a1 a2 K) : OkQ Tryd.prog 41 [(.v (.int .i64 a0)), (.v (.int .i64 a1)), (.v (.int .i64 a2))] H (fun r H2 => ∃ (y0 : Bool), K y0 ∧ r = (.v (.bool y0)) ∧ H = H2) := by
  unfold impl_within.wp at h
  refine of_body Tryd.f41 F.hm Tryd.func41 rfl Tryd.call41 (by kernel_rfl) (by simp) ?_
  refine fi_seq ?_
  refine fi_region ?_
  refine so_assign (v := (.v (.bool false))) rfl ?_
  refine so_nil ?_
  refine fi_seq ?_
  refine fi_region ?_
  refine so_move (v := (.v (.int .i64 a0))) rfl ?_
  refine so_move (v := (.v (.int .i64 a1))) rfl ?_
  refine so_bin rfl rfl ab_geq ?_
  refine so_move (v := (.v (.bool (decide (a1 ≤ a0))))) rfl ?_
  replace h := ofP h; rcases h with ⟨c101, h⟩ | ⟨c101, h⟩
  · refine so_gyes rfl (decide_eq_true c101) ?_
    refine so_move (v := (.v (.int .i64 a0))) rfl ?_
    refine so_gyes rfl (decide_eq_true c101) ?_
    refine so_move (v := (.v (.int .i64 a2))) rfl ?_
    refine so_gyes rfl (decide_eq_true c101) ?_
    refine so_bin rfl rfl ab_leq ?_
    refine so_pick_t (v := (.v (.bool (decide (a0 ≤ a2))))) rfl (decide_eq_true c101) rfl ?_
    refine so_assign (v := (.v (.bool (decide (a0 ≤ a2))))) rfl ?_
    refine so_nil ?_
    exact by_ret rfl ⟨_, h, rfl, rfl⟩
  · refine so_gno rfl (decide_eq_false c101) ?_
    refine so_gno rfl (decide_eq_false c101) ?_
    refine so_gno rfl (decide_eq_false c101) ?_
    refine so_pick_f (v := (.v (.bool false))) rfl (decide_eq_false c101) rfl ?_
    refine so_assign (v := (.v (.bool false))) rfl ?_
    refine so_nil ?_
    exact by_ret rfl ⟨_, h, rfl, rfl⟩

end Go.Proofs.YtecdkjnomkdbkaaDoor.G

namespace Go.Proofs.YtecdkjnomkdbkaaDoor.G
open Go Go.Ab Go.Proofs Go.Proofs.YtecdkjnomkdbkaaDoor
set_option maxRecDepth 100000
set_option linter.unusedVariables false
set_option linter.unusedSimpArgs false
set_option maxHeartbeats 1000000
attribute [local irreducible] wops wopf Go.Ab.Fin
theorem F54.ag2 : tagg Tryd.prog 2 = some false := by kernel_rfl
theorem F54.ti31 : (telem Tryd.prog 31).isSome = true := by kernel_rfl
theorem F54.tl31 : (telem Tryd.prog 31).bind (tsz Tryd.prog) = some 1 := by kernel_rfl
theorem impl_areWithin_ok {fr : List Pc} {H : Heap} (v0 : AV) (l0 : List (Int)) (a1 : Int) (hs : Sep H (fr)) (g0 : ∀ H, Sep H fr → Shows H v0 1 (enc (eInt .i64) l0)) (K : Bool → Prop) (h : impl_areWithin.wp l0 a1 K) : OkQ Tryd.prog 54 [(.v v0), (.v (.int .i64 a1))] H (fun r H2 => ∃ (y0 : Bool), K y0 ∧ r = (.v (.bool y0)) ∧ H = H2) := by
  unfold impl_areWithin.wp at h
  refine of_body Tryd.f54 F.hm Tryd.func54 rfl Tryd.call54 (by kernel_rfl) (by simp) ?_
  refine fi_seq ?_
  refine fi_region ?_
  refine so_assign (v := (.v (.bool false))) rfl ?_
  refine so_nil ?_
  refine fi_seq ?_
  refine fi_seq ?_
  refine fi_region ?_
  refine so_move (v := (.v v0)) rfl ?_
  refine sv_len (g0 _ hs) (fun _ => rfl) (by decide) rfl F54.ti31 ?_
  refine so_move (v := (.v (.int .i64 (0 : Int)))) rfl ?_
  refine so_nil ?_
  refine fi_block ?_
  refine fi_loop ?_
  refine fi_at [(1, (.v (.int .i64 a1))), (7, (.v v0)), (8, (.v (.int .i64 (l0.length : Int)))), (9, (.v (.int .i64 (0 : Int))))] ⟨rfl, rfl, rfl, rfl, trivial⟩ ?_
  refine h (fun (x102 : Int) => ∀ (s : Nat → TV), Fin _ _ (updL s [(1, (.v (.int .i64 a1))), (7, (.v v0)), (8, (.v (.int .i64 (l0.length : Int)))), (9, (.v (.int .i64 x102)))]) _ _) ?_ _
  intro x102 h s108
  refine fi_inLoop ?_
  refine fi_seq ?_
  refine fi_region ?_
  refine so_bin rfl rfl ab_lss ?_
  refine so_nil ?_
  refine fi_seq ?_
  replace h := ofP h; rcases h with ⟨c103, h⟩ | ⟨c103, h⟩
  · refine fi_true rfl (decide_eq_true c103) ?_
    refine fi_skip ?_
    refine fi_seq ?_
    refine fi_block ?_
    refine fi_seq ?_
    refine fi_region ?_
    obtain ⟨c104, h⟩ := h
    refine sv_idx (g0 _ hs) c104 (fun _ => rfl) (by decide) rfl rfl F54.tl31 ?_
    refine sv_cell (g0 _ hs) c104 (0 : Int) 0 (fun x => (AV.int .i64 x)) (fun _ => rfl) (fun _ => rfl) rfl F54.ag2 ?_
    refine so_assign (v := (.v (.int .i64 (l0.getD (x102).toNat (0 : Int))))) rfl ?_
    refine so_nil ?_
    refine fi_seq ?_
    refine fi_region ?_
    refine so_move (v := (.v (.int .i64 (l0.getD (x102).toNat (0 : Int))))) rfl ?_
    refine so_move (v := (.v (.int .i64 a1))) rfl ?_
    refine so_un rfl au_neg ?_
    refine so_move (v := (.v (.int .i64 a1))) rfl ?_
    refine sv_callS (impl_within_ok (l0.getD (x102).toNat (0 : Int)) (IntKind.i64.wrap (0 - a1)) a1 hs  _ h) (fun _ _ ⟨_, _, _, e⟩ => e) rfl rfl ?_
    clear h
    rintro _ _ ⟨y105, h, rfl, rfl⟩
    refine so_un rfl au_not ?_
    refine so_nil ?_
    replace h := ofT h; rcases h with ⟨c107, h⟩ | ⟨c107, h⟩
    · refine fi_false rfl (not_f c107) ?_
      refine fi_skip ?_
      refine fi_inBlock ?_
      refine fi_region ?_
      refine so_bin rfl rfl ab_add ?_
      refine so_move (v := (.v (.int .i64 (IntKind.i64.wrap (x102 + (1 : Int)))))) rfl ?_
      refine so_nil ?_
      exact fi_at [(1, (.v (.int .i64 a1))), (7, (.v v0)), (8, (.v (.int .i64 (l0.length : Int)))), (9, (.v (.int .i64 (IntKind.i64.wrap (x102 + (1 : Int))))))] ⟨rfl, rfl, rfl, rfl, trivial⟩ (h _)
    · refine fi_true rfl (not_t c107) ?_
      refine fi_seq ?_
      refine fi_region ?_
      refine so_assign (v := (.v (.bool false))) rfl ?_
      refine so_nil ?_
      exact by_ret rfl ⟨_, h, rfl, rfl⟩
  · refine fi_false rfl (decide_eq_false c103) ?_
    refine fi_exit rfl ?_
    refine fi_seq ?_
    refine fi_region ?_
    refine so_assign (v := (.v (.bool true))) rfl ?_
    refine so_nil ?_
    exact by_ret rfl ⟨_, h, rfl, rfl⟩

end Go.Proofs.YtecdkjnomkdbkaaDoor.G

namespace Go.Proofs.YtecdkjnomkdbkaaDoor.G
open Go Go.Ab Go.Proofs Go.Proofs.YtecdkjnomkdbkaaDoor
set_option maxRecDepth 100000
set_option linter.unusedVariables false
set_option linter.unusedSimpArgs false
set_option maxHeartbeats 1000000
attribute [local irreducible] wops wopf Go.Ab.Fin
theorem F37.ti31 : (telem Tryd.prog 31).isSome = true := by kernel_rfl
theorem impl_AreIntegers_ok {fr : List Pc} {H : Heap} (v0 : AV) (l0 : List (Int)) (hs : Sep H (fr)) (g0 : ∀ H, Sep H fr → Shows H v0 1 (enc (eInt .i64) l0)) (K : Bool → Prop) (h : impl_AreIntegers.wp l0 K) : OkQ Tryd.prog 37 [(.v v0)] H (fun r H2 => ∃ (y0 : Bool), K y0 ∧ r = (.v (.bool y0)) ∧ H = H2) := by
  unfold impl_AreIntegers.wp at h
  refine of_body Tryd.f37 F.hm Tryd.func37 rfl Tryd.call37 (by kernel_rfl) (by simp) ?_
  refine fi_seq ?_
  refine fi_region ?_
  refine so_assign (v := (.v (.bool false))) rfl ?_
  refine so_nil ?_
  refine fi_seq ?_
  refine fi_region ?_
  refine so_move (v := (.v v0)) rfl ?_
  refine sv_len (g0 _ hs) (fun _ => rfl) (by decide) rfl F37.ti31 ?_
  refine sv_callS (impl_within_ok (l0.length : Int) (1 : Int) (128 : Int) hs  _ h) (fun _ _ ⟨_, _, _, e⟩ => e) rfl rfl ?_
  clear h
  rintro _ _ ⟨y101, h, rfl, rfl⟩
  refine so_move (v := (.v (.bool y101))) rfl ?_
  replace h := ofT h; rcases h with ⟨c103, h⟩ | ⟨c103, h⟩
  · refine so_gyes rfl c103 ?_
    refine so_move (v := (.v v0)) rfl ?_
    refine so_gyes rfl c103 ?_
    refine sv_callS (impl_areWithin_ok v0 l0 (1000000 : Int) hs (fun _ hs => (g0 _ hs)) _ h) (fun _ _ ⟨_, _, _, e⟩ => e) rfl rfl ?_
    clear h
    rintro _ _ ⟨y104, h, rfl, rfl⟩
    refine so_pick_t (v := (.v (.bool y104))) rfl c103 rfl ?_
    refine so_assign (v := (.v (.bool y104))) rfl ?_
    refine so_nil ?_
    exact by_ret rfl ⟨_, h, rfl, rfl⟩
  · refine so_gno rfl c103 ?_
    refine so_gno rfl c103 ?_
    refine so_pick_f (v := (.v (.bool false))) rfl c103 rfl ?_
    refine so_assign (v := (.v (.bool false))) rfl ?_
    refine so_nil ?_
    exact by_ret rfl ⟨_, h, rfl, rfl⟩

end Go.Proofs.YtecdkjnomkdbkaaDoor.G

namespace Go.Proofs.YtecdkjnomkdbkaaDoor.G
open Go Go.Ab Go.Proofs Go.Proofs.YtecdkjnomkdbkaaDoor
set_option maxRecDepth 100000
set_option linter.unusedVariables false
set_option linter.unusedSimpArgs false
set_option maxHeartbeats 1000000
attribute [local irreducible] wops wopf Go.Ab.Fin
theorem impl_far_ok {fr : List Pc} {H : Heap} (a0 : Int) (hs : Sep H (fr))  (K : Int → Prop) (h : impl_far.wp a0 K) : OkQ Tryd.prog 55 [(.v (.int .i64 a0))] H (fun r H2 => ∃ (y0 : Int), K y0 ∧ r = (.v (.int .i64 y0)) ∧ H = H2) := by
  unfold impl_far.wp at h
  refine of_body Tryd.f55 F.hm Tryd.func55 rfl Tryd.call55 (by kernel_rfl) (by simp) ?_
  refine fi_seq ?_
  refine fi_region ?_
  refine so_assign (v := (.v (.int .i64 (0 : Int)))) rfl ?_
  refine so_nil ?_
  refine fi_seq ?_
  refine fi_region ?_
  refine so_move (v := (.v (.int .i64 a0))) rfl ?_
  refine so_move (v := (.v (.int .i64 a0))) rfl ?_
  refine so_un rfl au_neg ?_
  refine sv_max rfl rfl ?_
  refine so_assign (v := (.v (.int .i64 (mxI a0 (IntKind.i64.wrap (0 - a0)))))) rfl ?_
  refine so_nil ?_
  exact by_ret rfl ⟨_, h, rfl, rfl⟩

end Go.Proofs.YtecdkjnomkdbkaaDoor.G

namespace Go.Proofs.YtecdkjnomkdbkaaDoor.G
open Go Go.Ab Go.Proofs Go.Proofs.YtecdkjnomkdbkaaDoor
set_option maxRecDepth 100000
set_option linter.unusedVariables false
set_option linter.unusedSimpArgs false
set_option maxHeartbeats 1000000
attribute [local irreducible] wops wopf Go.Ab.Fin
theorem F56.it3 : tint Tryd.prog 3 = some .i64 := by kernel_rfl
theorem F56.it5 : tint Tryd.prog 5 = some .u8 := by kernel_rfl
theorem F56.sr9 : tstr Tryd.prog 9 = true := by kernel_rfl
theorem F56.us5 : (Tryd.prog.underlying 5).isSome = true := by kernel_rfl
theorem F56.us88 : (Tryd.prog.underlying 88).isSome = true := by kernel_rfl
theorem math_bits_Len64_ok {fr : List Pc} {H : Heap} (a0 : Int) (hs : Sep H (fr))  (K : Int → Prop) (h : math_bits_Len64.wp a0 K) : OkQ Tryd.prog 56 [(.v (.int .u64 a0))] H (fun r H2 => ∃ (y0 : Int), K y0 ∧ r = (.v (.int .i64 y0)) ∧ H = H2) := by
  unfold math_bits_Len64.wp at h
  refine of_body Tryd.f56 F.hm Tryd.func56 rfl Tryd.call56 (by kernel_rfl) (by simp) ?_
  refine fi_seq ?_
  refine fi_region ?_
  refine so_assign (v := (.v (.int .i64 (0 : Int)))) rfl ?_
  refine so_nil ?_
  refine fi_seq ?_
  refine fi_seq ?_
  refine fi_region ?_
  refine so_move (v := (.v (.int .u64 a0))) rfl ?_
  refine so_bin rfl rfl ab_geq ?_
  refine so_nil ?_
  replace h := ofP h; rcases h with ⟨c101, h⟩ | ⟨c101, h⟩
  · refine fi_true rfl (decide_eq_true c101) ?_
    refine fi_seq ?_
    refine fi_region ?_
    refine so_move (v := (.v (.int .u64 a0))) rfl ?_
    refine so_bin rfl rfl (ab_shr (by decide)) ?_
    refine so_assign (v := (.v (.int .u64 (Int.fdiv a0 (2 ^ (min ((32 : Int)).toNat IntKind.u64.bits)))))) rfl ?_
    refine so_nil ?_
    refine fi_region ?_
    refine so_assign (v := (.v (.int .i64 (32 : Int)))) rfl ?_
    refine so_nil ?_
    refine fi_seq ?_
    refine fi_seq ?_
    refine fi_region ?_
    refine so_move (v := (.v (.int .u64 (Int.fdiv a0 (2 ^ (min ((32 : Int)).toNat IntKind.u64.bits)))))) rfl ?_
    refine so_bin rfl rfl ab_geq ?_
    refine so_nil ?_
    replace h := ofP h; rcases h with ⟨c102, h⟩ | ⟨c102, h⟩
    · refine fi_true rfl (decide_eq_true c102) ?_
      refine fi_seq ?_
      refine fi_region ?_
      refine so_move (v := (.v (.int .u64 (Int.fdiv a0 (2 ^ (min ((32 : Int)).toNat IntKind.u64.bits)))))) rfl ?_
      refine so_bin rfl rfl (ab_shr (by decide)) ?_
      refine so_assign (v := (.v (.int .u64 (Int.fdiv (Int.fdiv a0 (2 ^ (min ((32 : Int)).toNat IntKind.u64.bits))) (2 ^ (min ((16 : Int)).toNat IntKind.u64.bits)))))) rfl ?_
      refine so_nil ?_
      refine fi_region ?_
      refine so_move (v := (.v (.int .i64 (32 : Int)))) rfl ?_
      refine so_bin rfl rfl ab_add ?_
      refine so_assign (v := (.v (.int .i64 (IntKind.i64.wrap ((32 : Int) + (16 : Int)))))) rfl ?_
      refine so_nil ?_
      refine fi_seq ?_
      refine fi_seq ?_
      refine fi_region ?_
      refine so_move (v := (.v (.int .u64 (Int.fdiv (Int.fdiv a0 (2 ^ (min ((32 : Int)).toNat IntKind.u64.bits))) (2 ^ (min ((16 : Int)).toNat IntKind.u64.bits)))))) rfl ?_
      refine so_bin rfl rfl ab_geq ?_
      refine so_nil ?_
      replace h := ofP h; rcases h with ⟨c103, h⟩ | ⟨c103, h⟩
      · refine fi_true rfl (decide_eq_true c103) ?_
        refine fi_seq ?_
        refine fi_region ?_
        refine so_move (v := (.v (.int .u64 (Int.fdiv (Int.fdiv a0 (2 ^ (min ((32 : Int)).toNat IntKind.u64.bits))) (2 ^ (min ((16 : Int)).toNat IntKind.u64.bits)))))) rfl ?_
        refine so_bin rfl rfl (ab_shr (by decide)) ?_
        refine so_assign (v := (.v (.int .u64 (Int.fdiv (Int.fdiv (Int.fdiv a0 (2 ^ (min ((32 : Int)).toNat IntKind.u64.bits))) (2 ^ (min ((16 : Int)).toNat IntKind.u64.bits))) (2 ^ (min ((8 : Int)).toNat IntKind.u64.bits)))))) rfl ?_
        refine so_nil ?_
        refine fi_region ?_
        refine so_move (v := (.v (.int .i64 (IntKind.i64.wrap ((32 : Int) + (16 : Int)))))) rfl ?_
        refine so_bin rfl rfl ab_add ?_
        refine so_assign (v := (.v (.int .i64 (IntKind.i64.wrap ((IntKind.i64.wrap ((32 : Int) + (16 : Int))) + (8 : Int)))))) rfl ?_
        refine so_nil ?_
        refine fi_seq ?_
        refine fi_region ?_
        refine so_move (v := (.v (.int .i64 (IntKind.i64.wrap ((IntKind.i64.wrap ((32 : Int) + (16 : Int))) + (8 : Int)))))) rfl ?_
        refine so_move (v := (.v (.int .u64 (Int.fdiv (Int.fdiv (Int.fdiv a0 (2 ^ (min ((32 : Int)).toNat IntKind.u64.bits))) (2 ^ (min ((16 : Int)).toNat IntKind.u64.bits))) (2 ^ (min ((8 : Int)).toNat IntKind.u64.bits)))))) rfl ?_
        refine sv_ii rfl F56.us88 F56.it5 ?_
        obtain ⟨c104, h⟩ := h
        refine so_index rfl rfl F56.sr9 c104 ?_
        refine sv_ii rfl F56.us5 F56.it3 ?_
        refine so_bin rfl rfl ab_add ?_
        refine so_assign (v := (.v (.int .i64 (IntKind.i64.wrap ((IntKind.i64.wrap ((IntKind.i64.wrap ((32 : Int) + (16 : Int))) + (8 : Int))) + (IntKind.i64.wrap (bt ([0, 1, 2, 2, 3, 3, 3, 3, 4, 4, 4, 4, 4, 4, 4, 4, 5, 5, 5, 5, 5, 5, 5, 5, 5, 5, 5, 5, 5, 5, 5, 5, 6, 6, 6, 6, 6, 6, 6, 6, 6, 6, 6, 6, 6, 6, 6, 6, 6, 6, 6, 6, 6, 6, 6, 6, 6, 6, 6, 6, 6, 6, 6, 6, 7, 7, 7, 7, 7, 7, 7, 7, 7, 7, 7, 7, 7, 7, 7, 7, 7, 7, 7, 7, 7, 7, 7, 7, 7, 7, 7, 7, 7, 7, 7, 7, 7, 7, 7, 7, 7, 7, 7, 7, 7, 7, 7, 7, 7, 7, 7, 7, 7, 7, 7, 7, 7, 7, 7, 7, 7, 7, 7, 7, 7, 7, 7, 7, 8, 8, 8, 8, 8, 8, 8, 8, 8, 8, 8, 8, 8, 8, 8, 8, 8, 8, 8, 8, 8, 8, 8, 8, 8, 8, 8, 8, 8, 8, 8, 8, 8, 8, 8, 8, 8, 8, 8, 8, 8, 8, 8, 8, 8, 8, 8, 8, 8, 8, 8, 8, 8, 8, 8, 8, 8, 8, 8, 8, 8, 8, 8, 8, 8, 8, 8, 8, 8, 8, 8, 8, 8, 8, 8, 8, 8, 8, 8, 8, 8, 8, 8, 8, 8, 8, 8, 8, 8, 8, 8, 8, 8, 8, 8, 8, 8, 8, 8, 8, 8, 8, 8, 8, 8, 8, 8, 8, 8, 8, 8, 8, 8, 8, 8, 8, 8, 8, 8, 8, 8, 8, 8, 8, 8, 8, 8, 8] : List UInt8) (IntKind.u8.wrap (Int.fdiv (Int.fdiv (Int.fdiv a0 (2 ^ (min ((32 : Int)).toNat IntKind.u64.bits))) (2 ^ (min ((16 : Int)).toNat IntKind.u64.bits))) (2 ^ (min ((8 : Int)).toNat IntKind.u64.bits))))))))))) rfl ?_
        refine so_nil ?_
        exact by_ret rfl ⟨_, h, rfl, rfl⟩
      · refine fi_false rfl (decide_eq_false c103) ?_
        refine fi_skip ?_
        refine fi_seq ?_
        refine fi_region ?_
        refine so_move (v := (.v (.int .i64 (IntKind.i64.wrap ((32 : Int) + (16 : Int)))))) rfl ?_
        refine so_move (v := (.v (.int .u64 (Int.fdiv (Int.fdiv a0 (2 ^ (min ((32 : Int)).toNat IntKind.u64.bits))) (2 ^ (min ((16 : Int)).toNat IntKind.u64.bits)))))) rfl ?_
        refine sv_ii rfl F56.us88 F56.it5 ?_
        obtain ⟨c105, h⟩ := h
        refine so_index rfl rfl F56.sr9 c105 ?_
        refine sv_ii rfl F56.us5 F56.it3 ?_
        refine so_bin rfl rfl ab_add ?_
        refine so_assign (v := (.v (.int .i64 (IntKind.i64.wrap ((IntKind.i64.wrap ((32 : Int) + (16 : Int))) + (IntKind.i64.wrap (bt ([0, 1, 2, 2, 3, 3, 3, 3, 4, 4, 4, 4, 4, 4, 4, 4, 5, 5, 5, 5, 5, 5, 5, 5, 5, 5, 5, 5, 5, 5, 5, 5, 6, 6, 6, 6, 6, 6, 6, 6, 6, 6, 6, 6, 6, 6, 6, 6, 6, 6, 6, 6, 6, 6, 6, 6, 6, 6, 6, 6, 6, 6, 6, 6, 7, 7, 7, 7, 7, 7, 7, 7, 7, 7, 7, 7, 7, 7, 7, 7, 7, 7, 7, 7, 7, 7, 7, 7, 7, 7, 7, 7, 7, 7, 7, 7, 7, 7, 7, 7, 7, 7, 7, 7, 7, 7, 7, 7, 7, 7, 7, 7, 7, 7, 7, 7, 7, 7, 7, 7, 7, 7, 7, 7, 7, 7, 7, 7, 8, 8, 8, 8, 8, 8, 8, 8, 8, 8, 8, 8, 8, 8, 8, 8, 8, 8, 8, 8, 8, 8, 8, 8, 8, 8, 8, 8, 8, 8, 8, 8, 8, 8, 8, 8, 8, 8, 8, 8, 8, 8, 8, 8, 8, 8, 8, 8, 8, 8, 8, 8, 8, 8, 8, 8, 8, 8, 8, 8, 8, 8, 8, 8, 8, 8, 8, 8, 8, 8, 8, 8, 8, 8, 8, 8, 8, 8, 8, 8, 8, 8, 8, 8, 8, 8, 8, 8, 8, 8, 8, 8, 8, 8, 8, 8, 8, 8, 8, 8, 8, 8, 8, 8, 8, 8, 8, 8, 8, 8, 8, 8, 8, 8, 8, 8, 8, 8, 8, 8, 8, 8, 8, 8, 8, 8, 8, 8] : List UInt8) (IntKind.u8.wrap (Int.fdiv (Int.fdiv a0 (2 ^ (min ((32 : Int)).toNat IntKind.u64.bits))) (2 ^ (min ((16 : Int)).toNat IntKind.u64.bits))))))))))) rfl ?_
        refine so_nil ?_
        exact by_ret rfl ⟨_, h, rfl, rfl⟩
    · refine fi_false rfl (decide_eq_false c102) ?_
      refine fi_skip ?_
      refine fi_seq ?_
      refine fi_seq ?_
      refine fi_region ?_
      refine so_move (v := (.v (.int .u64 (Int.fdiv a0 (2 ^ (min ((32 : Int)).toNat IntKind.u64.bits)))))) rfl ?_
      refine so_bin rfl rfl ab_geq ?_
      refine so_nil ?_
      replace h := ofP h; rcases h with ⟨c106, h⟩ | ⟨c106, h⟩
      · refine fi_true rfl (decide_eq_true c106) ?_
        refine fi_seq ?_
        refine fi_region ?_
        refine so_move (v := (.v (.int .u64 (Int.fdiv a0 (2 ^ (min ((32 : Int)).toNat IntKind.u64.bits)))))) rfl ?_
        refine so_bin rfl rfl (ab_shr (by decide)) ?_
        refine so_assign (v := (.v (.int .u64 (Int.fdiv (Int.fdiv a0 (2 ^ (min ((32 : Int)).toNat IntKind.u64.bits))) (2 ^ (min ((8 : Int)).toNat IntKind.u64.bits)))))) rfl ?_
        refine so_nil ?_
        refine fi_region ?_
        refine so_move (v := (.v (.int .i64 (32 : Int)))) rfl ?_
        refine so_bin rfl rfl ab_add ?_
        refine so_assign (v := (.v (.int .i64 (IntKind.i64.wrap ((32 : Int) + (8 : Int)))))) rfl ?_
        refine so_nil ?_
        refine fi_seq ?_
        refine fi_region ?_
        refine so_move (v := (.v (.int .i64 (IntKind.i64.wrap ((32 : Int) + (8 : Int)))))) rfl ?_
        refine so_move (v := (.v (.int .u64 (Int.fdiv (Int.fdiv a0 (2 ^ (min ((32 : Int)).toNat IntKind.u64.bits))) (2 ^ (min ((8 : Int)).toNat IntKind.u64.bits)))))) rfl ?_
        refine sv_ii rfl F56.us88 F56.it5 ?_
        obtain ⟨c107, h⟩ := h
        refine so_index rfl rfl F56.sr9 c107 ?_
        refine sv_ii rfl F56.us5 F56.it3 ?_
        refine so_bin rfl rfl ab_add ?_
        refine so_assign (v := (.v (.int .i64 (IntKind.i64.wrap ((IntKind.i64.wrap ((32 : Int) + (8 : Int))) + (IntKind.i64.wrap (bt ([0, 1, 2, 2, 3, 3, 3, 3, 4, 4, 4, 4, 4, 4, 4, 4, 5, 5, 5, 5, 5, 5, 5, 5, 5, 5, 5, 5, 5, 5, 5, 5, 6, 6, 6, 6, 6, 6, 6, 6, 6, 6, 6, 6, 6, 6, 6, 6, 6, 6, 6, 6, 6, 6, 6, 6, 6, 6, 6, 6, 6, 6, 6, 6, 7, 7, 7, 7, 7, 7, 7, 7, 7, 7, 7, 7, 7, 7, 7, 7, 7, 7, 7, 7, 7, 7, 7, 7, 7, 7, 7, 7, 7, 7, 7, 7, 7, 7, 7, 7, 7, 7, 7, 7, 7, 7, 7, 7, 7, 7, 7, 7, 7, 7, 7, 7, 7, 7, 7, 7, 7, 7, 7, 7, 7, 7, 7, 7, 8, 8, 8, 8, 8, 8, 8, 8, 8, 8, 8, 8, 8, 8, 8, 8, 8, 8, 8, 8, 8, 8, 8, 8, 8, 8, 8, 8, 8, 8, 8, 8, 8, 8, 8, 8, 8, 8, 8, 8, 8, 8, 8, 8, 8, 8, 8, 8, 8, 8, 8, 8, 8, 8, 8, 8, 8, 8, 8, 8, 8, 8, 8, 8, 8, 8, 8, 8, 8, 8, 8, 8, 8, 8, 8, 8, 8, 8, 8, 8, 8, 8, 8, 8, 8, 8, 8, 8, 8, 8, 8, 8, 8, 8, 8, 8, 8, 8, 8, 8, 8, 8, 8, 8, 8, 8, 8, 8, 8, 8, 8, 8, 8, 8, 8, 8, 8, 8, 8, 8, 8, 8, 8, 8, 8, 8, 8, 8] : List UInt8) (IntKind.u8.wrap (Int.fdiv (Int.fdiv a0 (2 ^ (min ((32 : Int)).toNat IntKind.u64.bits))) (2 ^ (min ((8 : Int)).toNat IntKind.u64.bits))))))))))) rfl ?_
        refine so_nil ?_
        exact by_ret rfl ⟨_, h, rfl, rfl⟩
      · refine fi_false rfl (decide_eq_false c106) ?_
        refine fi_skip ?_
        refine fi_seq ?_
        refine fi_region ?_
        refine so_move (v := (.v (.int .i64 (32 : Int)))) rfl ?_
        refine so_move (v := (.v (.int .u64 (Int.fdiv a0 (2 ^ (min ((32 : Int)).toNat IntKind.u64.bits)))))) rfl ?_
        refine sv_ii rfl F56.us88 F56.it5 ?_
        obtain ⟨c108, h⟩ := h
        refine so_index rfl rfl F56.sr9 c108 ?_
        refine sv_ii rfl F56.us5 F56.it3 ?_
        refine so_bin rfl rfl ab_add ?_
        refine so_assign (v := (.v (.int .i64 (IntKind.i64.wrap ((32 : Int) + (IntKind.i64.wrap (bt ([0, 1, 2, 2, 3, 3, 3, 3, 4, 4, 4, 4, 4, 4, 4, 4, 5, 5, 5, 5, 5, 5, 5, 5, 5, 5, 5, 5, 5, 5, 5, 5, 6, 6, 6, 6, 6, 6, 6, 6, 6, 6, 6, 6, 6, 6, 6, 6, 6, 6, 6, 6, 6, 6, 6, 6, 6, 6, 6, 6, 6, 6, 6, 6, 7, 7, 7, 7, 7, 7, 7, 7, 7, 7, 7, 7, 7, 7, 7, 7, 7, 7, 7, 7, 7, 7, 7, 7, 7, 7, 7, 7, 7, 7, 7, 7, 7, 7, 7, 7, 7, 7, 7, 7, 7, 7, 7, 7, 7, 7, 7, 7, 7, 7, 7, 7, 7, 7, 7, 7, 7, 7, 7, 7, 7, 7, 7, 7, 8, 8, 8, 8, 8, 8, 8, 8, 8, 8, 8, 8, 8, 8, 8, 8, 8, 8, 8, 8, 8, 8, 8, 8, 8, 8, 8, 8, 8, 8, 8, 8, 8, 8, 8, 8, 8, 8, 8, 8, 8, 8, 8, 8, 8, 8, 8, 8, 8, 8, 8, 8, 8, 8, 8, 8, 8, 8, 8, 8, 8, 8, 8, 8, 8, 8, 8, 8, 8, 8, 8, 8, 8, 8, 8, 8, 8, 8, 8, 8, 8, 8, 8, 8, 8, 8, 8, 8, 8, 8, 8, 8, 8, 8, 8, 8, 8, 8, 8, 8, 8, 8, 8, 8, 8, 8, 8, 8, 8, 8, 8, 8, 8, 8, 8, 8, 8, 8, 8, 8, 8, 8, 8, 8, 8, 8, 8, 8] : List UInt8) (IntKind.u8.wrap (Int.fdiv a0 (2 ^ (min ((32 : Int)).toNat IntKind.u64.bits))))))))))) rfl ?_
        refine so_nil ?_
        exact by_ret rfl ⟨_, h, rfl, rfl⟩
  · refine fi_false rfl (decide_eq_false c101) ?_
    refine fi_skip ?_
    refine fi_seq ?_
    refine fi_seq ?_
    refine fi_region ?_
    refine so_move (v := (.v (.int .u64 a0))) rfl ?_
    refine so_bin rfl rfl ab_geq ?_
    refine so_nil ?_
    replace h := ofP h; rcases h with ⟨c109, h⟩ | ⟨c109, h⟩
    · refine fi_true rfl (decide_eq_true c109) ?_
      refine fi_seq ?_
      refine fi_region ?_
      refine so_move (v := (.v (.int .u64 a0))) rfl ?_
      refine so_bin rfl rfl (ab_shr (by decide)) ?_
      refine so_assign (v := (.v (.int .u64 (Int.fdiv a0 (2 ^ (min ((16 : Int)).toNat IntKind.u64.bits)))))) rfl ?_
      refine so_nil ?_
      refine fi_region ?_
      refine so_move (v := (.v (.int .i64 (0 : Int)))) rfl ?_
      refine so_bin rfl rfl ab_add ?_
      refine so_assign (v := (.v (.int .i64 (IntKind.i64.wrap ((0 : Int) + (16 : Int)))))) rfl ?_
      refine so_nil ?_
      refine fi_seq ?_
      refine fi_seq ?_
      refine fi_region ?_
      refine so_move (v := (.v (.int .u64 (Int.fdiv a0 (2 ^ (min ((16 : Int)).toNat IntKind.u64.bits)))))) rfl ?_
      refine so_bin rfl rfl ab_geq ?_
      refine so_nil ?_
      replace h := ofP h; rcases h with ⟨c110, h⟩ | ⟨c110, h⟩
      · refine fi_true rfl (decide_eq_true c110) ?_
        refine fi_seq ?_
        refine fi_region ?_
        refine so_move (v := (.v (.int .u64 (Int.fdiv a0 (2 ^ (min ((16 : Int)).toNat IntKind.u64.bits)))))) rfl ?_
        refine so_bin rfl rfl (ab_shr (by decide)) ?_
        refine so_assign (v := (.v (.int .u64 (Int.fdiv (Int.fdiv a0 (2 ^ (min ((16 : Int)).toNat IntKind.u64.bits))) (2 ^ (min ((8 : Int)).toNat IntKind.u64.bits)))))) rfl ?_
        refine so_nil ?_
        refine fi_region ?_
        refine so_move (v := (.v (.int .i64 (IntKind.i64.wrap ((0 : Int) + (16 : Int)))))) rfl ?_
        refine so_bin rfl rfl ab_add ?_
        refine so_assign (v := (.v (.int .i64 (IntKind.i64.wrap ((IntKind.i64.wrap ((0 : Int) + (16 : Int))) + (8 : Int)))))) rfl ?_
        refine so_nil ?_
        refine fi_seq ?_
        refine fi_region ?_
        refine so_move (v := (.v (.int .i64 (IntKind.i64.wrap ((IntKind.i64.wrap ((0 : Int) + (16 : Int))) + (8 : Int)))))) rfl ?_
        refine so_move (v := (.v (.int .u64 (Int.fdiv (Int.fdiv a0 (2 ^ (min ((16 : Int)).toNat IntKind.u64.bits))) (2 ^ (min ((8 : Int)).toNat IntKind.u64.bits)))))) rfl ?_
        refine sv_ii rfl F56.us88 F56.it5 ?_
        obtain ⟨c111, h⟩ := h
        refine so_index rfl rfl F56.sr9 c111 ?_
        refine sv_ii rfl F56.us5 F56.it3 ?_
        refine so_bin rfl rfl ab_add ?_
        refine so_assign (v := (.v (.int .i64 (IntKind.i64.wrap ((IntKind.i64.wrap ((IntKind.i64.wrap ((0 : Int) + (16 : Int))) + (8 : Int))) + (IntKind.i64.wrap (bt ([0, 1, 2, 2, 3, 3, 3, 3, 4, 4, 4, 4, 4, 4, 4, 4, 5, 5, 5, 5, 5, 5, 5, 5, 5, 5, 5, 5, 5, 5, 5, 5, 6, 6, 6, 6, 6, 6, 6, 6, 6, 6, 6, 6, 6, 6, 6, 6, 6, 6, 6, 6, 6, 6, 6, 6, 6, 6, 6, 6, 6, 6, 6, 6, 7, 7, 7, 7, 7, 7, 7, 7, 7, 7, 7, 7, 7, 7, 7, 7, 7, 7, 7, 7, 7, 7, 7, 7, 7, 7, 7, 7, 7, 7, 7, 7, 7, 7, 7, 7, 7, 7, 7, 7, 7, 7, 7, 7, 7, 7, 7, 7, 7, 7, 7, 7, 7, 7, 7, 7, 7, 7, 7, 7, 7, 7, 7, 7, 8, 8, 8, 8, 8, 8, 8, 8, 8, 8, 8, 8, 8, 8, 8, 8, 8, 8, 8, 8, 8, 8, 8, 8, 8, 8, 8, 8, 8, 8, 8, 8, 8, 8, 8, 8, 8, 8, 8, 8, 8, 8, 8, 8, 8, 8, 8, 8, 8, 8, 8, 8, 8, 8, 8, 8, 8, 8, 8, 8, 8, 8, 8, 8, 8, 8, 8, 8, 8, 8, 8, 8, 8, 8, 8, 8, 8, 8, 8, 8, 8, 8, 8, 8, 8, 8, 8, 8, 8, 8, 8, 8, 8, 8, 8, 8, 8, 8, 8, 8, 8, 8, 8, 8, 8, 8, 8, 8, 8, 8, 8, 8, 8, 8, 8, 8, 8, 8, 8, 8, 8, 8, 8, 8, 8, 8, 8, 8] : List UInt8) (IntKind.u8.wrap (Int.fdiv (Int.fdiv a0 (2 ^ (min ((16 : Int)).toNat IntKind.u64.bits))) (2 ^ (min ((8 : Int)).toNat IntKind.u64.bits))))))))))) rfl ?_
        refine so_nil ?_
        exact by_ret rfl ⟨_, h, rfl, rfl⟩
      · refine fi_false rfl (decide_eq_false c110) ?_
        refine fi_skip ?_
        refine fi_seq ?_
        refine fi_region ?_
        refine so_move (v := (.v (.int .i64 (IntKind.i64.wrap ((0 : Int) + (16 : Int)))))) rfl ?_
        refine so_move (v := (.v (.int .u64 (Int.fdiv a0 (2 ^ (min ((16 : Int)).toNat IntKind.u64.bits)))))) rfl ?_
        refine sv_ii rfl F56.us88 F56.it5 ?_
        obtain ⟨c112, h⟩ := h
        refine so_index rfl rfl F56.sr9 c112 ?_
        refine sv_ii rfl F56.us5 F56.it3 ?_
        refine so_bin rfl rfl ab_add ?_
        refine so_assign (v := (.v (.int .i64 (IntKind.i64.wrap ((IntKind.i64.wrap ((0 : Int) + (16 : Int))) + (IntKind.i64.wrap (bt ([0, 1, 2, 2, 3, 3, 3, 3, 4, 4, 4, 4, 4, 4, 4, 4, 5, 5, 5, 5, 5, 5, 5, 5, 5, 5, 5, 5, 5, 5, 5, 5, 6, 6, 6, 6, 6, 6, 6, 6, 6, 6, 6, 6, 6, 6, 6, 6, 6, 6, 6, 6, 6, 6, 6, 6, 6, 6, 6, 6, 6, 6, 6, 6, 7, 7, 7, 7, 7, 7, 7, 7, 7, 7, 7, 7, 7, 7, 7, 7, 7, 7, 7, 7, 7, 7, 7, 7, 7, 7, 7, 7, 7, 7, 7, 7, 7, 7, 7, 7, 7, 7, 7, 7, 7, 7, 7, 7, 7, 7, 7, 7, 7, 7, 7, 7, 7, 7, 7, 7, 7, 7, 7, 7, 7, 7, 7, 7, 8, 8, 8, 8, 8, 8, 8, 8, 8, 8, 8, 8, 8, 8, 8, 8, 8, 8, 8, 8, 8, 8, 8, 8, 8, 8, 8, 8, 8, 8, 8, 8, 8, 8, 8, 8, 8, 8, 8, 8, 8, 8, 8, 8, 8, 8, 8, 8, 8, 8, 8, 8, 8, 8, 8, 8, 8, 8, 8, 8, 8, 8, 8, 8, 8, 8, 8, 8, 8, 8, 8, 8, 8, 8, 8, 8, 8, 8, 8, 8, 8, 8, 8, 8, 8, 8, 8, 8, 8, 8, 8, 8, 8, 8, 8, 8, 8, 8, 8, 8, 8, 8, 8, 8, 8, 8, 8, 8, 8, 8, 8, 8, 8, 8, 8, 8, 8, 8, 8, 8, 8, 8, 8, 8, 8, 8, 8, 8] : List UInt8) (IntKind.u8.wrap (Int.fdiv a0 (2 ^ (min ((16 : Int)).toNat IntKind.u64.bits))))))))))) rfl ?_
        refine so_nil ?_
        exact by_ret rfl ⟨_, h, rfl, rfl⟩
    · refine fi_false rfl (decide_eq_false c109) ?_
      refine fi_skip ?_
      refine fi_seq ?_
      refine fi_seq ?_
      refine fi_region ?_
      refine so_move (v := (.v (.int .u64 a0))) rfl ?_
      refine so_bin rfl rfl ab_geq ?_
      refine so_nil ?_
      replace h := ofP h; rcases h with ⟨c113, h⟩ | ⟨c113, h⟩
      · refine fi_true rfl (decide_eq_true c113) ?_
        refine fi_seq ?_
        refine fi_region ?_
        refine so_move (v := (.v (.int .u64 a0))) rfl ?_
        refine so_bin rfl rfl (ab_shr (by decide)) ?_
        refine so_assign (v := (.v (.int .u64 (Int.fdiv a0 (2 ^ (min ((8 : Int)).toNat IntKind.u64.bits)))))) rfl ?_
        refine so_nil ?_
        refine fi_region ?_
        refine so_move (v := (.v (.int .i64 (0 : Int)))) rfl ?_
        refine so_bin rfl rfl ab_add ?_
        refine so_assign (v := (.v (.int .i64 (IntKind.i64.wrap ((0 : Int) + (8 : Int)))))) rfl ?_
        refine so_nil ?_
        refine fi_seq ?_
        refine fi_region ?_
        refine so_move (v := (.v (.int .i64 (IntKind.i64.wrap ((0 : Int) + (8 : Int)))))) rfl ?_
        refine so_move (v := (.v (.int .u64 (Int.fdiv a0 (2 ^ (min ((8 : Int)).toNat IntKind.u64.bits)))))) rfl ?_
        refine sv_ii rfl F56.us88 F56.it5 ?_
        obtain ⟨c114, h⟩ := h
        refine so_index rfl rfl F56.sr9 c114 ?_
        refine sv_ii rfl F56.us5 F56.it3 ?_
        refine so_bin rfl rfl ab_add ?_
        refine so_assign (v := (.v (.int .i64 (IntKind.i64.wrap ((IntKind.i64.wrap ((0 : Int) + (8 : Int))) + (IntKind.i64.wrap (bt ([0, 1, 2, 2, 3, 3, 3, 3, 4, 4, 4, 4, 4, 4, 4, 4, 5, 5, 5, 5, 5, 5, 5, 5, 5, 5, 5, 5, 5, 5, 5, 5, 6, 6, 6, 6, 6, 6, 6, 6, 6, 6, 6, 6, 6, 6, 6, 6, 6, 6, 6, 6, 6, 6, 6, 6, 6, 6, 6, 6, 6, 6, 6, 6, 7, 7, 7, 7, 7, 7, 7, 7, 7, 7, 7, 7, 7, 7, 7, 7, 7, 7, 7, 7, 7, 7, 7, 7, 7, 7, 7, 7, 7, 7, 7, 7, 7, 7, 7, 7, 7, 7, 7, 7, 7, 7, 7, 7, 7, 7, 7, 7, 7, 7, 7, 7, 7, 7, 7, 7, 7, 7, 7, 7, 7, 7, 7, 7, 8, 8, 8, 8, 8, 8, 8, 8, 8, 8, 8, 8, 8, 8, 8, 8, 8, 8, 8, 8, 8, 8, 8, 8, 8, 8, 8, 8, 8, 8, 8, 8, 8, 8, 8, 8, 8, 8, 8, 8, 8, 8, 8, 8, 8, 8, 8, 8, 8, 8, 8, 8, 8, 8, 8, 8, 8, 8, 8, 8, 8, 8, 8, 8, 8, 8, 8, 8, 8, 8, 8, 8, 8, 8, 8, 8, 8, 8, 8, 8, 8, 8, 8, 8, 8, 8, 8, 8, 8, 8, 8, 8, 8, 8, 8, 8, 8, 8, 8, 8, 8, 8, 8, 8, 8, 8, 8, 8, 8, 8, 8, 8, 8, 8, 8, 8, 8, 8, 8, 8, 8, 8, 8, 8, 8, 8, 8, 8] : List UInt8) (IntKind.u8.wrap (Int.fdiv a0 (2 ^ (min ((8 : Int)).toNat IntKind.u64.bits))))))))))) rfl ?_
        refine so_nil ?_
        exact by_ret rfl ⟨_, h, rfl, rfl⟩
      · refine fi_false rfl (decide_eq_false c113) ?_
        refine fi_skip ?_
        refine fi_seq ?_
        refine fi_region ?_
        refine so_move (v := (.v (.int .i64 (0 : Int)))) rfl ?_
        refine so_move (v := (.v (.int .u64 a0))) rfl ?_
        refine sv_ii rfl F56.us88 F56.it5 ?_
        obtain ⟨c115, h⟩ := h
        refine so_index rfl rfl F56.sr9 c115 ?_
        refine sv_ii rfl F56.us5 F56.it3 ?_
        refine so_bin rfl rfl ab_add ?_
        refine so_assign (v := (.v (.int .i64 (IntKind.i64.wrap ((0 : Int) + (IntKind.i64.wrap (bt ([0, 1, 2, 2, 3, 3, 3, 3, 4, 4, 4, 4, 4, 4, 4, 4, 5, 5, 5, 5, 5, 5, 5, 5, 5, 5, 5, 5, 5, 5, 5, 5, 6, 6, 6, 6, 6, 6, 6, 6, 6, 6, 6, 6, 6, 6, 6, 6, 6, 6, 6, 6, 6, 6, 6, 6, 6, 6, 6, 6, 6, 6, 6, 6, 7, 7, 7, 7, 7, 7, 7, 7, 7, 7, 7, 7, 7, 7, 7, 7, 7, 7, 7, 7, 7, 7, 7, 7, 7, 7, 7, 7, 7, 7, 7, 7, 7, 7, 7, 7, 7, 7, 7, 7, 7, 7, 7, 7, 7, 7, 7, 7, 7, 7, 7, 7, 7, 7, 7, 7, 7, 7, 7, 7, 7, 7, 7, 7, 8, 8, 8, 8, 8, 8, 8, 8, 8, 8, 8, 8, 8, 8, 8, 8, 8, 8, 8, 8, 8, 8, 8, 8, 8, 8, 8, 8, 8, 8, 8, 8, 8, 8, 8, 8, 8, 8, 8, 8, 8, 8, 8, 8, 8, 8, 8, 8, 8, 8, 8, 8, 8, 8, 8, 8, 8, 8, 8, 8, 8, 8, 8, 8, 8, 8, 8, 8, 8, 8, 8, 8, 8, 8, 8, 8, 8, 8, 8, 8, 8, 8, 8, 8, 8, 8, 8, 8, 8, 8, 8, 8, 8, 8, 8, 8, 8, 8, 8, 8, 8, 8, 8, 8, 8, 8, 8, 8, 8, 8, 8, 8, 8, 8, 8, 8, 8, 8, 8, 8, 8, 8, 8, 8, 8, 8, 8, 8] : List UInt8) (IntKind.u8.wrap a0)))))))) rfl ?_
        refine so_nil ?_
        exact by_ret rfl ⟨_, h, rfl, rfl⟩

end Go.Proofs.YtecdkjnomkdbkaaDoor.G

namespace Go.Proofs.YtecdkjnomkdbkaaDoor.G
open Go Go.Ab Go.Proofs Go.Proofs.YtecdkjnomkdbkaaDoor
set_option maxRecDepth 100000
set_option linter.unusedVariables false
set_option linter.unusedSimpArgs false
set_option maxHeartbeats 1000000
attribute [local irreducible] wops wopf Go.Ab.Fin
theorem F38.ag2 : tagg Tryd.prog 2 = some false := by kernel_rfl
theorem F38.it88 : tint Tryd.prog 88 = some .u64 := by kernel_rfl
theorem F38.ti31 : (telem Tryd.prog 31).isSome = true := by kernel_rfl
theorem F38.tl31 : (telem Tryd.prog 31).bind (tsz Tryd.prog) = some 1 := by kernel_rfl
theorem F38.us2 : (Tryd.prog.underlying 2).isSome = true := by kernel_rfl
theorem impl_planesFor_ok {fr : List Pc} {H : Heap} (v0 : AV) (l0 : List (Int)) (hs : Sep H (fr)) (g0 : ∀ H, Sep H fr → Shows H v0 1 (enc (eInt .i64) l0)) (K : Int → Prop) (h : impl_planesFor.wp l0 K) : OkQ Tryd.prog 38 [(.v v0)] H (fun r H2 => ∃ (y0 : Int), K y0 ∧ r = (.v (.int .i64 y0)) ∧ H = H2) := by
  unfold impl_planesFor.wp at h
  refine of_body Tryd.f38 F.hm Tryd.func38 rfl Tryd.call38 (by kernel_rfl) (by simp) ?_
  refine fi_seq ?_
  refine fi_region ?_
  refine so_assign (v := (.v (.int .i64 (0 : Int)))) rfl ?_
  refine so_nil ?_
  refine fi_seq ?_
  refine fi_region ?_
  refine so_assign (v := (.v (.int .i64 (0 : Int)))) rfl ?_
  refine so_nil ?_
  refine fi_seq ?_
  refine fi_seq ?_
  refine fi_region ?_
  refine so_move (v := (.v v0)) rfl ?_
  refine sv_len (g0 _ hs) (fun _ => rfl) (by decide) rfl F38.ti31 ?_
  refine so_move (v := (.v (.int .i64 (0 : Int)))) rfl ?_
  refine so_nil ?_
  refine fi_block ?_
  refine fi_loop ?_
  refine fi_at [(3, (.v (.int .i64 (0 : Int)))), (6, (.v v0)), (7, (.v (.int .i64 (l0.length : Int)))), (8, (.v (.int .i64 (0 : Int))))] ⟨rfl, rfl, rfl, rfl, trivial⟩ ?_
  refine h (fun (most102 : Int) (x103 : Int) => ∀ (s : Nat → TV), Fin _ _ (updL s [(3, (.v (.int .i64 most102))), (6, (.v v0)), (7, (.v (.int .i64 (l0.length : Int)))), (8, (.v (.int .i64 x103)))]) _ _) ?_ _
  intro most102 x103 h s110
  refine fi_inLoop ?_
  refine fi_seq ?_
  refine fi_region ?_
  refine so_bin rfl rfl ab_lss ?_
  refine so_nil ?_
  refine fi_seq ?_
  replace h := ofP h; rcases h with ⟨c104, h⟩ | ⟨c104, h⟩
  · refine fi_true rfl (decide_eq_true c104) ?_
    refine fi_skip ?_
    refine fi_seq ?_
    refine fi_block ?_
    refine fi_seq ?_
    refine fi_region ?_
    obtain ⟨c105, h⟩ := h
    refine sv_idx (g0 _ hs) c105 (fun _ => rfl) (by decide) rfl rfl F38.tl31 ?_
    refine sv_cell (g0 _ hs) c105 (0 : Int) 0 (fun x => (AV.int .i64 x)) (fun _ => rfl) (fun _ => rfl) rfl F38.ag2 ?_
    refine so_assign (v := (.v (.int .i64 (l0.getD (x103).toNat (0 : Int))))) rfl ?_
    refine so_nil ?_
    refine fi_region ?_
    refine so_move (v := (.v (.int .i64 most102))) rfl ?_
    refine so_move (v := (.v (.int .i64 (l0.getD (x103).toNat (0 : Int))))) rfl ?_
    refine sv_callS (impl_far_ok (l0.getD (x103).toNat (0 : Int)) hs  _ h) (fun _ _ ⟨_, _, _, e⟩ => e) rfl rfl ?_
    clear h
    rintro _ _ ⟨y106, h, rfl, rfl⟩
    refine sv_max rfl rfl ?_
    refine so_assign (v := (.v (.int .i64 (mxI most102 y106)))) rfl ?_
    refine so_nil ?_
    refine fi_inBlock ?_
    refine fi_region ?_
    refine so_bin rfl rfl ab_add ?_
    refine so_move (v := (.v (.int .i64 (IntKind.i64.wrap (x103 + (1 : Int)))))) rfl ?_
    refine so_nil ?_
    exact fi_at [(3, (.v (.int .i64 (mxI most102 y106)))), (6, (.v v0)), (7, (.v (.int .i64 (l0.length : Int)))), (8, (.v (.int .i64 (IntKind.i64.wrap (x103 + (1 : Int))))))] ⟨rfl, rfl, rfl, rfl, trivial⟩ (h _)
  · refine fi_false rfl (decide_eq_false c104) ?_
    refine fi_exit rfl ?_
    refine fi_seq ?_
    refine fi_region ?_
    refine so_move (v := (.v (.int .i64 most102))) rfl ?_
    refine sv_ii rfl F38.us2 F38.it88 ?_
    refine sv_callS (math_bits_Len64_ok (IntKind.u64.wrap most102) hs  _ h) (fun _ _ ⟨_, _, _, e⟩ => e) rfl rfl ?_
    clear h
    rintro _ _ ⟨y108, h, rfl, rfl⟩
    refine so_assign (v := (.v (.int .i64 y108))) rfl ?_
    refine so_nil ?_
    exact by_ret rfl ⟨_, h, rfl, rfl⟩

end Go.Proofs.YtecdkjnomkdbkaaDoor.G

namespace Go.Proofs.YtecdkjnomkdbkaaDoor.G
open Go Go.Ab Go.Proofs Go.Proofs.YtecdkjnomkdbkaaDoor
set_option maxRecDepth 100000
set_option linter.unusedVariables false
set_option linter.unusedSimpArgs false
set_option maxHeartbeats 1000000
attribute [local irreducible] wops wopf Go.Ab.Fin
theorem impl_digit_ok {fr : List Pc} {H : Heap} (a0 : Int) (a1 : Int) (hs : Sep H (fr))  (K : Bool → Prop) (h : impl_digit.wp a0 a1 K) : OkQ Tryd.prog 57 [(.v (.int .i64 a0)), (.v (.int .i64 a1))] H (fun r H2 => ∃ (y0 : Bool), K y0 ∧ r = (.v (.bool y0)) ∧ H = H2) := by
  unfold impl_digit.wp at h
  refine of_body Tryd.f57 F.hm Tryd.func57 rfl Tryd.call57 (by kernel_rfl) (by simp) ?_
  refine fi_seq ?_
  refine fi_region ?_
  refine so_assign (v := (.v (.bool false))) rfl ?_
  refine so_nil ?_
  refine fi_seq ?_
  refine fi_region ?_
  refine so_move (v := (.v (.int .i64 a0))) rfl ?_
  refine sv_callS (impl_far_ok a0 hs  _ h) (fun _ _ ⟨_, _, _, e⟩ => e) rfl rfl ?_
  clear h
  rintro _ _ ⟨y101, h, rfl, rfl⟩
  refine so_move (v := (.v (.int .i64 a1))) rfl ?_
  obtain ⟨c103, h⟩ := h
  refine so_bin rfl rfl (ab_shr c103) ?_
  refine so_bin rfl rfl ab_and ?_
  refine so_bin rfl rfl ab_eql ?_
  refine so_assign (v := (.v (.bool (decide ((ibits .and .i64 (Int.fdiv y101 (2 ^ (min (a1).toNat IntKind.i64.bits))) (1 : Int)) = (1 : Int)))))) rfl ?_
  refine so_nil ?_
  exact by_ret rfl ⟨_, h, rfl, rfl⟩

end Go.Proofs.YtecdkjnomkdbkaaDoor.G

namespace Go.Proofs.YtecdkjnomkdbkaaDoor.G
open Go Go.Ab Go.Proofs Go.Proofs.YtecdkjnomkdbkaaDoor
set_option maxRecDepth 100000
set_option linter.unusedVariables false
set_option linter.unusedSimpArgs false
set_option maxHeartbeats 1000000
attribute [local irreducible] wops wopf Go.Ab.Fin
theorem F39.ag2 : tagg Tryd.prog 2 = some false := by kernel_rfl
theorem F39.sz4 : tsz Tryd.prog 4 = some 1 := by kernel_rfl
theorem F39.ta33_33 : tapp Tryd.prog 33 33 = some (1, 1) := by kernel_rfl
theorem F39.te33 : telem Tryd.prog 33 = some 4 := by kernel_rfl
theorem F39.ti31 : (telem Tryd.prog 31).isSome = true := by kernel_rfl
theorem F39.tl31 : (telem Tryd.prog 31).bind (tsz Tryd.prog) = some 1 := by kernel_rfl
theorem F39.ze4 : tzero Tryd.prog 4 = some [(.bool false)] := by kernel_rfl
theorem impl_codeUntil_ok {fr : List Pc} {H : Heap} (v0 : AV) (l0 : List (Int)) (a1 : Int) (a2 : Int) (hs : Sep H (fr)) (g0 : ∀ H, Sep H fr → Shows H v0 1 (enc (eInt .i64) l0)) (K : (List (Bool)) → Prop) (h : impl_codeUntil.wp l0 a1 a2 K) : OkQ Tryd.prog 39 [(.v v0), (.v (.int .i64 a1)), (.v (.int .i64 a2))] H (fun r H2 => ∃ (y0 : List (Bool)), K y0 ∧ ∃ (w0_ : AV), r = (.v w0_) ∧ Sep H2 (Pc.osl w0_ 1 (enc eBool y0) :: fr)) := by
  unfold impl_codeUntil.wp at h
  refine of_body Tryd.f39 F.hm Tryd.func39 rfl Tryd.call39 (by kernel_rfl) (by simp) ?_
  refine fi_seq ?_
  refine fi_region ?_
  refine so_assign (v := (.v .nilsl)) rfl ?_
  refine so_nil ?_
  refine fi_seq ?_
  refine fi_region ?_
  refine sv_bslice hs eBool ([] : List (Bool)) [] F39.te33 F39.sz4 F39.ze4 rfl rfl rfl rfl (fun _ => rfl) rfl (by decide) nofun (fun v101 H102 nv101 hs => ?_)
  refine so_assign (v := (.v v101)) rfl ?_
  refine so_nil ?_
  refine fi_seq ?_
  refine fi_seq ?_
  refine fi_region ?_
  refine so_move (v := (.v (.int .i64 a1))) rfl ?_
  refine so_bin rfl rfl ab_sub ?_
  refine so_assign (v := (.v (.int .i64 (IntKind.i64.wrap (a1 - (1 : Int)))))) rfl ?_
  refine so_nil ?_
  refine fi_block ?_
  refine fi_loop ?_
  refine fi_at [(0, (.v v0)), (2, (.v (.int .i64 a2))), (7, (.v v101)), (8, (.v (.int .i64 (IntKind.i64.wrap (a1 - (1 : Int))))))] ⟨rfl, rfl, rfl, rfl, trivial⟩ ?_
  refine h (fun (out162 : List (Bool)) (plane164 : Int) => ∀ (s : Nat → TV) (H : Heap) (v163 : AV) (nv163 : v163 ≠ .nilsl), Sep H (Pc.osl v163 1 (enc eBool out162) :: fr) → Fin _ _ (updL s [(0, (.v v0)), (2, (.v (.int .i64 a2))), (7, (.v v163)), (8, (.v (.int .i64 plane164)))]) H _) ?_ _ _ _ nv101 hs
  intro out162 plane164 h s218 H219 v163 nv163 hs
  refine fi_inLoop ?_
  refine fi_seq ?_
  refine fi_seq ?_
  refine fi_region ?_
  refine so_move (v := (.v (.int .i64 plane164))) rfl ?_
  refine so_move (v := (.v (.int .i64 a2))) rfl ?_
  refine so_bin rfl rfl ab_geq ?_
  refine so_nil ?_
  replace h := ofP h; rcases h with ⟨c165, h⟩ | ⟨c165, h⟩
  · refine fi_true rfl (decide_eq_true c165) ?_
    refine fi_skip ?_
    refine fi_seq ?_
    refine fi_block ?_
    refine fi_seq ?_
    refine fi_region ?_
    refine so_move (v := (.v v0)) rfl ?_
    refine sv_len (g0 _ hs.tl) (fun _ => rfl) (by decide) rfl F39.ti31 ?_
    refine so_move (v := (.v (.int .i64 (0 : Int)))) rfl ?_
    refine so_nil ?_
    refine fi_block ?_
    refine fi_loop ?_
    refine fi_at [(0, (.v v0)), (2, (.v (.int .i64 a2))), (7, (.v v163)), (8, (.v (.int .i64 plane164))), (20, (.v v0)), (21, (.v (.int .i64 (l0.length : Int)))), (22, (.v (.int .i64 (0 : Int))))] ⟨rfl, rfl, rfl, rfl, rfl, rfl, rfl, trivial⟩ ?_
    refine h (fun (out192 : List (Bool)) (x194 : Int) => ∀ (s : Nat → TV) (H : Heap) (v193 : AV) (nv193 : v193 ≠ .nilsl), Sep H (Pc.osl v193 1 (enc eBool out192) :: fr) → Fin _ _ (updL s [(0, (.v v0)), (2, (.v (.int .i64 a2))), (7, (.v v193)), (8, (.v (.int .i64 plane164))), (20, (.v v0)), (21, (.v (.int .i64 (l0.length : Int)))), (22, (.v (.int .i64 x194)))]) H _) ?_ _ _ _ nv163 hs
    intro out192 x194 h s216 H217 v193 nv193 hs
    refine fi_inLoop ?_
    refine fi_seq ?_
    refine fi_region ?_
    refine so_bin rfl rfl ab_lss ?_
    refine so_nil ?_
    refine fi_seq ?_
    replace h := ofP h; rcases h with ⟨c195, h⟩ | ⟨c195, h⟩
    · refine fi_true rfl (decide_eq_true c195) ?_
      refine fi_skip ?_
      refine fi_seq ?_
      refine fi_block ?_
      refine fi_seq ?_
      refine fi_region ?_
      obtain ⟨c196, h⟩ := h
      refine sv_idx (g0 _ hs.tl) c196 (fun _ => rfl) (by decide) rfl rfl F39.tl31 ?_
      refine sv_cell (g0 _ hs.tl) c196 (0 : Int) 0 (fun x => (AV.int .i64 x)) (fun _ => rfl) (fun _ => rfl) rfl F39.ag2 ?_
      refine so_assign (v := (.v (.int .i64 (l0.getD (x194).toNat (0 : Int))))) rfl ?_
      refine so_nil ?_
      refine fi_seq ?_
      refine fi_region ?_
      refine so_move (v := (.v (.int .i64 (l0.getD (x194).toNat (0 : Int))))) rfl ?_
      refine so_move (v := (.v (.int .i64 plane164))) rfl ?_
      refine sv_callS (impl_digit_ok (l0.getD (x194).toNat (0 : Int)) plane164 hs  _ h) (fun _ _ ⟨_, _, _, e⟩ => e) rfl rfl ?_
      clear h
      rintro _ _ ⟨y197, h, rfl, rfl⟩
      refine so_assign (v := (.v (.bool y197))) rfl ?_
      refine so_nil ?_
      refine fi_seq ?_
      refine fi_region ?_
      refine so_move (v := (.v v193)) rfl ?_
      refine so_move (v := (.v (.bool y197))) rfl ?_
      refine sv_bslice hs eBool ([y197] : List (Bool)) [[(.bool y197)]] F39.te33 F39.sz4 F39.ze4 rfl rfl rfl rfl (fun _ => rfl) rfl (by decide) nofun (fun v199 H200 nv199 hs => ?_)
      obtain ⟨c204, h⟩ := h
      refine sv_app hs 1 rfl (hs.shows 0 rfl) (fun _ => rfl) (by decide) F39.ta33_33 (by decide) c204 rfl rfl nofun (fun v202 H203 kv202 hs => ?_)
      replace hs := hs.del 0
      have nv202 := kv202 nv193
      refine so_assign (v := (.v v202)) rfl ?_
      refine so_nil ?_
      refine fi_seq ?_
      refine fi_region ?_
      refine so_move (v := (.v (.bool y197))) rfl ?_
      refine so_move (v := (.v (.bool y197))) rfl ?_
      replace h := ofT h; rcases h with ⟨c205, h⟩ | ⟨c205, h⟩
      · refine so_gyes rfl c205 ?_
        refine so_move (v := (.v (.int .i64 (l0.getD (x194).toNat (0 : Int))))) rfl ?_
        refine so_gyes rfl c205 ?_
        refine sv_callS (impl_far_ok (l0.getD (x194).toNat (0 : Int)) hs  _ h) (fun _ _ ⟨_, _, _, e⟩ => e) rfl rfl ?_
        clear h
        rintro _ _ ⟨y206, h, rfl, rfl⟩
        refine so_gyes rfl c205 ?_
        refine so_move (v := (.v (.int .i64 plane164))) rfl ?_
        refine so_gyes rfl c205 ?_
        refine so_bin rfl rfl ab_add ?_
        refine so_gyes rfl c205 ?_
        obtain ⟨c208, h⟩ := h
        refine so_bin rfl rfl (ab_shr c208) ?_
        refine so_gyes rfl c205 ?_
        refine so_bin rfl rfl ab_eql ?_
        refine so_pick_t (v := (.v (.bool (decide ((Int.fdiv y206 (2 ^ (min ((IntKind.i64.wrap (plane164 + (1 : Int)))).toNat IntKind.i64.bits))) = (0 : Int)))))) rfl c205 rfl ?_
        refine so_nil ?_
        replace h := ofP h; rcases h with ⟨c209, h⟩ | ⟨c209, h⟩
        · refine fi_true rfl (decide_eq_true c209) ?_
          refine fi_region ?_
          refine so_move (v := (.v v202)) rfl ?_
          refine so_move (v := (.v (.int .i64 (l0.getD (x194).toNat (0 : Int))))) rfl ?_
          refine so_bin rfl rfl ab_lss ?_
          refine sv_bslice hs eBool ([(decide ((l0.getD (x194).toNat (0 : Int)) < (0 : Int)))] : List (Bool)) [[(.bool (decide ((l0.getD (x194).toNat (0 : Int)) < (0 : Int))))]] F39.te33 F39.sz4 F39.ze4 rfl rfl rfl rfl (fun _ => rfl) rfl (by decide) nofun (fun v210 H211 nv210 hs => ?_)
          obtain ⟨c215, h⟩ := h
          refine sv_app hs 1 rfl (hs.shows 0 rfl) (fun _ => rfl) (by decide) F39.ta33_33 (by decide) c215 rfl rfl nofun (fun v213 H214 kv213 hs => ?_)
          replace hs := hs.del 0
          have nv213 := kv213 nv202
          refine so_assign (v := (.v v213)) rfl ?_
          refine so_nil ?_
          refine fi_inBlock ?_
          refine fi_region ?_
          refine so_bin rfl rfl ab_add ?_
          refine so_move (v := (.v (.int .i64 (IntKind.i64.wrap (x194 + (1 : Int)))))) rfl ?_
          refine so_nil ?_
          exact fi_at [(0, (.v v0)), (2, (.v (.int .i64 a2))), (7, (.v v213)), (8, (.v (.int .i64 plane164))), (20, (.v v0)), (21, (.v (.int .i64 (l0.length : Int)))), (22, (.v (.int .i64 (IntKind.i64.wrap (x194 + (1 : Int))))))] ⟨rfl, rfl, rfl, rfl, rfl, rfl, rfl, trivial⟩ (h _ _ _ nv213 hs)
        · refine fi_false rfl (decide_eq_false c209) ?_
          refine fi_skip ?_
          refine fi_inBlock ?_
          refine fi_region ?_
          refine so_bin rfl rfl ab_add ?_
          refine so_move (v := (.v (.int .i64 (IntKind.i64.wrap (x194 + (1 : Int)))))) rfl ?_
          refine so_nil ?_
          exact fi_at [(0, (.v v0)), (2, (.v (.int .i64 a2))), (7, (.v v202)), (8, (.v (.int .i64 plane164))), (20, (.v v0)), (21, (.v (.int .i64 (l0.length : Int)))), (22, (.v (.int .i64 (IntKind.i64.wrap (x194 + (1 : Int))))))] ⟨rfl, rfl, rfl, rfl, rfl, rfl, rfl, trivial⟩ (h _ _ _ nv202 hs)
      · refine so_gno rfl c205 ?_
        refine so_gno rfl c205 ?_
        refine so_gno rfl c205 ?_
        refine so_gno rfl c205 ?_
        refine so_gno rfl c205 ?_
        refine so_gno rfl c205 ?_
        refine so_pick_f (v := (.v (.bool false))) rfl c205 rfl ?_
        refine so_nil ?_
        refine fi_false rfl rfl ?_
        refine fi_skip ?_
        refine fi_inBlock ?_
        refine fi_region ?_
        refine so_bin rfl rfl ab_add ?_
        refine so_move (v := (.v (.int .i64 (IntKind.i64.wrap (x194 + (1 : Int)))))) rfl ?_
        refine so_nil ?_
        exact fi_at [(0, (.v v0)), (2, (.v (.int .i64 a2))), (7, (.v v202)), (8, (.v (.int .i64 plane164))), (20, (.v v0)), (21, (.v (.int .i64 (l0.length : Int)))), (22, (.v (.int .i64 (IntKind.i64.wrap (x194 + (1 : Int))))))] ⟨rfl, rfl, rfl, rfl, rfl, rfl, rfl, trivial⟩ (h _ _ _ nv202 hs)
    · refine fi_false rfl (decide_eq_false c195) ?_
      refine fi_exit rfl ?_
      refine fi_inBlock ?_
      refine fi_region ?_
      refine so_move (v := (.v (.int .i64 plane164))) rfl ?_
      refine so_bin rfl rfl ab_sub ?_
      refine so_assign (v := (.v (.int .i64 (IntKind.i64.wrap (plane164 - (1 : Int)))))) rfl ?_
      refine so_nil ?_
      exact fi_at [(0, (.v v0)), (2, (.v (.int .i64 a2))), (7, (.v v193)), (8, (.v (.int .i64 (IntKind.i64.wrap (plane164 - (1 : Int))))))] ⟨rfl, rfl, rfl, rfl, trivial⟩ (h _ _ _ nv193 hs)
  · refine fi_false rfl (decide_eq_false c165) ?_
    refine fi_exit rfl ?_
    refine fi_seq ?_
    refine fi_region ?_
    refine so_move (v := (.v v163)) rfl ?_
    refine so_assign (v := (.v v163)) rfl ?_
    refine so_nil ?_
    exact by_ret rfl ⟨_, h, _, rfl, hs⟩

end Go.Proofs.YtecdkjnomkdbkaaDoor.G

namespace Go.Proofs.YtecdkjnomkdbkaaDoor.G
open Go Go.Ab Go.Proofs Go.Proofs.YtecdkjnomkdbkaaDoor
set_option maxRecDepth 100000
set_option linter.unusedVariables false
set_option linter.unusedSimpArgs false
set_option maxHeartbeats 1000000
attribute [local irreducible] wops wopf Go.Ab.Fin
theorem F12.ag35 : tagg Tryd.prog 35 = some true := by kernel_rfl
theorem F12.bp35 : bplan Tryd.prog 35 = some ([(.int .i64 (0 : Int)), (.int .i64 (0 : Int)), .nilsl], [(0, 1), (1, 1), (2, 1)]) := by kernel_rfl
theorem F12.sz35 : tsz Tryd.prog 35 = some 3 := by kernel_rfl
theorem F12.ti31 : (telem Tryd.prog 31).isSome = true := by kernel_rfl
theorem F12.ze35 : tzero Tryd.prog 35 = some [(.int .i64 (0 : Int)), (.int .i64 (0 : Int)), .nilsl] := by kernel_rfl
theorem impl_CodeList_ok {fr : List Pc} {H : Heap} (v0 : AV) (l0 : List (Int)) (hs : Sep H (fr)) (g0 : ∀ H, Sep H fr → Shows H v0 1 (enc (eInt .i64) l0)) (K : Int → Int → (List (Bool)) → Bool → Prop) (h : impl_CodeList.wp l0 K) : OkQ Tryd.prog 12 [(.v v0)] H (fun r H2 => ∃ (y0 : Int) (y1 : Int) (y2 : List (Bool)) (y3 : Bool), K y0 y1 y2 y3 ∧ ∃ (w0_ : AV), r = (.t [(.g [(.int .i64 y0), (.int .i64 y1), w0_]), (.v (.bool y3))]) ∧ Sep H2 (Pc.osl w0_ 1 (enc eBool y2) :: fr)) := by
  unfold impl_CodeList.wp at h
  refine of_body Tryd.f12 F.hm Tryd.func12 rfl Tryd.call12 (by kernel_rfl) (by simp) ?_
  refine fi_seq ?_
  refine fi_region ?_
  refine sv_alloc hs F12.ze35 rfl nofun (fun id101 H102 hs => ?_)
  refine so_assign (v := (.v (.bool false))) rfl ?_
  refine so_nil ?_
  refine fi_seq ?_
  refine fi_seq ?_
  refine fi_region ?_
  refine so_move (v := (.v v0)) rfl ?_
  refine sv_callS (impl_AreIntegers_ok v0 l0 hs (fun _ hs => (g0 _ hs.tl)) _ h) (fun _ _ ⟨_, _, _, e⟩ => e) rfl rfl ?_
  clear h
  rintro _ _ ⟨y104, h, rfl, rfl⟩
  refine so_un rfl au_not ?_
  refine so_nil ?_
  replace h := ofT h; rcases h with ⟨c106, h⟩ | ⟨c106, h⟩
  · refine fi_false rfl (not_f c106) ?_
    refine fi_skip ?_
    refine fi_seq ?_
    refine fi_region ?_
    refine so_move (v := (.v v0)) rfl ?_
    refine sv_callS (impl_planesFor_ok v0 l0 hs (fun _ hs => (g0 _ hs.tl)) _ h) (fun _ _ ⟨_, _, _, e⟩ => e) rfl rfl ?_
    clear h
    rintro _ _ ⟨y107, h, rfl, rfl⟩
    refine so_assign (v := (.v (.int .i64 y107))) rfl ?_
    refine so_nil ?_
    refine fi_seq ?_
    refine fi_region ?_
    refine so_move (v := (.v v0)) rfl ?_
    refine sv_len (g0 _ hs.tl) (fun _ => rfl) (by decide) rfl F12.ti31 ?_
    refine so_move (v := (.v (.int .i64 y107))) rfl ?_
    refine so_move (v := (.v v0)) rfl ?_
    refine so_move (v := (.v (.int .i64 y107))) rfl ?_
    refine sv_call (impl_codeUntil_ok v0 l0 y107 (0 : Int) hs (fun _ hs => (g0 _ hs.tl)) _ h) rfl rfl nofun ?_
    clear h hs
    rintro _ H112 ⟨y109, h, v110, rfl, hs⟩
    refine so_build F12.bp35 (cps := [(0, [(.int .i64 (l0.length : Int))]), (1, [(.int .i64 y107)]), (2, [v110])]) rfl (fac (stc rfl stn) (fac (stc rfl stn) (fac (stc (hs.shows 0 rfl).stor stn) fan))) rfl ?_
    refine sv_st hs 1 rfl rfl rfl (c := [(.int .i64 (l0.length : Int)), (.int .i64 y107), v110]) rfl F12.sz35 rfl (stc rfl (stc rfl (stc (hs.shows 0 rfl).stor stn))) (leb rfl) (cs' := [(.int .i64 (l0.length : Int)), (.int .i64 y107), v110]) rfl nofun (fun H113 hs => ?_)
    refine so_assign (v := (.v (.bool true))) rfl ?_
    refine so_nil ?_
    exact by_ret (res_mk (ar_cells rfl F12.ag35 F12.sz35 (hs.lds 1 rfl (leb rfl) rfl) (ar_tmp rfl ar_nil)) rfl) ⟨_, _, _, _, h, _, rfl, (Sep.del 1 hs)⟩
  · refine fi_true rfl (not_t c106) ?_
    refine fi_seq ?_
    refine fi_region ?_
    refine so_build F12.bp35 (cps := []) rfl fan rfl ?_
    refine sv_st hs 0 rfl rfl rfl (c := [(.int .i64 (0 : Int)), (.int .i64 (0 : Int)), .nilsl]) rfl F12.sz35 rfl (stc rfl (stc rfl (stc rfl stn))) (leb rfl) (cs' := [(.int .i64 (0 : Int)), (.int .i64 (0 : Int)), .nilsl]) rfl nofun (fun H114 hs => ?_)
    refine so_assign (v := (.v (.bool false))) rfl ?_
    refine so_nil ?_
    exact by_ret (res_mk (ar_cells rfl F12.ag35 F12.sz35 (hs.lds 0 rfl (leb rfl) rfl) (ar_tmp rfl ar_nil)) rfl) ⟨_, _, _, _, h, _, rfl, (Sep.nil (Sep.del 0 hs) 1)⟩

end Go.Proofs.YtecdkjnomkdbkaaDoor.G

namespace Go.Proofs.YtecdkjnomkdbkaaDoor.G
open Go Go.Ab Go.Proofs Go.Proofs.YtecdkjnomkdbkaaDoor
set_option maxRecDepth 100000
set_option linter.unusedVariables false
set_option linter.unusedSimpArgs false
set_option maxHeartbeats 1000000
attribute [local irreducible] wops wopf Go.Ab.Fin
theorem F40.ag2 : tagg Tryd.prog 2 = some false := by kernel_rfl
theorem F40.ag33 : tagg Tryd.prog 33 = some false := by kernel_rfl
theorem F40.fd35_0 : tfield Tryd.prog 35 0 = some (0, 1, false) := by kernel_rfl
theorem F40.fd35_1 : tfield Tryd.prog 35 1 = some (1, 1, false) := by kernel_rfl
theorem F40.fd35_2 : tfield Tryd.prog 35 2 = some (2, 1, false) := by kernel_rfl
theorem F40.inf35 : (Tryd.prog.info? 35).isSome = true := by kernel_rfl
theorem F40.ti33 : (telem Tryd.prog 33).isSome = true := by kernel_rfl
theorem impl_ValidCoded_ok {fr : List Pc} {H : Heap} (a0 : Int) (a1 : Int) (v2 : AV) (l2 : List (Bool)) (hs : Sep H (fr)) (g2 : ∀ H, Sep H fr → Shows H v2 1 (enc eBool l2)) (K : Bool → Prop) (h : impl_ValidCoded.wp a0 a1 l2 K) : OkQ Tryd.prog 40 [(.g [(.int .i64 a0), (.int .i64 a1), v2])] H (fun r H2 => ∃ (y0 : Bool), K y0 ∧ r = (.v (.bool y0)) ∧ Sep H2 (fr)) := by
  unfold impl_ValidCoded.wp at h
  refine of_body Tryd.f40 F.hm Tryd.func40 rfl Tryd.call40 (by kernel_rfl) (by simp) ?_
  refine fi_seq ?_
  refine fi_region ?_
  refine sv_box hs rfl (c := [(.int .i64 a0), (.int .i64 a1), v2]) rfl F40.inf35 (stc rfl (stc rfl (stc (g2 _ hs).stor stn))) nofun (fun id101 H102 hs => ?_)
  refine so_assign (v := (.v (.bool false))) rfl ?_
  refine so_nil ?_
  refine fi_seq ?_
  refine fi_region ?_
  refine so_fieldAddr rfl F40.fd35_0 ?_
  refine sv_ld hs 0 rfl rfl rfl F40.ag2 ?_
  refine sv_callS (impl_within_ok a0 (1 : Int) (128 : Int) hs  _ h) (fun _ _ ⟨_, _, _, e⟩ => e) rfl rfl ?_
  clear h
  rintro _ _ ⟨y104, h, rfl, rfl⟩
  refine so_move (v := (.v (.bool y104))) rfl ?_
  replace h := ofT h; rcases h with ⟨c106, h⟩ | ⟨c106, h⟩
  · refine so_gyes rfl c106 ?_
    refine so_fieldAddr rfl F40.fd35_1 ?_
    refine so_gyes rfl c106 ?_
    refine sv_ld hs 0 rfl rfl rfl F40.ag2 ?_
    refine so_gyes rfl c106 ?_
    refine sv_callS (impl_within_ok a1 (0 : Int) (24 : Int) hs  _ h) (fun _ _ ⟨_, _, _, e⟩ => e) rfl rfl ?_
    clear h
    rintro _ _ ⟨y107, h, rfl, rfl⟩
    refine so_pick_t (v := (.v (.bool y107))) rfl c106 rfl ?_
    refine so_move (v := (.v (.bool y107))) rfl ?_
    replace h := ofT h; rcases h with ⟨c109, h⟩ | ⟨c109, h⟩
    · refine so_gyes rfl c109 ?_
      refine so_fieldAddr rfl F40.fd35_2 ?_
      refine so_gyes rfl c109 ?_
      refine sv_ld hs 0 rfl rfl rfl F40.ag33 ?_
      refine so_gyes rfl c109 ?_
      refine sv_len (g2 _ hs.tl) (fun _ => rfl) (by decide) rfl F40.ti33 ?_
      refine so_gyes rfl c109 ?_
      refine so_bin rfl rfl ab_leq ?_
      refine so_pick_t (v := (.v (.bool (decide ((l2.length : Int) ≤ (32768 : Int)))))) rfl c109 rfl ?_
      refine so_assign (v := (.v (.bool (decide ((l2.length : Int) ≤ (32768 : Int)))))) rfl ?_
      refine so_nil ?_
      exact by_ret rfl ⟨_, h, rfl, (Sep.del 0 hs)⟩
    · refine so_gno rfl c109 ?_
      refine so_gno rfl c109 ?_
      refine so_gno rfl c109 ?_
      refine so_gno rfl c109 ?_
      refine so_pick_f (v := (.v (.bool false))) rfl c109 rfl ?_
      refine so_assign (v := (.v (.bool false))) rfl ?_
      refine so_nil ?_
      exact by_ret rfl ⟨_, h, rfl, (Sep.del 0 hs)⟩
  · refine so_gno rfl c106 ?_
    refine so_gno rfl c106 ?_
    refine so_gno rfl c106 ?_
    refine so_pick_f (v := (.v (.bool false))) rfl c106 rfl ?_
    refine so_move (v := (.v (.bool false))) rfl ?_
    refine so_gno rfl rfl ?_
    refine so_gno rfl rfl ?_
    refine so_gno rfl rfl ?_
    refine so_gno rfl rfl ?_
    refine so_pick_f (v := (.v (.bool false))) rfl rfl rfl ?_
    refine so_assign (v := (.v (.bool false))) rfl ?_
    refine so_nil ?_
    exact by_ret rfl ⟨_, h, rfl, (Sep.del 0 hs)⟩
theorem impl_ValidCoded_okS {fr : List Pc} {H : Heap} (a0 : Int) (a1 : Int) (v2 : AV) (l2 : List (Bool)) (hs : Sep H fr) (g2 : ∀ H, Sep H fr → Shows H v2 1 (enc eBool l2)) (K : Bool → Prop) (h : impl_ValidCoded.wp a0 a1 l2 K) : OkQ Tryd.prog 40 [(.g [(.int .i64 a0), (.int .i64 a1), v2])] H (fun r H2 => ∃ (y0 : Bool), K y0 ∧ r = (.v (.bool y0)) ∧ H = H2) := by
  obtain ⟨r, H2, h1, y0, hK, hr, hsep⟩ := impl_ValidCoded_ok (fr := came H) (H := H) a0 a1 v2 l2 (came_sep H) (came_shows (g2 H hs)) K h
  have hk : H.n ≤ H2.n ∧ ∀ i, i < H.n → H2.f i = H.f i := hsep.1.2.1
  exact ⟨r, H, h1.forget hk.1 hk.2 (by subst hr; rfl), y0, hK, hr, rfl⟩

end Go.Proofs.YtecdkjnomkdbkaaDoor.G

namespace Go.Proofs.YtecdkjnomkdbkaaDoor.G
open Go Go.Ab Go.Proofs Go.Proofs.YtecdkjnomkdbkaaDoor
set_option maxRecDepth 100000
set_option linter.unusedVariables false
set_option linter.unusedSimpArgs false
set_option maxHeartbeats 1000000
attribute [local irreducible] wops wopf Go.Ab.Fin
theorem F13.ag2 : tagg Tryd.prog 2 = some false := by kernel_rfl
theorem F13.ag33 : tagg Tryd.prog 33 = some false := by kernel_rfl
theorem F13.ag35 : tagg Tryd.prog 35 = some true := by kernel_rfl
theorem F13.ag4 : tagg Tryd.prog 4 = some false := by kernel_rfl
theorem F13.by2 : tbytes Tryd.prog 2 = some 8 := by kernel_rfl
theorem F13.fd35_0 : tfield Tryd.prog 35 0 = some (0, 1, false) := by kernel_rfl
theorem F13.fd35_1 : tfield Tryd.prog 35 1 = some (1, 1, false) := by kernel_rfl
theorem F13.fd35_2 : tfield Tryd.prog 35 2 = some (2, 1, false) := by kernel_rfl
theorem F13.inf35 : (Tryd.prog.info? 35).isSome = true := by kernel_rfl
theorem F13.sz2 : tsz Tryd.prog 2 = some 1 := by kernel_rfl
theorem F13.sz35 : tsz Tryd.prog 35 = some 3 := by kernel_rfl
theorem F13.ta31_31 : tapp Tryd.prog 31 31 = some (1, 8) := by kernel_rfl
theorem F13.te31 : telem Tryd.prog 31 = some 2 := by kernel_rfl
theorem F13.ti31 : (telem Tryd.prog 31).isSome = true := by kernel_rfl
theorem F13.ti33 : (telem Tryd.prog 33).isSome = true := by kernel_rfl
theorem F13.tl31 : (telem Tryd.prog 31).bind (tsz Tryd.prog) = some 1 := by kernel_rfl
theorem F13.tl33 : (telem Tryd.prog 33).bind (tsz Tryd.prog) = some 1 := by kernel_rfl
theorem F13.ze2 : tzero Tryd.prog 2 = some [(.int .i64 (0 : Int))] := by kernel_rfl
theorem impl_ListFrom_ok {fr : List Pc} {H : Heap} (a0 : Int) (a1 : Int) (v2 : AV) (l2 : List (Bool)) (hs : Sep H (fr)) (g2 : ∀ H, Sep H fr → Shows H v2 1 (enc eBool l2)) (K : (List (Int)) → Bool → Prop) (h : impl_ListFrom.wp a0 a1 l2 K) : OkQ Tryd.prog 13 [(.g [(.int .i64 a0), (.int .i64 a1), v2])] H (fun r H2 => ∃ (y0 : List (Int)) (y1 : Bool), K y0 y1 ∧ ∃ (w0_ : AV), r = (.t [(.v w0_), (.v (.bool y1))]) ∧ Sep H2 (Pc.osl w0_ 1 (enc (eInt .i64) y0) :: fr)) := by
  unfold impl_ListFrom.wp at h
  refine of_body Tryd.f13 F.hm Tryd.func13 rfl Tryd.call13 (by kernel_rfl) (by simp) ?_
  refine fi_seq ?_
  refine fi_region ?_
  refine sv_box hs rfl (c := [(.int .i64 a0), (.int .i64 a1), v2]) rfl F13.inf35 (stc rfl (stc rfl (stc (g2 _ hs).stor stn))) nofun (fun id101 H102 hs => ?_)
  refine so_assign (v := (.v .nilsl)) rfl ?_
  refine so_assign (v := (.v (.bool false))) rfl ?_
  refine so_nil ?_
  refine fi_seq ?_
  refine fi_seq ?_
  refine fi_region ?_
  refine sv_lds hs 0 rfl rfl (leb rfl) rfl F13.ag35 F13.sz35 ?_
  refine sv_callS (impl_ValidCoded_okS a0 a1 v2 l2 hs (fun _ hs => (g2 _ hs.tl)) _ h) (fun _ _ ⟨_, _, _, e⟩ => e) rfl rfl ?_
  clear h
  rintro _ _ ⟨y104, h, rfl, rfl⟩
  refine so_un rfl au_not ?_
  refine so_nil ?_
  replace h := ofT h; rcases h with ⟨c106, h⟩ | ⟨c106, h⟩
  · refine fi_false rfl (not_f c106) ?_
    refine fi_skip ?_
    refine fi_seq ?_
    obtain ⟨c112, h⟩ := h
    obtain ⟨G116, k107, eG116, ek107, hs117_⟩ := hs.newHole
    obtain ⟨G118, k108, eG118, ek108, hs119_⟩ := hs117_.newHole
    obtain ⟨v111, ev111⟩ : ∃ v : AV, v = .sl k107 0 (a0).toNat 1 := ⟨_, rfl⟩
    have nv111 := sl_nn ev111
    obtain ⟨v114, ev114⟩ : ∃ v : AV, v = .sl k108 0 (a0).toNat 1 := ⟨_, rfl⟩
    have nv114 := sl_nn ev114
    have := hs119_.neH 1 0 rfl rfl
    obtain ⟨G120, eG120, hs121_⟩ := hs119_.fill 1 rfl (enc (eInt .i64) (List.replicate (a0).toNat (0 : Int))) (by rw [enc_length (e := (eInt .i64)) (n := 1) (fun _ => rfl)]; first | rfl | simp | (rw [List.length_append])) ev111
    obtain ⟨G122, eG122, hs123_⟩ := hs119_.fill 0 rfl (enc (eInt .i64) (List.replicate (a0).toNat (0 : Int))) (by rw [enc_length (e := (eInt .i64)) (n := 1) (fun _ => rfl)]; first | rfl | simp | (rw [List.length_append])) ev114
    obtain ⟨G124, eG124, hs125_⟩ := hs121_.fill 0 rfl (enc (eInt .i64) (List.replicate (a0).toNat (0 : Int))) (by rw [enc_length (e := (eInt .i64)) (n := 1) (fun _ => rfl)]; first | rfl | simp | (rw [List.length_append])) ev114
    refine fi_many [2, 5] (tblH G118 [([false, false], G118), ([true, false], G120), ([false, true], G122), ([true, true], G124)]) 2 (by decide +kernel) (Eq.trans (b := G118) rfl (by rw [eG118, eG116]; rfl)) ?_
    refine wm_pure (G := G118) rfl (by kernel_rfl) ?_
    refine so_fieldAddr rfl F13.fd35_0 ?_
    refine so_end ?_
    refine wm_step (.v (.int .i64 a0)) rfl (ms := [[false, false], [false, true]]) (by kernel_rfl) (fac (stepr (i := 0) rfl (by refine sv_ld hs119_ 2 rfl rfl rfl F13.ag2 ?_; exact so_end ⟨rfl, rfl⟩)) (fac (stepr (i := 0) rfl (by refine sv_ld hs123_ 2 rfl rfl rfl F13.ag2 ?_; exact so_end ⟨rfl, rfl⟩)) fan)) ?_
    refine wm_step (.v v111) rfl (ms := [[false, false], [false, true]]) (by kernel_rfl) (fac (sm_make hs119_ 1 rfl (eInt .i64) (0 : Int) c112 rfl rfl F13.te31 F13.sz2 F13.by2 F13.ze2 (fun _ => rfl) rfl (refs_int .i64) ev111 eG120) (fac (sm_make hs123_ 1 rfl (eInt .i64) (0 : Int) c112 rfl rfl F13.te31 F13.sz2 F13.by2 F13.ze2 (fun _ => rfl) rfl (refs_int .i64) ev111 (show G124 = (G122).put k107 (.own (enc (eInt .i64) (List.replicate (a0).toNat (0 : Int)))) from heap_ext (by simp only [eG124, eG120, eG122]; rfl) (fun i => by simp only [eG124, eG120, eG122, put_f]; (repeat' split) <;> first | rfl | (exfalso; omega)))) fan)) ?_
    refine wm_pure (G := G120) rfl (by kernel_rfl) ?_
    refine so_fieldAddr rfl F13.fd35_0 ?_
    refine so_end ?_
    refine wm_step (.v (.int .i64 a0)) rfl (ms := [[false, false], [true, false]]) (by kernel_rfl) (fac (stepr (i := 0) rfl (by refine sv_ld hs119_ 2 rfl rfl rfl F13.ag2 ?_; exact so_end ⟨rfl, rfl⟩)) (fac (stepr (i := 0) rfl (by refine sv_ld hs121_ 2 rfl rfl rfl F13.ag2 ?_; exact so_end ⟨rfl, rfl⟩)) fan)) ?_
    refine wm_step (.v v114) rfl (ms := [[false, false], [true, false]]) (by kernel_rfl) (fac (sm_make hs119_ 0 rfl (eInt .i64) (0 : Int) c112 rfl rfl F13.te31 F13.sz2 F13.by2 F13.ze2 (fun _ => rfl) rfl (refs_int .i64) ev114 eG122) (fac (sm_make hs121_ 0 rfl (eInt .i64) (0 : Int) c112 rfl rfl F13.te31 F13.sz2 F13.by2 F13.ze2 (fun _ => rfl) rfl (refs_int .i64) ev114 eG124) fan)) ?_
    refine wm_pure (G := G124) rfl (by kernel_rfl) ?_
    refine so_assign (v := (.v v111)) rfl ?_
    refine so_end ?_
    refine wm_pure (G := G124) rfl (by kernel_rfl) ?_
    refine so_assign (v := (.v v114)) rfl ?_
    refine so_end ?_
    replace hs := hs125_
    refine wm_nil (G := G124) rfl ?_
    refine fi_seq ?_
    refine fi_region ?_
    refine so_assign (v := (.v (.int .i64 (0 : Int)))) rfl ?_
    refine so_nil ?_
    refine fi_seq ?_
    refine fi_seq ?_
    refine fi_region ?_
    refine so_fieldAddr rfl F13.fd35_1 ?_
    refine sv_ld hs 2 rfl rfl rfl F13.ag2 ?_
    refine so_bin rfl rfl ab_sub ?_
    refine so_assign (v := (.v (.int .i64 (IntKind.i64.wrap (a1 - (1 : Int)))))) rfl ?_
    refine so_nil ?_
    refine fi_block ?_
    refine fi_loop ?_
    refine fi_at [(1, (.v (.ptr id101 0))), (4, (.v v111)), (5, (.v v114)), (6, (.v (.int .i64 (0 : Int)))), (7, (.v (.int .i64 (IntKind.i64.wrap (a1 - (1 : Int))))))] ⟨rfl, rfl, rfl, rfl, rfl, trivial⟩ ?_
    refine h (fun (signs206 : List (Int)) (sizes207 : List (Int)) (atq208 : Int) (plane209 : Int) => ∀ (s : Nat → TV) (H : Heap), Sep H (Pc.osl v114 1 (enc (eInt .i64) signs206) :: Pc.osl v111 1 (enc (eInt .i64) sizes207) :: Pc.box id101 [(.int .i64 a0), (.int .i64 a1), v2] :: fr) → Fin _ _ (updL s [(1, (.v (.ptr id101 0))), (4, (.v v111)), (5, (.v v114)), (6, (.v (.int .i64 atq208))), (7, (.v (.int .i64 plane209)))]) H _) ?_ _ _ hs
    intro signs206 sizes207 atq208 plane209 h s289 H290 hs
    refine fi_inLoop ?_
    refine fi_seq ?_
    refine fi_seq ?_
    refine fi_region ?_
    refine so_move (v := (.v (.int .i64 plane209))) rfl ?_
    refine so_bin rfl rfl ab_geq ?_
    refine so_nil ?_
    replace h := ofP h; rcases h with ⟨c210, h⟩ | ⟨c210, h⟩
    · refine fi_true rfl (decide_eq_true c210) ?_
      refine fi_skip ?_
      refine fi_seq ?_
      refine fi_block ?_
      refine fi_seq ?_
      refine fi_region ?_
      refine so_move (v := (.v v111)) rfl ?_
      refine sv_len (hs.shows 1 rfl) (fun _ => rfl) (by decide) rfl F13.ti31 ?_
      refine so_move (v := (.v (.int .i64 (0 : Int)))) rfl ?_
      refine so_nil ?_
      refine fi_block ?_
      refine fi_loop ?_
      refine fi_at [(1, (.v (.ptr id101 0))), (4, (.v v111)), (5, (.v v114)), (6, (.v (.int .i64 atq208))), (7, (.v (.int .i64 plane209))), (30, (.v (.int .i64 (sizes207.length : Int)))), (31, (.v (.int .i64 (0 : Int))))] ⟨rfl, rfl, rfl, rfl, rfl, rfl, rfl, trivial⟩ ?_
      refine h (fun (signs230 : List (Int)) (sizes231 : List (Int)) (atq232 : Int) (x233 : Int) => ∀ (s : Nat → TV) (H : Heap), Sep H (Pc.osl v114 1 (enc (eInt .i64) signs230) :: Pc.osl v111 1 (enc (eInt .i64) sizes231) :: Pc.box id101 [(.int .i64 a0), (.int .i64 a1), v2] :: fr) → Fin _ _ (updL s [(1, (.v (.ptr id101 0))), (4, (.v v111)), (5, (.v v114)), (6, (.v (.int .i64 atq232))), (7, (.v (.int .i64 plane209))), (30, (.v (.int .i64 (sizes207.length : Int)))), (31, (.v (.int .i64 x233)))]) H _) ?_ _ _ hs
      intro signs230 sizes231 atq232 x233 h s249 H250 hs
      refine fi_inLoop ?_
      refine fi_seq ?_
      refine fi_region ?_
      refine so_bin rfl rfl ab_lss ?_
      refine so_nil ?_
      refine fi_seq ?_
      replace h := ofP h; rcases h with ⟨c234, h⟩ | ⟨c234, h⟩
      · refine fi_true rfl (decide_eq_true c234) ?_
        refine fi_skip ?_
        refine fi_seq ?_
        refine fi_block ?_
        refine fi_seq ?_
        refine fi_region ?_
        refine so_move (v := (.v (.int .i64 x233))) rfl ?_
        refine so_assign (v := (.v (.int .i64 x233))) rfl ?_
        refine so_nil ?_
        refine fi_seq ?_
        refine fi_seq ?_
        refine fi_region ?_
        refine so_move (v := (.v (.int .i64 atq232))) rfl ?_
        refine so_fieldAddr rfl F13.fd35_2 ?_
        refine sv_ld hs 2 rfl rfl rfl F13.ag33 ?_
        refine sv_len (g2 _ hs.tl.tl.tl) (fun _ => rfl) (by decide) rfl F13.ti33 ?_
        refine so_bin rfl rfl ab_eql ?_
        refine so_nil ?_
        replace h := ofP h; rcases h with ⟨c235, h⟩ | ⟨c235, h⟩
        · refine fi_true rfl (decide_eq_true c235) ?_
          refine fi_exit rfl ?_
          refine fi_inBlock ?_
          refine fi_region ?_
          refine so_move (v := (.v (.int .i64 plane209))) rfl ?_
          refine so_bin rfl rfl ab_sub ?_
          refine so_assign (v := (.v (.int .i64 (IntKind.i64.wrap (plane209 - (1 : Int)))))) rfl ?_
          refine so_nil ?_
          exact fi_at [(1, (.v (.ptr id101 0))), (4, (.v v111)), (5, (.v v114)), (6, (.v (.int .i64 atq232))), (7, (.v (.int .i64 (IntKind.i64.wrap (plane209 - (1 : Int))))))] ⟨rfl, rfl, rfl, rfl, rfl, trivial⟩ (h _ _  hs)
        · refine fi_false rfl (decide_eq_false c235) ?_
          refine fi_skip ?_
          refine fi_seq ?_
          refine fi_region ?_
          refine so_fieldAddr rfl F13.fd35_2 ?_
          refine sv_ld hs 2 rfl rfl rfl F13.ag33 ?_
          refine so_move (v := (.v (.int .i64 atq232))) rfl ?_
          obtain ⟨c236, h⟩ := h
          refine sv_idx (g2 _ hs.tl.tl.tl) c236 (fun _ => rfl) (by decide) rfl rfl F13.tl33 ?_
          refine sv_cell (g2 _ hs.tl.tl.tl) c236 false 0 (fun x => (AV.bool x)) (fun _ => rfl) (fun _ => rfl) rfl F13.ag4 ?_
          refine so_assign (v := (.v (.bool (l2.getD (atq232).toNat false)))) rfl ?_
          refine so_nil ?_
          refine fi_seq ?_
          refine fi_region ?_
          refine so_move (v := (.v (.int .i64 atq232))) rfl ?_
          refine so_bin rfl rfl ab_add ?_
          refine so_assign (v := (.v (.int .i64 (IntKind.i64.wrap (atq232 + (1 : Int)))))) rfl ?_
          refine so_nil ?_
          refine fi_seq ?_
          refine fi_seq ?_
          refine fi_region ?_
          refine so_move (v := (.v (.bool (l2.getD (atq232).toNat false)))) rfl ?_
          refine so_un rfl au_not ?_
          refine so_nil ?_
          replace h := ofT h; rcases h with ⟨c237, h⟩ | ⟨c237, h⟩
          · refine fi_false rfl (not_f c237) ?_
            refine fi_skip ?_
            refine fi_seq ?_
            refine fi_region ?_
            refine so_move (v := (.v v111)) rfl ?_
            refine so_move (v := (.v (.int .i64 x233))) rfl ?_
            obtain ⟨c238, h⟩ := h
            refine sv_idx (hs.shows 1 rfl) c238 (fun _ => rfl) (by decide) rfl rfl F13.tl31 ?_
            refine sv_cell (hs.shows 1 rfl) c238 (0 : Int) 0 (fun x => (AV.int .i64 x)) (fun _ => rfl) (fun _ => rfl) rfl F13.ag2 ?_
            refine so_move (v := (.v (.int .i64 plane209))) rfl ?_
            obtain ⟨c239, h⟩ := h
            refine so_bin rfl rfl (ab_shl c239) ?_
            refine so_bin rfl rfl ab_or ?_
            refine sv_idx (hs.shows 1 rfl) c238 (fun _ => rfl) (by decide) rfl rfl F13.tl31 ?_
            refine sv_set hs 1 rfl c238 (ibits .or .i64 (sizes231.getD (x233).toNat (0 : Int)) (IntKind.i64.wrap ((1 : Int) * (2 ^ (min (plane209).toNat IntKind.i64.bits))))) (fun _ => rfl) (by decide) rfl rfl rfl rfl F13.sz2 (fun _ => by kernel_rfl) (fun H240 hs => ?_)
            refine so_nil ?_
            refine fi_seq ?_
            refine fi_region ?_
            refine so_move (v := (.v v114)) rfl ?_
            refine so_move (v := (.v (.int .i64 x233))) rfl ?_
            obtain ⟨c241, h⟩ := h
            refine sv_idx (hs.shows 0 rfl) c241 (fun _ => rfl) (by decide) rfl rfl F13.tl31 ?_
            refine sv_cell (hs.shows 0 rfl) c241 (0 : Int) 0 (fun x => (AV.int .i64 x)) (fun _ => rfl) (fun _ => rfl) rfl F13.ag2 ?_
            refine so_bin rfl rfl ab_eql ?_
            refine so_move (v := (.v (.bool (decide ((signs230.getD (x233).toNat (0 : Int)) = (0 : Int)))))) rfl ?_
            replace h := ofP h; rcases h with ⟨c242, h⟩ | ⟨c242, h⟩
            · refine so_gyes rfl (decide_eq_true c242) ?_
              refine so_move (v := (.v (.int .i64 (IntKind.i64.wrap (atq232 + (1 : Int)))))) rfl ?_
              refine so_gyes rfl (decide_eq_true c242) ?_
              refine so_fieldAddr rfl F13.fd35_2 ?_
              refine so_gyes rfl (decide_eq_true c242) ?_
              refine sv_ld hs 2 rfl rfl rfl F13.ag33 ?_
              refine so_gyes rfl (decide_eq_true c242) ?_
              refine sv_len (g2 _ hs.tl.tl.tl) (fun _ => rfl) (by decide) rfl F13.ti33 ?_
              refine so_gyes rfl (decide_eq_true c242) ?_
              refine so_bin rfl rfl ab_lss ?_
              refine so_pick_t (v := (.v (.bool (decide ((IntKind.i64.wrap (atq232 + (1 : Int))) < (l2.length : Int)))))) rfl (decide_eq_true c242) rfl ?_
              refine so_nil ?_
              replace h := ofP h; rcases h with ⟨c243, h⟩ | ⟨c243, h⟩
              · refine fi_true rfl (decide_eq_true c243) ?_
                refine fi_seq ?_
                refine fi_region ?_
                refine so_move (v := (.v v114)) rfl ?_
                refine so_move (v := (.v (.int .i64 x233))) rfl ?_
                refine sv_idx (hs.shows 0 rfl) c241 (fun _ => rfl) (by decide) rfl rfl F13.tl31 ?_
                refine sv_set hs 0 rfl c241 (1 : Int) (fun _ => rfl) (by decide) rfl rfl rfl rfl F13.sz2 nofun (fun H244 hs => ?_)
                refine so_nil ?_
                refine fi_seq ?_
                refine fi_seq ?_
                refine fi_region ?_
                refine so_fieldAddr rfl F13.fd35_2 ?_
                refine sv_ld hs 2 rfl rfl rfl F13.ag33 ?_
                refine so_move (v := (.v (.int .i64 (IntKind.i64.wrap (atq232 + (1 : Int)))))) rfl ?_
                obtain ⟨c245, h⟩ := h
                refine sv_idx (g2 _ hs.tl.tl.tl) c245 (fun _ => rfl) (by decide) rfl rfl F13.tl33 ?_
                refine sv_cell (g2 _ hs.tl.tl.tl) c245 false 0 (fun x => (AV.bool x)) (fun _ => rfl) (fun _ => rfl) rfl F13.ag4 ?_
                refine so_nil ?_
                replace h := ofT h; rcases h with ⟨c246, h⟩ | ⟨c246, h⟩
                · refine fi_true rfl c246 ?_
                  refine fi_region ?_
                  refine so_move (v := (.v v114)) rfl ?_
                  refine so_move (v := (.v (.int .i64 x233))) rfl ?_
                  obtain ⟨c247, h⟩ := h
                  refine sv_idx (hs.shows 0 rfl) c247 (fun _ => rfl) (by decide) rfl rfl F13.tl31 ?_
                  refine sv_set hs 0 rfl c247 (-1 : Int) (fun _ => rfl) (by decide) rfl rfl rfl rfl F13.sz2 nofun (fun H248 hs => ?_)
                  refine so_nil ?_
                  refine fi_region ?_
                  refine so_move (v := (.v (.int .i64 (IntKind.i64.wrap (atq232 + (1 : Int)))))) rfl ?_
                  refine so_bin rfl rfl ab_add ?_
                  refine so_assign (v := (.v (.int .i64 (IntKind.i64.wrap ((IntKind.i64.wrap (atq232 + (1 : Int))) + (1 : Int)))))) rfl ?_
                  refine so_nil ?_
                  refine fi_inBlock ?_
                  refine fi_region ?_
                  refine so_bin rfl rfl ab_add ?_
                  refine so_move (v := (.v (.int .i64 (IntKind.i64.wrap (x233 + (1 : Int)))))) rfl ?_
                  refine so_nil ?_
                  exact fi_at [(1, (.v (.ptr id101 0))), (4, (.v v111)), (5, (.v v114)), (6, (.v (.int .i64 (IntKind.i64.wrap ((IntKind.i64.wrap (atq232 + (1 : Int))) + (1 : Int)))))), (7, (.v (.int .i64 plane209))), (30, (.v (.int .i64 (sizes207.length : Int)))), (31, (.v (.int .i64 (IntKind.i64.wrap (x233 + (1 : Int))))))] ⟨rfl, rfl, rfl, rfl, rfl, rfl, rfl, trivial⟩ (h _ _  hs)
                · refine fi_false rfl c246 ?_
                  refine fi_skip ?_
                  refine fi_region ?_
                  refine so_move (v := (.v (.int .i64 (IntKind.i64.wrap (atq232 + (1 : Int)))))) rfl ?_
                  refine so_bin rfl rfl ab_add ?_
                  refine so_assign (v := (.v (.int .i64 (IntKind.i64.wrap ((IntKind.i64.wrap (atq232 + (1 : Int))) + (1 : Int)))))) rfl ?_
                  refine so_nil ?_
                  refine fi_inBlock ?_
                  refine fi_region ?_
                  refine so_bin rfl rfl ab_add ?_
                  refine so_move (v := (.v (.int .i64 (IntKind.i64.wrap (x233 + (1 : Int)))))) rfl ?_
                  refine so_nil ?_
                  exact fi_at [(1, (.v (.ptr id101 0))), (4, (.v v111)), (5, (.v v114)), (6, (.v (.int .i64 (IntKind.i64.wrap ((IntKind.i64.wrap (atq232 + (1 : Int))) + (1 : Int)))))), (7, (.v (.int .i64 plane209))), (30, (.v (.int .i64 (sizes207.length : Int)))), (31, (.v (.int .i64 (IntKind.i64.wrap (x233 + (1 : Int))))))] ⟨rfl, rfl, rfl, rfl, rfl, rfl, rfl, trivial⟩ (h _ _  hs)
              · refine fi_false rfl (decide_eq_false c243) ?_
                refine fi_skip ?_
                refine fi_inBlock ?_
                refine fi_region ?_
                refine so_bin rfl rfl ab_add ?_
                refine so_move (v := (.v (.int .i64 (IntKind.i64.wrap (x233 + (1 : Int)))))) rfl ?_
                refine so_nil ?_
                exact fi_at [(1, (.v (.ptr id101 0))), (4, (.v v111)), (5, (.v v114)), (6, (.v (.int .i64 (IntKind.i64.wrap (atq232 + (1 : Int)))))), (7, (.v (.int .i64 plane209))), (30, (.v (.int .i64 (sizes207.length : Int)))), (31, (.v (.int .i64 (IntKind.i64.wrap (x233 + (1 : Int))))))] ⟨rfl, rfl, rfl, rfl, rfl, rfl, rfl, trivial⟩ (h _ _  hs)
            · refine so_gno rfl (decide_eq_false c242) ?_
              refine so_gno rfl (decide_eq_false c242) ?_
              refine so_gno rfl (decide_eq_false c242) ?_
              refine so_gno rfl (decide_eq_false c242) ?_
              refine so_gno rfl (decide_eq_false c242) ?_
              refine so_pick_f (v := (.v (.bool false))) rfl (decide_eq_false c242) rfl ?_
              refine so_nil ?_
              refine fi_false rfl rfl ?_
              refine fi_skip ?_
              refine fi_inBlock ?_
              refine fi_region ?_
              refine so_bin rfl rfl ab_add ?_
              refine so_move (v := (.v (.int .i64 (IntKind.i64.wrap (x233 + (1 : Int)))))) rfl ?_
              refine so_nil ?_
              exact fi_at [(1, (.v (.ptr id101 0))), (4, (.v v111)), (5, (.v v114)), (6, (.v (.int .i64 (IntKind.i64.wrap (atq232 + (1 : Int)))))), (7, (.v (.int .i64 plane209))), (30, (.v (.int .i64 (sizes207.length : Int)))), (31, (.v (.int .i64 (IntKind.i64.wrap (x233 + (1 : Int))))))] ⟨rfl, rfl, rfl, rfl, rfl, rfl, rfl, trivial⟩ (h _ _  hs)
          · refine fi_true rfl (not_t c237) ?_
            refine fi_exit rfl ?_
            refine fi_region ?_
            refine so_bin rfl rfl ab_add ?_
            refine so_move (v := (.v (.int .i64 (IntKind.i64.wrap (x233 + (1 : Int)))))) rfl ?_
            refine so_nil ?_
            exact fi_at [(1, (.v (.ptr id101 0))), (4, (.v v111)), (5, (.v v114)), (6, (.v (.int .i64 (IntKind.i64.wrap (atq232 + (1 : Int)))))), (7, (.v (.int .i64 plane209))), (30, (.v (.int .i64 (sizes207.length : Int)))), (31, (.v (.int .i64 (IntKind.i64.wrap (x233 + (1 : Int))))))] ⟨rfl, rfl, rfl, rfl, rfl, rfl, rfl, trivial⟩ (h _ _  hs)
      · refine fi_false rfl (decide_eq_false c234) ?_
        refine fi_exit rfl ?_
        refine fi_inBlock ?_
        refine fi_region ?_
        refine so_move (v := (.v (.int .i64 plane209))) rfl ?_
        refine so_bin rfl rfl ab_sub ?_
        refine so_assign (v := (.v (.int .i64 (IntKind.i64.wrap (plane209 - (1 : Int)))))) rfl ?_
        refine so_nil ?_
        exact fi_at [(1, (.v (.ptr id101 0))), (4, (.v v111)), (5, (.v v114)), (6, (.v (.int .i64 atq232))), (7, (.v (.int .i64 (IntKind.i64.wrap (plane209 - (1 : Int))))))] ⟨rfl, rfl, rfl, rfl, rfl, trivial⟩ (h _ _  hs)
    · refine fi_false rfl (decide_eq_false c210) ?_
      refine fi_exit rfl ?_
      refine fi_seq ?_
      refine fi_seq ?_
      refine fi_region ?_
      refine so_move (v := (.v (.int .i64 atq208))) rfl ?_
      refine so_fieldAddr rfl F13.fd35_2 ?_
      refine sv_ld hs 2 rfl rfl rfl F13.ag33 ?_
      refine sv_len (g2 _ hs.tl.tl.tl) (fun _ => rfl) (by decide) rfl F13.ti33 ?_
      refine so_bin rfl rfl ab_lss ?_
      refine so_nil ?_
      replace h := ofP h; rcases h with ⟨c251, h⟩ | ⟨c251, h⟩
      · refine fi_true rfl (decide_eq_true c251) ?_
        refine fi_seq ?_
        refine fi_region ?_
        refine so_assign (v := (.v .nilsl)) rfl ?_
        refine so_assign (v := (.v (.bool false))) rfl ?_
        refine so_nil ?_
        exact by_ret rfl ⟨_, _, h, _, rfl, (Sep.nil (Sep.del 0 (Sep.del 0 (Sep.del 0 hs))) 1)⟩
      · refine fi_false rfl (decide_eq_false c251) ?_
        refine fi_skip ?_
        refine fi_seq ?_
        refine fi_region ?_
        refine sv_bslice hs (eInt .i64) ([] : List (Int)) [] F13.te31 F13.sz2 F13.ze2 rfl rfl rfl rfl (fun _ => rfl) rfl (by decide) nofun (fun v252 H253 nv252 hs => ?_)
        refine so_assign (v := (.v v252)) rfl ?_
        refine so_nil ?_
        refine fi_seq ?_
        refine fi_seq ?_
        refine fi_region ?_
        refine so_move (v := (.v v111)) rfl ?_
        refine sv_len (hs.shows 2 rfl) (fun _ => rfl) (by decide) rfl F13.ti31 ?_
        refine so_move (v := (.v (.int .i64 (0 : Int)))) rfl ?_
        refine so_nil ?_
        refine fi_block ?_
        refine fi_loop ?_
        replace hs := hs.del 3
        refine fi_at [(5, (.v v114)), (10, (.v v252)), (88, (.v v111)), (89, (.v (.int .i64 (sizes207.length : Int)))), (90, (.v (.int .i64 (0 : Int))))] ⟨rfl, rfl, rfl, rfl, rfl, trivial⟩ ?_
        refine h (fun (out272 : List (Int)) (x274 : Int) => ∀ (s : Nat → TV) (H : Heap) (v273 : AV) (nv273 : v273 ≠ .nilsl), Sep H (Pc.osl v273 1 (enc (eInt .i64) out272) :: Pc.osl v114 1 (enc (eInt .i64) signs206) :: Pc.osl v111 1 (enc (eInt .i64) sizes207) :: fr) → Fin _ _ (updL s [(5, (.v v114)), (10, (.v v273)), (88, (.v v111)), (89, (.v (.int .i64 (sizes207.length : Int)))), (90, (.v (.int .i64 x274)))]) H _) ?_ _ _ _ nv252 hs
        intro out272 x274 h s287 H288 v273 nv273 hs
        refine fi_inLoop ?_
        refine fi_seq ?_
        refine fi_region ?_
        refine so_bin rfl rfl ab_lss ?_
        refine so_nil ?_
        refine fi_seq ?_
        replace h := ofP h; rcases h with ⟨c275, h⟩ | ⟨c275, h⟩
        · refine fi_true rfl (decide_eq_true c275) ?_
          refine fi_skip ?_
          refine fi_seq ?_
          refine fi_block ?_
          refine fi_seq ?_
          refine fi_region ?_
          refine so_move (v := (.v (.int .i64 x274))) rfl ?_
          obtain ⟨c276, h⟩ := h
          refine sv_idx (hs.shows 2 rfl) c276 (fun _ => rfl) (by decide) rfl rfl F13.tl31 ?_
          refine sv_cell (hs.shows 2 rfl) c276 (0 : Int) 0 (fun x => (AV.int .i64 x)) (fun _ => rfl) (fun _ => rfl) rfl F13.ag2 ?_
          refine so_assign (v := (.v (.int .i64 x274))) rfl ?_
          refine so_assign (v := (.v (.int .i64 (sizes207.getD (x274).toNat (0 : Int))))) rfl ?_
          refine so_nil ?_
          refine fi_region ?_
          refine so_move (v := (.v v273)) rfl ?_
          refine so_move (v := (.v (.int .i64 (sizes207.getD (x274).toNat (0 : Int))))) rfl ?_
          refine so_move (v := (.v v114)) rfl ?_
          refine so_move (v := (.v (.int .i64 x274))) rfl ?_
          obtain ⟨c277, h⟩ := h
          refine sv_idx (hs.shows 1 rfl) c277 (fun _ => rfl) (by decide) rfl rfl F13.tl31 ?_
          refine sv_cell (hs.shows 1 rfl) c277 (0 : Int) 0 (fun x => (AV.int .i64 x)) (fun _ => rfl) (fun _ => rfl) rfl F13.ag2 ?_
          refine so_bin rfl rfl ab_mul ?_
          refine sv_bslice hs (eInt .i64) ([(IntKind.i64.wrap ((sizes207.getD (x274).toNat (0 : Int)) * (signs206.getD (x274).toNat (0 : Int))))] : List (Int)) [[(.int .i64 (IntKind.i64.wrap ((sizes207.getD (x274).toNat (0 : Int)) * (signs206.getD (x274).toNat (0 : Int)))))]] F13.te31 F13.sz2 F13.ze2 rfl rfl rfl rfl (fun _ => rfl) rfl (by decide) nofun (fun v278 H279 nv278 hs => ?_)
          obtain ⟨c283, h⟩ := h
          refine sv_app hs 1 rfl (hs.shows 0 rfl) (fun _ => rfl) (by decide) F13.ta31_31 (by decide) c283 rfl rfl nofun (fun v281 H282 kv281 hs => ?_)
          replace hs := hs.del 0
          have nv281 := kv281 nv273
          refine so_assign (v := (.v v281)) rfl ?_
          refine so_nil ?_
          refine fi_inBlock ?_
          refine fi_region ?_
          refine so_bin rfl rfl ab_add ?_
          refine so_move (v := (.v (.int .i64 (IntKind.i64.wrap (x274 + (1 : Int)))))) rfl ?_
          refine so_nil ?_
          exact fi_at [(5, (.v v114)), (10, (.v v281)), (88, (.v v111)), (89, (.v (.int .i64 (sizes207.length : Int)))), (90, (.v (.int .i64 (IntKind.i64.wrap (x274 + (1 : Int))))))] ⟨rfl, rfl, rfl, rfl, rfl, trivial⟩ (h _ _ _ nv281 hs)
        · refine fi_false rfl (decide_eq_false c275) ?_
          refine fi_exit rfl ?_
          refine fi_seq ?_
          refine fi_seq ?_
          refine fi_region ?_
          refine so_move (v := (.v v273)) rfl ?_
          refine sv_callS (impl_AreIntegers_ok v273 out272 hs (fun _ hs => (hs.shows 0 rfl)) _ h) (fun _ _ ⟨_, _, _, e⟩ => e) rfl rfl ?_
          clear h
          rintro _ _ ⟨y284, h, rfl, rfl⟩
          refine so_un rfl au_not ?_
          refine so_nil ?_
          replace h := ofT h; rcases h with ⟨c286, h⟩ | ⟨c286, h⟩
          · refine fi_false rfl (not_f c286) ?_
            refine fi_skip ?_
            refine fi_seq ?_
            refine fi_region ?_
            refine so_move (v := (.v v273)) rfl ?_
            refine so_assign (v := (.v v273)) rfl ?_
            refine so_assign (v := (.v (.bool true))) rfl ?_
            refine so_nil ?_
            exact by_ret rfl ⟨_, _, h, _, rfl, (Sep.del 1 (Sep.del 1 hs))⟩
          · refine fi_true rfl (not_t c286) ?_
            refine fi_seq ?_
            refine fi_region ?_
            refine so_assign (v := (.v .nilsl)) rfl ?_
            refine so_assign (v := (.v (.bool false))) rfl ?_
            refine so_nil ?_
            exact by_ret rfl ⟨_, _, h, _, rfl, (Sep.nil (Sep.del 0 (Sep.del 0 (Sep.del 0 hs))) 1)⟩
  · refine fi_true rfl (not_t c106) ?_
    refine fi_seq ?_
    refine fi_region ?_
    refine so_assign (v := (.v .nilsl)) rfl ?_
    refine so_assign (v := (.v (.bool false))) rfl ?_
    refine so_nil ?_
    exact by_ret rfl ⟨_, _, h, _, rfl, (Sep.nil (Sep.del 0 hs) 1)⟩

end Go.Proofs.YtecdkjnomkdbkaaDoor.G

namespace Go.Proofs.YtecdkjnomkdbkaaDoor.G
open Go Go.Ab Go.Proofs Go.Proofs.YtecdkjnomkdbkaaDoor
set_option maxRecDepth 100000
set_option linter.unusedVariables false
set_option linter.unusedSimpArgs false
set_option maxHeartbeats 1000000
attribute [local irreducible] wops wopf Go.Ab.Fin
theorem impl_PlanesFor_ok {fr : List Pc} {H : Heap} (v0 : AV) (l0 : List (Int)) (hs : Sep H (fr)) (g0 : ∀ H, Sep H fr → Shows H v0 1 (enc (eInt .i64) l0)) (K : Int → Bool → Prop) (h : impl_PlanesFor.wp l0 K) : OkQ Tryd.prog 14 [(.v v0)] H (fun r H2 => ∃ (y0 : Int) (y1 : Bool), K y0 y1 ∧ r = (.t [(.v (.int .i64 y0)), (.v (.bool y1))]) ∧ H = H2) := by
  unfold impl_PlanesFor.wp at h
  refine of_body Tryd.f14 F.hm Tryd.func14 rfl Tryd.call14 (by kernel_rfl) (by simp) ?_
  refine fi_seq ?_
  refine fi_region ?_
  refine so_assign (v := (.v (.int .i64 (0 : Int)))) rfl ?_
  refine so_assign (v := (.v (.bool false))) rfl ?_
  refine so_nil ?_
  refine fi_seq ?_
  refine fi_seq ?_
  refine fi_region ?_
  refine so_move (v := (.v v0)) rfl ?_
  refine sv_callS (impl_AreIntegers_ok v0 l0 hs (fun _ hs => (g0 _ hs)) _ h) (fun _ _ ⟨_, _, _, e⟩ => e) rfl rfl ?_
  clear h
  rintro _ _ ⟨y101, h, rfl, rfl⟩
  refine so_un rfl au_not ?_
  refine so_nil ?_
  replace h := ofT h; rcases h with ⟨c103, h⟩ | ⟨c103, h⟩
  · refine fi_false rfl (not_f c103) ?_
    refine fi_skip ?_
    refine fi_seq ?_
    refine fi_region ?_
    refine so_move (v := (.v v0)) rfl ?_
    refine sv_callS (impl_planesFor_ok v0 l0 hs (fun _ hs => (g0 _ hs)) _ h) (fun _ _ ⟨_, _, _, e⟩ => e) rfl rfl ?_
    clear h
    rintro _ _ ⟨y104, h, rfl, rfl⟩
    refine so_assign (v := (.v (.int .i64 y104))) rfl ?_
    refine so_assign (v := (.v (.bool true))) rfl ?_
    refine so_nil ?_
    exact by_ret rfl ⟨_, _, h, rfl, rfl⟩
  · refine fi_true rfl (not_t c103) ?_
    refine fi_seq ?_
    refine fi_region ?_
    refine so_assign (v := (.v (.int .i64 (0 : Int)))) rfl ?_
    refine so_assign (v := (.v (.bool false))) rfl ?_
    refine so_nil ?_
    exact by_ret rfl ⟨_, _, h, rfl, rfl⟩

end Go.Proofs.YtecdkjnomkdbkaaDoor.G

namespace Go.Proofs.YtecdkjnomkdbkaaDoor.G
open Go Go.Ab Go.Proofs Go.Proofs.YtecdkjnomkdbkaaDoor
set_option maxRecDepth 100000
set_option linter.unusedVariables false
set_option linter.unusedSimpArgs false
set_option maxHeartbeats 1000000
attribute [local irreducible] wops wopf Go.Ab.Fin
theorem impl_zigZag_ok {fr : List Pc} {H : Heap} (a0 : Int) (hs : Sep H (fr))  (K : Int → Prop) (h : impl_zigZag.wp a0 K) : OkQ Tryd.prog 42 [(.v (.int .i64 a0))] H (fun r H2 => ∃ (y0 : Int), K y0 ∧ r = (.v (.int .i64 y0)) ∧ H = H2) := by
  unfold impl_zigZag.wp at h
  refine of_body Tryd.f42 F.hm Tryd.func42 rfl Tryd.call42 (by kernel_rfl) (by simp) ?_
  refine fi_seq ?_
  refine fi_region ?_
  refine so_assign (v := (.v (.int .i64 (0 : Int)))) rfl ?_
  refine so_nil ?_
  refine fi_seq ?_
  refine fi_seq ?_
  refine fi_region ?_
  refine so_move (v := (.v (.int .i64 a0))) rfl ?_
  refine so_bin rfl rfl ab_geq ?_
  refine so_nil ?_
  replace h := ofP h; rcases h with ⟨c101, h⟩ | ⟨c101, h⟩
  · refine fi_true rfl (decide_eq_true c101) ?_
    refine fi_seq ?_
    refine fi_region ?_
    refine so_move (v := (.v (.int .i64 a0))) rfl ?_
    refine so_bin rfl rfl ab_mul ?_
    refine so_assign (v := (.v (.int .i64 (IntKind.i64.wrap ((2 : Int) * a0))))) rfl ?_
    refine so_nil ?_
    exact by_ret rfl ⟨_, h, rfl, rfl⟩
  · refine fi_false rfl (decide_eq_false c101) ?_
    refine fi_skip ?_
    refine fi_seq ?_
    refine fi_region ?_
    refine so_move (v := (.v (.int .i64 a0))) rfl ?_
    refine so_bin rfl rfl ab_mul ?_
    refine so_bin rfl rfl ab_sub ?_
    refine so_assign (v := (.v (.int .i64 (IntKind.i64.wrap ((IntKind.i64.wrap ((-2 : Int) * a0)) - (1 : Int)))))) rfl ?_
    refine so_nil ?_
    exact by_ret rfl ⟨_, h, rfl, rfl⟩

end Go.Proofs.YtecdkjnomkdbkaaDoor.G

namespace Go.Proofs.YtecdkjnomkdbkaaDoor.G
open Go Go.Ab Go.Proofs Go.Proofs.YtecdkjnomkdbkaaDoor
set_option maxRecDepth 100000
set_option linter.unusedVariables false
set_option linter.unusedSimpArgs false
set_option maxHeartbeats 1000000
attribute [local irreducible] wops wopf Go.Ab.Fin
theorem impl_ZigZag_ok {fr : List Pc} {H : Heap} (a0 : Int) (hs : Sep H (fr))  (K : Int → Bool → Prop) (h : impl_ZigZag.wp a0 K) : OkQ Tryd.prog 15 [(.v (.int .i64 a0))] H (fun r H2 => ∃ (y0 : Int) (y1 : Bool), K y0 y1 ∧ r = (.t [(.v (.int .i64 y0)), (.v (.bool y1))]) ∧ H = H2) := by
  unfold impl_ZigZag.wp at h
  refine of_body Tryd.f15 F.hm Tryd.func15 rfl Tryd.call15 (by kernel_rfl) (by simp) ?_
  refine fi_seq ?_
  refine fi_region ?_
  refine so_assign (v := (.v (.int .i64 (0 : Int)))) rfl ?_
  refine so_assign (v := (.v (.bool false))) rfl ?_
  refine so_nil ?_
  refine fi_seq ?_
  refine fi_seq ?_
  refine fi_region ?_
  refine so_move (v := (.v (.int .i64 a0))) rfl ?_
  refine sv_callS (impl_within_ok a0 (-1000000 : Int) (1000000 : Int) hs  _ h) (fun _ _ ⟨_, _, _, e⟩ => e) rfl rfl ?_
  clear h
  rintro _ _ ⟨y101, h, rfl, rfl⟩
  refine so_un rfl au_not ?_
  refine so_nil ?_
  replace h := ofT h; rcases h with ⟨c103, h⟩ | ⟨c103, h⟩
  · refine fi_false rfl (not_f c103) ?_
    refine fi_skip ?_
    refine fi_seq ?_
    refine fi_region ?_
    refine so_move (v := (.v (.int .i64 a0))) rfl ?_
    refine sv_callS (impl_zigZag_ok a0 hs  _ h) (fun _ _ ⟨_, _, _, e⟩ => e) rfl rfl ?_
    clear h
    rintro _ _ ⟨y104, h, rfl, rfl⟩
    refine so_assign (v := (.v (.int .i64 y104))) rfl ?_
    refine so_assign (v := (.v (.bool true))) rfl ?_
    refine so_nil ?_
    exact by_ret rfl ⟨_, _, h, rfl, rfl⟩
  · refine fi_true rfl (not_t c103) ?_
    refine fi_seq ?_
    refine fi_region ?_
    refine so_assign (v := (.v (.int .i64 (0 : Int)))) rfl ?_
    refine so_assign (v := (.v (.bool false))) rfl ?_
    refine so_nil ?_
    exact by_ret rfl ⟨_, _, h, rfl, rfl⟩

end Go.Proofs.YtecdkjnomkdbkaaDoor.G

namespace Go.Proofs.YtecdkjnomkdbkaaDoor.G
open Go Go.Ab Go.Proofs Go.Proofs.YtecdkjnomkdbkaaDoor
set_option maxRecDepth 100000
set_option linter.unusedVariables false
set_option linter.unusedSimpArgs false
set_option maxHeartbeats 1000000
attribute [local irreducible] wops wopf Go.Ab.Fin
theorem impl_fromZigZag_ok {fr : List Pc} {H : Heap} (a0 : Int) (hs : Sep H (fr))  (K : Int → Prop) (h : impl_fromZigZag.wp a0 K) : OkQ Tryd.prog 43 [(.v (.int .i64 a0))] H (fun r H2 => ∃ (y0 : Int), K y0 ∧ r = (.v (.int .i64 y0)) ∧ H = H2) := by
  unfold impl_fromZigZag.wp at h
  refine of_body Tryd.f43 F.hm Tryd.func43 rfl Tryd.call43 (by kernel_rfl) (by simp) ?_
  refine fi_seq ?_
  refine fi_region ?_
  refine so_assign (v := (.v (.int .i64 (0 : Int)))) rfl ?_
  refine so_nil ?_
  refine fi_seq ?_
  refine fi_seq ?_
  refine fi_region ?_
  refine so_move (v := (.v (.int .i64 a0))) rfl ?_
  refine so_bin rfl rfl (ab_rem (by decide)) ?_
  refine so_bin rfl rfl ab_eql ?_
  refine so_nil ?_
  replace h := ofP h; rcases h with ⟨c101, h⟩ | ⟨c101, h⟩
  · refine fi_true rfl (decide_eq_true c101) ?_
    refine fi_seq ?_
    refine fi_region ?_
    refine so_move (v := (.v (.int .i64 a0))) rfl ?_
    refine so_bin rfl rfl (ab_quo (by decide)) ?_
    refine so_assign (v := (.v (.int .i64 (IntKind.i64.wrap (Int.tdiv a0 (2 : Int)))))) rfl ?_
    refine so_nil ?_
    exact by_ret rfl ⟨_, h, rfl, rfl⟩
  · refine fi_false rfl (decide_eq_false c101) ?_
    refine fi_skip ?_
    refine fi_seq ?_
    refine fi_region ?_
    refine so_move (v := (.v (.int .i64 a0))) rfl ?_
    refine so_bin rfl rfl ab_add ?_
    refine so_un rfl au_neg ?_
    refine so_bin rfl rfl (ab_quo (by decide)) ?_
    refine so_assign (v := (.v (.int .i64 (IntKind.i64.wrap (Int.tdiv (IntKind.i64.wrap (0 - (IntKind.i64.wrap (a0 + (1 : Int))))) (2 : Int)))))) rfl ?_
    refine so_nil ?_
    exact by_ret rfl ⟨_, h, rfl, rfl⟩

end Go.Proofs.YtecdkjnomkdbkaaDoor.G

namespace Go.Proofs.YtecdkjnomkdbkaaDoor.G
open Go Go.Ab Go.Proofs Go.Proofs.YtecdkjnomkdbkaaDoor
set_option maxRecDepth 100000
set_option linter.unusedVariables false
set_option linter.unusedSimpArgs false
set_option maxHeartbeats 1000000
attribute [local irreducible] wops wopf Go.Ab.Fin
theorem impl_FromZigZag_ok {fr : List Pc} {H : Heap} (a0 : Int) (hs : Sep H (fr))  (K : Int → Bool → Prop) (h : impl_FromZigZag.wp a0 K) : OkQ Tryd.prog 16 [(.v (.int .i64 a0))] H (fun r H2 => ∃ (y0 : Int) (y1 : Bool), K y0 y1 ∧ r = (.t [(.v (.int .i64 y0)), (.v (.bool y1))]) ∧ H = H2) := by
  unfold impl_FromZigZag.wp at h
  refine of_body Tryd.f16 F.hm Tryd.func16 rfl Tryd.call16 (by kernel_rfl) (by simp) ?_
  refine fi_seq ?_
  refine fi_region ?_
  refine so_assign (v := (.v (.int .i64 (0 : Int)))) rfl ?_
  refine so_assign (v := (.v (.bool false))) rfl ?_
  refine so_nil ?_
  refine fi_seq ?_
  refine fi_seq ?_
  refine fi_region ?_
  refine so_move (v := (.v (.int .i64 a0))) rfl ?_
  refine sv_callS (impl_within_ok a0 (0 : Int) (2000000 : Int) hs  _ h) (fun _ _ ⟨_, _, _, e⟩ => e) rfl rfl ?_
  clear h
  rintro _ _ ⟨y101, h, rfl, rfl⟩
  refine so_un rfl au_not ?_
  refine so_nil ?_
  replace h := ofT h; rcases h with ⟨c103, h⟩ | ⟨c103, h⟩
  · refine fi_false rfl (not_f c103) ?_
    refine fi_skip ?_
    refine fi_seq ?_
    refine fi_region ?_
    refine so_move (v := (.v (.int .i64 a0))) rfl ?_
    refine sv_callS (impl_fromZigZag_ok a0 hs  _ h) (fun _ _ ⟨_, _, _, e⟩ => e) rfl rfl ?_
    clear h
    rintro _ _ ⟨y104, h, rfl, rfl⟩
    refine so_assign (v := (.v (.int .i64 y104))) rfl ?_
    refine so_assign (v := (.v (.bool true))) rfl ?_
    refine so_nil ?_
    exact by_ret rfl ⟨_, _, h, rfl, rfl⟩
  · refine fi_true rfl (not_t c103) ?_
    refine fi_seq ?_
    refine fi_region ?_
    refine so_assign (v := (.v (.int .i64 (0 : Int)))) rfl ?_
    refine so_assign (v := (.v (.bool false))) rfl ?_
    refine so_nil ?_
    exact by_ret rfl ⟨_, _, h, rfl, rfl⟩

end Go.Proofs.YtecdkjnomkdbkaaDoor.G

namespace Go.Proofs.YtecdkjnomkdbkaaDoor.G
open Go Go.Ab Go.Proofs Go.Proofs.YtecdkjnomkdbkaaDoor
set_option maxRecDepth 100000
set_option linter.unusedVariables false
set_option linter.unusedSimpArgs false
set_option maxHeartbeats 1000000
attribute [local irreducible] wops wopf Go.Ab.Fin
theorem F17.ag5 : tagg Tryd.prog 5 = some false := by kernel_rfl
theorem F17.it2 : tint Tryd.prog 2 = some .i64 := by kernel_rfl
theorem F17.ti29 : (telem Tryd.prog 29).isSome = true := by kernel_rfl
theorem F17.tl29 : (telem Tryd.prog 29).bind (tsz Tryd.prog) = some 1 := by kernel_rfl
theorem F17.us5 : (Tryd.prog.underlying 5).isSome = true := by kernel_rfl
theorem laws_r8At_ok {fr : List Pc} {H : Heap} (v0 : AV) (l0 : List (Int)) (a1 : Int) (a2 : Int) (hs : Sep H (fr)) (g0 : ∀ H, Sep H fr → Shows H v0 1 (enc (eInt .u8) l0)) (K : Int → Prop) (h : laws_r8At.wp l0 a1 a2 K) : OkQ Tryd.prog 17 [(.v v0), (.v (.int .i64 a1)), (.v (.int .i64 a2))] H (fun r H2 => ∃ (y0 : Int), K y0 ∧ r = (.v (.int .i64 y0)) ∧ H = H2) := by
  unfold laws_r8At.wp at h
  refine of_body Tryd.f17 F.hm Tryd.func17 rfl Tryd.call17 (by kernel_rfl) (by simp) ?_
  refine fi_seq ?_
  refine fi_region ?_
  refine so_assign (v := (.v (.int .i64 (0 : Int)))) rfl ?_
  refine so_nil ?_
  refine fi_seq ?_
  refine fi_seq ?_
  refine fi_region ?_
  refine so_move (v := (.v (.int .i64 a2))) rfl ?_
  refine so_bin rfl rfl ab_leq ?_
  refine so_move (v := (.v (.bool (decide (a2 ≤ (1 : Int)))))) rfl ?_
  replace h := ofP h; rcases h with ⟨c101, h⟩ | ⟨c101, h⟩
  · refine so_gno rfl (decide_eq_true c101) ?_
    refine so_gno rfl (decide_eq_true c101) ?_
    refine so_gno rfl (decide_eq_true c101) ?_
    refine so_gno rfl (decide_eq_true c101) ?_
    refine so_pick_t (v := (.v (.bool true))) rfl (decide_eq_true c101) rfl ?_
    refine so_nil ?_
    refine fi_true rfl rfl ?_
    refine fi_seq ?_
    refine fi_region ?_
    refine so_assign (v := (.v (.int .i64 (0 : Int)))) rfl ?_
    refine so_nil ?_
    exact by_ret rfl ⟨_, h, rfl, rfl⟩
  · refine so_gyes rfl (decide_eq_false c101) ?_
    refine so_move (v := (.v (.int .i64 a1))) rfl ?_
    refine so_gyes rfl (decide_eq_false c101) ?_
    refine so_move (v := (.v v0)) rfl ?_
    refine so_gyes rfl (decide_eq_false c101) ?_
    refine sv_len (g0 _ hs) (fun _ => rfl) (by decide) rfl F17.ti29 ?_
    refine so_gyes rfl (decide_eq_false c101) ?_
    refine so_bin rfl rfl ab_geq ?_
    refine so_pick_f (v := (.v (.bool (decide ((l0.length : Int) ≤ a1))))) rfl (decide_eq_false c101) rfl ?_
    refine so_nil ?_
    replace h := ofP h; rcases h with ⟨c102, h⟩ | ⟨c102, h⟩
    · refine fi_true rfl (decide_eq_true c102) ?_
      refine fi_seq ?_
      refine fi_region ?_
      refine so_assign (v := (.v (.int .i64 (0 : Int)))) rfl ?_
      refine so_nil ?_
      exact by_ret rfl ⟨_, h, rfl, rfl⟩
    · refine fi_false rfl (decide_eq_false c102) ?_
      refine fi_skip ?_
      refine fi_seq ?_
      refine fi_region ?_
      refine so_move (v := (.v v0)) rfl ?_
      refine so_move (v := (.v (.int .i64 a1))) rfl ?_
      obtain ⟨c103, h⟩ := h
      refine sv_idx (g0 _ hs) c103 (fun _ => rfl) (by decide) rfl rfl F17.tl29 ?_
      refine sv_cell (g0 _ hs) c103 (0 : Int) 0 (fun x => (AV.int .u8 x)) (fun _ => rfl) (fun _ => rfl) rfl F17.ag5 ?_
      refine sv_ii rfl F17.us5 F17.it2 ?_
      refine so_move (v := (.v (.int .i64 a2))) rfl ?_
      obtain ⟨c104, h⟩ := h
      refine so_bin rfl rfl (ab_rem c104) ?_
      refine so_assign (v := (.v (.int .i64 (Int.tmod (IntKind.i64.wrap (l0.getD (a1).toNat (0 : Int))) a2)))) rfl ?_
      refine so_nil ?_
      exact by_ret rfl ⟨_, h, rfl, rfl⟩

end Go.Proofs.YtecdkjnomkdbkaaDoor.G

namespace Go.Proofs.YtecdkjnomkdbkaaDoor.G
open Go Go.Ab Go.Proofs Go.Proofs.YtecdkjnomkdbkaaDoor
set_option maxRecDepth 100000
set_option linter.unusedVariables false
set_option linter.unusedSimpArgs false
set_option maxHeartbeats 1000000
attribute [local irreducible] wops wopf Go.Ab.Fin
theorem F18.ag2 : tagg Tryd.prog 2 = some false := by kernel_rfl
theorem F18.ag33 : tagg Tryd.prog 33 = some false := by kernel_rfl
theorem F18.ag35 : tagg Tryd.prog 35 = some true := by kernel_rfl
theorem F18.bp35 : bplan Tryd.prog 35 = some ([(.int .i64 (0 : Int)), (.int .i64 (0 : Int)), .nilsl], [(0, 1), (1, 1), (2, 1)]) := by kernel_rfl
theorem F18.fd35_0 : tfield Tryd.prog 35 0 = some (0, 1, false) := by kernel_rfl
theorem F18.fd35_1 : tfield Tryd.prog 35 1 = some (1, 1, false) := by kernel_rfl
theorem F18.fd35_2 : tfield Tryd.prog 35 2 = some (2, 1, false) := by kernel_rfl
theorem F18.inf35 : (Tryd.prog.info? 35).isSome = true := by kernel_rfl
theorem F18.sz35 : tsz Tryd.prog 35 = some 3 := by kernel_rfl
theorem F18.sz4 : tsz Tryd.prog 4 = some 1 := by kernel_rfl
theorem F18.ta33_33 : tapp Tryd.prog 33 33 = some (1, 1) := by kernel_rfl
theorem F18.te33 : telem Tryd.prog 33 = some 4 := by kernel_rfl
theorem F18.ti33 : (telem Tryd.prog 33).isSome = true := by kernel_rfl
theorem F18.tl33 : (telem Tryd.prog 33).bind (tsz Tryd.prog) = some 1 := by kernel_rfl
theorem F18.ze35 : tzero Tryd.prog 35 = some [(.int .i64 (0 : Int)), (.int .i64 (0 : Int)), .nilsl] := by kernel_rfl
theorem F18.ze4 : tzero Tryd.prog 4 = some [(.bool false)] := by kernel_rfl
theorem impl_CutCoded_ok {fr : List Pc} {H : Heap} (a0 : Int) (a1 : Int) (v2 : AV) (l2 : List (Bool)) (a3 : Int) (hs : Sep H (fr)) (g2 : ∀ H, Sep H fr → Shows H v2 1 (enc eBool l2)) (K : Int → Int → (List (Bool)) → Bool → Prop) (h : impl_CutCoded.wp a0 a1 l2 a3 K) : OkQ Tryd.prog 18 [(.g [(.int .i64 a0), (.int .i64 a1), v2]), (.v (.int .i64 a3))] H (fun r H2 => ∃ (y0 : Int) (y1 : Int) (y2 : List (Bool)) (y3 : Bool), K y0 y1 y2 y3 ∧ ∃ (w0_ : AV), r = (.t [(.g [(.int .i64 y0), (.int .i64 y1), w0_]), (.v (.bool y3))]) ∧ Sep H2 (Pc.osl w0_ 1 (enc eBool y2) :: fr)) := by
  unfold impl_CutCoded.wp at h
  refine of_body Tryd.f18 F.hm Tryd.func18 rfl Tryd.call18 (by kernel_rfl) (by simp) ?_
  refine fi_seq ?_
  refine fi_region ?_
  refine sv_box hs rfl (c := [(.int .i64 a0), (.int .i64 a1), v2]) rfl F18.inf35 (stc rfl (stc rfl (stc (g2 _ hs).stor stn))) nofun (fun id101 H102 hs => ?_)
  refine sv_alloc hs F18.ze35 rfl nofun (fun id104 H105 hs => ?_)
  refine so_assign (v := (.v (.bool false))) rfl ?_
  refine so_nil ?_
  refine fi_seq ?_
  refine fi_seq ?_
  refine fi_region ?_
  refine sv_lds hs 1 rfl rfl (leb rfl) rfl F18.ag35 F18.sz35 ?_
  refine sv_callS (impl_ValidCoded_okS a0 a1 v2 l2 hs (fun _ hs => (g2 _ hs.tl.tl)) _ h) (fun _ _ ⟨_, _, _, e⟩ => e) rfl rfl ?_
  clear h
  rintro _ _ ⟨y107, h, rfl, rfl⟩
  refine so_un rfl au_not ?_
  refine so_move (v := (.v (.bool (!y107)))) rfl ?_
  replace h := ofT h; rcases h with ⟨c109, h⟩ | ⟨c109, h⟩
  · refine so_gyes rfl (not_f c109) ?_
    refine so_move (v := (.v (.int .i64 a3))) rfl ?_
    refine so_gyes rfl (not_f c109) ?_
    refine so_fieldAddr rfl F18.fd35_2 ?_
    refine so_gyes rfl (not_f c109) ?_
    refine sv_ld hs 1 rfl rfl rfl F18.ag33 ?_
    refine so_gyes rfl (not_f c109) ?_
    refine sv_len (g2 _ hs.tl.tl) (fun _ => rfl) (by decide) rfl F18.ti33 ?_
    refine so_gyes rfl (not_f c109) ?_
    refine sv_callS (impl_within_ok a3 (0 : Int) (l2.length : Int) hs  _ h) (fun _ _ ⟨_, _, _, e⟩ => e) rfl rfl ?_
    clear h
    rintro _ _ ⟨y110, h, rfl, rfl⟩
    refine so_gyes rfl (not_f c109) ?_
    refine so_un rfl au_not ?_
    refine so_pick_f (v := (.v (.bool (!y110)))) rfl (not_f c109) rfl ?_
    refine so_nil ?_
    replace h := ofT h; rcases h with ⟨c112, h⟩ | ⟨c112, h⟩
    · refine fi_false rfl (not_f c112) ?_
      refine fi_skip ?_
      refine fi_seq ?_
      refine fi_free [1, 3, 6, 8] ?_
      refine wf_pure rfl (by kernel_rfl) ?_
      refine so_fieldAddr rfl F18.fd35_0 ?_
      refine so_end ?_
      refine wf_free (.v (.int .i64 a0)) rfl (by kernel_rfl) (stepr (i := 0) rfl (by refine sv_ld hs 1 rfl rfl rfl F18.ag2 ?_; exact so_end ⟨rfl, rfl⟩)) fan ?_
      refine wf_pure rfl (by kernel_rfl) ?_
      refine so_fieldAddr rfl F18.fd35_1 ?_
      refine so_end ?_
      refine wf_free (.v (.int .i64 a1)) rfl (by kernel_rfl) (stepr (i := 0) rfl (by refine sv_ld hs 1 rfl rfl rfl F18.ag2 ?_; exact so_end ⟨rfl, rfl⟩)) fan ?_
      have hs0_ := hs
      refine wf_chg (by kernel_rfl) ?_
      refine sv_bslice hs eBool ([] : List (Bool)) [] F18.te33 F18.sz4 F18.ze4 rfl rfl rfl rfl (fun _ => rfl) rfl (by decide) nofun (fun v113 H114 nv113 hs => ?_)
      refine so_end ⟨(fac (.inr (stepr (i := 0) rfl (by refine sv_ld hs 2 rfl rfl rfl F18.ag2 ?_; exact so_end ⟨rfl, rfl⟩))) (fac (.inr (stepr (i := 0) rfl (by refine sv_ld hs 2 rfl rfl rfl F18.ag2 ?_; exact so_end ⟨rfl, rfl⟩))) fan)), ?_⟩
      refine wf_pure rfl (by kernel_rfl) ?_
      refine so_fieldAddr rfl F18.fd35_2 ?_
      refine so_end ?_
      refine wf_free (.v v2) rfl (by kernel_rfl) (stepr (i := 0) rfl (by refine sv_ld hs 2 rfl rfl rfl F18.ag33 ?_; exact so_end ⟨rfl, rfl⟩)) (fac (.inr (stepr (i := 0) rfl (by refine sv_ld hs0_ 1 rfl rfl rfl F18.ag33 ?_; exact so_end ⟨rfl, rfl⟩))) fan) ?_
      refine wf_pure rfl (by kernel_rfl) ?_
      refine so_move (v := (.v (.int .i64 a3))) rfl ?_
      refine so_end ?_
      obtain ⟨c116, h⟩ := h
      refine wf_free (.v (v2.cut 1 ((0 : Int)).toNat (a3).toNat)) rfl (by kernel_rfl) (stepr (i := 0) rfl (by refine sv_slice (g2 _ hs.tl.tl.tl) c116 (fun _ => rfl) (by decide) rfl rfl rfl rfl rfl F18.tl33 ?_; exact so_end ⟨rfl, rfl⟩)) (fac (.inr (stepr (i := 0) rfl (by refine sv_slice (g2 _ hs0_.tl.tl) c116 (fun _ => rfl) (by decide) rfl rfl rfl rfl rfl F18.tl33 ?_; exact so_end ⟨rfl, rfl⟩))) fan) ?_
      have hs1_ := hs
      refine wf_chg (by kernel_rfl) ?_
      obtain ⟨c119, h⟩ := h
      refine sv_app hs 0 rfl (Shows.cut (e := eBool) (n := 1) (fun _ => rfl) (g2 _ hs.tl.tl.tl) (by decide) (cutok c116)) (fun _ => rfl) (by decide) F18.ta33_33 (by decide) c119 rfl rfl nofun (fun v117 H118 kv117 hs => ?_)
      have nv117 := kv117 nv113
      refine so_end ⟨(fac (.inl ⟨9, by kernel_rfl⟩) (fac (.inl ⟨9, by kernel_rfl⟩) (fac (.inr (stepr (i := 0) rfl (by refine sv_ld hs 2 rfl rfl rfl F18.ag2 ?_; exact so_end ⟨rfl, rfl⟩))) (fac (.inr (stepr (i := 0) rfl (by refine sv_ld hs 2 rfl rfl rfl F18.ag2 ?_; exact so_end ⟨rfl, rfl⟩))) fan)))), ?_⟩
      refine wf_pure rfl (by kernel_rfl) ?_
      refine so_build F18.bp35 (cps := [(0, [(.int .i64 a0)]), (1, [(.int .i64 a1)]), (2, [v117])]) rfl (fac (stc rfl stn) (fac (stc rfl stn) (fac (stc (hs.shows 0 rfl).stor stn) fan))) rfl ?_
      refine so_end ?_
      have hs2_ := hs
      refine wf_chg (by kernel_rfl) ?_
      refine sv_st hs 1 rfl rfl rfl (c := [(.int .i64 a0), (.int .i64 a1), v117]) rfl F18.sz35 rfl (stc rfl (stc rfl (stc (hs.shows 0 rfl).stor stn))) (leb rfl) (cs' := [(.int .i64 a0), (.int .i64 a1), v117]) rfl nofun (fun H120 hs => ?_)
      refine so_end ⟨(fac (.inl ⟨9, by kernel_rfl⟩) (fac (.inl ⟨9, by kernel_rfl⟩) (fac (.inl ⟨11, by kernel_rfl⟩) (fac (.inl ⟨11, by kernel_rfl⟩) fan)))), ?_⟩
      refine wf_pure rfl (by kernel_rfl) ?_
      refine so_assign (v := (.v (.bool true))) rfl ?_
      refine so_end ?_
      refine wf_nil ?_
      exact by_ret (res_mk (ar_cells rfl F18.ag35 F18.sz35 (hs.lds 1 rfl (leb rfl) rfl) (ar_tmp rfl ar_nil)) rfl) ⟨_, _, _, _, h, _, rfl, (Sep.del 1 (Sep.del 1 hs))⟩
    · refine fi_true rfl (not_t c112) ?_
      refine fi_seq ?_
      refine fi_region ?_
      refine so_build F18.bp35 (cps := []) rfl fan rfl ?_
      refine sv_st hs 0 rfl rfl rfl (c := [(.int .i64 (0 : Int)), (.int .i64 (0 : Int)), .nilsl]) rfl F18.sz35 rfl (stc rfl (stc rfl (stc rfl stn))) (leb rfl) (cs' := [(.int .i64 (0 : Int)), (.int .i64 (0 : Int)), .nilsl]) rfl nofun (fun H121 hs => ?_)
      refine so_assign (v := (.v (.bool false))) rfl ?_
      refine so_nil ?_
      exact by_ret (res_mk (ar_cells rfl F18.ag35 F18.sz35 (hs.lds 0 rfl (leb rfl) rfl) (ar_tmp rfl ar_nil)) rfl) ⟨_, _, _, _, h, _, rfl, (Sep.nil (Sep.del 0 (Sep.del 0 hs)) 1)⟩
  · refine so_gno rfl (not_t c109) ?_
    refine so_gno rfl (not_t c109) ?_
    refine so_gno rfl (not_t c109) ?_
    refine so_gno rfl (not_t c109) ?_
    refine so_gno rfl (not_t c109) ?_
    refine so_gno rfl (not_t c109) ?_
    refine so_pick_t (v := (.v (.bool true))) rfl (not_t c109) rfl ?_
    refine so_nil ?_
    refine fi_true rfl rfl ?_
    refine fi_seq ?_
    refine fi_region ?_
    refine so_build F18.bp35 (cps := []) rfl fan rfl ?_
    refine sv_st hs 0 rfl rfl rfl (c := [(.int .i64 (0 : Int)), (.int .i64 (0 : Int)), .nilsl]) rfl F18.sz35 rfl (stc rfl (stc rfl (stc rfl stn))) (leb rfl) (cs' := [(.int .i64 (0 : Int)), (.int .i64 (0 : Int)), .nilsl]) rfl nofun (fun H122 hs => ?_)
    refine so_assign (v := (.v (.bool false))) rfl ?_
    refine so_nil ?_
    exact by_ret (res_mk (ar_cells rfl F18.ag35 F18.sz35 (hs.lds 0 rfl (leb rfl) rfl) (ar_tmp rfl ar_nil)) rfl) ⟨_, _, _, _, h, _, rfl, (Sep.nil (Sep.del 0 (Sep.del 0 hs)) 1)⟩

end Go.Proofs.YtecdkjnomkdbkaaDoor.G

namespace Go.Proofs.YtecdkjnomkdbkaaDoor.G
open Go Go.Ab Go.Proofs Go.Proofs.YtecdkjnomkdbkaaDoor
set_option maxRecDepth 100000
set_option linter.unusedVariables false
set_option linter.unusedSimpArgs false
set_option maxHeartbeats 1000000
attribute [local irreducible] wops wopf Go.Ab.Fin
theorem laws_r8Abs_ok {fr : List Pc} {H : Heap} (a0 : Int) (hs : Sep H (fr))  (K : Int → Prop) (h : laws_r8Abs.wp a0 K) : OkQ Tryd.prog 19 [(.v (.int .i64 a0))] H (fun r H2 => ∃ (y0 : Int), K y0 ∧ r = (.v (.int .i64 y0)) ∧ H = H2) := by
  unfold laws_r8Abs.wp at h
  refine of_body Tryd.f19 F.hm Tryd.func19 rfl Tryd.call19 (by kernel_rfl) (by simp) ?_
  refine fi_seq ?_
  refine fi_region ?_
  refine so_assign (v := (.v (.int .i64 (0 : Int)))) rfl ?_
  refine so_nil ?_
  refine fi_seq ?_
  refine fi_region ?_
  refine so_move (v := (.v (.int .i64 a0))) rfl ?_
  refine so_move (v := (.v (.int .i64 a0))) rfl ?_
  refine so_un rfl au_neg ?_
  refine sv_max rfl rfl ?_
  refine so_assign (v := (.v (.int .i64 (mxI a0 (IntKind.i64.wrap (0 - a0)))))) rfl ?_
  refine so_nil ?_
  exact by_ret rfl ⟨_, h, rfl, rfl⟩

end Go.Proofs.YtecdkjnomkdbkaaDoor.G

namespace Go.Proofs.YtecdkjnomkdbkaaDoor.G
open Go Go.Ab Go.Proofs Go.Proofs.YtecdkjnomkdbkaaDoor
set_option maxRecDepth 100000
set_option linter.unusedVariables false
set_option linter.unusedSimpArgs false
set_option maxHeartbeats 1000000
attribute [local irreducible] wops wopf Go.Ab.Fin
theorem F20.ti33 : (telem Tryd.prog 33).isSome = true := by kernel_rfl
theorem impl_BitsUntil_ok {fr : List Pc} {H : Heap} (v0 : AV) (l0 : List (Int)) (a1 : Int) (hs : Sep H (fr)) (g0 : ∀ H, Sep H fr → Shows H v0 1 (enc (eInt .i64) l0)) (K : Int → Bool → Prop) (h : impl_BitsUntil.wp l0 a1 K) : OkQ Tryd.prog 20 [(.v v0), (.v (.int .i64 a1))] H (fun r H2 => ∃ (y0 : Int) (y1 : Bool), K y0 y1 ∧ r = (.t [(.v (.int .i64 y0)), (.v (.bool y1))]) ∧ Sep H2 (fr)) := by
  unfold impl_BitsUntil.wp at h
  refine of_body Tryd.f20 F.hm Tryd.func20 rfl Tryd.call20 (by kernel_rfl) (by simp) ?_
  refine fi_seq ?_
  refine fi_region ?_
  refine so_assign (v := (.v (.int .i64 (0 : Int)))) rfl ?_
  refine so_assign (v := (.v (.bool false))) rfl ?_
  refine so_nil ?_
  refine fi_seq ?_
  refine fi_seq ?_
  refine fi_region ?_
  refine so_move (v := (.v v0)) rfl ?_
  refine sv_callS (impl_AreIntegers_ok v0 l0 hs (fun _ hs => (g0 _ hs)) _ h) (fun _ _ ⟨_, _, _, e⟩ => e) rfl rfl ?_
  clear h
  rintro _ _ ⟨y101, h, rfl, rfl⟩
  refine so_un rfl au_not ?_
  refine so_move (v := (.v (.bool (!y101)))) rfl ?_
  replace h := ofT h; rcases h with ⟨c103, h⟩ | ⟨c103, h⟩
  · refine so_gyes rfl (not_f c103) ?_
    refine so_move (v := (.v (.int .i64 a1))) rfl ?_
    refine so_gyes rfl (not_f c103) ?_
    refine sv_callS (impl_within_ok a1 (0 : Int) (24 : Int) hs  _ h) (fun _ _ ⟨_, _, _, e⟩ => e) rfl rfl ?_
    clear h
    rintro _ _ ⟨y104, h, rfl, rfl⟩
    refine so_gyes rfl (not_f c103) ?_
    refine so_un rfl au_not ?_
    refine so_pick_f (v := (.v (.bool (!y104)))) rfl (not_f c103) rfl ?_
    refine so_nil ?_
    replace h := ofT h; rcases h with ⟨c106, h⟩ | ⟨c106, h⟩
    · refine fi_false rfl (not_f c106) ?_
      refine fi_skip ?_
      refine fi_seq ?_
      refine fi_region ?_
      refine so_move (v := (.v v0)) rfl ?_
      refine so_move (v := (.v v0)) rfl ?_
      refine sv_callS (impl_planesFor_ok v0 l0 hs (fun _ hs => (g0 _ hs)) _ h) (fun _ _ ⟨_, _, _, e⟩ => e) rfl rfl ?_
      clear h
      rintro _ _ ⟨y107, h, rfl, rfl⟩
      refine so_move (v := (.v (.int .i64 a1))) rfl ?_
      refine sv_call (impl_codeUntil_ok v0 l0 y107 a1 hs (fun _ hs => (g0 _ hs)) _ h) rfl rfl nofun ?_
      clear h hs
      rintro _ H112 ⟨y109, h, v110, rfl, hs⟩
      refine sv_len (hs.shows 0 rfl) (fun _ => rfl) (by decide) rfl F20.ti33 ?_
      refine so_assign (v := (.v (.int .i64 (y109.length : Int)))) rfl ?_
      refine so_assign (v := (.v (.bool true))) rfl ?_
      refine so_nil ?_
      exact by_ret rfl ⟨_, _, h, rfl, (Sep.del 0 hs)⟩
    · refine fi_true rfl (not_t c106) ?_
      refine fi_seq ?_
      refine fi_region ?_
      refine so_assign (v := (.v (.int .i64 (0 : Int)))) rfl ?_
      refine so_assign (v := (.v (.bool false))) rfl ?_
      refine so_nil ?_
      exact by_ret rfl ⟨_, _, h, rfl, hs⟩
  · refine so_gno rfl (not_t c103) ?_
    refine so_gno rfl (not_t c103) ?_
    refine so_gno rfl (not_t c103) ?_
    refine so_pick_t (v := (.v (.bool true))) rfl (not_t c103) rfl ?_
    refine so_nil ?_
    refine fi_true rfl rfl ?_
    refine fi_seq ?_
    refine fi_region ?_
    refine so_assign (v := (.v (.int .i64 (0 : Int)))) rfl ?_
    refine so_assign (v := (.v (.bool false))) rfl ?_
    refine so_nil ?_
    exact by_ret rfl ⟨_, _, h, rfl, hs⟩
theorem impl_BitsUntil_okS {fr : List Pc} {H : Heap} (v0 : AV) (l0 : List (Int)) (a1 : Int) (hs : Sep H fr) (g0 : ∀ H, Sep H fr → Shows H v0 1 (enc (eInt .i64) l0)) (K : Int → Bool → Prop) (h : impl_BitsUntil.wp l0 a1 K) : OkQ Tryd.prog 20 [(.v v0), (.v (.int .i64 a1))] H (fun r H2 => ∃ (y0 : Int) (y1 : Bool), K y0 y1 ∧ r = (.t [(.v (.int .i64 y0)), (.v (.bool y1))]) ∧ H = H2) := by
  obtain ⟨r, H2, h1, y0, y1, hK, hr, hsep⟩ := impl_BitsUntil_ok (fr := came H) (H := H) v0 l0 a1 (came_sep H) (came_shows (g0 H hs)) K h
  have hk : H.n ≤ H2.n ∧ ∀ i, i < H.n → H2.f i = H.f i := hsep.1.2.1
  exact ⟨r, H, h1.forget hk.1 hk.2 (by subst hr; rfl), y0, y1, hK, hr, rfl⟩

end Go.Proofs.YtecdkjnomkdbkaaDoor.G

namespace Go.Proofs.YtecdkjnomkdbkaaDoor.G
open Go Go.Ab Go.Proofs Go.Proofs.YtecdkjnomkdbkaaDoor
set_option maxRecDepth 100000
set_option linter.unusedVariables false
set_option linter.unusedSimpArgs false
set_option maxHeartbeats 1000000
attribute [local irreducible] wops wopf Go.Ab.Fin
theorem F44.ag2 : tagg Tryd.prog 2 = some false := by kernel_rfl
theorem F44.ti31 : (telem Tryd.prog 31).isSome = true := by kernel_rfl
theorem F44.tl31 : (telem Tryd.prog 31).bind (tsz Tryd.prog) = some 1 := by kernel_rfl
theorem impl_riceLong_ok {fr : List Pc} {H : Heap} (v0 : AV) (l0 : List (Int)) (a1 : Int) (hs : Sep H (fr)) (g0 : ∀ H, Sep H fr → Shows H v0 1 (enc (eInt .i64) l0)) (K : Int → Prop) (h : impl_riceLong.wp l0 a1 K) : OkQ Tryd.prog 44 [(.v v0), (.v (.int .i64 a1))] H (fun r H2 => ∃ (y0 : Int), K y0 ∧ r = (.v (.int .i64 y0)) ∧ H = H2) := by
  unfold impl_riceLong.wp at h
  refine of_body Tryd.f44 F.hm Tryd.func44 rfl Tryd.call44 (by kernel_rfl) (by simp) ?_
  refine fi_seq ?_
  refine fi_region ?_
  refine so_assign (v := (.v (.int .i64 (0 : Int)))) rfl ?_
  refine so_nil ?_
  refine fi_seq ?_
  refine fi_region ?_
  refine so_assign (v := (.v (.int .i64 (0 : Int)))) rfl ?_
  refine so_nil ?_
  refine fi_seq ?_
  refine fi_seq ?_
  refine fi_region ?_
  refine so_move (v := (.v v0)) rfl ?_
  refine sv_len (g0 _ hs) (fun _ => rfl) (by decide) rfl F44.ti31 ?_
  refine so_move (v := (.v (.int .i64 (0 : Int)))) rfl ?_
  refine so_nil ?_
  refine fi_block ?_
  refine fi_loop ?_
  refine fi_at [(1, (.v (.int .i64 a1))), (5, (.v (.int .i64 (0 : Int)))), (8, (.v v0)), (9, (.v (.int .i64 (l0.length : Int)))), (10, (.v (.int .i64 (0 : Int))))] ⟨rfl, rfl, rfl, rfl, rfl, trivial⟩ ?_
  refine h (fun (sum102 : Int) (x103 : Int) => ∀ (s : Nat → TV), Fin _ _ (updL s [(1, (.v (.int .i64 a1))), (5, (.v (.int .i64 sum102))), (8, (.v v0)), (9, (.v (.int .i64 (l0.length : Int)))), (10, (.v (.int .i64 x103)))]) _ _) ?_ _
  intro sum102 x103 h s109
  refine fi_inLoop ?_
  refine fi_seq ?_
  refine fi_region ?_
  refine so_bin rfl rfl ab_lss ?_
  refine so_nil ?_
  refine fi_seq ?_
  replace h := ofP h; rcases h with ⟨c104, h⟩ | ⟨c104, h⟩
  · refine fi_true rfl (decide_eq_true c104) ?_
    refine fi_skip ?_
    refine fi_seq ?_
    refine fi_block ?_
    refine fi_seq ?_
    refine fi_region ?_
    obtain ⟨c105, h⟩ := h
    refine sv_idx (g0 _ hs) c105 (fun _ => rfl) (by decide) rfl rfl F44.tl31 ?_
    refine sv_cell (g0 _ hs) c105 (0 : Int) 0 (fun x => (AV.int .i64 x)) (fun _ => rfl) (fun _ => rfl) rfl F44.ag2 ?_
    refine so_assign (v := (.v (.int .i64 (l0.getD (x103).toNat (0 : Int))))) rfl ?_
    refine so_nil ?_
    refine fi_region ?_
    refine so_move (v := (.v (.int .i64 sum102))) rfl ?_
    refine so_move (v := (.v (.int .i64 (l0.getD (x103).toNat (0 : Int))))) rfl ?_
    refine sv_callS (impl_zigZag_ok (l0.getD (x103).toNat (0 : Int)) hs  _ h) (fun _ _ ⟨_, _, _, e⟩ => e) rfl rfl ?_
    clear h
    rintro _ _ ⟨y106, h, rfl, rfl⟩
    refine so_move (v := (.v (.int .i64 a1))) rfl ?_
    obtain ⟨c108, h⟩ := h
    refine so_bin rfl rfl (ab_shr c108) ?_
    refine so_bin rfl rfl ab_add ?_
    refine so_move (v := (.v (.int .i64 a1))) rfl ?_
    refine so_bin rfl rfl ab_add ?_
    refine so_bin rfl rfl ab_add ?_
    refine so_assign (v := (.v (.int .i64 (IntKind.i64.wrap (sum102 + (IntKind.i64.wrap ((IntKind.i64.wrap ((Int.fdiv y106 (2 ^ (min (a1).toNat IntKind.i64.bits))) + (1 : Int))) + a1))))))) rfl ?_
    refine so_nil ?_
    refine fi_inBlock ?_
    refine fi_region ?_
    refine so_bin rfl rfl ab_add ?_
    refine so_move (v := (.v (.int .i64 (IntKind.i64.wrap (x103 + (1 : Int)))))) rfl ?_
    refine so_nil ?_
    exact fi_at [(1, (.v (.int .i64 a1))), (5, (.v (.int .i64 (IntKind.i64.wrap (sum102 + (IntKind.i64.wrap ((IntKind.i64.wrap ((Int.fdiv y106 (2 ^ (min (a1).toNat IntKind.i64.bits))) + (1 : Int))) + a1))))))), (8, (.v v0)), (9, (.v (.int .i64 (l0.length : Int)))), (10, (.v (.int .i64 (IntKind.i64.wrap (x103 + (1 : Int))))))] ⟨rfl, rfl, rfl, rfl, rfl, trivial⟩ (h _)
  · refine fi_false rfl (decide_eq_false c104) ?_
    refine fi_exit rfl ?_
    refine fi_seq ?_
    refine fi_region ?_
    refine so_move (v := (.v (.int .i64 sum102))) rfl ?_
    refine so_assign (v := (.v (.int .i64 sum102))) rfl ?_
    refine so_nil ?_
    exact by_ret rfl ⟨_, h, rfl, rfl⟩

end Go.Proofs.YtecdkjnomkdbkaaDoor.G

namespace Go.Proofs.YtecdkjnomkdbkaaDoor.G
open Go Go.Ab Go.Proofs Go.Proofs.YtecdkjnomkdbkaaDoor
set_option maxRecDepth 100000
set_option linter.unusedVariables false
set_option linter.unusedSimpArgs false
set_option maxHeartbeats 1000000
attribute [local irreducible] wops wopf Go.Ab.Fin
theorem impl_RiceLong_ok {fr : List Pc} {H : Heap} (v0 : AV) (l0 : List (Int)) (a1 : Int) (hs : Sep H (fr)) (g0 : ∀ H, Sep H fr → Shows H v0 1 (enc (eInt .i64) l0)) (K : Int → Bool → Prop) (h : impl_RiceLong.wp l0 a1 K) : OkQ Tryd.prog 21 [(.v v0), (.v (.int .i64 a1))] H (fun r H2 => ∃ (y0 : Int) (y1 : Bool), K y0 y1 ∧ r = (.t [(.v (.int .i64 y0)), (.v (.bool y1))]) ∧ H = H2) := by
  unfold impl_RiceLong.wp at h
  refine of_body Tryd.f21 F.hm Tryd.func21 rfl Tryd.call21 (by kernel_rfl) (by simp) ?_
  refine fi_seq ?_
  refine fi_region ?_
  refine so_assign (v := (.v (.int .i64 (0 : Int)))) rfl ?_
  refine so_assign (v := (.v (.bool false))) rfl ?_
  refine so_nil ?_
  refine fi_seq ?_
  refine fi_seq ?_
  refine fi_region ?_
  refine so_move (v := (.v v0)) rfl ?_
  refine sv_callS (impl_AreIntegers_ok v0 l0 hs (fun _ hs => (g0 _ hs)) _ h) (fun _ _ ⟨_, _, _, e⟩ => e) rfl rfl ?_
  clear h
  rintro _ _ ⟨y101, h, rfl, rfl⟩
  refine so_un rfl au_not ?_
  refine so_move (v := (.v (.bool (!y101)))) rfl ?_
  replace h := ofT h; rcases h with ⟨c103, h⟩ | ⟨c103, h⟩
  · refine so_gyes rfl (not_f c103) ?_
    refine so_move (v := (.v (.int .i64 a1))) rfl ?_
    refine so_gyes rfl (not_f c103) ?_
    refine sv_callS (impl_within_ok a1 (0 : Int) (20 : Int) hs  _ h) (fun _ _ ⟨_, _, _, e⟩ => e) rfl rfl ?_
    clear h
    rintro _ _ ⟨y104, h, rfl, rfl⟩
    refine so_gyes rfl (not_f c103) ?_
    refine so_un rfl au_not ?_
    refine so_pick_f (v := (.v (.bool (!y104)))) rfl (not_f c103) rfl ?_
    refine so_nil ?_
    replace h := ofT h; rcases h with ⟨c106, h⟩ | ⟨c106, h⟩
    · refine fi_false rfl (not_f c106) ?_
      refine fi_skip ?_
      refine fi_seq ?_
      refine fi_region ?_
      refine so_move (v := (.v v0)) rfl ?_
      refine so_move (v := (.v (.int .i64 a1))) rfl ?_
      refine sv_callS (impl_riceLong_ok v0 l0 a1 hs (fun _ hs => (g0 _ hs)) _ h) (fun _ _ ⟨_, _, _, e⟩ => e) rfl rfl ?_
      clear h
      rintro _ _ ⟨y107, h, rfl, rfl⟩
      refine so_assign (v := (.v (.int .i64 y107))) rfl ?_
      refine so_assign (v := (.v (.bool true))) rfl ?_
      refine so_nil ?_
      exact by_ret rfl ⟨_, _, h, rfl, rfl⟩
    · refine fi_true rfl (not_t c106) ?_
      refine fi_seq ?_
      refine fi_region ?_
      refine so_assign (v := (.v (.int .i64 (0 : Int)))) rfl ?_
      refine so_assign (v := (.v (.bool false))) rfl ?_
      refine so_nil ?_
      exact by_ret rfl ⟨_, _, h, rfl, rfl⟩
  · refine so_gno rfl (not_t c103) ?_
    refine so_gno rfl (not_t c103) ?_
    refine so_gno rfl (not_t c103) ?_
    refine so_pick_t (v := (.v (.bool true))) rfl (not_t c103) rfl ?_
    refine so_nil ?_
    refine fi_true rfl rfl ?_
    refine fi_seq ?_
    refine fi_region ?_
    refine so_assign (v := (.v (.int .i64 (0 : Int)))) rfl ?_
    refine so_assign (v := (.v (.bool false))) rfl ?_
    refine so_nil ?_
    exact by_ret rfl ⟨_, _, h, rfl, rfl⟩

end Go.Proofs.YtecdkjnomkdbkaaDoor.G

namespace Go.Proofs.YtecdkjnomkdbkaaDoor.G
open Go Go.Ab Go.Proofs Go.Proofs.YtecdkjnomkdbkaaDoor
set_option maxRecDepth 100000
set_option linter.unusedVariables false
set_option linter.unusedSimpArgs false
set_option maxHeartbeats 1000000
attribute [local irreducible] wops wopf Go.Ab.Fin
theorem F22.ag2 : tagg Tryd.prog 2 = some false := by kernel_rfl
theorem F22.sz4 : tsz Tryd.prog 4 = some 1 := by kernel_rfl
theorem F22.ta33_33 : tapp Tryd.prog 33 33 = some (1, 1) := by kernel_rfl
theorem F22.te33 : telem Tryd.prog 33 = some 4 := by kernel_rfl
theorem F22.ti31 : (telem Tryd.prog 31).isSome = true := by kernel_rfl
theorem F22.tl31 : (telem Tryd.prog 31).bind (tsz Tryd.prog) = some 1 := by kernel_rfl
theorem F22.ze4 : tzero Tryd.prog 4 = some [(.bool false)] := by kernel_rfl
theorem impl_RiceCode_ok {fr : List Pc} {H : Heap} (v0 : AV) (l0 : List (Int)) (a1 : Int) (hs : Sep H (fr)) (g0 : ∀ H, Sep H fr → Shows H v0 1 (enc (eInt .i64) l0)) (K : (List (Bool)) → Bool → Prop) (h : impl_RiceCode.wp l0 a1 K) : OkQ Tryd.prog 22 [(.v v0), (.v (.int .i64 a1))] H (fun r H2 => ∃ (y0 : List (Bool)) (y1 : Bool), K y0 y1 ∧ ∃ (w0_ : AV), r = (.t [(.v w0_), (.v (.bool y1))]) ∧ Sep H2 (Pc.osl w0_ 1 (enc eBool y0) :: fr)) := by
  unfold impl_RiceCode.wp at h
  refine of_body Tryd.f22 F.hm Tryd.func22 rfl Tryd.call22 (by kernel_rfl) (by simp) ?_
  refine fi_seq ?_
  refine fi_region ?_
  refine so_assign (v := (.v .nilsl)) rfl ?_
  refine so_assign (v := (.v (.bool false))) rfl ?_
  refine so_nil ?_
  refine fi_seq ?_
  refine fi_seq ?_
  refine fi_region ?_
  refine so_move (v := (.v v0)) rfl ?_
  refine so_move (v := (.v (.int .i64 a1))) rfl ?_
  refine sv_callS (impl_RiceLong_ok v0 l0 a1 hs (fun _ hs => (g0 _ hs)) _ h) (fun _ _ ⟨_, _, _, _, e⟩ => e) rfl rfl ?_
  clear h
  rintro _ _ ⟨y101, y102, h, rfl, rfl⟩
  refine so_move (v := (.t [(.v (.int .i64 y101)), (.v (.bool y102))])) rfl ?_
  refine so_extract rfl rfl rfl ?_
  refine so_extract rfl rfl rfl ?_
  refine so_assign (v := (.v (.int .i64 y101))) rfl ?_
  refine so_assign (v := (.v (.bool y102))) rfl ?_
  refine so_nil ?_
  refine fi_seq ?_
  refine fi_region ?_
  refine so_move (v := (.v (.bool y102))) rfl ?_
  refine so_un rfl au_not ?_
  refine so_move (v := (.v (.bool (!y102)))) rfl ?_
  replace h := ofT h; rcases h with ⟨c104, h⟩ | ⟨c104, h⟩
  · refine so_gyes rfl (not_f c104) ?_
    refine so_move (v := (.v (.int .i64 y101))) rfl ?_
    refine so_gyes rfl (not_f c104) ?_
    refine so_bin rfl rfl ab_gtr ?_
    refine so_pick_f (v := (.v (.bool (decide ((32768 : Int) < y101))))) rfl (not_f c104) rfl ?_
    refine so_nil ?_
    replace h := ofP h; rcases h with ⟨c105, h⟩ | ⟨c105, h⟩
    · refine fi_true rfl (decide_eq_true c105) ?_
      refine fi_seq ?_
      refine fi_region ?_
      refine so_assign (v := (.v .nilsl)) rfl ?_
      refine so_assign (v := (.v (.bool false))) rfl ?_
      refine so_nil ?_
      exact by_ret rfl ⟨_, _, h, _, rfl, (Sep.nil hs 1)⟩
    · refine fi_false rfl (decide_eq_false c105) ?_
      refine fi_skip ?_
      refine fi_seq ?_
      refine fi_region ?_
      refine sv_bslice hs eBool ([] : List (Bool)) [] F22.te33 F22.sz4 F22.ze4 rfl rfl rfl rfl (fun _ => rfl) rfl (by decide) nofun (fun v106 H107 nv106 hs => ?_)
      refine so_assign (v := (.v v106)) rfl ?_
      refine so_nil ?_
      refine fi_seq ?_
      refine fi_seq ?_
      refine fi_region ?_
      refine so_move (v := (.v v0)) rfl ?_
      refine sv_len (g0 _ hs.tl) (fun _ => rfl) (by decide) rfl F22.ti31 ?_
      refine so_move (v := (.v (.int .i64 (0 : Int)))) rfl ?_
      refine so_nil ?_
      refine fi_block ?_
      refine fi_loop ?_
      refine fi_at [(1, (.v (.int .i64 a1))), (8, (.v v106)), (26, (.v v0)), (27, (.v (.int .i64 (l0.length : Int)))), (28, (.v (.int .i64 (0 : Int))))] ⟨rfl, rfl, rfl, rfl, rfl, trivial⟩ ?_
      refine h (fun (out207 : List (Bool)) (x209 : Int) => ∀ (s : Nat → TV) (H : Heap) (v208 : AV) (nv208 : v208 ≠ .nilsl), Sep H (Pc.osl v208 1 (enc eBool out207) :: fr) → Fin _ _ (updL s [(1, (.v (.int .i64 a1))), (8, (.v v208)), (26, (.v v0)), (27, (.v (.int .i64 (l0.length : Int)))), (28, (.v (.int .i64 x209)))]) H _) ?_ _ _ _ nv106 hs
      intro out207 x209 h s303 H304 v208 nv208 hs
      refine fi_inLoop ?_
      refine fi_seq ?_
      refine fi_region ?_
      refine so_bin rfl rfl ab_lss ?_
      refine so_nil ?_
      refine fi_seq ?_
      replace h := ofP h; rcases h with ⟨c210, h⟩ | ⟨c210, h⟩
      · refine fi_true rfl (decide_eq_true c210) ?_
        refine fi_skip ?_
        refine fi_seq ?_
        refine fi_block ?_
        refine fi_seq ?_
        refine fi_region ?_
        obtain ⟨c211, h⟩ := h
        refine sv_idx (g0 _ hs.tl) c211 (fun _ => rfl) (by decide) rfl rfl F22.tl31 ?_
        refine sv_cell (g0 _ hs.tl) c211 (0 : Int) 0 (fun x => (AV.int .i64 x)) (fun _ => rfl) (fun _ => rfl) rfl F22.ag2 ?_
        refine so_assign (v := (.v (.int .i64 (l0.getD (x209).toNat (0 : Int))))) rfl ?_
        refine so_nil ?_
        refine fi_seq ?_
        refine fi_region ?_
        refine so_move (v := (.v (.int .i64 (l0.getD (x209).toNat (0 : Int))))) rfl ?_
        refine sv_callS (impl_zigZag_ok (l0.getD (x209).toNat (0 : Int)) hs  _ h) (fun _ _ ⟨_, _, _, e⟩ => e) rfl rfl ?_
        clear h
        rintro _ _ ⟨y212, h, rfl, rfl⟩
        refine so_assign (v := (.v (.int .i64 y212))) rfl ?_
        refine so_nil ?_
        refine fi_seq ?_
        refine fi_seq ?_
        refine fi_region ?_
        refine so_move (v := (.v (.int .i64 y212))) rfl ?_
        refine so_move (v := (.v (.int .i64 a1))) rfl ?_
        obtain ⟨c214, h⟩ := h
        refine so_bin rfl rfl (ab_shr c214) ?_
        refine so_move (v := (.v (.int .i64 (0 : Int)))) rfl ?_
        refine so_nil ?_
        refine fi_block ?_
        refine fi_loop ?_
        refine fi_at [(1, (.v (.int .i64 a1))), (8, (.v v208)), (11, (.v (.int .i64 y212))), (26, (.v v0)), (27, (.v (.int .i64 (l0.length : Int)))), (28, (.v (.int .i64 x209))), (36, (.v (.int .i64 (Int.fdiv y212 (2 ^ (min (a1).toNat IntKind.i64.bits)))))), (37, (.v (.int .i64 (0 : Int))))] ⟨rfl, rfl, rfl, rfl, rfl, rfl, rfl, rfl, trivial⟩ ?_
        refine h (fun (out259 : List (Bool)) (x261 : Int) => ∀ (s : Nat → TV) (H : Heap) (v260 : AV) (nv260 : v260 ≠ .nilsl), Sep H (Pc.osl v260 1 (enc eBool out259) :: fr) → Fin _ _ (updL s [(1, (.v (.int .i64 a1))), (8, (.v v260)), (11, (.v (.int .i64 y212))), (26, (.v v0)), (27, (.v (.int .i64 (l0.length : Int)))), (28, (.v (.int .i64 x209))), (36, (.v (.int .i64 (Int.fdiv y212 (2 ^ (min (a1).toNat IntKind.i64.bits)))))), (37, (.v (.int .i64 x261)))]) H _) ?_ _ _ _ nv208 hs
        intro out259 x261 h s301 H302 v260 nv260 hs
        refine fi_inLoop ?_
        refine fi_seq ?_
        refine fi_region ?_
        refine so_bin rfl rfl ab_lss ?_
        refine so_nil ?_
        refine fi_seq ?_
        replace h := ofP h; rcases h with ⟨c262, h⟩ | ⟨c262, h⟩
        · refine fi_true rfl (decide_eq_true c262) ?_
          refine fi_skip ?_
          refine fi_seq ?_
          refine fi_block ?_
          refine fi_region ?_
          refine so_move (v := (.v v260)) rfl ?_
          refine sv_bslice hs eBool ([true] : List (Bool)) [[(.bool true)]] F22.te33 F22.sz4 F22.ze4 rfl rfl rfl rfl (fun _ => rfl) rfl (by decide) nofun (fun v263 H264 nv263 hs => ?_)
          obtain ⟨c268, h⟩ := h
          refine sv_app hs 1 rfl (hs.shows 0 rfl) (fun _ => rfl) (by decide) F22.ta33_33 (by decide) c268 rfl rfl nofun (fun v266 H267 kv266 hs => ?_)
          replace hs := hs.del 0
          have nv266 := kv266 nv260
          refine so_assign (v := (.v v266)) rfl ?_
          refine so_nil ?_
          refine fi_inBlock ?_
          refine fi_region ?_
          refine so_bin rfl rfl ab_add ?_
          refine so_move (v := (.v (.int .i64 (IntKind.i64.wrap (x261 + (1 : Int)))))) rfl ?_
          refine so_nil ?_
          exact fi_at [(1, (.v (.int .i64 a1))), (8, (.v v266)), (11, (.v (.int .i64 y212))), (26, (.v v0)), (27, (.v (.int .i64 (l0.length : Int)))), (28, (.v (.int .i64 x209))), (36, (.v (.int .i64 (Int.fdiv y212 (2 ^ (min (a1).toNat IntKind.i64.bits)))))), (37, (.v (.int .i64 (IntKind.i64.wrap (x261 + (1 : Int))))))] ⟨rfl, rfl, rfl, rfl, rfl, rfl, rfl, rfl, trivial⟩ (h _ _ _ nv266 hs)
        · refine fi_false rfl (decide_eq_false c262) ?_
          refine fi_exit rfl ?_
          refine fi_seq ?_
          refine fi_region ?_
          refine so_move (v := (.v v260)) rfl ?_
          refine sv_bslice hs eBool ([false] : List (Bool)) [[(.bool false)]] F22.te33 F22.sz4 F22.ze4 rfl rfl rfl rfl (fun _ => rfl) rfl (by decide) nofun (fun v269 H270 nv269 hs => ?_)
          obtain ⟨c274, h⟩ := h
          refine sv_app hs 1 rfl (hs.shows 0 rfl) (fun _ => rfl) (by decide) F22.ta33_33 (by decide) c274 rfl rfl nofun (fun v272 H273 kv272 hs => ?_)
          replace hs := hs.del 0
          have nv272 := kv272 nv260
          refine so_assign (v := (.v v272)) rfl ?_
          refine so_nil ?_
          refine fi_seq ?_
          refine fi_region ?_
          refine so_move (v := (.v (.int .i64 a1))) rfl ?_
          refine so_bin rfl rfl ab_sub ?_
          refine so_assign (v := (.v (.int .i64 (IntKind.i64.wrap (a1 - (1 : Int)))))) rfl ?_
          refine so_nil ?_
          refine fi_block ?_
          refine fi_loop ?_
          refine fi_at [(1, (.v (.int .i64 a1))), (8, (.v v272)), (11, (.v (.int .i64 y212))), (12, (.v (.int .i64 (IntKind.i64.wrap (a1 - (1 : Int)))))), (26, (.v v0)), (27, (.v (.int .i64 (l0.length : Int)))), (28, (.v (.int .i64 x209)))] ⟨rfl, rfl, rfl, rfl, rfl, rfl, rfl, trivial⟩ ?_
          refine h (fun (out288 : List (Bool)) (b290 : Int) => ∀ (s : Nat → TV) (H : Heap) (v289 : AV) (nv289 : v289 ≠ .nilsl), Sep H (Pc.osl v289 1 (enc eBool out288) :: fr) → Fin _ _ (updL s [(1, (.v (.int .i64 a1))), (8, (.v v289)), (11, (.v (.int .i64 y212))), (12, (.v (.int .i64 b290))), (26, (.v v0)), (27, (.v (.int .i64 (l0.length : Int)))), (28, (.v (.int .i64 x209)))]) H _) ?_ _ _ _ nv272 hs
          intro out288 b290 h s299 H300 v289 nv289 hs
          refine fi_inLoop ?_
          refine fi_seq ?_
          refine fi_seq ?_
          refine fi_region ?_
          refine so_move (v := (.v (.int .i64 b290))) rfl ?_
          refine so_bin rfl rfl ab_geq ?_
          refine so_nil ?_
          replace h := ofP h; rcases h with ⟨c291, h⟩ | ⟨c291, h⟩
          · refine fi_true rfl (decide_eq_true c291) ?_
            refine fi_skip ?_
            refine fi_seq ?_
            refine fi_block ?_
            refine fi_region ?_
            refine so_move (v := (.v v289)) rfl ?_
            refine so_move (v := (.v (.int .i64 y212))) rfl ?_
            refine so_move (v := (.v (.int .i64 b290))) rfl ?_
            obtain ⟨c292, h⟩ := h
            refine so_bin rfl rfl (ab_shr c292) ?_
            refine so_bin rfl rfl ab_and ?_
            refine so_bin rfl rfl ab_eql ?_
            refine sv_bslice hs eBool ([(decide ((ibits .and .i64 (Int.fdiv y212 (2 ^ (min (b290).toNat IntKind.i64.bits))) (1 : Int)) = (1 : Int)))] : List (Bool)) [[(.bool (decide ((ibits .and .i64 (Int.fdiv y212 (2 ^ (min (b290).toNat IntKind.i64.bits))) (1 : Int)) = (1 : Int))))]] F22.te33 F22.sz4 F22.ze4 rfl rfl rfl rfl (fun _ => rfl) rfl (by decide) nofun (fun v293 H294 nv293 hs => ?_)
            obtain ⟨c298, h⟩ := h
            refine sv_app hs 1 rfl (hs.shows 0 rfl) (fun _ => rfl) (by decide) F22.ta33_33 (by decide) c298 rfl rfl nofun (fun v296 H297 kv296 hs => ?_)
            replace hs := hs.del 0
            have nv296 := kv296 nv289
            refine so_assign (v := (.v v296)) rfl ?_
            refine so_nil ?_
            refine fi_inBlock ?_
            refine fi_region ?_
            refine so_move (v := (.v (.int .i64 b290))) rfl ?_
            refine so_bin rfl rfl ab_sub ?_
            refine so_assign (v := (.v (.int .i64 (IntKind.i64.wrap (b290 - (1 : Int)))))) rfl ?_
            refine so_nil ?_
            exact fi_at [(1, (.v (.int .i64 a1))), (8, (.v v296)), (11, (.v (.int .i64 y212))), (12, (.v (.int .i64 (IntKind.i64.wrap (b290 - (1 : Int)))))), (26, (.v v0)), (27, (.v (.int .i64 (l0.length : Int)))), (28, (.v (.int .i64 x209)))] ⟨rfl, rfl, rfl, rfl, rfl, rfl, rfl, trivial⟩ (h _ _ _ nv296 hs)
          · refine fi_false rfl (decide_eq_false c291) ?_
            refine fi_exit rfl ?_
            refine fi_inBlock ?_
            refine fi_region ?_
            refine so_bin rfl rfl ab_add ?_
            refine so_move (v := (.v (.int .i64 (IntKind.i64.wrap (x209 + (1 : Int)))))) rfl ?_
            refine so_nil ?_
            exact fi_at [(1, (.v (.int .i64 a1))), (8, (.v v289)), (26, (.v v0)), (27, (.v (.int .i64 (l0.length : Int)))), (28, (.v (.int .i64 (IntKind.i64.wrap (x209 + (1 : Int))))))] ⟨rfl, rfl, rfl, rfl, rfl, trivial⟩ (h _ _ _ nv289 hs)
      · refine fi_false rfl (decide_eq_false c210) ?_
        refine fi_exit rfl ?_
        refine fi_seq ?_
        refine fi_region ?_
        refine so_move (v := (.v v208)) rfl ?_
        refine so_assign (v := (.v v208)) rfl ?_
        refine so_assign (v := (.v (.bool true))) rfl ?_
        refine so_nil ?_
        exact by_ret rfl ⟨_, _, h, _, rfl, hs⟩
  · refine so_gno rfl (not_t c104) ?_
    refine so_gno rfl (not_t c104) ?_
    refine so_pick_t (v := (.v (.bool true))) rfl (not_t c104) rfl ?_
    refine so_nil ?_
    refine fi_true rfl rfl ?_
    refine fi_seq ?_
    refine fi_region ?_
    refine so_assign (v := (.v .nilsl)) rfl ?_
    refine so_assign (v := (.v (.bool false))) rfl ?_
    refine so_nil ?_
    exact by_ret rfl ⟨_, _, h, _, rfl, (Sep.nil hs 1)⟩

end Go.Proofs.YtecdkjnomkdbkaaDoor.G

namespace Go.Proofs.YtecdkjnomkdbkaaDoor.G
open Go Go.Ab Go.Proofs Go.Proofs.YtecdkjnomkdbkaaDoor
set_option maxRecDepth 100000
set_option linter.unusedVariables false
set_option linter.unusedSimpArgs false
set_option maxHeartbeats 1000000
attribute [local irreducible] wops wopf Go.Ab.Fin
theorem F23.ag4 : tagg Tryd.prog 4 = some false := by kernel_rfl
theorem F23.sz2 : tsz Tryd.prog 2 = some 1 := by kernel_rfl
theorem F23.ta31_31 : tapp Tryd.prog 31 31 = some (1, 8) := by kernel_rfl
theorem F23.te31 : telem Tryd.prog 31 = some 2 := by kernel_rfl
theorem F23.ti33 : (telem Tryd.prog 33).isSome = true := by kernel_rfl
theorem F23.tl33 : (telem Tryd.prog 33).bind (tsz Tryd.prog) = some 1 := by kernel_rfl
theorem F23.ze2 : tzero Tryd.prog 2 = some [(.int .i64 (0 : Int))] := by kernel_rfl
theorem impl_FromRice_ok {fr : List Pc} {H : Heap} (v0 : AV) (l0 : List (Bool)) (a1 : Int) (a2 : Int) (hs : Sep H (fr)) (g0 : ∀ H, Sep H fr → Shows H v0 1 (enc eBool l0)) (K : (List (Int)) → Bool → Prop) (h : impl_FromRice.wp l0 a1 a2 K) : OkQ Tryd.prog 23 [(.v v0), (.v (.int .i64 a1)), (.v (.int .i64 a2))] H (fun r H2 => ∃ (y0 : List (Int)) (y1 : Bool), K y0 y1 ∧ ∃ (w0_ : AV), r = (.t [(.v w0_), (.v (.bool y1))]) ∧ Sep H2 (Pc.osl w0_ 1 (enc (eInt .i64) y0) :: fr)) := by
  unfold impl_FromRice.wp at h
  refine of_body Tryd.f23 F.hm Tryd.func23 rfl Tryd.call23 (by kernel_rfl) (by simp) ?_
  refine fi_seq ?_
  refine fi_region ?_
  refine so_assign (v := (.v .nilsl)) rfl ?_
  refine so_assign (v := (.v (.bool false))) rfl ?_
  refine so_nil ?_
  refine fi_seq ?_
  refine fi_seq ?_
  refine fi_region ?_
  refine so_move (v := (.v v0)) rfl ?_
  refine sv_len (g0 _ hs) (fun _ => rfl) (by decide) rfl F23.ti33 ?_
  refine so_bin rfl rfl ab_gtr ?_
  refine so_move (v := (.v (.bool (decide ((32768 : Int) < (l0.length : Int)))))) rfl ?_
  replace h := ofP h; rcases h with ⟨c101, h⟩ | ⟨c101, h⟩
  · refine so_gno rfl (decide_eq_true c101) ?_
    refine so_gno rfl (decide_eq_true c101) ?_
    refine so_gno rfl (decide_eq_true c101) ?_
    refine so_pick_t (v := (.v (.bool true))) rfl (decide_eq_true c101) rfl ?_
    refine so_move (v := (.v (.bool true))) rfl ?_
    refine so_gno rfl rfl ?_
    refine so_gno rfl rfl ?_
    refine so_gno rfl rfl ?_
    refine so_pick_t (v := (.v (.bool true))) rfl rfl rfl ?_
    refine so_nil ?_
    refine fi_true rfl rfl ?_
    refine fi_seq ?_
    refine fi_region ?_
    refine so_assign (v := (.v .nilsl)) rfl ?_
    refine so_assign (v := (.v (.bool false))) rfl ?_
    refine so_nil ?_
    exact by_ret rfl ⟨_, _, h, _, rfl, (Sep.nil hs 1)⟩
  · refine so_gyes rfl (decide_eq_false c101) ?_
    refine so_move (v := (.v (.int .i64 a1))) rfl ?_
    refine so_gyes rfl (decide_eq_false c101) ?_
    refine sv_callS (impl_within_ok a1 (1 : Int) (128 : Int) hs  _ h) (fun _ _ ⟨_, _, _, e⟩ => e) rfl rfl ?_
    clear h
    rintro _ _ ⟨y102, h, rfl, rfl⟩
    refine so_gyes rfl (decide_eq_false c101) ?_
    refine so_un rfl au_not ?_
    refine so_pick_f (v := (.v (.bool (!y102)))) rfl (decide_eq_false c101) rfl ?_
    refine so_move (v := (.v (.bool (!y102)))) rfl ?_
    replace h := ofT h; rcases h with ⟨c104, h⟩ | ⟨c104, h⟩
    · refine so_gyes rfl (not_f c104) ?_
      refine so_move (v := (.v (.int .i64 a2))) rfl ?_
      refine so_gyes rfl (not_f c104) ?_
      refine sv_callS (impl_within_ok a2 (0 : Int) (20 : Int) hs  _ h) (fun _ _ ⟨_, _, _, e⟩ => e) rfl rfl ?_
      clear h
      rintro _ _ ⟨y105, h, rfl, rfl⟩
      refine so_gyes rfl (not_f c104) ?_
      refine so_un rfl au_not ?_
      refine so_pick_f (v := (.v (.bool (!y105)))) rfl (not_f c104) rfl ?_
      refine so_nil ?_
      replace h := ofT h; rcases h with ⟨c107, h⟩ | ⟨c107, h⟩
      · refine fi_false rfl (not_f c107) ?_
        refine fi_skip ?_
        refine fi_seq ?_
        refine fi_region ?_
        refine sv_bslice hs (eInt .i64) ([] : List (Int)) [] F23.te31 F23.sz2 F23.ze2 rfl rfl rfl rfl (fun _ => rfl) rfl (by decide) nofun (fun v108 H109 nv108 hs => ?_)
        refine so_assign (v := (.v v108)) rfl ?_
        refine so_assign (v := (.v (.int .i64 (0 : Int)))) rfl ?_
        refine so_nil ?_
        refine fi_seq ?_
        refine fi_seq ?_
        refine fi_region ?_
        refine so_move (v := (.v (.int .i64 a1))) rfl ?_
        refine so_move (v := (.v (.int .i64 (0 : Int)))) rfl ?_
        refine so_nil ?_
        refine fi_block ?_
        refine fi_loop ?_
        refine fi_at [(0, (.v v0)), (2, (.v (.int .i64 a2))), (8, (.v v108)), (9, (.v (.int .i64 (0 : Int)))), (25, (.v (.int .i64 a1))), (26, (.v (.int .i64 (0 : Int))))] ⟨rfl, rfl, rfl, rfl, rfl, rfl, trivial⟩ ?_
        refine h (fun (out167 : List (Int)) (atq169 : Int) (x170 : Int) => ∀ (s : Nat → TV) (H : Heap) (v168 : AV) (nv168 : v168 ≠ .nilsl), Sep H (Pc.osl v168 1 (enc (eInt .i64) out167) :: fr) → Fin _ _ (updL s [(0, (.v v0)), (2, (.v (.int .i64 a2))), (8, (.v v168)), (9, (.v (.int .i64 atq169))), (25, (.v (.int .i64 a1))), (26, (.v (.int .i64 x170)))]) H _) ?_ _ _ _ nv108 hs
        intro out167 atq169 x170 h s221 H222 v168 nv168 hs
        refine fi_inLoop ?_
        refine fi_seq ?_
        refine fi_region ?_
        refine so_bin rfl rfl ab_lss ?_
        refine so_nil ?_
        refine fi_seq ?_
        replace h := ofP h; rcases h with ⟨c171, h⟩ | ⟨c171, h⟩
        · refine fi_true rfl (decide_eq_true c171) ?_
          refine fi_skip ?_
          refine fi_seq ?_
          refine fi_block ?_
          refine fi_seq ?_
          refine fi_region ?_
          refine so_assign (v := (.v (.int .i64 (0 : Int)))) rfl ?_
          refine so_nil ?_
          refine fi_seq ?_
          refine fi_block ?_
          refine fi_loop ?_
          refine fi_at [(0, (.v v0)), (2, (.v (.int .i64 a2))), (8, (.v v168)), (9, (.v (.int .i64 atq169))), (10, (.v (.int .i64 (0 : Int)))), (25, (.v (.int .i64 a1))), (26, (.v (.int .i64 x170)))] ⟨rfl, rfl, rfl, rfl, rfl, rfl, rfl, trivial⟩ ?_
          refine h (fun (atq173 : Int) (z174 : Int) => ∀ (s : Nat → TV) (H : Heap), Sep H (Pc.osl v168 1 (enc (eInt .i64) out167) :: fr) → Fin _ _ (updL s [(0, (.v v0)), (2, (.v (.int .i64 a2))), (8, (.v v168)), (9, (.v (.int .i64 atq173))), (10, (.v (.int .i64 z174))), (25, (.v (.int .i64 a1))), (26, (.v (.int .i64 x170)))]) H _) ?_ _ _ hs
          intro atq173 z174 h s218 H219 hs
          refine fi_inLoop ?_
          refine fi_seq ?_
          refine fi_seq ?_
          refine fi_region ?_
          refine so_move (v := (.v (.int .i64 atq173))) rfl ?_
          refine so_move (v := (.v v0)) rfl ?_
          refine sv_len (g0 _ hs.tl) (fun _ => rfl) (by decide) rfl F23.ti33 ?_
          refine so_bin rfl rfl ab_lss ?_
          refine so_move (v := (.v (.bool (decide (atq173 < (l0.length : Int)))))) rfl ?_
          replace h := ofP h; rcases h with ⟨c175, h⟩ | ⟨c175, h⟩
          · refine so_gyes rfl (decide_eq_true c175) ?_
            refine so_move (v := (.v v0)) rfl ?_
            refine so_gyes rfl (decide_eq_true c175) ?_
            refine so_move (v := (.v (.int .i64 atq173))) rfl ?_
            refine so_gyes rfl (decide_eq_true c175) ?_
            obtain ⟨c176, h⟩ := h
            refine sv_idx (g0 _ hs.tl) c176 (fun _ => rfl) (by decide) rfl rfl F23.tl33 ?_
            refine so_gyes rfl (decide_eq_true c175) ?_
            refine sv_cell (g0 _ hs.tl) c176 false 0 (fun x => (AV.bool x)) (fun _ => rfl) (fun _ => rfl) rfl F23.ag4 ?_
            refine so_pick_t (v := (.v (.bool (l0.getD (atq173).toNat false)))) rfl (decide_eq_true c175) rfl ?_
            refine so_nil ?_
            replace h := ofT h; rcases h with ⟨c177, h⟩ | ⟨c177, h⟩
            · refine fi_true rfl c177 ?_
              refine fi_skip ?_
              refine fi_block ?_
              refine fi_seq ?_
              refine fi_region ?_
              refine so_move (v := (.v (.int .i64 z174))) rfl ?_
              refine so_bin rfl rfl ab_add ?_
              refine so_assign (v := (.v (.int .i64 (IntKind.i64.wrap (z174 + (1 : Int)))))) rfl ?_
              refine so_nil ?_
              refine fi_region ?_
              refine so_move (v := (.v (.int .i64 atq173))) rfl ?_
              refine so_bin rfl rfl ab_add ?_
              refine so_assign (v := (.v (.int .i64 (IntKind.i64.wrap (atq173 + (1 : Int)))))) rfl ?_
              refine so_nil ?_
              refine fi_inBlock ?_
              exact fi_at [(0, (.v v0)), (2, (.v (.int .i64 a2))), (8, (.v v168)), (9, (.v (.int .i64 (IntKind.i64.wrap (atq173 + (1 : Int)))))), (10, (.v (.int .i64 (IntKind.i64.wrap (z174 + (1 : Int)))))), (25, (.v (.int .i64 a1))), (26, (.v (.int .i64 x170)))] ⟨rfl, rfl, rfl, rfl, rfl, rfl, rfl, trivial⟩ (h _ _  hs)
            · refine fi_false rfl c177 ?_
              refine fi_exit rfl ?_
              refine fi_seq ?_
              refine fi_region ?_
              refine so_move (v := (.v (.int .i64 atq173))) rfl ?_
              refine so_bin rfl rfl ab_add ?_
              refine so_assign (v := (.v (.int .i64 (IntKind.i64.wrap (atq173 + (1 : Int)))))) rfl ?_
              refine so_nil ?_
              refine fi_seq ?_
              refine fi_seq ?_
              refine fi_region ?_
              refine so_move (v := (.v (.int .i64 a2))) rfl ?_
              refine so_move (v := (.v (.int .i64 (0 : Int)))) rfl ?_
              refine so_nil ?_
              refine fi_block ?_
              refine fi_loop ?_
              refine fi_at [(0, (.v v0)), (2, (.v (.int .i64 a2))), (8, (.v v168)), (9, (.v (.int .i64 (IntKind.i64.wrap (atq173 + (1 : Int)))))), (10, (.v (.int .i64 z174))), (25, (.v (.int .i64 a1))), (26, (.v (.int .i64 x170))), (44, (.v (.int .i64 a2))), (45, (.v (.int .i64 (0 : Int))))] ⟨rfl, rfl, rfl, rfl, rfl, rfl, rfl, rfl, rfl, trivial⟩ ?_
              refine h (fun (atq179 : Int) (z180 : Int) (x181 : Int) => ∀ (s : Nat → TV) (H : Heap), Sep H (Pc.osl v168 1 (enc (eInt .i64) out167) :: fr) → Fin _ _ (updL s [(0, (.v v0)), (2, (.v (.int .i64 a2))), (8, (.v v168)), (9, (.v (.int .i64 atq179))), (10, (.v (.int .i64 z180))), (25, (.v (.int .i64 a1))), (26, (.v (.int .i64 x170))), (44, (.v (.int .i64 a2))), (45, (.v (.int .i64 x181)))]) H _) ?_ _ _ hs
              intro atq179 z180 x181 h s196 H197 hs
              refine fi_inLoop ?_
              refine fi_seq ?_
              refine fi_region ?_
              refine so_bin rfl rfl ab_lss ?_
              refine so_nil ?_
              refine fi_seq ?_
              replace h := ofP h; rcases h with ⟨c182, h⟩ | ⟨c182, h⟩
              · refine fi_true rfl (decide_eq_true c182) ?_
                refine fi_skip ?_
                refine fi_seq ?_
                refine fi_block ?_
                refine fi_seq ?_
                refine fi_region ?_
                refine so_move (v := (.v (.int .i64 z180))) rfl ?_
                refine so_bin rfl rfl (ab_shl (by decide)) ?_
                refine so_assign (v := (.v (.int .i64 (IntKind.i64.wrap (z180 * (2 ^ (min ((1 : Int)).toNat IntKind.i64.bits))))))) rfl ?_
                refine so_nil ?_
                refine fi_seq ?_
                refine fi_seq ?_
                refine fi_region ?_
                refine so_move (v := (.v (.int .i64 atq179))) rfl ?_
                refine so_move (v := (.v v0)) rfl ?_
                refine sv_len (g0 _ hs.tl) (fun _ => rfl) (by decide) rfl F23.ti33 ?_
                refine so_bin rfl rfl ab_lss ?_
                refine so_move (v := (.v (.bool (decide (atq179 < (l0.length : Int)))))) rfl ?_
                replace h := ofP h; rcases h with ⟨c183, h⟩ | ⟨c183, h⟩
                · refine so_gyes rfl (decide_eq_true c183) ?_
                  refine so_move (v := (.v v0)) rfl ?_
                  refine so_gyes rfl (decide_eq_true c183) ?_
                  refine so_move (v := (.v (.int .i64 atq179))) rfl ?_
                  refine so_gyes rfl (decide_eq_true c183) ?_
                  obtain ⟨c184, h⟩ := h
                  refine sv_idx (g0 _ hs.tl) c184 (fun _ => rfl) (by decide) rfl rfl F23.tl33 ?_
                  refine so_gyes rfl (decide_eq_true c183) ?_
                  refine sv_cell (g0 _ hs.tl) c184 false 0 (fun x => (AV.bool x)) (fun _ => rfl) (fun _ => rfl) rfl F23.ag4 ?_
                  refine so_pick_t (v := (.v (.bool (l0.getD (atq179).toNat false)))) rfl (decide_eq_true c183) rfl ?_
                  refine so_nil ?_
                  replace h := ofT h; rcases h with ⟨c185, h⟩ | ⟨c185, h⟩
                  · refine fi_true rfl c185 ?_
                    refine fi_region ?_
                    refine so_move (v := (.v (.int .i64 (IntKind.i64.wrap (z180 * (2 ^ (min ((1 : Int)).toNat IntKind.i64.bits))))))) rfl ?_
                    refine so_bin rfl rfl ab_add ?_
                    refine so_assign (v := (.v (.int .i64 (IntKind.i64.wrap ((IntKind.i64.wrap (z180 * (2 ^ (min ((1 : Int)).toNat IntKind.i64.bits)))) + (1 : Int)))))) rfl ?_
                    refine so_nil ?_
                    refine fi_region ?_
                    refine so_move (v := (.v (.int .i64 atq179))) rfl ?_
                    refine so_bin rfl rfl ab_add ?_
                    refine so_assign (v := (.v (.int .i64 (IntKind.i64.wrap (atq179 + (1 : Int)))))) rfl ?_
                    refine so_nil ?_
                    refine fi_inBlock ?_
                    refine fi_region ?_
                    refine so_bin rfl rfl ab_add ?_
                    refine so_move (v := (.v (.int .i64 (IntKind.i64.wrap (x181 + (1 : Int)))))) rfl ?_
                    refine so_nil ?_
                    exact fi_at [(0, (.v v0)), (2, (.v (.int .i64 a2))), (8, (.v v168)), (9, (.v (.int .i64 (IntKind.i64.wrap (atq179 + (1 : Int)))))), (10, (.v (.int .i64 (IntKind.i64.wrap ((IntKind.i64.wrap (z180 * (2 ^ (min ((1 : Int)).toNat IntKind.i64.bits)))) + (1 : Int)))))), (25, (.v (.int .i64 a1))), (26, (.v (.int .i64 x170))), (44, (.v (.int .i64 a2))), (45, (.v (.int .i64 (IntKind.i64.wrap (x181 + (1 : Int))))))] ⟨rfl, rfl, rfl, rfl, rfl, rfl, rfl, rfl, rfl, trivial⟩ (h _ _  hs)
                  · refine fi_false rfl c185 ?_
                    refine fi_skip ?_
                    refine fi_region ?_
                    refine so_move (v := (.v (.int .i64 atq179))) rfl ?_
                    refine so_bin rfl rfl ab_add ?_
                    refine so_assign (v := (.v (.int .i64 (IntKind.i64.wrap (atq179 + (1 : Int)))))) rfl ?_
                    refine so_nil ?_
                    refine fi_inBlock ?_
                    refine fi_region ?_
                    refine so_bin rfl rfl ab_add ?_
                    refine so_move (v := (.v (.int .i64 (IntKind.i64.wrap (x181 + (1 : Int)))))) rfl ?_
                    refine so_nil ?_
                    exact fi_at [(0, (.v v0)), (2, (.v (.int .i64 a2))), (8, (.v v168)), (9, (.v (.int .i64 (IntKind.i64.wrap (atq179 + (1 : Int)))))), (10, (.v (.int .i64 (IntKind.i64.wrap (z180 * (2 ^ (min ((1 : Int)).toNat IntKind.i64.bits))))))), (25, (.v (.int .i64 a1))), (26, (.v (.int .i64 x170))), (44, (.v (.int .i64 a2))), (45, (.v (.int .i64 (IntKind.i64.wrap (x181 + (1 : Int))))))] ⟨rfl, rfl, rfl, rfl, rfl, rfl, rfl, rfl, rfl, trivial⟩ (h _ _  hs)
                · refine so_gno rfl (decide_eq_false c183) ?_
                  refine so_gno rfl (decide_eq_false c183) ?_
                  refine so_gno rfl (decide_eq_false c183) ?_
                  refine so_gno rfl (decide_eq_false c183) ?_
                  refine so_pick_f (v := (.v (.bool false))) rfl (decide_eq_false c183) rfl ?_
                  refine so_nil ?_
                  refine fi_false rfl rfl ?_
                  refine fi_skip ?_
                  refine fi_region ?_
                  refine so_move (v := (.v (.int .i64 atq179))) rfl ?_
                  refine so_bin rfl rfl ab_add ?_
                  refine so_assign (v := (.v (.int .i64 (IntKind.i64.wrap (atq179 + (1 : Int)))))) rfl ?_
                  refine so_nil ?_
                  refine fi_inBlock ?_
                  refine fi_region ?_
                  refine so_bin rfl rfl ab_add ?_
                  refine so_move (v := (.v (.int .i64 (IntKind.i64.wrap (x181 + (1 : Int)))))) rfl ?_
                  refine so_nil ?_
                  exact fi_at [(0, (.v v0)), (2, (.v (.int .i64 a2))), (8, (.v v168)), (9, (.v (.int .i64 (IntKind.i64.wrap (atq179 + (1 : Int)))))), (10, (.v (.int .i64 (IntKind.i64.wrap (z180 * (2 ^ (min ((1 : Int)).toNat IntKind.i64.bits))))))), (25, (.v (.int .i64 a1))), (26, (.v (.int .i64 x170))), (44, (.v (.int .i64 a2))), (45, (.v (.int .i64 (IntKind.i64.wrap (x181 + (1 : Int))))))] ⟨rfl, rfl, rfl, rfl, rfl, rfl, rfl, rfl, rfl, trivial⟩ (h _ _  hs)
              · refine fi_false rfl (decide_eq_false c182) ?_
                refine fi_exit rfl ?_
                refine fi_seq ?_
                refine fi_seq ?_
                refine fi_region ?_
                refine so_move (v := (.v (.int .i64 atq179))) rfl ?_
                refine so_move (v := (.v v0)) rfl ?_
                refine sv_len (g0 _ hs.tl) (fun _ => rfl) (by decide) rfl F23.ti33 ?_
                refine so_bin rfl rfl ab_gtr ?_
                refine so_move (v := (.v (.bool (decide ((l0.length : Int) < atq179))))) rfl ?_
                replace h := ofP h; rcases h with ⟨c186, h⟩ | ⟨c186, h⟩
                · refine so_gno rfl (decide_eq_true c186) ?_
                  refine so_gno rfl (decide_eq_true c186) ?_
                  refine so_pick_t (v := (.v (.bool true))) rfl (decide_eq_true c186) rfl ?_
                  refine so_nil ?_
                  refine fi_true rfl rfl ?_
                  refine fi_seq ?_
                  refine fi_region ?_
                  refine so_assign (v := (.v .nilsl)) rfl ?_
                  refine so_assign (v := (.v (.bool false))) rfl ?_
                  refine so_nil ?_
                  exact by_ret rfl ⟨_, _, h, _, rfl, (Sep.nil (Sep.del 0 hs) 1)⟩
                · refine so_gyes rfl (decide_eq_false c186) ?_
                  refine so_move (v := (.v (.int .i64 z180))) rfl ?_
                  refine so_gyes rfl (decide_eq_false c186) ?_
                  refine so_bin rfl rfl ab_gtr ?_
                  refine so_pick_f (v := (.v (.bool (decide ((2000000 : Int) < z180))))) rfl (decide_eq_false c186) rfl ?_
                  refine so_nil ?_
                  replace h := ofP h; rcases h with ⟨c187, h⟩ | ⟨c187, h⟩
                  · refine fi_true rfl (decide_eq_true c187) ?_
                    refine fi_seq ?_
                    refine fi_region ?_
                    refine so_assign (v := (.v .nilsl)) rfl ?_
                    refine so_assign (v := (.v (.bool false))) rfl ?_
                    refine so_nil ?_
                    exact by_ret rfl ⟨_, _, h, _, rfl, (Sep.nil (Sep.del 0 hs) 1)⟩
                  · refine fi_false rfl (decide_eq_false c187) ?_
                    refine fi_skip ?_
                    refine fi_region ?_
                    refine so_move (v := (.v v168)) rfl ?_
                    refine so_move (v := (.v (.int .i64 z180))) rfl ?_
                    refine sv_callS (impl_fromZigZag_ok z180 hs  _ h) (fun _ _ ⟨_, _, _, e⟩ => e) rfl rfl ?_
                    clear h
                    rintro _ _ ⟨y188, h, rfl, rfl⟩
                    refine sv_bslice hs (eInt .i64) ([y188] : List (Int)) [[(.int .i64 y188)]] F23.te31 F23.sz2 F23.ze2 rfl rfl rfl rfl (fun _ => rfl) rfl (by decide) nofun (fun v190 H191 nv190 hs => ?_)
                    obtain ⟨c195, h⟩ := h
                    refine sv_app hs 1 rfl (hs.shows 0 rfl) (fun _ => rfl) (by decide) F23.ta31_31 (by decide) c195 rfl rfl nofun (fun v193 H194 kv193 hs => ?_)
                    replace hs := hs.del 0
                    have nv193 := kv193 nv168
                    refine so_assign (v := (.v v193)) rfl ?_
                    refine so_nil ?_
                    refine fi_inBlock ?_
                    refine fi_region ?_
                    refine so_bin rfl rfl ab_add ?_
                    refine so_move (v := (.v (.int .i64 (IntKind.i64.wrap (x170 + (1 : Int)))))) rfl ?_
                    refine so_nil ?_
                    exact fi_at [(0, (.v v0)), (2, (.v (.int .i64 a2))), (8, (.v v193)), (9, (.v (.int .i64 atq179))), (25, (.v (.int .i64 a1))), (26, (.v (.int .i64 (IntKind.i64.wrap (x170 + (1 : Int))))))] ⟨rfl, rfl, rfl, rfl, rfl, rfl, trivial⟩ (h _ _ _ nv193 hs)
          · refine so_gno rfl (decide_eq_false c175) ?_
            refine so_gno rfl (decide_eq_false c175) ?_
            refine so_gno rfl (decide_eq_false c175) ?_
            refine so_gno rfl (decide_eq_false c175) ?_
            refine so_pick_f (v := (.v (.bool false))) rfl (decide_eq_false c175) rfl ?_
            refine so_nil ?_
            refine fi_false rfl rfl ?_
            refine fi_exit rfl ?_
            refine fi_seq ?_
            refine fi_region ?_
            refine so_move (v := (.v (.int .i64 atq173))) rfl ?_
            refine so_bin rfl rfl ab_add ?_
            refine so_assign (v := (.v (.int .i64 (IntKind.i64.wrap (atq173 + (1 : Int)))))) rfl ?_
            refine so_nil ?_
            refine fi_seq ?_
            refine fi_seq ?_
            refine fi_region ?_
            refine so_move (v := (.v (.int .i64 a2))) rfl ?_
            refine so_move (v := (.v (.int .i64 (0 : Int)))) rfl ?_
            refine so_nil ?_
            refine fi_block ?_
            refine fi_loop ?_
            refine fi_at [(0, (.v v0)), (2, (.v (.int .i64 a2))), (8, (.v v168)), (9, (.v (.int .i64 (IntKind.i64.wrap (atq173 + (1 : Int)))))), (10, (.v (.int .i64 z174))), (25, (.v (.int .i64 a1))), (26, (.v (.int .i64 x170))), (44, (.v (.int .i64 a2))), (45, (.v (.int .i64 (0 : Int))))] ⟨rfl, rfl, rfl, rfl, rfl, rfl, rfl, rfl, rfl, trivial⟩ ?_
            refine h (fun (atq199 : Int) (z200 : Int) (x201 : Int) => ∀ (s : Nat → TV) (H : Heap), Sep H (Pc.osl v168 1 (enc (eInt .i64) out167) :: fr) → Fin _ _ (updL s [(0, (.v v0)), (2, (.v (.int .i64 a2))), (8, (.v v168)), (9, (.v (.int .i64 atq199))), (10, (.v (.int .i64 z200))), (25, (.v (.int .i64 a1))), (26, (.v (.int .i64 x170))), (44, (.v (.int .i64 a2))), (45, (.v (.int .i64 x201)))]) H _) ?_ _ _ hs
            intro atq199 z200 x201 h s216 H217 hs
            refine fi_inLoop ?_
            refine fi_seq ?_
            refine fi_region ?_
            refine so_bin rfl rfl ab_lss ?_
            refine so_nil ?_
            refine fi_seq ?_
            replace h := ofP h; rcases h with ⟨c202, h⟩ | ⟨c202, h⟩
            · refine fi_true rfl (decide_eq_true c202) ?_
              refine fi_skip ?_
              refine fi_seq ?_
              refine fi_block ?_
              refine fi_seq ?_
              refine fi_region ?_
              refine so_move (v := (.v (.int .i64 z200))) rfl ?_
              refine so_bin rfl rfl (ab_shl (by decide)) ?_
              refine so_assign (v := (.v (.int .i64 (IntKind.i64.wrap (z200 * (2 ^ (min ((1 : Int)).toNat IntKind.i64.bits))))))) rfl ?_
              refine so_nil ?_
              refine fi_seq ?_
              refine fi_seq ?_
              refine fi_region ?_
              refine so_move (v := (.v (.int .i64 atq199))) rfl ?_
              refine so_move (v := (.v v0)) rfl ?_
              refine sv_len (g0 _ hs.tl) (fun _ => rfl) (by decide) rfl F23.ti33 ?_
              refine so_bin rfl rfl ab_lss ?_
              refine so_move (v := (.v (.bool (decide (atq199 < (l0.length : Int)))))) rfl ?_
              replace h := ofP h; rcases h with ⟨c203, h⟩ | ⟨c203, h⟩
              · refine so_gyes rfl (decide_eq_true c203) ?_
                refine so_move (v := (.v v0)) rfl ?_
                refine so_gyes rfl (decide_eq_true c203) ?_
                refine so_move (v := (.v (.int .i64 atq199))) rfl ?_
                refine so_gyes rfl (decide_eq_true c203) ?_
                obtain ⟨c204, h⟩ := h
                refine sv_idx (g0 _ hs.tl) c204 (fun _ => rfl) (by decide) rfl rfl F23.tl33 ?_
                refine so_gyes rfl (decide_eq_true c203) ?_
                refine sv_cell (g0 _ hs.tl) c204 false 0 (fun x => (AV.bool x)) (fun _ => rfl) (fun _ => rfl) rfl F23.ag4 ?_
                refine so_pick_t (v := (.v (.bool (l0.getD (atq199).toNat false)))) rfl (decide_eq_true c203) rfl ?_
                refine so_nil ?_
                replace h := ofT h; rcases h with ⟨c205, h⟩ | ⟨c205, h⟩
                · refine fi_true rfl c205 ?_
                  refine fi_region ?_
                  refine so_move (v := (.v (.int .i64 (IntKind.i64.wrap (z200 * (2 ^ (min ((1 : Int)).toNat IntKind.i64.bits))))))) rfl ?_
                  refine so_bin rfl rfl ab_add ?_
                  refine so_assign (v := (.v (.int .i64 (IntKind.i64.wrap ((IntKind.i64.wrap (z200 * (2 ^ (min ((1 : Int)).toNat IntKind.i64.bits)))) + (1 : Int)))))) rfl ?_
                  refine so_nil ?_
                  refine fi_region ?_
                  refine so_move (v := (.v (.int .i64 atq199))) rfl ?_
                  refine so_bin rfl rfl ab_add ?_
                  refine so_assign (v := (.v (.int .i64 (IntKind.i64.wrap (atq199 + (1 : Int)))))) rfl ?_
                  refine so_nil ?_
                  refine fi_inBlock ?_
                  refine fi_region ?_
                  refine so_bin rfl rfl ab_add ?_
                  refine so_move (v := (.v (.int .i64 (IntKind.i64.wrap (x201 + (1 : Int)))))) rfl ?_
                  refine so_nil ?_
                  exact fi_at [(0, (.v v0)), (2, (.v (.int .i64 a2))), (8, (.v v168)), (9, (.v (.int .i64 (IntKind.i64.wrap (atq199 + (1 : Int)))))), (10, (.v (.int .i64 (IntKind.i64.wrap ((IntKind.i64.wrap (z200 * (2 ^ (min ((1 : Int)).toNat IntKind.i64.bits)))) + (1 : Int)))))), (25, (.v (.int .i64 a1))), (26, (.v (.int .i64 x170))), (44, (.v (.int .i64 a2))), (45, (.v (.int .i64 (IntKind.i64.wrap (x201 + (1 : Int))))))] ⟨rfl, rfl, rfl, rfl, rfl, rfl, rfl, rfl, rfl, trivial⟩ (h _ _  hs)
                · refine fi_false rfl c205 ?_
                  refine fi_skip ?_
                  refine fi_region ?_
                  refine so_move (v := (.v (.int .i64 atq199))) rfl ?_
                  refine so_bin rfl rfl ab_add ?_
                  refine so_assign (v := (.v (.int .i64 (IntKind.i64.wrap (atq199 + (1 : Int)))))) rfl ?_
                  refine so_nil ?_
                  refine fi_inBlock ?_
                  refine fi_region ?_
                  refine so_bin rfl rfl ab_add ?_
                  refine so_move (v := (.v (.int .i64 (IntKind.i64.wrap (x201 + (1 : Int)))))) rfl ?_
                  refine so_nil ?_
                  exact fi_at [(0, (.v v0)), (2, (.v (.int .i64 a2))), (8, (.v v168)), (9, (.v (.int .i64 (IntKind.i64.wrap (atq199 + (1 : Int)))))), (10, (.v (.int .i64 (IntKind.i64.wrap (z200 * (2 ^ (min ((1 : Int)).toNat IntKind.i64.bits))))))), (25, (.v (.int .i64 a1))), (26, (.v (.int .i64 x170))), (44, (.v (.int .i64 a2))), (45, (.v (.int .i64 (IntKind.i64.wrap (x201 + (1 : Int))))))] ⟨rfl, rfl, rfl, rfl, rfl, rfl, rfl, rfl, rfl, trivial⟩ (h _ _  hs)
              · refine so_gno rfl (decide_eq_false c203) ?_
                refine so_gno rfl (decide_eq_false c203) ?_
                refine so_gno rfl (decide_eq_false c203) ?_
                refine so_gno rfl (decide_eq_false c203) ?_
                refine so_pick_f (v := (.v (.bool false))) rfl (decide_eq_false c203) rfl ?_
                refine so_nil ?_
                refine fi_false rfl rfl ?_
                refine fi_skip ?_
                refine fi_region ?_
                refine so_move (v := (.v (.int .i64 atq199))) rfl ?_
                refine so_bin rfl rfl ab_add ?_
                refine so_assign (v := (.v (.int .i64 (IntKind.i64.wrap (atq199 + (1 : Int)))))) rfl ?_
                refine so_nil ?_
                refine fi_inBlock ?_
                refine fi_region ?_
                refine so_bin rfl rfl ab_add ?_
                refine so_move (v := (.v (.int .i64 (IntKind.i64.wrap (x201 + (1 : Int)))))) rfl ?_
                refine so_nil ?_
                exact fi_at [(0, (.v v0)), (2, (.v (.int .i64 a2))), (8, (.v v168)), (9, (.v (.int .i64 (IntKind.i64.wrap (atq199 + (1 : Int)))))), (10, (.v (.int .i64 (IntKind.i64.wrap (z200 * (2 ^ (min ((1 : Int)).toNat IntKind.i64.bits))))))), (25, (.v (.int .i64 a1))), (26, (.v (.int .i64 x170))), (44, (.v (.int .i64 a2))), (45, (.v (.int .i64 (IntKind.i64.wrap (x201 + (1 : Int))))))] ⟨rfl, rfl, rfl, rfl, rfl, rfl, rfl, rfl, rfl, trivial⟩ (h _ _  hs)
            · refine fi_false rfl (decide_eq_false c202) ?_
              refine fi_exit rfl ?_
              refine fi_seq ?_
              refine fi_seq ?_
              refine fi_region ?_
              refine so_move (v := (.v (.int .i64 atq199))) rfl ?_
              refine so_move (v := (.v v0)) rfl ?_
              refine sv_len (g0 _ hs.tl) (fun _ => rfl) (by decide) rfl F23.ti33 ?_
              refine so_bin rfl rfl ab_gtr ?_
              refine so_move (v := (.v (.bool (decide ((l0.length : Int) < atq199))))) rfl ?_
              replace h := ofP h; rcases h with ⟨c206, h⟩ | ⟨c206, h⟩
              · refine so_gno rfl (decide_eq_true c206) ?_
                refine so_gno rfl (decide_eq_true c206) ?_
                refine so_pick_t (v := (.v (.bool true))) rfl (decide_eq_true c206) rfl ?_
                refine so_nil ?_
                refine fi_true rfl rfl ?_
                refine fi_seq ?_
                refine fi_region ?_
                refine so_assign (v := (.v .nilsl)) rfl ?_
                refine so_assign (v := (.v (.bool false))) rfl ?_
                refine so_nil ?_
                exact by_ret rfl ⟨_, _, h, _, rfl, (Sep.nil (Sep.del 0 hs) 1)⟩
              · refine so_gyes rfl (decide_eq_false c206) ?_
                refine so_move (v := (.v (.int .i64 z200))) rfl ?_
                refine so_gyes rfl (decide_eq_false c206) ?_
                refine so_bin rfl rfl ab_gtr ?_
                refine so_pick_f (v := (.v (.bool (decide ((2000000 : Int) < z200))))) rfl (decide_eq_false c206) rfl ?_
                refine so_nil ?_
                replace h := ofP h; rcases h with ⟨c207, h⟩ | ⟨c207, h⟩
                · refine fi_true rfl (decide_eq_true c207) ?_
                  refine fi_seq ?_
                  refine fi_region ?_
                  refine so_assign (v := (.v .nilsl)) rfl ?_
                  refine so_assign (v := (.v (.bool false))) rfl ?_
                  refine so_nil ?_
                  exact by_ret rfl ⟨_, _, h, _, rfl, (Sep.nil (Sep.del 0 hs) 1)⟩
                · refine fi_false rfl (decide_eq_false c207) ?_
                  refine fi_skip ?_
                  refine fi_region ?_
                  refine so_move (v := (.v v168)) rfl ?_
                  refine so_move (v := (.v (.int .i64 z200))) rfl ?_
                  refine sv_callS (impl_fromZigZag_ok z200 hs  _ h) (fun _ _ ⟨_, _, _, e⟩ => e) rfl rfl ?_
                  clear h
                  rintro _ _ ⟨y208, h, rfl, rfl⟩
                  refine sv_bslice hs (eInt .i64) ([y208] : List (Int)) [[(.int .i64 y208)]] F23.te31 F23.sz2 F23.ze2 rfl rfl rfl rfl (fun _ => rfl) rfl (by decide) nofun (fun v210 H211 nv210 hs => ?_)
                  obtain ⟨c215, h⟩ := h
                  refine sv_app hs 1 rfl (hs.shows 0 rfl) (fun _ => rfl) (by decide) F23.ta31_31 (by decide) c215 rfl rfl nofun (fun v213 H214 kv213 hs => ?_)
                  replace hs := hs.del 0
                  have nv213 := kv213 nv168
                  refine so_assign (v := (.v v213)) rfl ?_
                  refine so_nil ?_
                  refine fi_inBlock ?_
                  refine fi_region ?_
                  refine so_bin rfl rfl ab_add ?_
                  refine so_move (v := (.v (.int .i64 (IntKind.i64.wrap (x170 + (1 : Int)))))) rfl ?_
                  refine so_nil ?_
                  exact fi_at [(0, (.v v0)), (2, (.v (.int .i64 a2))), (8, (.v v213)), (9, (.v (.int .i64 atq199))), (25, (.v (.int .i64 a1))), (26, (.v (.int .i64 (IntKind.i64.wrap (x170 + (1 : Int))))))] ⟨rfl, rfl, rfl, rfl, rfl, rfl, trivial⟩ (h _ _ _ nv213 hs)
        · refine fi_false rfl (decide_eq_false c171) ?_
          refine fi_exit rfl ?_
          refine fi_seq ?_
          refine fi_seq ?_
          refine fi_region ?_
          refine so_move (v := (.v (.int .i64 atq169))) rfl ?_
          refine so_move (v := (.v v0)) rfl ?_
          refine sv_len (g0 _ hs.tl) (fun _ => rfl) (by decide) rfl F23.ti33 ?_
          refine so_bin rfl rfl ab_neq ?_
          refine so_nil ?_
          replace h := ofP h; rcases h with ⟨c220, h⟩ | ⟨c220, h⟩
          · refine fi_false rfl (not_f (decide_eq_true c220)) ?_
            refine fi_skip ?_
            refine fi_seq ?_
            refine fi_region ?_
            refine so_move (v := (.v v168)) rfl ?_
            refine so_assign (v := (.v v168)) rfl ?_
            refine so_assign (v := (.v (.bool true))) rfl ?_
            refine so_nil ?_
            exact by_ret rfl ⟨_, _, h, _, rfl, hs⟩
          · refine fi_true rfl (not_t (decide_eq_false c220)) ?_
            refine fi_seq ?_
            refine fi_region ?_
            refine so_assign (v := (.v .nilsl)) rfl ?_
            refine so_assign (v := (.v (.bool false))) rfl ?_
            refine so_nil ?_
            exact by_ret rfl ⟨_, _, h, _, rfl, (Sep.nil (Sep.del 0 hs) 1)⟩
      · refine fi_true rfl (not_t c107) ?_
        refine fi_seq ?_
        refine fi_region ?_
        refine so_assign (v := (.v .nilsl)) rfl ?_
        refine so_assign (v := (.v (.bool false))) rfl ?_
        refine so_nil ?_
        exact by_ret rfl ⟨_, _, h, _, rfl, (Sep.nil hs 1)⟩
    · refine so_gno rfl (not_t c104) ?_
      refine so_gno rfl (not_t c104) ?_
      refine so_gno rfl (not_t c104) ?_
      refine so_pick_t (v := (.v (.bool true))) rfl (not_t c104) rfl ?_
      refine so_nil ?_
      refine fi_true rfl rfl ?_
      refine fi_seq ?_
      refine fi_region ?_
      refine so_assign (v := (.v .nilsl)) rfl ?_
      refine so_assign (v := (.v (.bool false))) rfl ?_
      refine so_nil ?_
      exact by_ret rfl ⟨_, _, h, _, rfl, (Sep.nil hs 1)⟩

end Go.Proofs.YtecdkjnomkdbkaaDoor.G

namespace Go.Proofs.YtecdkjnomkdbkaaDoor.G
open Go Go.Ab Go.Proofs Go.Proofs.YtecdkjnomkdbkaaDoor
set_option maxRecDepth 100000
set_option linter.unusedVariables false
set_option linter.unusedSimpArgs false
set_option maxHeartbeats 1000000
attribute [local irreducible] wops wopf Go.Ab.Fin
theorem impl_BestRice_ok {fr : List Pc} {H : Heap} (v0 : AV) (l0 : List (Int)) (hs : Sep H (fr)) (g0 : ∀ H, Sep H fr → Shows H v0 1 (enc (eInt .i64) l0)) (K : Int → Int → Bool → Prop) (h : impl_BestRice.wp l0 K) : OkQ Tryd.prog 24 [(.v v0)] H (fun r H2 => ∃ (y0 : Int) (y1 : Int) (y2 : Bool), K y0 y1 y2 ∧ r = (.t [(.v (.int .i64 y0)), (.v (.int .i64 y1)), (.v (.bool y2))]) ∧ H = H2) := by
  unfold impl_BestRice.wp at h
  refine of_body Tryd.f24 F.hm Tryd.func24 rfl Tryd.call24 (by kernel_rfl) (by simp) ?_
  refine fi_seq ?_
  refine fi_region ?_
  refine so_assign (v := (.v (.int .i64 (0 : Int)))) rfl ?_
  refine so_assign (v := (.v (.int .i64 (0 : Int)))) rfl ?_
  refine so_assign (v := (.v (.bool false))) rfl ?_
  refine so_nil ?_
  refine fi_seq ?_
  refine fi_seq ?_
  refine fi_region ?_
  refine so_move (v := (.v v0)) rfl ?_
  refine sv_callS (impl_AreIntegers_ok v0 l0 hs (fun _ hs => (g0 _ hs)) _ h) (fun _ _ ⟨_, _, _, e⟩ => e) rfl rfl ?_
  clear h
  rintro _ _ ⟨y101, h, rfl, rfl⟩
  refine so_un rfl au_not ?_
  refine so_nil ?_
  replace h := ofT h; rcases h with ⟨c103, h⟩ | ⟨c103, h⟩
  · refine fi_false rfl (not_f c103) ?_
    refine fi_skip ?_
    refine fi_seq ?_
    refine fi_region ?_
    refine so_assign (v := (.v (.int .i64 (0 : Int)))) rfl ?_
    refine so_nil ?_
    refine fi_seq ?_
    refine fi_seq ?_
    refine fi_region ?_
    refine so_assign (v := (.v (.int .i64 (1 : Int)))) rfl ?_
    refine so_nil ?_
    refine fi_block ?_
    refine fi_loop ?_
    refine fi_at [(0, (.v v0)), (5, (.v (.int .i64 (0 : Int)))), (6, (.v (.int .i64 (1 : Int))))] ⟨rfl, rfl, rfl, trivial⟩ ?_
    refine h (fun (best105 : Int) (k106 : Int) => ∀ (s : Nat → TV), Fin _ _ (updL s [(0, (.v v0)), (5, (.v (.int .i64 best105))), (6, (.v (.int .i64 k106)))]) _ _) ?_ _
    intro best105 k106 h s115
    refine fi_inLoop ?_
    refine fi_seq ?_
    refine fi_seq ?_
    refine fi_region ?_
    refine so_move (v := (.v (.int .i64 k106))) rfl ?_
    refine so_bin rfl rfl ab_leq ?_
    refine so_nil ?_
    replace h := ofP h; rcases h with ⟨c107, h⟩ | ⟨c107, h⟩
    · refine fi_true rfl (decide_eq_true c107) ?_
      refine fi_skip ?_
      refine fi_seq ?_
      refine fi_block ?_
      refine fi_seq ?_
      refine fi_region ?_
      refine so_move (v := (.v v0)) rfl ?_
      refine so_move (v := (.v (.int .i64 k106))) rfl ?_
      refine sv_callS (impl_riceLong_ok v0 l0 k106 hs (fun _ hs => (g0 _ hs)) _ h) (fun _ _ ⟨_, _, _, e⟩ => e) rfl rfl ?_
      clear h
      rintro _ _ ⟨y108, h, rfl, rfl⟩
      refine so_move (v := (.v v0)) rfl ?_
      refine so_move (v := (.v (.int .i64 best105))) rfl ?_
      refine sv_callS (impl_riceLong_ok v0 l0 best105 hs (fun _ hs => (g0 _ hs)) _ h) (fun _ _ ⟨_, _, _, e⟩ => e) rfl rfl ?_
      clear h
      rintro _ _ ⟨y110, h, rfl, rfl⟩
      refine so_bin rfl rfl ab_lss ?_
      refine so_nil ?_
      replace h := ofP h; rcases h with ⟨c112, h⟩ | ⟨c112, h⟩
      · refine fi_true rfl (decide_eq_true c112) ?_
        refine fi_region ?_
        refine so_move (v := (.v (.int .i64 k106))) rfl ?_
        refine so_assign (v := (.v (.int .i64 k106))) rfl ?_
        refine so_nil ?_
        refine fi_inBlock ?_
        refine fi_region ?_
        refine so_move (v := (.v (.int .i64 k106))) rfl ?_
        refine so_bin rfl rfl ab_add ?_
        refine so_assign (v := (.v (.int .i64 (IntKind.i64.wrap (k106 + (1 : Int)))))) rfl ?_
        refine so_nil ?_
        exact fi_at [(0, (.v v0)), (5, (.v (.int .i64 k106))), (6, (.v (.int .i64 (IntKind.i64.wrap (k106 + (1 : Int))))))] ⟨rfl, rfl, rfl, trivial⟩ (h _)
      · refine fi_false rfl (decide_eq_false c112) ?_
        refine fi_skip ?_
        refine fi_inBlock ?_
        refine fi_region ?_
        refine so_move (v := (.v (.int .i64 k106))) rfl ?_
        refine so_bin rfl rfl ab_add ?_
        refine so_assign (v := (.v (.int .i64 (IntKind.i64.wrap (k106 + (1 : Int)))))) rfl ?_
        refine so_nil ?_
        exact fi_at [(0, (.v v0)), (5, (.v (.int .i64 best105))), (6, (.v (.int .i64 (IntKind.i64.wrap (k106 + (1 : Int))))))] ⟨rfl, rfl, rfl, trivial⟩ (h _)
    · refine fi_false rfl (decide_eq_false c107) ?_
      refine fi_exit rfl ?_
      refine fi_seq ?_
      refine fi_region ?_
      refine so_move (v := (.v (.int .i64 best105))) rfl ?_
      refine so_move (v := (.v v0)) rfl ?_
      refine so_move (v := (.v (.int .i64 best105))) rfl ?_
      refine sv_callS (impl_riceLong_ok v0 l0 best105 hs (fun _ hs => (g0 _ hs)) _ h) (fun _ _ ⟨_, _, _, e⟩ => e) rfl rfl ?_
      clear h
      rintro _ _ ⟨y113, h, rfl, rfl⟩
      refine so_assign (v := (.v (.int .i64 best105))) rfl ?_
      refine so_assign (v := (.v (.int .i64 y113))) rfl ?_
      refine so_assign (v := (.v (.bool true))) rfl ?_
      refine so_nil ?_
      exact by_ret rfl ⟨_, _, _, h, rfl, rfl⟩
  · refine fi_true rfl (not_t c103) ?_
    refine fi_seq ?_
    refine fi_region ?_
    refine so_assign (v := (.v (.int .i64 (0 : Int)))) rfl ?_
    refine so_assign (v := (.v (.int .i64 (0 : Int)))) rfl ?_
    refine so_assign (v := (.v (.bool false))) rfl ?_
    refine so_nil ?_
    exact by_ret rfl ⟨_, _, _, h, rfl, rfl⟩

end Go.Proofs.YtecdkjnomkdbkaaDoor.G

namespace Go.Proofs.YtecdkjnomkdbkaaDoor.G
open Go Go.Ab Go.Proofs Go.Proofs.YtecdkjnomkdbkaaDoor
set_option maxRecDepth 100000
set_option linter.unusedVariables false
set_option linter.unusedSimpArgs false
set_option maxHeartbeats 1000000
attribute [local irreducible] wops wopf Go.Ab.Fin
theorem F25.ag4 : tagg Tryd.prog 4 = some false := by kernel_rfl
theorem F25.it5 : tint Tryd.prog 5 = some .u8 := by kernel_rfl
theorem F25.sr9 : tstr Tryd.prog 9 = true := by kernel_rfl
theorem F25.sz5 : tsz Tryd.prog 5 = some 1 := by kernel_rfl
theorem F25.ta29_29 : tapp Tryd.prog 29 29 = some (1, 1) := by kernel_rfl
theorem F25.te29 : telem Tryd.prog 29 = some 5 := by kernel_rfl
theorem F25.ti33 : (telem Tryd.prog 33).isSome = true := by kernel_rfl
theorem F25.tl33 : (telem Tryd.prog 33).bind (tsz Tryd.prog) = some 1 := by kernel_rfl
theorem F25.us29 : (Tryd.prog.underlying 29).isSome = true := by kernel_rfl
theorem F25.ze5 : tzero Tryd.prog 5 = some [(.int .u8 (0 : Int))] := by kernel_rfl
theorem impl_BitText_ok {fr : List Pc} {H : Heap} (v0 : AV) (l0 : List (Bool)) (hs : Sep H (fr)) (g0 : ∀ H, Sep H fr → Shows H v0 1 (enc eBool l0)) (K : (List UInt8) → Bool → Prop) (h : impl_BitText.wp l0 K) : OkQ Tryd.prog 25 [(.v v0)] H (fun r H2 => ∃ (y0 : List UInt8) (y1 : Bool), K y0 y1 ∧ r = (.t [(.v (.str (pk y0))), (.v (.bool y1))]) ∧ Sep H2 (fr)) := by
  unfold impl_BitText.wp at h
  refine of_body Tryd.f25 F.hm Tryd.func25 rfl Tryd.call25 (by kernel_rfl) (by simp) ?_
  refine fi_seq ?_
  refine fi_region ?_
  refine so_assign (v := (.v (.str (pk ([] : List UInt8))))) rfl ?_
  refine so_assign (v := (.v (.bool false))) rfl ?_
  refine so_nil ?_
  refine fi_seq ?_
  refine fi_seq ?_
  refine fi_region ?_
  refine so_move (v := (.v v0)) rfl ?_
  refine sv_len (g0 _ hs) (fun _ => rfl) (by decide) rfl F25.ti33 ?_
  refine so_bin rfl rfl ab_gtr ?_
  refine so_nil ?_
  replace h := ofP h; rcases h with ⟨c101, h⟩ | ⟨c101, h⟩
  · refine fi_true rfl (decide_eq_true c101) ?_
    refine fi_seq ?_
    refine fi_region ?_
    refine so_assign (v := (.v (.str (pk ([] : List UInt8))))) rfl ?_
    refine so_assign (v := (.v (.bool false))) rfl ?_
    refine so_nil ?_
    exact by_ret rfl ⟨_, _, h, rfl, hs⟩
  · refine fi_false rfl (decide_eq_false c101) ?_
    refine fi_skip ?_
    refine fi_seq ?_
    refine fi_region ?_
    refine sv_bslice hs (eInt .u8) ([] : List (Int)) [] F25.te29 F25.sz5 F25.ze5 rfl rfl rfl rfl (fun _ => rfl) rfl (by decide) nofun (fun v102 H103 nv102 hs => ?_)
    refine so_assign (v := (.v v102)) rfl ?_
    refine so_nil ?_
    refine fi_seq ?_
    refine fi_seq ?_
    refine fi_region ?_
    refine so_move (v := (.v v0)) rfl ?_
    refine sv_len (g0 _ hs.tl) (fun _ => rfl) (by decide) rfl F25.ti33 ?_
    refine so_move (v := (.v (.int .i64 (0 : Int)))) rfl ?_
    refine so_nil ?_
    refine fi_block ?_
    refine fi_loop ?_
    refine fi_at [(4, (.v v102)), (11, (.v v0)), (12, (.v (.int .i64 (l0.length : Int)))), (13, (.v (.int .i64 (0 : Int))))] ⟨rfl, rfl, rfl, rfl, trivial⟩ ?_
    refine h (fun (out125 : List (Int)) (x127 : Int) => ∀ (s : Nat → TV) (H : Heap) (v126 : AV) (nv126 : v126 ≠ .nilsl), Sep H (Pc.osl v126 1 (enc (eInt .u8) out125) :: fr) → Fin _ _ (updL s [(4, (.v v126)), (11, (.v v0)), (12, (.v (.int .i64 (l0.length : Int)))), (13, (.v (.int .i64 x127)))]) H _) ?_ _ _ _ nv102 hs
    intro out125 x127 h s143 H144 v126 nv126 hs
    refine fi_inLoop ?_
    refine fi_seq ?_
    refine fi_region ?_
    refine so_bin rfl rfl ab_lss ?_
    refine so_nil ?_
    refine fi_seq ?_
    replace h := ofP h; rcases h with ⟨c128, h⟩ | ⟨c128, h⟩
    · refine fi_true rfl (decide_eq_true c128) ?_
      refine fi_skip ?_
      refine fi_seq ?_
      refine fi_block ?_
      refine fi_seq ?_
      refine fi_region ?_
      obtain ⟨c129, h⟩ := h
      refine sv_idx (g0 _ hs.tl) c129 (fun _ => rfl) (by decide) rfl rfl F25.tl33 ?_
      refine sv_cell (g0 _ hs.tl) c129 false 0 (fun x => (AV.bool x)) (fun _ => rfl) (fun _ => rfl) rfl F25.ag4 ?_
      refine so_assign (v := (.v (.bool (l0.getD (x127).toNat false)))) rfl ?_
      refine so_nil ?_
      refine fi_seq ?_
      refine fi_region ?_
      refine so_move (v := (.v (.bool (l0.getD (x127).toNat false)))) rfl ?_
      refine so_nil ?_
      replace h := ofT h; rcases h with ⟨c130, h⟩ | ⟨c130, h⟩
      · refine fi_true rfl c130 ?_
        refine fi_region ?_
        refine so_move (v := (.v v126)) rfl ?_
        refine sv_bslice hs (eInt .u8) ([(49 : Int)] : List (Int)) [[(.int .u8 (49 : Int))]] F25.te29 F25.sz5 F25.ze5 rfl rfl rfl rfl (fun _ => rfl) rfl (by decide) nofun (fun v131 H132 nv131 hs => ?_)
        obtain ⟨c136, h⟩ := h
        refine sv_app hs 1 rfl (hs.shows 0 rfl) (fun _ => rfl) (by decide) F25.ta29_29 (by decide) c136 rfl rfl nofun (fun v134 H135 kv134 hs => ?_)
        replace hs := hs.del 0
        have nv134 := kv134 nv126
        refine so_assign (v := (.v v134)) rfl ?_
        refine so_nil ?_
        refine fi_inBlock ?_
        refine fi_region ?_
        refine so_bin rfl rfl ab_add ?_
        refine so_move (v := (.v (.int .i64 (IntKind.i64.wrap (x127 + (1 : Int)))))) rfl ?_
        refine so_nil ?_
        exact fi_at [(4, (.v v134)), (11, (.v v0)), (12, (.v (.int .i64 (l0.length : Int)))), (13, (.v (.int .i64 (IntKind.i64.wrap (x127 + (1 : Int))))))] ⟨rfl, rfl, rfl, rfl, trivial⟩ (h _ _ _ nv134 hs)
      · refine fi_false rfl c130 ?_
        refine fi_region ?_
        refine so_move (v := (.v v126)) rfl ?_
        refine sv_bslice hs (eInt .u8) ([(48 : Int)] : List (Int)) [[(.int .u8 (48 : Int))]] F25.te29 F25.sz5 F25.ze5 rfl rfl rfl rfl (fun _ => rfl) rfl (by decide) nofun (fun v137 H138 nv137 hs => ?_)
        obtain ⟨c142, h⟩ := h
        refine sv_app hs 1 rfl (hs.shows 0 rfl) (fun _ => rfl) (by decide) F25.ta29_29 (by decide) c142 rfl rfl nofun (fun v140 H141 kv140 hs => ?_)
        replace hs := hs.del 0
        have nv140 := kv140 nv126
        refine so_assign (v := (.v v140)) rfl ?_
        refine so_nil ?_
        refine fi_inBlock ?_
        refine fi_region ?_
        refine so_bin rfl rfl ab_add ?_
        refine so_move (v := (.v (.int .i64 (IntKind.i64.wrap (x127 + (1 : Int)))))) rfl ?_
        refine so_nil ?_
        exact fi_at [(4, (.v v140)), (11, (.v v0)), (12, (.v (.int .i64 (l0.length : Int)))), (13, (.v (.int .i64 (IntKind.i64.wrap (x127 + (1 : Int))))))] ⟨rfl, rfl, rfl, rfl, trivial⟩ (h _ _ _ nv140 hs)
    · refine fi_false rfl (decide_eq_false c128) ?_
      refine fi_exit rfl ?_
      refine fi_seq ?_
      refine fi_region ?_
      refine so_move (v := (.v v126)) rfl ?_
      refine sv_bs (hs.shows 0 rfl) nv126 rfl F25.te29 F25.it5 F25.sr9 ?_
      refine so_assign (v := (.v (.str (pk (byts out125))))) rfl ?_
      refine so_assign (v := (.v (.bool true))) rfl ?_
      refine so_nil ?_
      exact by_ret rfl ⟨_, _, h, rfl, (Sep.del 0 hs)⟩
theorem impl_BitText_okS {fr : List Pc} {H : Heap} (v0 : AV) (l0 : List (Bool)) (hs : Sep H fr) (g0 : ∀ H, Sep H fr → Shows H v0 1 (enc eBool l0)) (K : (List UInt8) → Bool → Prop) (h : impl_BitText.wp l0 K) : OkQ Tryd.prog 25 [(.v v0)] H (fun r H2 => ∃ (y0 : List UInt8) (y1 : Bool), K y0 y1 ∧ r = (.t [(.v (.str (pk y0))), (.v (.bool y1))]) ∧ H = H2) := by
  obtain ⟨r, H2, h1, y0, y1, hK, hr, hsep⟩ := impl_BitText_ok (fr := came H) (H := H) v0 l0 (came_sep H) (came_shows (g0 H hs)) K h
  have hk : H.n ≤ H2.n ∧ ∀ i, i < H.n → H2.f i = H.f i := hsep.1.2.1
  exact ⟨r, H, h1.forget hk.1 hk.2 (by subst hr; rfl), y0, y1, hK, hr, rfl⟩

end Go.Proofs.YtecdkjnomkdbkaaDoor.G

namespace Go.Proofs.YtecdkjnomkdbkaaDoor.G
open Go Go.Ab Go.Proofs Go.Proofs.YtecdkjnomkdbkaaDoor
set_option maxRecDepth 100000
set_option linter.unusedVariables false
set_option linter.unusedSimpArgs false
set_option maxHeartbeats 1000000
attribute [local irreducible] wops wopf Go.Ab.Fin
theorem strings_Trim_ok {fr : List Pc} {H : Heap} (a0 : List UInt8) (a1 : List UInt8) (hs : Sep H fr) (K : List UInt8 → Prop) (h : strings_Trim.wp a0 a1 K) : OkQ Tryd.prog 45 [.v (.str (pk a0)), .v (.str (pk a1))] H (fun r H2 => ∃ (y0 : List UInt8), K y0 ∧ r = (.v (.str (pk y0))) ∧ H = H2) :=
  ⟨.v (.str (pk (Lib.trimS a0 a1))), _, ok_lib2 [.string (pk a0), .string (pk a1)] (.string (pk (Lib.trimS a0 a1))) Tryd.call45 (args_ss _ _) (fun β => rfl) (fun w => Any.strings_Trim_laid Tryd.lays160 (by kernel_rfl) (pk a0) (pk a1) w (by rw [pk_size]; have := h.1.1; omega) (by rw [pk_size]; have := h.1.2.1; omega) (ascii_of_all h.1.2.2)), _, h.2, rfl, rfl⟩

end Go.Proofs.YtecdkjnomkdbkaaDoor.G

namespace Go.Proofs.YtecdkjnomkdbkaaDoor.G
open Go Go.Ab Go.Proofs Go.Proofs.YtecdkjnomkdbkaaDoor
set_option maxRecDepth 100000
set_option linter.unusedVariables false
set_option linter.unusedSimpArgs false
set_option maxHeartbeats 1000000
attribute [local irreducible] wops wopf Go.Ab.Fin
theorem F26.sr9 : tstr Tryd.prog 9 = true := by kernel_rfl
theorem F26.sz4 : tsz Tryd.prog 4 = some 1 := by kernel_rfl
theorem F26.ta33_33 : tapp Tryd.prog 33 33 = some (1, 1) := by kernel_rfl
theorem F26.te33 : telem Tryd.prog 33 = some 4 := by kernel_rfl
theorem F26.ze4 : tzero Tryd.prog 4 = some [(.bool false)] := by kernel_rfl
theorem impl_ReadBits_ok {fr : List Pc} {H : Heap} (a0 : List UInt8) (hs : Sep H (fr))  (K : (List (Bool)) → Bool → Prop) (h : impl_ReadBits.wp a0 K) : OkQ Tryd.prog 26 [(.v (.str (pk a0)))] H (fun r H2 => ∃ (y0 : List (Bool)) (y1 : Bool), K y0 y1 ∧ ∃ (w0_ : AV), r = (.t [(.v w0_), (.v (.bool y1))]) ∧ Sep H2 (Pc.osl w0_ 1 (enc eBool y0) :: fr)) := by
  unfold impl_ReadBits.wp at h
  refine of_body Tryd.f26 F.hm Tryd.func26 rfl Tryd.call26 (by kernel_rfl) (by simp) ?_
  refine fi_seq ?_
  refine fi_region ?_
  refine so_assign (v := (.v .nilsl)) rfl ?_
  refine so_assign (v := (.v (.bool false))) rfl ?_
  refine so_nil ?_
  refine fi_seq ?_
  refine fi_seq ?_
  refine fi_region ?_
  refine so_move (v := (.v (.str (pk a0)))) rfl ?_
  refine so_slen rfl F26.sr9 ?_
  refine so_bin rfl rfl ab_gtr ?_
  refine so_move (v := (.v (.bool (decide ((32768 : Int) < (a0.length : Int)))))) rfl ?_
  replace h := ofP h; rcases h with ⟨c101, h⟩ | ⟨c101, h⟩
  · refine so_gno rfl (decide_eq_true c101) ?_
    refine so_gno rfl (decide_eq_true c101) ?_
    refine so_gno rfl (decide_eq_true c101) ?_
    refine so_pick_t (v := (.v (.bool true))) rfl (decide_eq_true c101) rfl ?_
    refine so_nil ?_
    refine fi_true rfl rfl ?_
    refine fi_seq ?_
    refine fi_region ?_
    refine so_assign (v := (.v .nilsl)) rfl ?_
    refine so_assign (v := (.v (.bool false))) rfl ?_
    refine so_nil ?_
    exact by_ret rfl ⟨_, _, h, _, rfl, (Sep.nil hs 1)⟩
  · refine so_gyes rfl (decide_eq_false c101) ?_
    refine so_move (v := (.v (.str (pk a0)))) rfl ?_
    refine so_gyes rfl (decide_eq_false c101) ?_
    refine sv_callS (strings_Trim_ok a0 ([48, 49] : List UInt8) hs  _ h) (fun _ _ ⟨_, _, _, e⟩ => e) rfl rfl ?_
    clear h
    rintro _ _ ⟨y102, h, rfl, rfl⟩
    refine so_gyes rfl (decide_eq_false c101) ?_
    refine so_bin rfl rfl ab_sneq ?_
    refine so_pick_f (v := (.v (.bool (!(decide (y102 = ([] : List UInt8))))))) rfl (decide_eq_false c101) rfl ?_
    refine so_nil ?_
    replace h := ofP h; rcases h with ⟨c104, h⟩ | ⟨c104, h⟩
    · refine fi_false rfl (not_f (decide_eq_true c104)) ?_
      refine fi_skip ?_
      refine fi_seq ?_
      refine fi_region ?_
      refine sv_bslice hs eBool ([] : List (Bool)) [] F26.te33 F26.sz4 F26.ze4 rfl rfl rfl rfl (fun _ => rfl) rfl (by decide) nofun (fun v105 H106 nv105 hs => ?_)
      refine so_assign (v := (.v v105)) rfl ?_
      refine so_nil ?_
      refine fi_seq ?_
      refine fi_seq ?_
      refine fi_region ?_
      refine so_move (v := (.v (.str (pk a0)))) rfl ?_
      refine so_slen rfl F26.sr9 ?_
      refine so_move (v := (.v (.int .i64 (0 : Int)))) rfl ?_
      refine so_nil ?_
      refine fi_block ?_
      refine fi_loop ?_
      refine fi_at [(0, (.v (.str (pk a0)))), (4, (.v v105)), (16, (.v (.int .i64 (a0.length : Int)))), (17, (.v (.int .i64 (0 : Int))))] ⟨rfl, rfl, rfl, rfl, trivial⟩ ?_
      refine h (fun (out121 : List (Bool)) (x123 : Int) => ∀ (s : Nat → TV) (H : Heap) (v122 : AV) (nv122 : v122 ≠ .nilsl), Sep H (Pc.osl v122 1 (enc eBool out121) :: fr) → Fin _ _ (updL s [(0, (.v (.str (pk a0)))), (4, (.v v122)), (16, (.v (.int .i64 (a0.length : Int)))), (17, (.v (.int .i64 x123)))]) H _) ?_ _ _ _ nv105 hs
      intro out121 x123 h s132 H133 v122 nv122 hs
      refine fi_inLoop ?_
      refine fi_seq ?_
      refine fi_region ?_
      refine so_bin rfl rfl ab_lss ?_
      refine so_nil ?_
      refine fi_seq ?_
      replace h := ofP h; rcases h with ⟨c124, h⟩ | ⟨c124, h⟩
      · refine fi_true rfl (decide_eq_true c124) ?_
        refine fi_skip ?_
        refine fi_seq ?_
        refine fi_block ?_
        refine fi_seq ?_
        refine fi_region ?_
        refine so_move (v := (.v (.int .i64 x123))) rfl ?_
        refine so_assign (v := (.v (.int .i64 x123))) rfl ?_
        refine so_nil ?_
        refine fi_region ?_
        refine so_move (v := (.v v122)) rfl ?_
        refine so_move (v := (.v (.str (pk a0)))) rfl ?_
        refine so_move (v := (.v (.int .i64 x123))) rfl ?_
        obtain ⟨c125, h⟩ := h
        refine so_index rfl rfl F26.sr9 c125 ?_
        refine so_bin rfl rfl ab_eql ?_
        refine sv_bslice hs eBool ([(decide ((bt a0 x123) = (49 : Int)))] : List (Bool)) [[(.bool (decide ((bt a0 x123) = (49 : Int))))]] F26.te33 F26.sz4 F26.ze4 rfl rfl rfl rfl (fun _ => rfl) rfl (by decide) nofun (fun v126 H127 nv126 hs => ?_)
        obtain ⟨c131, h⟩ := h
        refine sv_app hs 1 rfl (hs.shows 0 rfl) (fun _ => rfl) (by decide) F26.ta33_33 (by decide) c131 rfl rfl nofun (fun v129 H130 kv129 hs => ?_)
        replace hs := hs.del 0
        have nv129 := kv129 nv122
        refine so_assign (v := (.v v129)) rfl ?_
        refine so_nil ?_
        refine fi_inBlock ?_
        refine fi_region ?_
        refine so_bin rfl rfl ab_add ?_
        refine so_move (v := (.v (.int .i64 (IntKind.i64.wrap (x123 + (1 : Int)))))) rfl ?_
        refine so_nil ?_
        exact fi_at [(0, (.v (.str (pk a0)))), (4, (.v v129)), (16, (.v (.int .i64 (a0.length : Int)))), (17, (.v (.int .i64 (IntKind.i64.wrap (x123 + (1 : Int))))))] ⟨rfl, rfl, rfl, rfl, trivial⟩ (h _ _ _ nv129 hs)
      · refine fi_false rfl (decide_eq_false c124) ?_
        refine fi_exit rfl ?_
        refine fi_seq ?_
        refine fi_region ?_
        refine so_move (v := (.v v122)) rfl ?_
        refine so_assign (v := (.v v122)) rfl ?_
        refine so_assign (v := (.v (.bool true))) rfl ?_
        refine so_nil ?_
        exact by_ret rfl ⟨_, _, h, _, rfl, hs⟩
    · refine fi_true rfl (not_t (decide_eq_false c104)) ?_
      refine fi_seq ?_
      refine fi_region ?_
      refine so_assign (v := (.v .nilsl)) rfl ?_
      refine so_assign (v := (.v (.bool false))) rfl ?_
      refine so_nil ?_
      exact by_ret rfl ⟨_, _, h, _, rfl, (Sep.nil hs 1)⟩

end Go.Proofs.YtecdkjnomkdbkaaDoor.G

namespace Go.Proofs.YtecdkjnomkdbkaaDoor.G
open Go Go.Ab Go.Proofs Go.Proofs.YtecdkjnomkdbkaaDoor
set_option maxRecDepth 100000
set_option linter.unusedVariables false
set_option linter.unusedSimpArgs false
set_option maxHeartbeats 1000000
attribute [local irreducible] wops wopf Go.Ab.Fin
theorem F76.xb76 : Tryd.f76.body = none := rfl
theorem F76.xe76 : Extern.find Tryd.f76 = some Extern.MathFloatBits.float64frombits := by rfl
theorem F76.xf76 : (Extern.findNext Tryd.f76).isNone = true := by kernel_rfl
theorem F76.xn76 : (Tryd.f76.name == "runtime.NumGoroutine") = false := by kernel_rfl
theorem math_Float64frombits_ok {fr : List Pc} {H : Heap} (x : Int) (hs : Sep H fr) (K : Nat → Prop) (h : math_Float64frombits.wp x K) : OkQ Tryd.prog 76 [(.v (.int .u64 x))] H (fun r H2 => ∃ y0 : Nat, K y0 ∧ r = (.v (.flt .f64 y0)) ∧ H = H2) := ⟨_, _, f64from_ok Tryd.func76 F76.xn76 F76.xb76 F76.xf76 F76.xe76 x, _, h, rfl, rfl⟩

end Go.Proofs.YtecdkjnomkdbkaaDoor.G

namespace Go.Proofs.YtecdkjnomkdbkaaDoor.G
open Go Go.Ab Go.Proofs Go.Proofs.YtecdkjnomkdbkaaDoor
set_option maxRecDepth 100000
set_option linter.unusedVariables false
set_option linter.unusedSimpArgs false
set_option maxHeartbeats 1000000
attribute [local irreducible] wops wopf Go.Ab.Fin
theorem math_Inf_ok {fr : List Pc} {H : Heap} (a0 : Int) (hs : Sep H (fr))  (K : Nat → Prop) (h : math_Inf.wp a0 K) : OkQ Tryd.prog 65 [(.v (.int .i64 a0))] H (fun r H2 => ∃ (y0 : Nat), K y0 ∧ r = (.v (.flt .f64 y0)) ∧ H = H2) := by
  unfold math_Inf.wp at h
  refine of_body Tryd.f65 F.hm Tryd.func65 rfl Tryd.call65 (by kernel_rfl) (by simp) ?_
  refine fi_seq ?_
  refine fi_region ?_
  refine so_assign (v := (.v (.flt .f64 (cz .f64 0)))) rfl ?_
  refine so_nil ?_
  refine fi_seq ?_
  refine fi_region ?_
  refine so_assign (v := (.v (.int .u64 (0 : Int)))) rfl ?_
  refine so_nil ?_
  refine fi_seq ?_
  refine fi_seq ?_
  refine fi_region ?_
  refine so_move (v := (.v (.int .i64 a0))) rfl ?_
  refine so_bin rfl rfl ab_geq ?_
  refine so_nil ?_
  replace h := ofP h; rcases h with ⟨c101, h⟩ | ⟨c101, h⟩
  · refine fi_true rfl (decide_eq_true c101) ?_
    refine fi_region ?_
    refine so_assign (v := (.v (.int .u64 (9218868437227405312 : Int)))) rfl ?_
    refine so_nil ?_
    refine fi_seq ?_
    refine fi_region ?_
    refine so_move (v := (.v (.int .u64 (9218868437227405312 : Int)))) rfl ?_
    refine sv_callS (math_Float64frombits_ok (9218868437227405312 : Int) hs  _ h) (fun _ _ ⟨_, _, _, e⟩ => e) rfl rfl ?_
    clear h
    rintro _ _ ⟨y102, h, rfl, rfl⟩
    refine so_assign (v := (.v (.flt .f64 y102))) rfl ?_
    refine so_nil ?_
    exact by_ret rfl ⟨_, h, rfl, rfl⟩
  · refine fi_false rfl (decide_eq_false c101) ?_
    refine fi_region ?_
    refine so_assign (v := (.v (.int .u64 (18442240474082181120 : Int)))) rfl ?_
    refine so_nil ?_
    refine fi_seq ?_
    refine fi_region ?_
    refine so_move (v := (.v (.int .u64 (18442240474082181120 : Int)))) rfl ?_
    refine sv_callS (math_Float64frombits_ok (18442240474082181120 : Int) hs  _ h) (fun _ _ ⟨_, _, _, e⟩ => e) rfl rfl ?_
    clear h
    rintro _ _ ⟨y104, h, rfl, rfl⟩
    refine so_assign (v := (.v (.flt .f64 y104))) rfl ?_
    refine so_nil ?_
    exact by_ret rfl ⟨_, h, rfl, rfl⟩

end Go.Proofs.YtecdkjnomkdbkaaDoor.G

namespace Go.Proofs.YtecdkjnomkdbkaaDoor.G
open Go Go.Ab Go.Proofs Go.Proofs.YtecdkjnomkdbkaaDoor
set_option maxRecDepth 100000
set_option linter.unusedVariables false
set_option linter.unusedSimpArgs false
set_option maxHeartbeats 1000000
attribute [local irreducible] wops wopf Go.Ab.Fin
theorem math_NaN_ok {fr : List Pc} {H : Heap}  (hs : Sep H (fr))  (K : Nat → Prop) (h : math_NaN.wp  K) : OkQ Tryd.prog 66 [] H (fun r H2 => ∃ (y0 : Nat), K y0 ∧ r = (.v (.flt .f64 y0)) ∧ H = H2) := by
  unfold math_NaN.wp at h
  refine of_body Tryd.f66 F.hm Tryd.func66 rfl Tryd.call66 (by kernel_rfl) (by simp) ?_
  refine fi_seq ?_
  refine fi_region ?_
  refine so_assign (v := (.v (.flt .f64 (cz .f64 0)))) rfl ?_
  refine so_nil ?_
  refine fi_seq ?_
  refine fi_region ?_
  refine sv_callS (math_Float64frombits_ok (9221120237041090561 : Int) hs  _ h) (fun _ _ ⟨_, _, _, e⟩ => e) rfl rfl ?_
  clear h
  rintro _ _ ⟨y101, h, rfl, rfl⟩
  refine so_assign (v := (.v (.flt .f64 y101))) rfl ?_
  refine so_nil ?_
  exact by_ret rfl ⟨_, h, rfl, rfl⟩

end Go.Proofs.YtecdkjnomkdbkaaDoor.G

namespace Go.Proofs.YtecdkjnomkdbkaaDoor.G
open Go Go.Ab Go.Proofs Go.Proofs.YtecdkjnomkdbkaaDoor
set_option maxRecDepth 100000
set_option linter.unusedVariables false
set_option linter.unusedSimpArgs false
set_option maxHeartbeats 1000000
attribute [local irreducible] wops wopf Go.Ab.Fin
theorem impl_IsFinite_ok {fr : List Pc} {H : Heap} (a0 : Nat) (hs : Sep H (fr))  (K : Bool → Prop) (h : impl_IsFinite.wp a0 K) : OkQ Tryd.prog 67 [(.v (.flt .f32 a0))] H (fun r H2 => ∃ (y0 : Bool), K y0 ∧ r = (.v (.bool y0)) ∧ H = H2) := by
  unfold impl_IsFinite.wp at h
  refine of_body Tryd.f67 F.hm Tryd.func67 rfl Tryd.call67 (by kernel_rfl) (by simp) ?_
  refine fi_seq ?_
  refine fi_region ?_
  refine so_assign (v := (.v (.bool false))) rfl ?_
  refine so_nil ?_
  refine fi_seq ?_
  refine fi_region ?_
  refine so_move (v := (.v (.flt .f32 a0))) rfl ?_
  refine so_move (v := (.v (.flt .f32 a0))) rfl ?_
  refine so_bin rfl rfl ab_fsub ?_
  refine so_bin rfl rfl ab_feql ?_
  refine so_assign (v := (.v (.bool (fcmp .eql .f32 (fop .sub .f32 a0 a0) (cz .f32 0))))) rfl ?_
  refine so_nil ?_
  exact by_ret rfl ⟨_, h, rfl, rfl⟩

end Go.Proofs.YtecdkjnomkdbkaaDoor.G

namespace Go.Proofs.YtecdkjnomkdbkaaDoor.G
open Go Go.Ab Go.Proofs Go.Proofs.YtecdkjnomkdbkaaDoor
set_option maxRecDepth 100000
set_option linter.unusedVariables false
set_option linter.unusedSimpArgs false
set_option maxHeartbeats 1000000
attribute [local irreducible] wops wopf Go.Ab.Fin
theorem impl_naturalLog_ok {fr : List Pc} {H : Heap} (a0 : Nat) (hs : Sep H (fr))  (K : Nat → Prop) (h : impl_naturalLog.wp a0 K) : OkQ Tryd.prog 68 [(.v (.flt .f64 a0))] H (fun r H2 => ∃ (y0 : Nat), K y0 ∧ r = (.v (.flt .f64 y0)) ∧ H = H2) := by
  unfold impl_naturalLog.wp at h
  refine of_body Tryd.f68 F.hm Tryd.func68 rfl Tryd.call68 (by kernel_rfl) (by simp) ?_
  refine fi_seq ?_
  refine fi_region ?_
  refine so_assign (v := (.v (.flt .f64 (cz .f64 0)))) rfl ?_
  refine so_nil ?_
  refine fi_seq ?_
  refine fi_region ?_
  refine so_assign (v := (.v (.flt .f64 (cz .f64 0)))) rfl ?_
  refine so_nil ?_
  refine fi_seq ?_
  refine fi_block ?_
  refine fi_loop ?_
  refine fi_at [(0, (.v (.flt .f64 a0))), (3, (.v (.flt .f64 (cz .f64 0))))] ⟨rfl, rfl, trivial⟩ ?_
  refine h (fun (x102 : Nat) (e103 : Nat) => ∀ (s : Nat → TV), Fin _ _ (updL s [(0, (.v (.flt .f64 x102))), (3, (.v (.flt .f64 e103)))]) _ _) ?_ _
  intro x102 e103 h s117
  refine fi_inLoop ?_
  refine fi_seq ?_
  refine fi_seq ?_
  refine fi_region ?_
  refine so_move (v := (.v (.flt .f64 x102))) rfl ?_
  refine so_bin rfl rfl ab_fgeq ?_
  refine so_nil ?_
  replace h := ofT h; rcases h with ⟨c104, h⟩ | ⟨c104, h⟩
  · refine fi_true rfl c104 ?_
    refine fi_skip ?_
    refine fi_block ?_
    refine fi_seq ?_
    refine fi_region ?_
    refine so_move (v := (.v (.flt .f64 x102))) rfl ?_
    refine so_bin rfl rfl ab_fquo ?_
    refine so_assign (v := (.v (.flt .f64 (fop .quo .f64 x102 (cz .f64 4611686018427387904))))) rfl ?_
    refine so_nil ?_
    refine fi_region ?_
    refine so_move (v := (.v (.flt .f64 e103))) rfl ?_
    refine so_bin rfl rfl ab_fadd ?_
    refine so_assign (v := (.v (.flt .f64 (fop .add .f64 e103 (cz .f64 4607182418800017408))))) rfl ?_
    refine so_nil ?_
    refine fi_inBlock ?_
    exact fi_at [(0, (.v (.flt .f64 (fop .quo .f64 x102 (cz .f64 4611686018427387904))))), (3, (.v (.flt .f64 (fop .add .f64 e103 (cz .f64 4607182418800017408)))))] ⟨rfl, rfl, trivial⟩ (h _)
  · refine fi_false rfl c104 ?_
    refine fi_exit rfl ?_
    refine fi_seq ?_
    refine fi_block ?_
    refine fi_loop ?_
    refine fi_at [(0, (.v (.flt .f64 x102))), (3, (.v (.flt .f64 e103)))] ⟨rfl, rfl, trivial⟩ ?_
    refine h (fun (x106 : Nat) (e107 : Nat) => ∀ (s : Nat → TV), Fin _ _ (updL s [(0, (.v (.flt .f64 x106))), (3, (.v (.flt .f64 e107)))]) _ _) ?_ _
    intro x106 e107 h s115
    refine fi_inLoop ?_
    refine fi_seq ?_
    refine fi_seq ?_
    refine fi_region ?_
    refine so_move (v := (.v (.flt .f64 x106))) rfl ?_
    refine so_bin rfl rfl ab_flss ?_
    refine so_nil ?_
    replace h := ofT h; rcases h with ⟨c108, h⟩ | ⟨c108, h⟩
    · refine fi_true rfl c108 ?_
      refine fi_skip ?_
      refine fi_block ?_
      refine fi_seq ?_
      refine fi_region ?_
      refine so_move (v := (.v (.flt .f64 x106))) rfl ?_
      refine so_bin rfl rfl ab_fmul ?_
      refine so_assign (v := (.v (.flt .f64 (fop .mul .f64 x106 (cz .f64 4611686018427387904))))) rfl ?_
      refine so_nil ?_
      refine fi_region ?_
      refine so_move (v := (.v (.flt .f64 e107))) rfl ?_
      refine so_bin rfl rfl ab_fsub ?_
      refine so_assign (v := (.v (.flt .f64 (fop .sub .f64 e107 (cz .f64 4607182418800017408))))) rfl ?_
      refine so_nil ?_
      refine fi_inBlock ?_
      exact fi_at [(0, (.v (.flt .f64 (fop .mul .f64 x106 (cz .f64 4611686018427387904))))), (3, (.v (.flt .f64 (fop .sub .f64 e107 (cz .f64 4607182418800017408)))))] ⟨rfl, rfl, trivial⟩ (h _)
    · refine fi_false rfl c108 ?_
      refine fi_exit rfl ?_
      refine fi_seq ?_
      refine fi_region ?_
      refine so_move (v := (.v (.flt .f64 x106))) rfl ?_
      refine so_bin rfl rfl ab_fsub ?_
      refine so_move (v := (.v (.flt .f64 x106))) rfl ?_
      refine so_bin rfl rfl ab_fadd ?_
      refine so_bin rfl rfl ab_fquo ?_
      refine so_assign (v := (.v (.flt .f64 (fop .quo .f64 (fop .sub .f64 x106 (cz .f64 4607182418800017408)) (fop .add .f64 x106 (cz .f64 4607182418800017408)))))) rfl ?_
      refine so_nil ?_
      refine fi_seq ?_
      refine fi_region ?_
      refine so_move (v := (.v (.flt .f64 (fop .quo .f64 (fop .sub .f64 x106 (cz .f64 4607182418800017408)) (fop .add .f64 x106 (cz .f64 4607182418800017408)))))) rfl ?_
      refine so_move (v := (.v (.flt .f64 (fop .quo .f64 (fop .sub .f64 x106 (cz .f64 4607182418800017408)) (fop .add .f64 x106 (cz .f64 4607182418800017408)))))) rfl ?_
      refine so_bin rfl rfl ab_fmul ?_
      refine so_assign (v := (.v (.flt .f64 (fop .mul .f64 (fop .quo .f64 (fop .sub .f64 x106 (cz .f64 4607182418800017408)) (fop .add .f64 x106 (cz .f64 4607182418800017408))) (fop .quo .f64 (fop .sub .f64 x106 (cz .f64 4607182418800017408)) (fop .add .f64 x106 (cz .f64 4607182418800017408))))))) rfl ?_
      refine so_nil ?_
      refine fi_seq ?_
      refine fi_region ?_
      refine so_assign (v := (.v (.flt .f64 (cz .f64 0)))) rfl ?_
      refine so_nil ?_
      refine fi_seq ?_
      refine fi_seq ?_
      refine fi_region ?_
      refine so_assign (v := (.v (.flt .f64 (cz .f64 4627730092099895296)))) rfl ?_
      refine so_nil ?_
      refine fi_block ?_
      refine fi_loop ?_
      refine fi_at [(3, (.v (.flt .f64 e107))), (4, (.v (.flt .f64 (fop .quo .f64 (fop .sub .f64 x106 (cz .f64 4607182418800017408)) (fop .add .f64 x106 (cz .f64 4607182418800017408)))))), (5, (.v (.flt .f64 (fop .mul .f64 (fop .quo .f64 (fop .sub .f64 x106 (cz .f64 4607182418800017408)) (fop .add .f64 x106 (cz .f64 4607182418800017408))) (fop .quo .f64 (fop .sub .f64 x106 (cz .f64 4607182418800017408)) (fop .add .f64 x106 (cz .f64 4607182418800017408))))))), (6, (.v (.flt .f64 (cz .f64 0)))), (7, (.v (.flt .f64 (cz .f64 4627730092099895296))))] ⟨rfl, rfl, rfl, rfl, rfl, trivial⟩ ?_
      refine h (fun (q110 : Nat) (k111 : Nat) => ∀ (s : Nat → TV), Fin _ _ (updL s [(3, (.v (.flt .f64 e107))), (4, (.v (.flt .f64 (fop .quo .f64 (fop .sub .f64 x106 (cz .f64 4607182418800017408)) (fop .add .f64 x106 (cz .f64 4607182418800017408)))))), (5, (.v (.flt .f64 (fop .mul .f64 (fop .quo .f64 (fop .sub .f64 x106 (cz .f64 4607182418800017408)) (fop .add .f64 x106 (cz .f64 4607182418800017408))) (fop .quo .f64 (fop .sub .f64 x106 (cz .f64 4607182418800017408)) (fop .add .f64 x106 (cz .f64 4607182418800017408))))))), (6, (.v (.flt .f64 q110))), (7, (.v (.flt .f64 k111)))]) _ _) ?_ _
      intro q110 k111 h s113
      refine fi_inLoop ?_
      refine fi_seq ?_
      refine fi_seq ?_
      refine fi_region ?_
      refine so_move (v := (.v (.flt .f64 k111))) rfl ?_
      refine so_bin rfl rfl ab_fgeq ?_
      refine so_nil ?_
      replace h := ofT h; rcases h with ⟨c112, h⟩ | ⟨c112, h⟩
      · refine fi_true rfl c112 ?_
        refine fi_skip ?_
        refine fi_seq ?_
        refine fi_block ?_
        refine fi_region ?_
        refine so_move (v := (.v (.flt .f64 k111))) rfl ?_
        refine so_bin rfl rfl ab_fquo ?_
        refine so_move (v := (.v (.flt .f64 (fop .mul .f64 (fop .quo .f64 (fop .sub .f64 x106 (cz .f64 4607182418800017408)) (fop .add .f64 x106 (cz .f64 4607182418800017408))) (fop .quo .f64 (fop .sub .f64 x106 (cz .f64 4607182418800017408)) (fop .add .f64 x106 (cz .f64 4607182418800017408))))))) rfl ?_
        refine so_move (v := (.v (.flt .f64 q110))) rfl ?_
        refine so_bin rfl rfl ab_fmul ?_
        refine so_bin rfl rfl ab_fadd ?_
        refine so_assign (v := (.v (.flt .f64 (fop .add .f64 (fop .quo .f64 (cz .f64 4607182418800017408) k111) (fop .mul .f64 (fop .mul .f64 (fop .quo .f64 (fop .sub .f64 x106 (cz .f64 4607182418800017408)) (fop .add .f64 x106 (cz .f64 4607182418800017408))) (fop .quo .f64 (fop .sub .f64 x106 (cz .f64 4607182418800017408)) (fop .add .f64 x106 (cz .f64 4607182418800017408)))) q110))))) rfl ?_
        refine so_nil ?_
        refine fi_inBlock ?_
        refine fi_region ?_
        refine so_move (v := (.v (.flt .f64 k111))) rfl ?_
        refine so_bin rfl rfl ab_fsub ?_
        refine so_assign (v := (.v (.flt .f64 (fop .sub .f64 k111 (cz .f64 4611686018427387904))))) rfl ?_
        refine so_nil ?_
        exact fi_at [(3, (.v (.flt .f64 e107))), (4, (.v (.flt .f64 (fop .quo .f64 (fop .sub .f64 x106 (cz .f64 4607182418800017408)) (fop .add .f64 x106 (cz .f64 4607182418800017408)))))), (5, (.v (.flt .f64 (fop .mul .f64 (fop .quo .f64 (fop .sub .f64 x106 (cz .f64 4607182418800017408)) (fop .add .f64 x106 (cz .f64 4607182418800017408))) (fop .quo .f64 (fop .sub .f64 x106 (cz .f64 4607182418800017408)) (fop .add .f64 x106 (cz .f64 4607182418800017408))))))), (6, (.v (.flt .f64 (fop .add .f64 (fop .quo .f64 (cz .f64 4607182418800017408) k111) (fop .mul .f64 (fop .mul .f64 (fop .quo .f64 (fop .sub .f64 x106 (cz .f64 4607182418800017408)) (fop .add .f64 x106 (cz .f64 4607182418800017408))) (fop .quo .f64 (fop .sub .f64 x106 (cz .f64 4607182418800017408)) (fop .add .f64 x106 (cz .f64 4607182418800017408)))) q110))))), (7, (.v (.flt .f64 (fop .sub .f64 k111 (cz .f64 4611686018427387904)))))] ⟨rfl, rfl, rfl, rfl, rfl, trivial⟩ (h _)
      · refine fi_false rfl c112 ?_
        refine fi_exit rfl ?_
        refine fi_seq ?_
        refine fi_region ?_
        refine so_move (v := (.v (.flt .f64 (fop .quo .f64 (fop .sub .f64 x106 (cz .f64 4607182418800017408)) (fop .add .f64 x106 (cz .f64 4607182418800017408)))))) rfl ?_
        refine so_move (v := (.v (.flt .f64 q110))) rfl ?_
        refine so_bin rfl rfl ab_fmul ?_
        refine so_bin rfl rfl ab_fmul ?_
        refine so_move (v := (.v (.flt .f64 e107))) rfl ?_
        refine so_bin rfl rfl ab_fmul ?_
        refine so_bin rfl rfl ab_fadd ?_
        refine so_assign (v := (.v (.flt .f64 (fop .add .f64 (fop .mul .f64 (cz .f64 4611686018427387904) (fop .mul .f64 (fop .quo .f64 (fop .sub .f64 x106 (cz .f64 4607182418800017408)) (fop .add .f64 x106 (cz .f64 4607182418800017408))) q110)) (fop .mul .f64 e107 (cz .f64 4604418534313441775)))))) rfl ?_
        refine so_nil ?_
        exact by_ret rfl ⟨_, h, rfl, rfl⟩

end Go.Proofs.YtecdkjnomkdbkaaDoor.G

namespace Go.Proofs.YtecdkjnomkdbkaaDoor.G
open Go Go.Ab Go.Proofs Go.Proofs.YtecdkjnomkdbkaaDoor
set_option maxRecDepth 100000
set_option linter.unusedVariables false
set_option linter.unusedSimpArgs false
set_option maxHeartbeats 1000000
attribute [local irreducible] wops wopf Go.Ab.Fin
theorem F46.fl55 : tflt Tryd.prog 55 = some .f32 := by kernel_rfl
theorem F46.fl58 : tflt Tryd.prog 58 = some .f64 := by kernel_rfl
theorem F46.in55 : tint Tryd.prog 55 = none := by kernel_rfl
theorem F46.in58 : tint Tryd.prog 58 = none := by kernel_rfl
theorem F46.us55 : (Tryd.prog.underlying 55).isSome = true := by kernel_rfl
theorem F46.us58 : (Tryd.prog.underlying 58).isSome = true := by kernel_rfl
theorem impl_LogNumber_ok {fr : List Pc} {H : Heap} (a0 : Nat) (hs : Sep H (fr))  (K : Nat → Prop) (h : impl_LogNumber.wp a0 K) : OkQ Tryd.prog 46 [(.v (.flt .f32 a0))] H (fun r H2 => ∃ (y0 : Nat), K y0 ∧ r = (.v (.flt .f32 y0)) ∧ H = H2) := by
  unfold impl_LogNumber.wp at h
  refine of_body Tryd.f46 F.hm Tryd.func46 rfl Tryd.call46 (by kernel_rfl) (by simp) ?_
  refine fi_seq ?_
  refine fi_region ?_
  refine so_assign (v := (.v (.flt .f32 (cz .f32 0)))) rfl ?_
  refine so_nil ?_
  refine fi_seq ?_
  refine fi_block ?_
  refine fi_seq ?_
  refine fi_region ?_
  refine so_move (v := (.v (.flt .f32 a0))) rfl ?_
  refine so_bin rfl rfl ab_feql ?_
  refine so_assign (v := (.v (.bool (fcmp .eql .f32 a0 (cz .f32 0))))) rfl ?_
  refine so_nil ?_
  replace h := ofT h; rcases h with ⟨c101, h⟩ | ⟨c101, h⟩
  · refine fi_true rfl c101 ?_
    refine fi_seq ?_
    refine fi_region ?_
    refine sv_callS (math_Inf_ok (-1 : Int) hs  _ h) (fun _ _ ⟨_, _, _, e⟩ => e) rfl rfl ?_
    clear h
    rintro _ _ ⟨y102, h, rfl, rfl⟩
    obtain ⟨c104, h⟩ := h
    refine sv_ffn c104 rfl F46.us58 F46.in55 F46.fl55 ?_
    refine so_assign (v := (.v (.flt .f32 (narrow y102)))) rfl ?_
    refine so_nil ?_
    exact by_ret rfl ⟨_, h, rfl, rfl⟩
  · refine fi_false rfl c101 ?_
    refine fi_seq ?_
    refine fi_region ?_
    refine so_move (v := (.v (.flt .f32 a0))) rfl ?_
    refine so_bin rfl rfl ab_flss ?_
    refine so_move (v := (.v (.bool (fcmp .lss .f32 a0 (cz .f32 0))))) rfl ?_
    replace h := ofT h; rcases h with ⟨c105, h⟩ | ⟨c105, h⟩
    · refine so_gno rfl c105 ?_
      refine so_gno rfl c105 ?_
      refine so_gno rfl c105 ?_
      refine so_pick_t (v := (.v (.bool true))) rfl c105 rfl ?_
      refine so_assign (v := (.v (.bool true))) rfl ?_
      refine so_nil ?_
      refine fi_true rfl rfl ?_
      refine fi_seq ?_
      refine fi_region ?_
      refine sv_callS (math_NaN_ok  hs  _ h) (fun _ _ ⟨_, _, _, e⟩ => e) rfl rfl ?_
      clear h
      rintro _ _ ⟨y106, h, rfl, rfl⟩
      obtain ⟨c108, h⟩ := h
      refine sv_ffn c108 rfl F46.us58 F46.in55 F46.fl55 ?_
      refine so_assign (v := (.v (.flt .f32 (narrow y106)))) rfl ?_
      refine so_nil ?_
      exact by_ret rfl ⟨_, h, rfl, rfl⟩
    · refine so_gyes rfl c105 ?_
      refine so_move (v := (.v (.flt .f32 a0))) rfl ?_
      refine so_gyes rfl c105 ?_
      refine so_move (v := (.v (.flt .f32 a0))) rfl ?_
      refine so_gyes rfl c105 ?_
      refine so_bin rfl rfl ab_fneq ?_
      refine so_pick_f (v := (.v (.bool (fcmp .neq .f32 a0 a0)))) rfl c105 rfl ?_
      refine so_assign (v := (.v (.bool (fcmp .neq .f32 a0 a0)))) rfl ?_
      refine so_nil ?_
      replace h := ofT h; rcases h with ⟨c109, h⟩ | ⟨c109, h⟩
      · refine fi_true rfl c109 ?_
        refine fi_seq ?_
        refine fi_region ?_
        refine sv_callS (math_NaN_ok  hs  _ h) (fun _ _ ⟨_, _, _, e⟩ => e) rfl rfl ?_
        clear h
        rintro _ _ ⟨y110, h, rfl, rfl⟩
        obtain ⟨c112, h⟩ := h
        refine sv_ffn c112 rfl F46.us58 F46.in55 F46.fl55 ?_
        refine so_assign (v := (.v (.flt .f32 (narrow y110)))) rfl ?_
        refine so_nil ?_
        exact by_ret rfl ⟨_, h, rfl, rfl⟩
      · refine fi_false rfl c109 ?_
        refine fi_seq ?_
        refine fi_region ?_
        refine so_move (v := (.v (.flt .f32 a0))) rfl ?_
        refine sv_callS (impl_IsFinite_ok a0 hs  _ h) (fun _ _ ⟨_, _, _, e⟩ => e) rfl rfl ?_
        clear h
        rintro _ _ ⟨y113, h, rfl, rfl⟩
        refine so_un rfl au_not ?_
        refine so_assign (v := (.v (.bool (!y113)))) rfl ?_
        refine so_nil ?_
        replace h := ofT h; rcases h with ⟨c115, h⟩ | ⟨c115, h⟩
        · refine fi_false rfl (not_f c115) ?_
          refine fi_skip ?_
          refine fi_inBlock ?_
          refine fi_seq ?_
          refine fi_region ?_
          refine so_move (v := (.v (.flt .f32 a0))) rfl ?_
          refine sv_ffw rfl F46.us55 F46.in58 F46.fl58 ?_
          refine sv_callS (impl_naturalLog_ok (widen a0) hs  _ h) (fun _ _ ⟨_, _, _, e⟩ => e) rfl rfl ?_
          clear h
          rintro _ _ ⟨y116, h, rfl, rfl⟩
          obtain ⟨c118, h⟩ := h
          refine sv_ffn c118 rfl F46.us58 F46.in55 F46.fl55 ?_
          refine so_assign (v := (.v (.flt .f32 (narrow y116)))) rfl ?_
          refine so_nil ?_
          exact by_ret rfl ⟨_, h, rfl, rfl⟩
        · refine fi_true rfl (not_t c115) ?_
          refine fi_seq ?_
          refine fi_region ?_
          refine so_move (v := (.v (.flt .f32 a0))) rfl ?_
          refine so_assign (v := (.v (.flt .f32 a0))) rfl ?_
          refine so_nil ?_
          exact by_ret rfl ⟨_, h, rfl, rfl⟩

end Go.Proofs.YtecdkjnomkdbkaaDoor.G

namespace Go.Proofs.YtecdkjnomkdbkaaDoor.G
open Go Go.Ab Go.Proofs Go.Proofs.YtecdkjnomkdbkaaDoor
set_option maxRecDepth 100000
set_option linter.unusedVariables false
set_option linter.unusedSimpArgs false
set_option maxHeartbeats 1000000
attribute [local irreducible] wops wopf Go.Ab.Fin
theorem impl_finite_ok {fr : List Pc} {H : Heap} (a0 : Nat) (hs : Sep H (fr))  (K : Nat → Bool → Prop) (h : impl_finite.wp a0 K) : OkQ Tryd.prog 47 [(.v (.flt .f32 a0))] H (fun r H2 => ∃ (y0 : Nat) (y1 : Bool), K y0 y1 ∧ r = (.t [(.v (.flt .f32 y0)), (.v (.bool y1))]) ∧ H = H2) := by
  unfold impl_finite.wp at h
  refine of_body Tryd.f47 F.hm Tryd.func47 rfl Tryd.call47 (by kernel_rfl) (by simp) ?_
  refine fi_seq ?_
  refine fi_region ?_
  refine so_assign (v := (.v (.flt .f32 (cz .f32 0)))) rfl ?_
  refine so_assign (v := (.v (.bool false))) rfl ?_
  refine so_nil ?_
  refine fi_seq ?_
  refine fi_seq ?_
  refine fi_region ?_
  refine so_move (v := (.v (.flt .f32 a0))) rfl ?_
  refine sv_callS (impl_IsFinite_ok a0 hs  _ h) (fun _ _ ⟨_, _, _, e⟩ => e) rfl rfl ?_
  clear h
  rintro _ _ ⟨y101, h, rfl, rfl⟩
  refine so_un rfl au_not ?_
  refine so_nil ?_
  replace h := ofT h; rcases h with ⟨c103, h⟩ | ⟨c103, h⟩
  · refine fi_false rfl (not_f c103) ?_
    refine fi_skip ?_
    refine fi_seq ?_
    refine fi_region ?_
    refine so_move (v := (.v (.flt .f32 a0))) rfl ?_
    refine so_assign (v := (.v (.flt .f32 a0))) rfl ?_
    refine so_assign (v := (.v (.bool true))) rfl ?_
    refine so_nil ?_
    exact by_ret rfl ⟨_, _, h, rfl, rfl⟩
  · refine fi_true rfl (not_t c103) ?_
    refine fi_seq ?_
    refine fi_region ?_
    refine so_assign (v := (.v (.flt .f32 (cz .f32 0)))) rfl ?_
    refine so_assign (v := (.v (.bool false))) rfl ?_
    refine so_nil ?_
    exact by_ret rfl ⟨_, _, h, rfl, rfl⟩

end Go.Proofs.YtecdkjnomkdbkaaDoor.G

namespace Go.Proofs.YtecdkjnomkdbkaaDoor.G
open Go Go.Ab Go.Proofs Go.Proofs.YtecdkjnomkdbkaaDoor
set_option maxRecDepth 100000
set_option linter.unusedVariables false
set_option linter.unusedSimpArgs false
set_option maxHeartbeats 1000000
attribute [local irreducible] wops wopf Go.Ab.Fin
theorem F27.ag2 : tagg Tryd.prog 2 = some false := by kernel_rfl
theorem F27.fl55 : tflt Tryd.prog 55 = some .f32 := by kernel_rfl
theorem F27.in55 : tint Tryd.prog 55 = none := by kernel_rfl
theorem F27.sz2 : tsz Tryd.prog 2 = some 1 := by kernel_rfl
theorem F27.ta31_31 : tapp Tryd.prog 31 31 = some (1, 8) := by kernel_rfl
theorem F27.te31 : telem Tryd.prog 31 = some 2 := by kernel_rfl
theorem F27.ti31 : (telem Tryd.prog 31).isSome = true := by kernel_rfl
theorem F27.tl31 : (telem Tryd.prog 31).bind (tsz Tryd.prog) = some 1 := by kernel_rfl
theorem F27.tm81 : tmapi Tryd.prog 81 = some (.i64, .i64) := by kernel_rfl
theorem F27.us3 : (Tryd.prog.underlying 3).isSome = true := by kernel_rfl
theorem F27.ze2 : tzero Tryd.prog 2 = some [(.int .i64 (0 : Int))] := by kernel_rfl
theorem impl_EntropyOf_ok {fr : List Pc} {H : Heap} (v0 : AV) (l0 : List (Int)) (hs : Sep H (fr)) (g0 : ∀ H, Sep H fr → Shows H v0 1 (enc (eInt .i64) l0)) (K : Nat → Bool → Prop) (h : impl_EntropyOf.wp l0 K) : OkQ Tryd.prog 27 [(.v v0)] H (fun r H2 => ∃ (y0 : Nat) (y1 : Bool), K y0 y1 ∧ r = (.t [(.v (.flt .f32 y0)), (.v (.bool y1))]) ∧ Sep H2 (fr)) := by
  unfold impl_EntropyOf.wp at h
  refine of_body Tryd.f27 F.hm Tryd.func27 rfl Tryd.call27 (by kernel_rfl) (by simp) ?_
  refine fi_seq ?_
  refine fi_region ?_
  refine so_assign (v := (.v (.flt .f32 (cz .f32 0)))) rfl ?_
  refine so_assign (v := (.v (.bool false))) rfl ?_
  refine so_nil ?_
  refine fi_seq ?_
  refine fi_seq ?_
  refine fi_region ?_
  refine so_move (v := (.v v0)) rfl ?_
  refine sv_callS (impl_AreIntegers_ok v0 l0 hs (fun _ hs => (g0 _ hs)) _ h) (fun _ _ ⟨_, _, _, e⟩ => e) rfl rfl ?_
  clear h
  rintro _ _ ⟨y101, h, rfl, rfl⟩
  refine so_un rfl au_not ?_
  refine so_nil ?_
  replace h := ofT h; rcases h with ⟨c103, h⟩ | ⟨c103, h⟩
  · refine fi_false rfl (not_f c103) ?_
    refine fi_skip ?_
    refine fi_seq ?_
    refine fi_region ?_
    refine sv_makeMap hs F27.tm81 nofun (fun id104 H105 hs => ?_)
    refine so_assign (v := (.v (.mref id104))) rfl ?_
    refine so_nil ?_
    refine fi_seq ?_
    refine fi_region ?_
    refine sv_bslice hs (eInt .i64) ([] : List (Int)) [] F27.te31 F27.sz2 F27.ze2 rfl rfl rfl rfl (fun _ => rfl) rfl (by decide) nofun (fun v107 H108 nv107 hs => ?_)
    refine so_assign (v := (.v v107)) rfl ?_
    refine so_nil ?_
    refine fi_seq ?_
    refine fi_seq ?_
    refine fi_region ?_
    refine so_move (v := (.v v0)) rfl ?_
    refine sv_len (g0 _ hs.tl.tl) (fun _ => rfl) (by decide) rfl F27.ti31 ?_
    refine so_move (v := (.v (.int .i64 (0 : Int)))) rfl ?_
    refine so_nil ?_
    refine fi_block ?_
    refine fi_loop ?_
    refine fi_at [(0, (.v v0)), (4, (.v (.mref id104))), (5, (.v v107)), (17, (.v v0)), (18, (.v (.int .i64 (l0.length : Int)))), (19, (.v (.int .i64 (0 : Int))))] ⟨rfl, rfl, rfl, rfl, rfl, rfl, trivial⟩ ?_
    refine h (fun (order144 : List (Int)) (m146 : List (Int × Int)) (x147 : Int) => ∀ (s : Nat → TV) (H : Heap) (v145 : AV) (nv145 : v145 ≠ .nilsl), Sep H (Pc.osl v145 1 (enc (eInt .i64) order144) :: Pc.mp id104 .i64 .i64 m146 :: fr) → Fin _ _ (updL s [(0, (.v v0)), (4, (.v (.mref id104))), (5, (.v v145)), (17, (.v v0)), (18, (.v (.int .i64 (l0.length : Int)))), (19, (.v (.int .i64 x147)))]) H _) ?_ _ _ _ nv107 hs
    intro order144 m146 x147 h s177 H178 v145 nv145 hs
    refine fi_inLoop ?_
    refine fi_seq ?_
    refine fi_region ?_
    refine so_bin rfl rfl ab_lss ?_
    refine so_nil ?_
    refine fi_seq ?_
    replace h := ofP h; rcases h with ⟨c148, h⟩ | ⟨c148, h⟩
    · refine fi_true rfl (decide_eq_true c148) ?_
      refine fi_skip ?_
      refine fi_seq ?_
      refine fi_block ?_
      refine fi_seq ?_
      refine fi_region ?_
      obtain ⟨c149, h⟩ := h
      refine sv_idx (g0 _ hs.tl.tl) c149 (fun _ => rfl) (by decide) rfl rfl F27.tl31 ?_
      refine sv_cell (g0 _ hs.tl.tl) c149 (0 : Int) 0 (fun x => (AV.int .i64 x)) (fun _ => rfl) (fun _ => rfl) rfl F27.ag2 ?_
      refine so_assign (v := (.v (.int .i64 (l0.getD (x147).toNat (0 : Int))))) rfl ?_
      refine so_nil ?_
      refine fi_seq ?_
      refine fi_seq ?_
      refine fi_region ?_
      refine so_move (v := (.v (.mref id104))) rfl ?_
      refine so_move (v := (.v (.int .i64 (l0.getD (x147).toNat (0 : Int))))) rfl ?_
      obtain ⟨c150, h⟩ := h
      refine sv_lookup hs 1 rfl F27.tm81 rfl rfl (wf_i64 c150) ?_
      refine so_bin rfl rfl ab_eql ?_
      refine so_nil ?_
      replace h := ofP h; rcases h with ⟨c151, h⟩ | ⟨c151, h⟩
      · refine fi_true rfl (decide_eq_true c151) ?_
        refine fi_region ?_
        refine so_move (v := (.v v145)) rfl ?_
        refine so_move (v := (.v (.int .i64 (l0.getD (x147).toNat (0 : Int))))) rfl ?_
        refine sv_bslice hs (eInt .i64) ([(l0.getD (x147).toNat (0 : Int))] : List (Int)) [[(.int .i64 (l0.getD (x147).toNat (0 : Int)))]] F27.te31 F27.sz2 F27.ze2 rfl rfl rfl rfl (fun _ => rfl) rfl (by decide) nofun (fun v152 H153 nv152 hs => ?_)
        obtain ⟨c157, h⟩ := h
        refine sv_app hs 1 rfl (hs.shows 0 rfl) (fun _ => rfl) (by decide) F27.ta31_31 (by decide) c157 rfl rfl nofun (fun v155 H156 kv155 hs => ?_)
        replace hs := hs.del 0
        have nv155 := kv155 nv145
        refine so_assign (v := (.v v155)) rfl ?_
        refine so_nil ?_
        refine fi_region ?_
        refine so_move (v := (.v (.mref id104))) rfl ?_
        refine so_move (v := (.v (.int .i64 (l0.getD (x147).toNat (0 : Int))))) rfl ?_
        refine sv_lookup hs 1 rfl F27.tm81 rfl rfl (wf_i64 c150) ?_
        refine so_bin rfl rfl ab_add ?_
        obtain ⟨c158, h⟩ := h
        obtain ⟨c159, h⟩ := h
        refine sv_mapUpdate hs 1 rfl F27.tm81 rfl rfl rfl (wf_i64 c150) (wf_i64 c158) c159 nofun (fun H160 hs => ?_)
        refine so_nil ?_
        refine fi_inBlock ?_
        refine fi_region ?_
        refine so_bin rfl rfl ab_add ?_
        refine so_move (v := (.v (.int .i64 (IntKind.i64.wrap (x147 + (1 : Int)))))) rfl ?_
        refine so_nil ?_
        exact fi_at [(0, (.v v0)), (4, (.v (.mref id104))), (5, (.v v155)), (17, (.v v0)), (18, (.v (.int .i64 (l0.length : Int)))), (19, (.v (.int .i64 (IntKind.i64.wrap (x147 + (1 : Int))))))] ⟨rfl, rfl, rfl, rfl, rfl, rfl, trivial⟩ (h _ _ _ nv155 hs)
      · refine fi_false rfl (decide_eq_false c151) ?_
        refine fi_skip ?_
        refine fi_region ?_
        refine so_move (v := (.v (.mref id104))) rfl ?_
        refine so_move (v := (.v (.int .i64 (l0.getD (x147).toNat (0 : Int))))) rfl ?_
        refine sv_lookup hs 1 rfl F27.tm81 rfl rfl (wf_i64 c150) ?_
        refine so_bin rfl rfl ab_add ?_
        obtain ⟨c161, h⟩ := h
        obtain ⟨c162, h⟩ := h
        refine sv_mapUpdate hs 1 rfl F27.tm81 rfl rfl rfl (wf_i64 c150) (wf_i64 c161) c162 nofun (fun H163 hs => ?_)
        refine so_nil ?_
        refine fi_inBlock ?_
        refine fi_region ?_
        refine so_bin rfl rfl ab_add ?_
        refine so_move (v := (.v (.int .i64 (IntKind.i64.wrap (x147 + (1 : Int)))))) rfl ?_
        refine so_nil ?_
        exact fi_at [(0, (.v v0)), (4, (.v (.mref id104))), (5, (.v v145)), (17, (.v v0)), (18, (.v (.int .i64 (l0.length : Int)))), (19, (.v (.int .i64 (IntKind.i64.wrap (x147 + (1 : Int))))))] ⟨rfl, rfl, rfl, rfl, rfl, rfl, trivial⟩ (h _ _ _ nv145 hs)
    · refine fi_false rfl (decide_eq_false c148) ?_
      refine fi_exit rfl ?_
      refine fi_seq ?_
      refine fi_region ?_
      refine so_assign (v := (.v (.flt .f32 (cz .f32 0)))) rfl ?_
      refine so_nil ?_
      refine fi_seq ?_
      refine fi_seq ?_
      refine fi_region ?_
      refine so_move (v := (.v v145)) rfl ?_
      refine sv_len (hs.shows 0 rfl) (fun _ => rfl) (by decide) rfl F27.ti31 ?_
      refine so_move (v := (.v (.int .i64 (0 : Int)))) rfl ?_
      refine so_nil ?_
      refine fi_block ?_
      refine fi_loop ?_
      refine fi_at [(0, (.v v0)), (4, (.v (.mref id104))), (8, (.v (.flt .f32 (cz .f32 0)))), (36, (.v v145)), (37, (.v (.int .i64 (order144.length : Int)))), (38, (.v (.int .i64 (0 : Int))))] ⟨rfl, rfl, rfl, rfl, rfl, rfl, trivial⟩ ?_
      refine h (fun (sum165 : Nat) (x166 : Int) => ∀ (s : Nat → TV) (H : Heap), Sep H (Pc.osl v145 1 (enc (eInt .i64) order144) :: Pc.mp id104 .i64 .i64 m146 :: fr) → Fin _ _ (updL s [(0, (.v v0)), (4, (.v (.mref id104))), (8, (.v (.flt .f32 sum165))), (36, (.v v145)), (37, (.v (.int .i64 (order144.length : Int)))), (38, (.v (.int .i64 x166)))]) H _) ?_ _ _ hs
      intro sum165 x166 h s175 H176 hs
      refine fi_inLoop ?_
      refine fi_seq ?_
      refine fi_region ?_
      refine so_bin rfl rfl ab_lss ?_
      refine so_nil ?_
      refine fi_seq ?_
      replace h := ofP h; rcases h with ⟨c167, h⟩ | ⟨c167, h⟩
      · refine fi_true rfl (decide_eq_true c167) ?_
        refine fi_skip ?_
        refine fi_seq ?_
        refine fi_block ?_
        refine fi_seq ?_
        refine fi_region ?_
        obtain ⟨c168, h⟩ := h
        refine sv_idx (hs.shows 0 rfl) c168 (fun _ => rfl) (by decide) rfl rfl F27.tl31 ?_
        refine sv_cell (hs.shows 0 rfl) c168 (0 : Int) 0 (fun x => (AV.int .i64 x)) (fun _ => rfl) (fun _ => rfl) rfl F27.ag2 ?_
        refine so_assign (v := (.v (.int .i64 (order144.getD (x166).toNat (0 : Int))))) rfl ?_
        refine so_nil ?_
        refine fi_seq ?_
        refine fi_region ?_
        refine so_move (v := (.v (.mref id104))) rfl ?_
        refine so_move (v := (.v (.int .i64 (order144.getD (x166).toNat (0 : Int))))) rfl ?_
        obtain ⟨c169, h⟩ := h
        refine sv_lookup hs 1 rfl F27.tm81 rfl rfl (wf_i64 c169) ?_
        refine sv_if rfl F27.us3 F27.in55 F27.fl55 ?_
        refine so_move (v := (.v v0)) rfl ?_
        refine sv_len (g0 _ hs.tl.tl) (fun _ => rfl) (by decide) rfl F27.ti31 ?_
        refine sv_if rfl F27.us3 F27.in55 F27.fl55 ?_
        refine so_bin rfl rfl ab_fquo ?_
        refine so_assign (v := (.v (.flt .f32 (fop .quo .f32 (itof .f32 (mpGet m146 (order144.getD (x166).toNat (0 : Int)))) (itof .f32 (l0.length : Int)))))) rfl ?_
        refine so_nil ?_
        refine fi_region ?_
        refine so_move (v := (.v (.flt .f32 sum165))) rfl ?_
        refine so_move (v := (.v (.flt .f32 (fop .quo .f32 (itof .f32 (mpGet m146 (order144.getD (x166).toNat (0 : Int)))) (itof .f32 (l0.length : Int)))))) rfl ?_
        refine so_move (v := (.v (.flt .f32 (fop .quo .f32 (itof .f32 (mpGet m146 (order144.getD (x166).toNat (0 : Int)))) (itof .f32 (l0.length : Int)))))) rfl ?_
        refine sv_callS (impl_LogNumber_ok (fop .quo .f32 (itof .f32 (mpGet m146 (order144.getD (x166).toNat (0 : Int)))) (itof .f32 (l0.length : Int))) hs  _ h) (fun _ _ ⟨_, _, _, e⟩ => e) rfl rfl ?_
        clear h
        rintro _ _ ⟨y170, h, rfl, rfl⟩
        refine so_bin rfl rfl ab_fmul ?_
        refine so_bin rfl rfl ab_fadd ?_
        refine so_assign (v := (.v (.flt .f32 (fop .add .f32 sum165 (fop .mul .f32 (fop .quo .f32 (itof .f32 (mpGet m146 (order144.getD (x166).toNat (0 : Int)))) (itof .f32 (l0.length : Int))) y170))))) rfl ?_
        refine so_nil ?_
        refine fi_inBlock ?_
        refine fi_region ?_
        refine so_bin rfl rfl ab_add ?_
        refine so_move (v := (.v (.int .i64 (IntKind.i64.wrap (x166 + (1 : Int)))))) rfl ?_
        refine so_nil ?_
        exact fi_at [(0, (.v v0)), (4, (.v (.mref id104))), (8, (.v (.flt .f32 (fop .add .f32 sum165 (fop .mul .f32 (fop .quo .f32 (itof .f32 (mpGet m146 (order144.getD (x166).toNat (0 : Int)))) (itof .f32 (l0.length : Int))) y170))))), (36, (.v v145)), (37, (.v (.int .i64 (order144.length : Int)))), (38, (.v (.int .i64 (IntKind.i64.wrap (x166 + (1 : Int))))))] ⟨rfl, rfl, rfl, rfl, rfl, rfl, trivial⟩ (h _ _  hs)
      · refine fi_false rfl (decide_eq_false c167) ?_
        refine fi_exit rfl ?_
        refine fi_seq ?_
        refine fi_region ?_
        refine so_move (v := (.v (.flt .f32 sum165))) rfl ?_
        refine so_un rfl au_fneg' ?_
        refine so_bin rfl rfl ab_fquo ?_
        refine sv_callS (impl_finite_ok (fop .quo .f32 (fneg .f32 sum165) (cz .f32 1060205080)) hs  _ h) (fun _ _ ⟨_, _, _, _, e⟩ => e) rfl rfl ?_
        clear h
        rintro _ _ ⟨y172, y173, h, rfl, rfl⟩
        refine so_extract rfl rfl rfl ?_
        refine so_extract rfl rfl rfl ?_
        refine so_assign (v := (.v (.flt .f32 y172))) rfl ?_
        refine so_assign (v := (.v (.bool y173))) rfl ?_
        refine so_nil ?_
        exact by_ret rfl ⟨_, _, h, rfl, (Sep.del 0 (Sep.del 0 hs))⟩
  · refine fi_true rfl (not_t c103) ?_
    refine fi_seq ?_
    refine fi_region ?_
    refine so_assign (v := (.v (.flt .f32 (cz .f32 0)))) rfl ?_
    refine so_assign (v := (.v (.bool false))) rfl ?_
    refine so_nil ?_
    exact by_ret rfl ⟨_, _, h, rfl, hs⟩
theorem impl_EntropyOf_okS {fr : List Pc} {H : Heap} (v0 : AV) (l0 : List (Int)) (hs : Sep H fr) (g0 : ∀ H, Sep H fr → Shows H v0 1 (enc (eInt .i64) l0)) (K : Nat → Bool → Prop) (h : impl_EntropyOf.wp l0 K) : OkQ Tryd.prog 27 [(.v v0)] H (fun r H2 => ∃ (y0 : Nat) (y1 : Bool), K y0 y1 ∧ r = (.t [(.v (.flt .f32 y0)), (.v (.bool y1))]) ∧ H = H2) := by
  obtain ⟨r, H2, h1, y0, y1, hK, hr, hsep⟩ := impl_EntropyOf_ok (fr := came H) (H := H) v0 l0 (came_sep H) (came_shows (g0 H hs)) K h
  have hk : H.n ≤ H2.n ∧ ∀ i, i < H.n → H2.f i = H.f i := hsep.1.2.1
  exact ⟨r, H, h1.forget hk.1 hk.2 (by subst hr; rfl), y0, y1, hK, hr, rfl⟩

end Go.Proofs.YtecdkjnomkdbkaaDoor.G

