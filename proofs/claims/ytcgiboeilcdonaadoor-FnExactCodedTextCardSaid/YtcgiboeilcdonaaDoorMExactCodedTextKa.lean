/-
  The model ends so. Printed by a program of the session; nothing here is trusted.
-/
import Derived.Test.YtcgiboeilcdonaaDoorProg
import Derived.KernelRfl
import Derived.Test.YtcgiboeilcdonaaDoorMExactCodedTextWa
import Derived.Test.YtcgiboeilcdonaaDoorShelf
namespace Go.Proofs.YtcgiboeilcdonaaDoor.F
open Go Go.Ab Go.Proofs
set_option maxRecDepth 100000
set_option linter.unusedVariables false
set_option linter.unusedSimpArgs false
set_option maxHeartbeats 1000000
theorem hm : Tryd.prog.follows .mixedOrders = true := by kernel_rfl
def tab4 : Obj → Prop := showsTab Tryd.prog "internal/strconv.uint64pow10" .u64 Lib.pow10Tab 4
def tab8 : Obj → Prop := showsTab Tryd.prog "math/bits.deBruijn64tab" .u8 (Lib.deBruijn64tab.map Int.ofNat) 8
end Go.Proofs.YtcgiboeilcdonaaDoor.F

namespace Go.Proofs.YtcgiboeilcdonaaDoor.G
open Go Go.Ab Go.Proofs Go.Proofs.YtcgiboeilcdonaaDoor
set_option maxRecDepth 100000
set_option linter.unusedVariables false
set_option linter.unusedSimpArgs false
set_option maxHeartbeats 1000000
attribute [local irreducible] wops wopf Go.Ab.Fin
theorem F60.ti22 : (telem Tryd.prog 22).isSome = true := by kernel_rfl
theorem laws_szBoolS_ok {fr : List Pc} {H : Heap} (v0 : AV) (l0 : List (Bool)) (a1 : Int) (hs : Sep H (fr)) (g0 : ∀ H, Sep H fr → Shows H v0 1 (enc eBool l0)) (K : Int → Prop) (h : laws_szBoolS.wp l0 a1 K) : OkQ Tryd.prog 60 [(.v v0), (.v (.int .i64 a1))] H (fun r H2 => ∃ (y0 : Int), K y0 ∧ r = (.v (.int .i64 y0)) ∧ H = H2) := by
  unfold laws_szBoolS.wp at h
  refine of_body Tryd.f60 F.hm Tryd.func60 rfl Tryd.call60 (by kernel_rfl) (by simp) ?_
  refine fi_seq ?_
  refine fi_region ?_
  refine so_assign (v := (.v (.int .i64 (0 : Int)))) rfl ?_
  refine so_nil ?_
  refine fi_seq ?_
  refine fi_region ?_
  refine so_move (v := (.v (.int .i64 a1))) rfl ?_
  refine so_move (v := (.v v0)) rfl ?_
  refine sv_len (g0 _ hs) (fun _ => rfl) (by decide) rfl F60.ti22 ?_
  refine so_bin rfl rfl ab_sub ?_
  refine so_assign (v := (.v (.int .i64 (IntKind.i64.wrap (a1 - (l0.length : Int)))))) rfl ?_
  refine so_nil ?_
  refine fi_seq ?_
  refine fi_seq ?_
  refine fi_region ?_
  refine so_move (v := (.v (.int .i64 (IntKind.i64.wrap (a1 - (l0.length : Int)))))) rfl ?_
  refine so_bin rfl rfl ab_lss ?_
  refine so_nil ?_
  replace h := ofP h; rcases h with ⟨c101, h⟩ | ⟨c101, h⟩
  · refine fi_true rfl (decide_eq_true c101) ?_
    refine fi_seq ?_
    refine fi_region ?_
    refine so_assign (v := (.v (.int .i64 (-1 : Int)))) rfl ?_
    refine so_nil ?_
    exact by_ret rfl ⟨_, h, rfl, rfl⟩
  · refine fi_false rfl (decide_eq_false c101) ?_
    refine fi_skip ?_
    refine fi_seq ?_
    refine fi_region ?_
    refine so_move (v := (.v (.int .i64 (IntKind.i64.wrap (a1 - (l0.length : Int)))))) rfl ?_
    refine so_assign (v := (.v (.int .i64 (IntKind.i64.wrap (a1 - (l0.length : Int)))))) rfl ?_
    refine so_nil ?_
    exact by_ret rfl ⟨_, h, rfl, rfl⟩

end Go.Proofs.YtcgiboeilcdonaaDoor.G

namespace Go.Proofs.YtcgiboeilcdonaaDoor.G
open Go Go.Ab Go.Proofs Go.Proofs.YtcgiboeilcdonaaDoor
set_option maxRecDepth 100000
set_option linter.unusedVariables false
set_option linter.unusedSimpArgs false
set_option maxHeartbeats 1000000
attribute [local irreducible] wops wopf Go.Ab.Fin
theorem F25.ag22 : tagg Tryd.prog 22 = some false := by kernel_rfl
theorem F25.fd38_2 : tfield Tryd.prog 38 2 = some (2, 1, false) := by kernel_rfl
theorem F25.inf38 : (Tryd.prog.info? 38).isSome = true := by kernel_rfl
theorem laws_szCoded_ok {fr : List Pc} {H : Heap} (a0 : Int) (a1 : Int) (v2 : AV) (l2 : List (Bool)) (a3 : Int) (hs : Sep H (fr)) (g2 : ∀ H, Sep H fr → Shows H v2 1 (enc eBool l2)) (K : Int → Prop) (h : laws_szCoded.wp a0 a1 l2 a3 K) : OkQ Tryd.prog 25 [(.g [(.int .i64 a0), (.int .i64 a1), v2]), (.v (.int .i64 a3))] H (fun r H2 => ∃ (y0 : Int), K y0 ∧ r = (.v (.int .i64 y0)) ∧ Sep H2 (fr)) := by
  unfold laws_szCoded.wp at h
  refine of_body Tryd.f25 F.hm Tryd.func25 rfl Tryd.call25 (by kernel_rfl) (by simp) ?_
  refine fi_seq ?_
  refine fi_region ?_
  refine sv_box hs rfl (c := [(.int .i64 a0), (.int .i64 a1), v2]) rfl F25.inf38 (stc rfl (stc rfl (stc (g2 _ hs).stor stn))) nofun (fun id101 H102 hs => ?_)
  refine so_assign (v := (.v (.int .i64 (0 : Int)))) rfl ?_
  refine so_nil ?_
  refine fi_seq ?_
  refine fi_region ?_
  refine so_fieldAddr rfl F25.fd38_2 ?_
  refine sv_ld hs 0 rfl rfl rfl F25.ag22 ?_
  refine so_move (v := (.v (.int .i64 a3))) rfl ?_
  refine sv_callS (laws_szBoolS_ok v2 l2 a3 hs (fun _ hs => (g2 _ hs.tl)) _ h) (fun _ _ ⟨_, _, _, e⟩ => e) rfl rfl ?_
  clear h
  rintro _ _ ⟨y104, h, rfl, rfl⟩
  refine so_assign (v := (.v (.int .i64 y104))) rfl ?_
  refine so_nil ?_
  refine fi_seq ?_
  refine fi_seq ?_
  refine fi_region ?_
  refine so_move (v := (.v (.int .i64 y104))) rfl ?_
  refine so_bin rfl rfl ab_lss ?_
  refine so_nil ?_
  replace h := ofP h; rcases h with ⟨c106, h⟩ | ⟨c106, h⟩
  · refine fi_true rfl (decide_eq_true c106) ?_
    refine fi_seq ?_
    refine fi_region ?_
    refine so_assign (v := (.v (.int .i64 (-1 : Int)))) rfl ?_
    refine so_nil ?_
    exact by_ret rfl ⟨_, h, rfl, (Sep.del 0 hs)⟩
  · refine fi_false rfl (decide_eq_false c106) ?_
    refine fi_skip ?_
    refine fi_seq ?_
    refine fi_region ?_
    refine so_move (v := (.v (.int .i64 y104))) rfl ?_
    refine so_assign (v := (.v (.int .i64 y104))) rfl ?_
    refine so_nil ?_
    exact by_ret rfl ⟨_, h, rfl, (Sep.del 0 hs)⟩

end Go.Proofs.YtcgiboeilcdonaaDoor.G

namespace Go.Proofs.YtcgiboeilcdonaaDoor.G
open Go Go.Ab Go.Proofs Go.Proofs.YtcgiboeilcdonaaDoor
set_option maxRecDepth 100000
set_option linter.unusedVariables false
set_option linter.unusedSimpArgs false
set_option maxHeartbeats 1000000
attribute [local irreducible] wops wopf Go.Ab.Fin
theorem spec_l00In_ok {fr : List Pc} {H : Heap} (a0 : Int) (a1 : Int) (a2 : Int) (hs : Sep H (fr))  (K : Bool → Prop) (h : spec_l00In.wp a0 a1 a2 K) : OkQ Tryd.prog 101 [(.v (.int .i64 a0)), (.v (.int .i64 a1)), (.v (.int .i64 a2))] H (fun r H2 => ∃ (y0 : Bool), K y0 ∧ r = (.v (.bool y0)) ∧ H = H2) := by
  unfold spec_l00In.wp at h
  refine of_body Tryd.f101 F.hm Tryd.func101 rfl Tryd.call101 (by kernel_rfl) (by simp) ?_
  refine fi_seq ?_
  refine fi_region ?_
  refine so_assign (v := (.v (.bool false))) rfl ?_
  refine so_nil ?_
  refine fi_seq ?_
  refine fi_region ?_
  refine so_move (v := (.v (.int .i64 a0))) rfl ?_
  refine so_move (v := (.v (.int .i64 a1))) rfl ?_
  refine so_bin rfl rfl ab_geq ?_
  refine so_move (v := (.v (.bool (decide (a1 ≤ a0))))) rfl ?_
  replace h := ofP h; rcases h with ⟨c101, h⟩ | ⟨c101, h⟩
  · refine so_gyes rfl (decide_eq_true c101) ?_
    refine so_move (v := (.v (.int .i64 a0))) rfl ?_
    refine so_gyes rfl (decide_eq_true c101) ?_
    refine so_move (v := (.v (.int .i64 a2))) rfl ?_
    refine so_gyes rfl (decide_eq_true c101) ?_
    refine so_bin rfl rfl ab_leq ?_
    refine so_pick_t (v := (.v (.bool (decide (a0 ≤ a2))))) rfl (decide_eq_true c101) rfl ?_
    refine so_assign (v := (.v (.bool (decide (a0 ≤ a2))))) rfl ?_
    refine so_nil ?_
    exact by_ret rfl ⟨_, h, rfl, rfl⟩
  · refine so_gno rfl (decide_eq_false c101) ?_
    refine so_gno rfl (decide_eq_false c101) ?_
    refine so_gno rfl (decide_eq_false c101) ?_
    refine so_pick_f (v := (.v (.bool false))) rfl (decide_eq_false c101) rfl ?_
    refine so_assign (v := (.v (.bool false))) rfl ?_
    refine so_nil ?_
    exact by_ret rfl ⟨_, h, rfl, rfl⟩

end Go.Proofs.YtcgiboeilcdonaaDoor.G

namespace Go.Proofs.YtcgiboeilcdonaaDoor.G
open Go Go.Ab Go.Proofs Go.Proofs.YtcgiboeilcdonaaDoor
set_option maxRecDepth 100000
set_option linter.unusedVariables false
set_option linter.unusedSimpArgs false
set_option maxHeartbeats 1000000
attribute [local irreducible] wops wopf Go.Ab.Fin
theorem F61.ag2 : tagg Tryd.prog 2 = some false := by kernel_rfl
theorem F61.ag22 : tagg Tryd.prog 22 = some false := by kernel_rfl
theorem F61.fd41_0 : tfield Tryd.prog 41 0 = some (0, 1, false) := by kernel_rfl
theorem F61.fd41_1 : tfield Tryd.prog 41 1 = some (1, 1, false) := by kernel_rfl
theorem F61.fd41_2 : tfield Tryd.prog 41 2 = some (2, 1, false) := by kernel_rfl
theorem F61.ti22 : (telem Tryd.prog 22).isSome = true := by kernel_rfl
theorem spec_l06Is_ok {fr : List Pc} {H : Heap} (i0 o0 : Nat) (a0 : Int) (a1 : Int) (v2 : AV) (l2 : List (Bool)) (hs : Sep H (fr)) (g2 : ∀ H, Sep H fr → Shows H v2 1 (enc eBool l2)) (q0 : ∀ H, Sep H fr → PtAt H i0 o0 [(.int .i64 a0), (.int .i64 a1), v2]) (K : Bool → Prop) (h : spec_l06Is.wp a0 a1 l2 K) : OkQ Tryd.prog 61 [(.v (.ptr i0 o0))] H (fun r H2 => ∃ (y0 : Bool), K y0 ∧ r = (.v (.bool y0)) ∧ H = H2) := by
  unfold spec_l06Is.wp at h
  refine of_body Tryd.f61 F.hm Tryd.func61 rfl Tryd.call61 (by kernel_rfl) (by simp) ?_
  refine fi_seq ?_
  refine fi_region ?_
  refine so_assign (v := (.v (.bool false))) rfl ?_
  refine so_nil ?_
  refine fi_seq ?_
  refine fi_region ?_
  refine so_move (v := (.v (.ptr i0 o0))) rfl ?_
  refine so_nilCheck rfl ?_
  refine so_fieldAddr rfl F61.fd41_0 ?_
  refine su_ld (q0 _ hs) 0 rfl rfl F61.ag2 ?_
  refine sv_callS (spec_l00In_ok a0 (1 : Int) (128 : Int) hs  _ h) (fun _ _ ⟨_, _, _, e⟩ => e) rfl rfl ?_
  clear h
  rintro _ _ ⟨y101, h, rfl, rfl⟩
  refine so_move (v := (.v (.bool y101))) rfl ?_
  replace h := ofT h; rcases h with ⟨c103, h⟩ | ⟨c103, h⟩
  · refine so_gyes rfl c103 ?_
    refine so_move (v := (.v (.ptr i0 o0))) rfl ?_
    refine so_gyes rfl c103 ?_
    refine so_nilCheck rfl ?_
    refine so_gyes rfl c103 ?_
    refine so_fieldAddr rfl F61.fd41_1 ?_
    refine so_gyes rfl c103 ?_
    refine su_ld (q0 _ hs) 1 rfl rfl F61.ag2 ?_
    refine so_gyes rfl c103 ?_
    refine sv_callS (spec_l00In_ok a1 (0 : Int) (24 : Int) hs  _ h) (fun _ _ ⟨_, _, _, e⟩ => e) rfl rfl ?_
    clear h
    rintro _ _ ⟨y104, h, rfl, rfl⟩
    refine so_pick_t (v := (.v (.bool y104))) rfl c103 rfl ?_
    refine so_move (v := (.v (.bool y104))) rfl ?_
    replace h := ofT h; rcases h with ⟨c106, h⟩ | ⟨c106, h⟩
    · refine so_gyes rfl c106 ?_
      refine so_move (v := (.v (.ptr i0 o0))) rfl ?_
      refine so_gyes rfl c106 ?_
      refine so_nilCheck rfl ?_
      refine so_gyes rfl c106 ?_
      refine so_fieldAddr rfl F61.fd41_2 ?_
      refine so_gyes rfl c106 ?_
      refine su_ld (q0 _ hs) 2 rfl rfl F61.ag22 ?_
      refine so_gyes rfl c106 ?_
      refine sv_len (g2 _ hs) (fun _ => rfl) (by decide) rfl F61.ti22 ?_
      refine so_gyes rfl c106 ?_
      refine so_bin rfl rfl ab_leq ?_
      refine so_pick_t (v := (.v (.bool (decide ((l2.length : Int) ≤ (32768 : Int)))))) rfl c106 rfl ?_
      refine so_assign (v := (.v (.bool (decide ((l2.length : Int) ≤ (32768 : Int)))))) rfl ?_
      refine so_nil ?_
      exact by_ret rfl ⟨_, h, rfl, rfl⟩
    · refine so_gno rfl c106 ?_
      refine so_gno rfl c106 ?_
      refine so_gno rfl c106 ?_
      refine so_gno rfl c106 ?_
      refine so_gno rfl c106 ?_
      refine so_gno rfl c106 ?_
      refine so_pick_f (v := (.v (.bool false))) rfl c106 rfl ?_
      refine so_assign (v := (.v (.bool false))) rfl ?_
      refine so_nil ?_
      exact by_ret rfl ⟨_, h, rfl, rfl⟩
  · refine so_gno rfl c103 ?_
    refine so_gno rfl c103 ?_
    refine so_gno rfl c103 ?_
    refine so_gno rfl c103 ?_
    refine so_gno rfl c103 ?_
    refine so_pick_f (v := (.v (.bool false))) rfl c103 rfl ?_
    refine so_move (v := (.v (.bool false))) rfl ?_
    refine so_gno rfl rfl ?_
    refine so_gno rfl rfl ?_
    refine so_gno rfl rfl ?_
    refine so_gno rfl rfl ?_
    refine so_gno rfl rfl ?_
    refine so_gno rfl rfl ?_
    refine so_pick_f (v := (.v (.bool false))) rfl rfl rfl ?_
    refine so_assign (v := (.v (.bool false))) rfl ?_
    refine so_nil ?_
    exact by_ret rfl ⟨_, h, rfl, rfl⟩

end Go.Proofs.YtcgiboeilcdonaaDoor.G

namespace Go.Proofs.YtcgiboeilcdonaaDoor.G
open Go Go.Ab Go.Proofs Go.Proofs.YtcgiboeilcdonaaDoor
set_option maxRecDepth 100000
set_option linter.unusedVariables false
set_option linter.unusedSimpArgs false
set_option maxHeartbeats 1000000
attribute [local irreducible] wops wopf Go.Ab.Fin
theorem F94.it5 : tint Tryd.prog 5 = some .u8 := by kernel_rfl
theorem F94.sr9 : tstr Tryd.prog 9 = true := by kernel_rfl
theorem F94.sz5 : tsz Tryd.prog 5 = some 1 := by kernel_rfl
theorem F94.ta72_72 : tapp Tryd.prog 72 72 = some (1, 1) := by kernel_rfl
theorem F94.te72 : telem Tryd.prog 72 = some 5 := by kernel_rfl
theorem F94.ti72 : (telem Tryd.prog 72).isSome = true := by kernel_rfl
theorem F94.us2 : (Tryd.prog.underlying 2).isSome = true := by kernel_rfl
theorem F94.us72 : (Tryd.prog.underlying 72).isSome = true := by kernel_rfl
theorem F94.ze5 : tzero Tryd.prog 5 = some [(.int .u8 (0 : Int))] := by kernel_rfl
theorem spec_l01Dec_ok {fr : List Pc} {H : Heap} (a0 : Int) (hs : Sep H (fr))  (K : (List UInt8) → Prop) (h : spec_l01Dec.wp a0 K) : OkQ Tryd.prog 94 [(.v (.int .i64 a0))] H (fun r H2 => ∃ (y0 : List UInt8), K y0 ∧ r = (.v (.str (pk y0))) ∧ Sep H2 (fr)) := by
  unfold spec_l01Dec.wp at h
  refine of_body Tryd.f94 F.hm Tryd.func94 rfl Tryd.call94 (by kernel_rfl) (by simp) ?_
  refine fi_seq ?_
  refine fi_region ?_
  refine so_assign (v := (.v (.str (pk ([] : List UInt8))))) rfl ?_
  refine so_nil ?_
  refine fi_seq ?_
  refine fi_region ?_
  refine sv_bslice hs (eInt .u8) ([] : List (Int)) [] F94.te72 F94.sz5 F94.ze5 rfl rfl rfl rfl (fun _ => rfl) rfl (by decide) nofun (fun v101 H102 nv101 hs => ?_)
  refine so_assign (v := (.v v101)) rfl ?_
  refine so_nil ?_
  refine fi_seq ?_
  refine fi_region ?_
  refine so_move (v := (.v (.int .i64 a0))) rfl ?_
  refine so_assign (v := (.v (.int .i64 a0))) rfl ?_
  refine so_nil ?_
  refine fi_seq ?_
  refine fi_block ?_
  refine fi_loop ?_
  refine fi_at [(0, (.v (.int .i64 a0))), (3, (.v v101)), (4, (.v (.int .i64 a0)))] ⟨rfl, rfl, rfl, trivial⟩ ?_
  refine h (fun (out105 : List (Int)) (rest107 : Int) => ∀ (s : Nat → TV) (H : Heap) (v106 : AV) (nv106 : v106 ≠ .nilsl), Sep H (Pc.osl v106 1 (enc (eInt .u8) out105) :: fr) → Fin _ _ (updL s [(0, (.v (.int .i64 a0))), (3, (.v v106)), (4, (.v (.int .i64 rest107)))]) H _) ?_ _ _ _ nv101 hs
  intro out105 rest107 h s143 H144 v106 nv106 hs
  refine fi_inLoop ?_
  refine fi_seq ?_
  refine fi_seq ?_
  refine fi_region ?_
  refine so_move (v := (.v v106)) rfl ?_
  refine sv_len (hs.shows 0 rfl) (fun _ => rfl) (by decide) rfl F94.ti72 ?_
  refine so_bin rfl rfl ab_eql ?_
  refine so_move (v := (.v (.bool (decide ((out105.length : Int) = (0 : Int)))))) rfl ?_
  replace h := ofP h; rcases h with ⟨c108, h⟩ | ⟨c108, h⟩
  · refine so_gno rfl (decide_eq_true c108) ?_
    refine so_gno rfl (decide_eq_true c108) ?_
    refine so_pick_t (v := (.v (.bool true))) rfl (decide_eq_true c108) rfl ?_
    refine so_nil ?_
    refine fi_true rfl rfl ?_
    refine fi_skip ?_
    refine fi_block ?_
    refine fi_seq ?_
    refine fi_region ?_
    refine so_move (v := (.v (.int .i64 rest107))) rfl ?_
    refine so_bin rfl rfl (ab_rem (by decide)) ?_
    refine so_assign (v := (.v (.int .i64 (Int.tmod rest107 (10 : Int))))) rfl ?_
    refine so_nil ?_
    refine fi_seq ?_
    refine fi_seq ?_
    refine fi_region ?_
    refine so_move (v := (.v (.int .i64 (Int.tmod rest107 (10 : Int))))) rfl ?_
    refine so_bin rfl rfl ab_lss ?_
    refine so_nil ?_
    replace h := ofP h; rcases h with ⟨c109, h⟩ | ⟨c109, h⟩
    · refine fi_true rfl (decide_eq_true c109) ?_
      refine fi_region ?_
      refine so_move (v := (.v (.int .i64 (Int.tmod rest107 (10 : Int))))) rfl ?_
      refine so_un rfl au_neg ?_
      refine so_assign (v := (.v (.int .i64 (IntKind.i64.wrap (0 - (Int.tmod rest107 (10 : Int))))))) rfl ?_
      refine so_nil ?_
      refine fi_seq ?_
      refine fi_region ?_
      refine so_move (v := (.v (.int .i64 (IntKind.i64.wrap (0 - (Int.tmod rest107 (10 : Int))))))) rfl ?_
      refine so_bin rfl rfl ab_add ?_
      refine sv_ii rfl F94.us2 F94.it5 ?_
      refine sv_bslice hs (eInt .u8) ([(IntKind.u8.wrap (IntKind.i64.wrap ((48 : Int) + (IntKind.i64.wrap (0 - (Int.tmod rest107 (10 : Int)))))))] : List (Int)) [[(.int .u8 (IntKind.u8.wrap (IntKind.i64.wrap ((48 : Int) + (IntKind.i64.wrap (0 - (Int.tmod rest107 (10 : Int))))))))]] F94.te72 F94.sz5 F94.ze5 rfl rfl rfl rfl (fun _ => rfl) rfl (by decide) nofun (fun v110 H111 nv110 hs => ?_)
      refine so_move (v := (.v v106)) rfl ?_
      obtain ⟨c115, h⟩ := h
      refine sv_app hs 0 rfl (hs.shows 1 rfl) (fun _ => rfl) (by decide) F94.ta72_72 (by decide) c115 rfl rfl nofun (fun v113 H114 kv113 hs => ?_)
      have nv113 := kv113 nv110
      refine so_assign (v := (.v v113)) rfl ?_
      refine so_nil ?_
      refine fi_region ?_
      refine so_move (v := (.v (.int .i64 rest107))) rfl ?_
      refine so_bin rfl rfl (ab_quo (by decide)) ?_
      refine so_assign (v := (.v (.int .i64 (IntKind.i64.wrap (Int.tdiv rest107 (10 : Int)))))) rfl ?_
      refine so_nil ?_
      refine fi_inBlock ?_
      exact fi_at [(0, (.v (.int .i64 a0))), (3, (.v v113)), (4, (.v (.int .i64 (IntKind.i64.wrap (Int.tdiv rest107 (10 : Int))))))] ⟨rfl, rfl, rfl, trivial⟩ (h _ _ _ nv113 (Sep.del 1 hs))
    · refine fi_false rfl (decide_eq_false c109) ?_
      refine fi_skip ?_
      refine fi_seq ?_
      refine fi_region ?_
      refine so_move (v := (.v (.int .i64 (Int.tmod rest107 (10 : Int))))) rfl ?_
      refine so_bin rfl rfl ab_add ?_
      refine sv_ii rfl F94.us2 F94.it5 ?_
      refine sv_bslice hs (eInt .u8) ([(IntKind.u8.wrap (IntKind.i64.wrap ((48 : Int) + (Int.tmod rest107 (10 : Int)))))] : List (Int)) [[(.int .u8 (IntKind.u8.wrap (IntKind.i64.wrap ((48 : Int) + (Int.tmod rest107 (10 : Int))))))]] F94.te72 F94.sz5 F94.ze5 rfl rfl rfl rfl (fun _ => rfl) rfl (by decide) nofun (fun v116 H117 nv116 hs => ?_)
      refine so_move (v := (.v v106)) rfl ?_
      obtain ⟨c121, h⟩ := h
      refine sv_app hs 0 rfl (hs.shows 1 rfl) (fun _ => rfl) (by decide) F94.ta72_72 (by decide) c121 rfl rfl nofun (fun v119 H120 kv119 hs => ?_)
      have nv119 := kv119 nv116
      refine so_assign (v := (.v v119)) rfl ?_
      refine so_nil ?_
      refine fi_region ?_
      refine so_move (v := (.v (.int .i64 rest107))) rfl ?_
      refine so_bin rfl rfl (ab_quo (by decide)) ?_
      refine so_assign (v := (.v (.int .i64 (IntKind.i64.wrap (Int.tdiv rest107 (10 : Int)))))) rfl ?_
      refine so_nil ?_
      refine fi_inBlock ?_
      exact fi_at [(0, (.v (.int .i64 a0))), (3, (.v v119)), (4, (.v (.int .i64 (IntKind.i64.wrap (Int.tdiv rest107 (10 : Int))))))] ⟨rfl, rfl, rfl, trivial⟩ (h _ _ _ nv119 (Sep.del 1 hs))
  · refine so_gyes rfl (decide_eq_false c108) ?_
    refine so_move (v := (.v (.int .i64 rest107))) rfl ?_
    refine so_gyes rfl (decide_eq_false c108) ?_
    refine so_bin rfl rfl ab_neq ?_
    refine so_pick_f (v := (.v (.bool (!(decide (rest107 = (0 : Int))))))) rfl (decide_eq_false c108) rfl ?_
    refine so_nil ?_
    replace h := ofP h; rcases h with ⟨c122, h⟩ | ⟨c122, h⟩
    · refine fi_false rfl (not_f (decide_eq_true c122)) ?_
      refine fi_exit rfl ?_
      refine fi_seq ?_
      refine fi_seq ?_
      refine fi_region ?_
      refine so_move (v := (.v (.int .i64 a0))) rfl ?_
      refine so_bin rfl rfl ab_lss ?_
      refine so_nil ?_
      replace h := ofP h; rcases h with ⟨c123, h⟩ | ⟨c123, h⟩
      · refine fi_true rfl (decide_eq_true c123) ?_
        refine fi_region ?_
        refine sv_bslice hs (eInt .u8) ([(45 : Int)] : List (Int)) [[(.int .u8 (45 : Int))]] F94.te72 F94.sz5 F94.ze5 rfl rfl rfl rfl (fun _ => rfl) rfl (by decide) nofun (fun v124 H125 nv124 hs => ?_)
        refine so_move (v := (.v v106)) rfl ?_
        obtain ⟨c129, h⟩ := h
        refine sv_app hs 0 rfl (hs.shows 1 rfl) (fun _ => rfl) (by decide) F94.ta72_72 (by decide) c129 rfl rfl nofun (fun v127 H128 kv127 hs => ?_)
        have nv127 := kv127 nv124
        refine so_assign (v := (.v v127)) rfl ?_
        refine so_nil ?_
        refine fi_seq ?_
        refine fi_region ?_
        refine so_move (v := (.v v127)) rfl ?_
        refine sv_bs (hs.shows 0 rfl) nv127 rfl F94.te72 F94.it5 F94.sr9 ?_
        refine so_assign (v := (.v (.str (pk (byts (([(45 : Int)] : List (Int)) ++ out105)))))) rfl ?_
        refine so_nil ?_
        exact by_ret rfl ⟨_, h, rfl, (Sep.del 0 (Sep.del 0 hs))⟩
      · refine fi_false rfl (decide_eq_false c123) ?_
        refine fi_skip ?_
        refine fi_seq ?_
        refine fi_region ?_
        refine so_move (v := (.v v106)) rfl ?_
        refine sv_bs (hs.shows 0 rfl) nv106 rfl F94.te72 F94.it5 F94.sr9 ?_
        refine so_assign (v := (.v (.str (pk (byts out105))))) rfl ?_
        refine so_nil ?_
        exact by_ret rfl ⟨_, h, rfl, (Sep.del 0 hs)⟩
    · refine fi_true rfl (not_t (decide_eq_false c122)) ?_
      refine fi_skip ?_
      refine fi_block ?_
      refine fi_seq ?_
      refine fi_region ?_
      refine so_move (v := (.v (.int .i64 rest107))) rfl ?_
      refine so_bin rfl rfl (ab_rem (by decide)) ?_
      refine so_assign (v := (.v (.int .i64 (Int.tmod rest107 (10 : Int))))) rfl ?_
      refine so_nil ?_
      refine fi_seq ?_
      refine fi_seq ?_
      refine fi_region ?_
      refine so_move (v := (.v (.int .i64 (Int.tmod rest107 (10 : Int))))) rfl ?_
      refine so_bin rfl rfl ab_lss ?_
      refine so_nil ?_
      replace h := ofP h; rcases h with ⟨c130, h⟩ | ⟨c130, h⟩
      · refine fi_true rfl (decide_eq_true c130) ?_
        refine fi_region ?_
        refine so_move (v := (.v (.int .i64 (Int.tmod rest107 (10 : Int))))) rfl ?_
        refine so_un rfl au_neg ?_
        refine so_assign (v := (.v (.int .i64 (IntKind.i64.wrap (0 - (Int.tmod rest107 (10 : Int))))))) rfl ?_
        refine so_nil ?_
        refine fi_seq ?_
        refine fi_region ?_
        refine so_move (v := (.v (.int .i64 (IntKind.i64.wrap (0 - (Int.tmod rest107 (10 : Int))))))) rfl ?_
        refine so_bin rfl rfl ab_add ?_
        refine sv_ii rfl F94.us2 F94.it5 ?_
        refine sv_bslice hs (eInt .u8) ([(IntKind.u8.wrap (IntKind.i64.wrap ((48 : Int) + (IntKind.i64.wrap (0 - (Int.tmod rest107 (10 : Int)))))))] : List (Int)) [[(.int .u8 (IntKind.u8.wrap (IntKind.i64.wrap ((48 : Int) + (IntKind.i64.wrap (0 - (Int.tmod rest107 (10 : Int))))))))]] F94.te72 F94.sz5 F94.ze5 rfl rfl rfl rfl (fun _ => rfl) rfl (by decide) nofun (fun v131 H132 nv131 hs => ?_)
        refine so_move (v := (.v v106)) rfl ?_
        obtain ⟨c136, h⟩ := h
        refine sv_app hs 0 rfl (hs.shows 1 rfl) (fun _ => rfl) (by decide) F94.ta72_72 (by decide) c136 rfl rfl nofun (fun v134 H135 kv134 hs => ?_)
        have nv134 := kv134 nv131
        refine so_assign (v := (.v v134)) rfl ?_
        refine so_nil ?_
        refine fi_region ?_
        refine so_move (v := (.v (.int .i64 rest107))) rfl ?_
        refine so_bin rfl rfl (ab_quo (by decide)) ?_
        refine so_assign (v := (.v (.int .i64 (IntKind.i64.wrap (Int.tdiv rest107 (10 : Int)))))) rfl ?_
        refine so_nil ?_
        refine fi_inBlock ?_
        exact fi_at [(0, (.v (.int .i64 a0))), (3, (.v v134)), (4, (.v (.int .i64 (IntKind.i64.wrap (Int.tdiv rest107 (10 : Int))))))] ⟨rfl, rfl, rfl, trivial⟩ (h _ _ _ nv134 (Sep.del 1 hs))
      · refine fi_false rfl (decide_eq_false c130) ?_
        refine fi_skip ?_
        refine fi_seq ?_
        refine fi_region ?_
        refine so_move (v := (.v (.int .i64 (Int.tmod rest107 (10 : Int))))) rfl ?_
        refine so_bin rfl rfl ab_add ?_
        refine sv_ii rfl F94.us2 F94.it5 ?_
        refine sv_bslice hs (eInt .u8) ([(IntKind.u8.wrap (IntKind.i64.wrap ((48 : Int) + (Int.tmod rest107 (10 : Int)))))] : List (Int)) [[(.int .u8 (IntKind.u8.wrap (IntKind.i64.wrap ((48 : Int) + (Int.tmod rest107 (10 : Int))))))]] F94.te72 F94.sz5 F94.ze5 rfl rfl rfl rfl (fun _ => rfl) rfl (by decide) nofun (fun v137 H138 nv137 hs => ?_)
        refine so_move (v := (.v v106)) rfl ?_
        obtain ⟨c142, h⟩ := h
        refine sv_app hs 0 rfl (hs.shows 1 rfl) (fun _ => rfl) (by decide) F94.ta72_72 (by decide) c142 rfl rfl nofun (fun v140 H141 kv140 hs => ?_)
        have nv140 := kv140 nv137
        refine so_assign (v := (.v v140)) rfl ?_
        refine so_nil ?_
        refine fi_region ?_
        refine so_move (v := (.v (.int .i64 rest107))) rfl ?_
        refine so_bin rfl rfl (ab_quo (by decide)) ?_
        refine so_assign (v := (.v (.int .i64 (IntKind.i64.wrap (Int.tdiv rest107 (10 : Int)))))) rfl ?_
        refine so_nil ?_
        refine fi_inBlock ?_
        exact fi_at [(0, (.v (.int .i64 a0))), (3, (.v v140)), (4, (.v (.int .i64 (IntKind.i64.wrap (Int.tdiv rest107 (10 : Int))))))] ⟨rfl, rfl, rfl, trivial⟩ (h _ _ _ nv140 (Sep.del 1 hs))

end Go.Proofs.YtcgiboeilcdonaaDoor.G

namespace Go.Proofs.YtcgiboeilcdonaaDoor.G
open Go Go.Ab Go.Proofs Go.Proofs.YtcgiboeilcdonaaDoor
set_option maxRecDepth 100000
set_option linter.unusedVariables false
set_option linter.unusedSimpArgs false
set_option maxHeartbeats 1000000
attribute [local irreducible] wops wopf Go.Ab.Fin
theorem F102.ag2 : tagg Tryd.prog 2 = some false := by kernel_rfl
theorem F102.ti96 : (telem Tryd.prog 96).isSome = true := by kernel_rfl
theorem F102.tl96 : (telem Tryd.prog 96).bind (tsz Tryd.prog) = some 1 := by kernel_rfl
theorem spec_l01Text_ok {fr : List Pc} {H : Heap} (v0 : AV) (l0 : List (Int)) (hs : Sep H (fr)) (g0 : ∀ H, Sep H fr → Shows H v0 1 (enc (eInt .i64) l0)) (K : (List UInt8) → Prop) (h : spec_l01Text.wp l0 K) : OkQ Tryd.prog 102 [(.v v0)] H (fun r H2 => ∃ (y0 : List UInt8), K y0 ∧ r = (.v (.str (pk y0))) ∧ Sep H2 (fr)) := by
  unfold spec_l01Text.wp at h
  refine of_body Tryd.f102 F.hm Tryd.func102 rfl Tryd.call102 (by kernel_rfl) (by simp) ?_
  refine fi_seq ?_
  refine fi_region ?_
  refine so_assign (v := (.v (.str (pk ([] : List UInt8))))) rfl ?_
  refine so_nil ?_
  refine fi_seq ?_
  refine fi_seq ?_
  refine fi_region ?_
  refine so_move (v := (.v v0)) rfl ?_
  refine sv_len (g0 _ hs) (fun _ => rfl) (by decide) rfl F102.ti96 ?_
  refine so_bin rfl rfl ab_eql ?_
  refine so_nil ?_
  replace h := ofP h; rcases h with ⟨c101, h⟩ | ⟨c101, h⟩
  · refine fi_true rfl (decide_eq_true c101) ?_
    refine fi_seq ?_
    refine fi_region ?_
    refine so_assign (v := (.v (.str (pk ([110, 111, 110, 101] : List UInt8))))) rfl ?_
    refine so_nil ?_
    exact by_ret rfl ⟨_, h, rfl, hs⟩
  · refine fi_false rfl (decide_eq_false c101) ?_
    refine fi_skip ?_
    refine fi_seq ?_
    refine fi_region ?_
    refine so_move (v := (.v v0)) rfl ?_
    obtain ⟨c102, h⟩ := h
    refine sv_idx (g0 _ hs) c102 (fun _ => rfl) (by decide) rfl rfl F102.tl96 ?_
    refine sv_cell (g0 _ hs) c102 (0 : Int) 0 (fun x => (AV.int .i64 x)) (fun _ => rfl) (fun _ => rfl) rfl F102.ag2 ?_
    refine sv_call (spec_l01Dec_ok (l0.getD ((0 : Int)).toNat (0 : Int)) hs  _ h) rfl rfl nofun ?_
    clear h hs
    rintro _ H104 ⟨y103, h, rfl, hs⟩
    refine so_assign (v := (.v (.str (pk y103)))) rfl ?_
    refine so_nil ?_
    refine fi_seq ?_
    refine fi_seq ?_
    refine fi_region ?_
    refine so_assign (v := (.v (.int .i64 (1 : Int)))) rfl ?_
    refine so_nil ?_
    refine fi_block ?_
    refine fi_loop ?_
    refine fi_at [(0, (.v v0)), (3, (.v (.str (pk y103)))), (4, (.v (.int .i64 (1 : Int))))] ⟨rfl, rfl, rfl, trivial⟩ ?_
    refine h (fun (out106 : List UInt8) (i107 : Int) => ∀ (s : Nat → TV) (H : Heap), Sep H (fr) → Fin _ _ (updL s [(0, (.v v0)), (3, (.v (.str (pk out106)))), (4, (.v (.int .i64 i107)))]) H _) ?_ _ _ hs
    intro out106 i107 h s114 H115 hs
    refine fi_inLoop ?_
    refine fi_seq ?_
    refine fi_seq ?_
    refine fi_region ?_
    refine so_move (v := (.v (.int .i64 i107))) rfl ?_
    refine so_move (v := (.v v0)) rfl ?_
    refine sv_len (g0 _ hs) (fun _ => rfl) (by decide) rfl F102.ti96 ?_
    refine so_bin rfl rfl ab_lss ?_
    refine so_nil ?_
    replace h := ofP h; rcases h with ⟨c108, h⟩ | ⟨c108, h⟩
    · refine fi_true rfl (decide_eq_true c108) ?_
      refine fi_skip ?_
      refine fi_seq ?_
      refine fi_block ?_
      refine fi_region ?_
      refine so_move (v := (.v (.str (pk out106)))) rfl ?_
      refine so_move (v := (.v v0)) rfl ?_
      refine so_move (v := (.v (.int .i64 i107))) rfl ?_
      obtain ⟨c109, h⟩ := h
      refine sv_idx (g0 _ hs) c109 (fun _ => rfl) (by decide) rfl rfl F102.tl96 ?_
      refine sv_cell (g0 _ hs) c109 (0 : Int) 0 (fun x => (AV.int .i64 x)) (fun _ => rfl) (fun _ => rfl) rfl F102.ag2 ?_
      refine sv_call (spec_l01Dec_ok (l0.getD (i107).toNat (0 : Int)) hs  _ h) rfl rfl nofun ?_
      clear h hs
      rintro _ H111 ⟨y110, h, rfl, hs⟩
      obtain ⟨c112, h⟩ := h
      refine so_bin rfl rfl (ab_sadd c112) ?_
      obtain ⟨c113, h⟩ := h
      refine so_bin rfl rfl (ab_sadd c113) ?_
      refine so_assign (v := (.v (.str (pk (out106 ++ (([44] : List UInt8) ++ y110)))))) rfl ?_
      refine so_nil ?_
      refine fi_inBlock ?_
      refine fi_region ?_
      refine so_move (v := (.v (.int .i64 i107))) rfl ?_
      refine so_bin rfl rfl ab_add ?_
      refine so_assign (v := (.v (.int .i64 (IntKind.i64.wrap (i107 + (1 : Int)))))) rfl ?_
      refine so_nil ?_
      exact fi_at [(0, (.v v0)), (3, (.v (.str (pk (out106 ++ (([44] : List UInt8) ++ y110)))))), (4, (.v (.int .i64 (IntKind.i64.wrap (i107 + (1 : Int))))))] ⟨rfl, rfl, rfl, trivial⟩ (h _ _  hs)
    · refine fi_false rfl (decide_eq_false c108) ?_
      refine fi_exit rfl ?_
      refine fi_seq ?_
      refine fi_region ?_
      refine so_move (v := (.v (.str (pk out106)))) rfl ?_
      refine so_assign (v := (.v (.str (pk out106)))) rfl ?_
      refine so_nil ?_
      exact by_ret rfl ⟨_, h, rfl, hs⟩

end Go.Proofs.YtcgiboeilcdonaaDoor.G

namespace Go.Proofs.YtcgiboeilcdonaaDoor.G
open Go Go.Ab Go.Proofs Go.Proofs.YtcgiboeilcdonaaDoor
set_option maxRecDepth 100000
set_option linter.unusedVariables false
set_option linter.unusedSimpArgs false
set_option maxHeartbeats 1000000
attribute [local irreducible] wops wopf Go.Ab.Fin
theorem F103.ag4 : tagg Tryd.prog 4 = some false := by kernel_rfl
theorem F103.it5 : tint Tryd.prog 5 = some .u8 := by kernel_rfl
theorem F103.sr9 : tstr Tryd.prog 9 = true := by kernel_rfl
theorem F103.sz5 : tsz Tryd.prog 5 = some 1 := by kernel_rfl
theorem F103.ta72_72 : tapp Tryd.prog 72 72 = some (1, 1) := by kernel_rfl
theorem F103.te72 : telem Tryd.prog 72 = some 5 := by kernel_rfl
theorem F103.ti22 : (telem Tryd.prog 22).isSome = true := by kernel_rfl
theorem F103.tl22 : (telem Tryd.prog 22).bind (tsz Tryd.prog) = some 1 := by kernel_rfl
theorem F103.us72 : (Tryd.prog.underlying 72).isSome = true := by kernel_rfl
theorem F103.ze5 : tzero Tryd.prog 5 = some [(.int .u8 (0 : Int))] := by kernel_rfl
theorem spec_l06Text_ok {fr : List Pc} {H : Heap} (v0 : AV) (l0 : List (Bool)) (hs : Sep H (fr)) (g0 : ∀ H, Sep H fr → Shows H v0 1 (enc eBool l0)) (K : (List UInt8) → Prop) (h : spec_l06Text.wp l0 K) : OkQ Tryd.prog 103 [(.v v0)] H (fun r H2 => ∃ (y0 : List UInt8), K y0 ∧ r = (.v (.str (pk y0))) ∧ Sep H2 (fr)) := by
  unfold spec_l06Text.wp at h
  refine of_body Tryd.f103 F.hm Tryd.func103 rfl Tryd.call103 (by kernel_rfl) (by simp) ?_
  refine fi_seq ?_
  refine fi_region ?_
  refine so_assign (v := (.v (.str (pk ([] : List UInt8))))) rfl ?_
  refine so_nil ?_
  refine fi_seq ?_
  refine fi_region ?_
  refine sv_bslice hs (eInt .u8) ([] : List (Int)) [] F103.te72 F103.sz5 F103.ze5 rfl rfl rfl rfl (fun _ => rfl) rfl (by decide) nofun (fun v101 H102 nv101 hs => ?_)
  refine so_assign (v := (.v v101)) rfl ?_
  refine so_nil ?_
  refine fi_seq ?_
  refine fi_seq ?_
  refine fi_region ?_
  refine so_assign (v := (.v (.int .i64 (0 : Int)))) rfl ?_
  refine so_nil ?_
  refine fi_block ?_
  refine fi_loop ?_
  refine fi_at [(0, (.v v0)), (3, (.v v101)), (4, (.v (.int .i64 (0 : Int))))] ⟨rfl, rfl, rfl, trivial⟩ ?_
  refine h (fun (out124 : List (Int)) (i126 : Int) => ∀ (s : Nat → TV) (H : Heap) (v125 : AV) (nv125 : v125 ≠ .nilsl), Sep H (Pc.osl v125 1 (enc (eInt .u8) out124) :: fr) → Fin _ _ (updL s [(0, (.v v0)), (3, (.v v125)), (4, (.v (.int .i64 i126)))]) H _) ?_ _ _ _ nv101 hs
  intro out124 i126 h s142 H143 v125 nv125 hs
  refine fi_inLoop ?_
  refine fi_seq ?_
  refine fi_seq ?_
  refine fi_region ?_
  refine so_move (v := (.v (.int .i64 i126))) rfl ?_
  refine so_move (v := (.v v0)) rfl ?_
  refine sv_len (g0 _ hs.tl) (fun _ => rfl) (by decide) rfl F103.ti22 ?_
  refine so_bin rfl rfl ab_lss ?_
  refine so_nil ?_
  replace h := ofP h; rcases h with ⟨c127, h⟩ | ⟨c127, h⟩
  · refine fi_true rfl (decide_eq_true c127) ?_
    refine fi_skip ?_
    refine fi_seq ?_
    refine fi_block ?_
    refine fi_seq ?_
    refine fi_region ?_
    refine so_move (v := (.v v0)) rfl ?_
    refine so_move (v := (.v (.int .i64 i126))) rfl ?_
    obtain ⟨c128, h⟩ := h
    refine sv_idx (g0 _ hs.tl) c128 (fun _ => rfl) (by decide) rfl rfl F103.tl22 ?_
    refine sv_cell (g0 _ hs.tl) c128 false 0 (fun x => (AV.bool x)) (fun _ => rfl) (fun _ => rfl) rfl F103.ag4 ?_
    refine so_nil ?_
    replace h := ofT h; rcases h with ⟨c129, h⟩ | ⟨c129, h⟩
    · refine fi_true rfl c129 ?_
      refine fi_region ?_
      refine so_move (v := (.v v125)) rfl ?_
      refine sv_bslice hs (eInt .u8) ([(49 : Int)] : List (Int)) [[(.int .u8 (49 : Int))]] F103.te72 F103.sz5 F103.ze5 rfl rfl rfl rfl (fun _ => rfl) rfl (by decide) nofun (fun v130 H131 nv130 hs => ?_)
      obtain ⟨c135, h⟩ := h
      refine sv_app hs 1 rfl (hs.shows 0 rfl) (fun _ => rfl) (by decide) F103.ta72_72 (by decide) c135 rfl rfl nofun (fun v133 H134 kv133 hs => ?_)
      replace hs := hs.del 0
      have nv133 := kv133 nv125
      refine so_assign (v := (.v v133)) rfl ?_
      refine so_nil ?_
      refine fi_inBlock ?_
      refine fi_region ?_
      refine so_move (v := (.v (.int .i64 i126))) rfl ?_
      refine so_bin rfl rfl ab_add ?_
      refine so_assign (v := (.v (.int .i64 (IntKind.i64.wrap (i126 + (1 : Int)))))) rfl ?_
      refine so_nil ?_
      exact fi_at [(0, (.v v0)), (3, (.v v133)), (4, (.v (.int .i64 (IntKind.i64.wrap (i126 + (1 : Int))))))] ⟨rfl, rfl, rfl, trivial⟩ (h _ _ _ nv133 hs)
    · refine fi_false rfl c129 ?_
      refine fi_region ?_
      refine so_move (v := (.v v125)) rfl ?_
      refine sv_bslice hs (eInt .u8) ([(48 : Int)] : List (Int)) [[(.int .u8 (48 : Int))]] F103.te72 F103.sz5 F103.ze5 rfl rfl rfl rfl (fun _ => rfl) rfl (by decide) nofun (fun v136 H137 nv136 hs => ?_)
      obtain ⟨c141, h⟩ := h
      refine sv_app hs 1 rfl (hs.shows 0 rfl) (fun _ => rfl) (by decide) F103.ta72_72 (by decide) c141 rfl rfl nofun (fun v139 H140 kv139 hs => ?_)
      replace hs := hs.del 0
      have nv139 := kv139 nv125
      refine so_assign (v := (.v v139)) rfl ?_
      refine so_nil ?_
      refine fi_inBlock ?_
      refine fi_region ?_
      refine so_move (v := (.v (.int .i64 i126))) rfl ?_
      refine so_bin rfl rfl ab_add ?_
      refine so_assign (v := (.v (.int .i64 (IntKind.i64.wrap (i126 + (1 : Int)))))) rfl ?_
      refine so_nil ?_
      exact fi_at [(0, (.v v0)), (3, (.v v139)), (4, (.v (.int .i64 (IntKind.i64.wrap (i126 + (1 : Int))))))] ⟨rfl, rfl, rfl, trivial⟩ (h _ _ _ nv139 hs)
  · refine fi_false rfl (decide_eq_false c127) ?_
    refine fi_exit rfl ?_
    refine fi_seq ?_
    refine fi_region ?_
    refine so_move (v := (.v v125)) rfl ?_
    refine sv_bs (hs.shows 0 rfl) nv125 rfl F103.te72 F103.it5 F103.sr9 ?_
    refine so_assign (v := (.v (.str (pk (byts out124))))) rfl ?_
    refine so_nil ?_
    exact by_ret rfl ⟨_, h, rfl, (Sep.del 0 hs)⟩

end Go.Proofs.YtcgiboeilcdonaaDoor.G

namespace Go.Proofs.YtcgiboeilcdonaaDoor.G
open Go Go.Ab Go.Proofs Go.Proofs.YtcgiboeilcdonaaDoor
set_option maxRecDepth 100000
set_option linter.unusedVariables false
set_option linter.unusedSimpArgs false
set_option maxHeartbeats 1000000
attribute [local irreducible] wops wopf Go.Ab.Fin
theorem F62.ag2 : tagg Tryd.prog 2 = some false := by kernel_rfl
theorem F62.ag22 : tagg Tryd.prog 22 = some false := by kernel_rfl
theorem F62.fd41_0 : tfield Tryd.prog 41 0 = some (0, 1, false) := by kernel_rfl
theorem F62.fd41_1 : tfield Tryd.prog 41 1 = some (1, 1, false) := by kernel_rfl
theorem F62.fd41_2 : tfield Tryd.prog 41 2 = some (2, 1, false) := by kernel_rfl
theorem F62.sz2 : tsz Tryd.prog 2 = some 1 := by kernel_rfl
theorem F62.te96 : telem Tryd.prog 96 = some 2 := by kernel_rfl
theorem F62.ze2 : tzero Tryd.prog 2 = some [(.int .i64 (0 : Int))] := by kernel_rfl
theorem spec_l08Coded_ok {fr : List Pc} {H : Heap} (i0 o0 : Nat) (a0 : Int) (a1 : Int) (v2 : AV) (l2 : List (Bool)) (hs : Sep H (fr)) (g2 : ∀ H, Sep H fr → Shows H v2 1 (enc eBool l2)) (q0 : ∀ H, Sep H fr → PtAt H i0 o0 [(.int .i64 a0), (.int .i64 a1), v2]) (K : (List UInt8) → Prop) (h : spec_l08Coded.wp a0 a1 l2 K) : OkQ Tryd.prog 62 [(.v (.ptr i0 o0))] H (fun r H2 => ∃ (y0 : List UInt8), K y0 ∧ r = (.v (.str (pk y0))) ∧ Sep H2 (fr)) := by
  unfold spec_l08Coded.wp at h
  refine of_body Tryd.f62 F.hm Tryd.func62 rfl Tryd.call62 (by kernel_rfl) (by simp) ?_
  refine fi_seq ?_
  refine fi_region ?_
  refine so_assign (v := (.v (.str (pk ([] : List UInt8))))) rfl ?_
  refine so_nil ?_
  refine fi_seq ?_
  refine fi_free [12, 14] ?_
  refine wf_pure rfl (by kernel_rfl) ?_
  refine so_move (v := (.v (.ptr i0 o0))) rfl ?_
  refine so_end ?_
  refine wf_same (by decide +kernel) (by kernel_rfl) ?_
  refine so_nilCheck rfl ?_
  refine so_end ⟨rfl, ?_⟩
  refine wf_pure rfl (by kernel_rfl) ?_
  refine so_fieldAddr rfl F62.fd41_0 ?_
  refine so_end ?_
  refine wf_same (by decide +kernel) (by kernel_rfl) ?_
  refine su_ld (q0 _ hs) 0 rfl rfl F62.ag2 ?_
  refine so_end ⟨rfl, ?_⟩
  refine wf_pure rfl (by kernel_rfl) ?_
  refine so_move (v := (.v (.ptr i0 o0))) rfl ?_
  refine so_end ?_
  refine wf_same (by decide +kernel) (by kernel_rfl) ?_
  refine so_nilCheck rfl ?_
  refine so_end ⟨rfl, ?_⟩
  refine wf_pure rfl (by kernel_rfl) ?_
  refine so_fieldAddr rfl F62.fd41_1 ?_
  refine so_end ?_
  refine wf_same (by decide +kernel) (by kernel_rfl) ?_
  refine su_ld (q0 _ hs) 1 rfl rfl F62.ag2 ?_
  refine so_end ⟨rfl, ?_⟩
  have hs0_ := hs
  refine wf_chg (by kernel_rfl) ?_
  refine sv_bslice hs (eInt .i64) ([a0, a1] : List (Int)) [[(.int .i64 a0)], [(.int .i64 a1)]] F62.te96 F62.sz2 F62.ze2 rfl rfl rfl rfl (fun _ => rfl) rfl (by decide) nofun (fun v101 H102 nv101 hs => ?_)
  refine so_end ⟨fan, ?_⟩
  have hs1_ := hs
  refine wf_chg (by kernel_rfl) ?_
  refine sv_call (spec_l01Text_ok v101 ([a0, a1] : List (Int)) hs (fun _ hs => (hs.shows 0 rfl)) _ h) rfl rfl nofun ?_
  clear h
  rintro _ H105 ⟨y104, h, rfl, hs⟩
  refine so_end ⟨fan, ?_⟩
  obtain ⟨c106, h⟩ := h
  refine wf_pure rfl (by kernel_rfl) ?_
  refine so_bin rfl rfl (ab_sadd c106) ?_
  refine so_end ?_
  refine wf_pure rfl (by kernel_rfl) ?_
  refine so_move (v := (.v (.ptr i0 o0))) rfl ?_
  refine so_end ?_
  refine wf_free (.v (.ptr i0 o0)) rfl (by kernel_rfl) (stepr (i := 0) rfl (by refine so_nilCheck rfl ?_; exact so_end ⟨rfl, rfl⟩)) (fac (.inr (stepr (i := 0) rfl (by refine so_nilCheck rfl ?_; exact so_end ⟨rfl, rfl⟩))) (fac (.inr (stepr (i := 0) rfl (by refine so_nilCheck rfl ?_; exact so_end ⟨rfl, rfl⟩))) fan)) ?_
  refine wf_pure rfl (by kernel_rfl) ?_
  refine so_fieldAddr rfl F62.fd41_2 ?_
  refine so_end ?_
  refine wf_free (.v v2) rfl (by kernel_rfl) (stepr (i := 0) rfl (by refine su_ld (q0 _ hs.tl) 2 rfl rfl F62.ag22 ?_; exact so_end ⟨rfl, rfl⟩)) (fac (.inr (stepr (i := 0) rfl (by refine su_ld (q0 _ hs1_.tl) 2 rfl rfl F62.ag22 ?_; exact so_end ⟨rfl, rfl⟩))) (fac (.inr (stepr (i := 0) rfl (by refine su_ld (q0 _ hs0_) 2 rfl rfl F62.ag22 ?_; exact so_end ⟨rfl, rfl⟩))) fan)) ?_
  have hs2_ := hs
  refine wf_chg (by kernel_rfl) ?_
  refine sv_call (spec_l06Text_ok v2 l2 hs (fun _ hs => (g2 _ hs.tl)) _ h) rfl rfl nofun ?_
  clear h
  rintro _ H108 ⟨y107, h, rfl, hs⟩
  refine so_end ⟨(fac (.inl ⟨15, by kernel_rfl⟩) (fac (.inl ⟨15, by kernel_rfl⟩) fan)), ?_⟩
  obtain ⟨c109, h⟩ := h
  refine wf_pure rfl (by kernel_rfl) ?_
  refine so_bin rfl rfl (ab_sadd c109) ?_
  refine so_end ?_
  refine wf_pure rfl (by kernel_rfl) ?_
  refine so_assign (v := (.v (.str (pk ((y104 ++ ([59] : List UInt8)) ++ y107))))) rfl ?_
  refine so_end ?_
  refine wf_nil ?_
  exact by_ret rfl ⟨_, h, rfl, (Sep.del 0 hs)⟩

end Go.Proofs.YtcgiboeilcdonaaDoor.G

namespace Go.Proofs.YtcgiboeilcdonaaDoor.G
open Go Go.Ab Go.Proofs Go.Proofs.YtcgiboeilcdonaaDoor
set_option maxRecDepth 100000
set_option linter.unusedVariables false
set_option linter.unusedSimpArgs false
set_option maxHeartbeats 1000000
attribute [local irreducible] wops wopf Go.Ab.Fin
theorem F26.inf41 : (Tryd.prog.info? 41).isSome = true := by kernel_rfl
theorem spec_CodedText_ok {fr : List Pc} {H : Heap} (a0 : Int) (a1 : Int) (v2 : AV) (l2 : List (Bool)) (hs : Sep H (fr)) (g2 : ∀ H, Sep H fr → Shows H v2 1 (enc eBool l2)) (K : (List UInt8) → Bool → Prop) (h : spec_CodedText.wp a0 a1 l2 K) : OkQ Tryd.prog 26 [(.g [(.int .i64 a0), (.int .i64 a1), v2])] H (fun r H2 => ∃ (y0 : List UInt8) (y1 : Bool), K y0 y1 ∧ r = (.t [(.v (.str (pk y0))), (.v (.bool y1))]) ∧ Sep H2 (fr)) := by
  unfold spec_CodedText.wp at h
  refine of_body Tryd.f26 F.hm Tryd.func26 rfl Tryd.call26 (by kernel_rfl) (by simp) ?_
  refine fi_seq ?_
  refine fi_region ?_
  refine sv_box hs rfl (c := [(.int .i64 a0), (.int .i64 a1), v2]) rfl F26.inf41 (stc rfl (stc rfl (stc (g2 _ hs).stor stn))) nofun (fun id101 H102 hs => ?_)
  refine so_assign (v := (.v (.str (pk ([] : List UInt8))))) rfl ?_
  refine so_assign (v := (.v (.bool false))) rfl ?_
  refine so_nil ?_
  refine fi_seq ?_
  refine fi_seq ?_
  refine fi_region ?_
  refine sv_callS (spec_l06Is_ok id101 0 a0 a1 v2 l2 hs (fun _ hs => (g2 _ hs.tl)) (fun _ hs => (hs.ptat 0 rfl)) _ h) (fun _ _ ⟨_, _, _, e⟩ => e) rfl rfl ?_
  clear h
  rintro _ _ ⟨y104, h, rfl, rfl⟩
  refine so_un rfl au_not ?_
  refine so_nil ?_
  replace h := ofT h; rcases h with ⟨c106, h⟩ | ⟨c106, h⟩
  · refine fi_false rfl (not_f c106) ?_
    refine fi_skip ?_
    refine fi_seq ?_
    refine fi_region ?_
    refine sv_call (spec_l08Coded_ok id101 0 a0 a1 v2 l2 hs (fun _ hs => (g2 _ hs.tl)) (fun _ hs => (hs.ptat 0 rfl)) _ h) rfl rfl nofun ?_
    clear h hs
    rintro _ H108 ⟨y107, h, rfl, hs⟩
    refine so_assign (v := (.v (.str (pk y107)))) rfl ?_
    refine so_assign (v := (.v (.bool true))) rfl ?_
    refine so_nil ?_
    exact by_ret rfl ⟨_, _, h, rfl, (Sep.del 0 hs)⟩
  · refine fi_true rfl (not_t c106) ?_
    refine fi_seq ?_
    refine fi_region ?_
    refine so_assign (v := (.v (.str (pk ([] : List UInt8))))) rfl ?_
    refine so_assign (v := (.v (.bool false))) rfl ?_
    refine so_nil ?_
    exact by_ret rfl ⟨_, _, h, rfl, (Sep.del 0 hs)⟩

end Go.Proofs.YtcgiboeilcdonaaDoor.G

namespace Go.Proofs.YtcgiboeilcdonaaDoor.G
open Go Go.Ab Go.Proofs Go.Proofs.YtcgiboeilcdonaaDoor
set_option maxRecDepth 100000
set_option linter.unusedVariables false
set_option linter.unusedSimpArgs false
set_option maxHeartbeats 1000000
attribute [local irreducible] wops wopf Go.Ab.Fin
theorem F63.ag4 : tagg Tryd.prog 4 = some false := by kernel_rfl
theorem F63.by4 : tbytes Tryd.prog 4 = some 1 := by kernel_rfl
theorem F63.sz4 : tsz Tryd.prog 4 = some 1 := by kernel_rfl
theorem F63.te22 : telem Tryd.prog 22 = some 4 := by kernel_rfl
theorem F63.ti22 : (telem Tryd.prog 22).isSome = true := by kernel_rfl
theorem F63.tl22 : (telem Tryd.prog 22).bind (tsz Tryd.prog) = some 1 := by kernel_rfl
theorem F63.ze4 : tzero Tryd.prog 4 = some [(.bool false)] := by kernel_rfl
theorem laws_toBoolS_ok {fr : List Pc} {H : Heap} (v0 : AV) (l0 : List (Bool)) (hs : Sep H (fr)) (g0 : ∀ H, Sep H fr → Shows H v0 1 (enc eBool l0)) (K : (List (Bool)) → Prop) (h : laws_toBoolS.wp l0 K) : OkQ Tryd.prog 63 [(.v v0)] H (fun r H2 => ∃ (y0 : List (Bool)), K y0 ∧ ∃ (w0_ : AV), r = (.v w0_) ∧ Sep H2 (Pc.osl w0_ 1 (enc eBool y0) :: fr)) := by
  unfold laws_toBoolS.wp at h
  refine of_body Tryd.f63 F.hm Tryd.func63 rfl Tryd.call63 (by kernel_rfl) (by simp) ?_
  refine fi_seq ?_
  refine fi_region ?_
  refine so_assign (v := (.v .nilsl)) rfl ?_
  refine so_nil ?_
  refine fi_seq ?_
  refine fi_region ?_
  refine so_move (v := (.v v0)) rfl ?_
  refine sv_len (g0 _ hs) (fun _ => rfl) (by decide) rfl F63.ti22 ?_
  obtain ⟨c101, h⟩ := h
  refine sv_make hs eBool false c101 (fun _ => rfl) rfl rfl F63.te22 F63.sz4 F63.by4 F63.ze4 rfl rfl nofun (fun v102 H103 nv102 hs => ?_)
  refine so_assign (v := (.v v102)) rfl ?_
  refine so_nil ?_
  refine fi_seq ?_
  refine fi_seq ?_
  refine fi_region ?_
  refine so_assign (v := (.v (.int .i64 (0 : Int)))) rfl ?_
  refine so_nil ?_
  refine fi_block ?_
  refine fi_loop ?_
  refine fi_at [(0, (.v v0)), (3, (.v v102)), (4, (.v (.int .i64 (0 : Int))))] ⟨rfl, rfl, rfl, trivial⟩ ?_
  refine h (fun (out112 : List (Bool)) (i113 : Int) => ∀ (s : Nat → TV) (H : Heap), Sep H (Pc.osl v102 1 (enc eBool out112) :: fr) → Fin _ _ (updL s [(0, (.v v0)), (3, (.v v102)), (4, (.v (.int .i64 i113)))]) H _) ?_ _ _ hs
  intro out112 i113 h s118 H119 hs
  refine fi_inLoop ?_
  refine fi_seq ?_
  refine fi_seq ?_
  refine fi_region ?_
  refine so_move (v := (.v (.int .i64 i113))) rfl ?_
  refine so_move (v := (.v v0)) rfl ?_
  refine sv_len (g0 _ hs.tl) (fun _ => rfl) (by decide) rfl F63.ti22 ?_
  refine so_bin rfl rfl ab_lss ?_
  refine so_nil ?_
  replace h := ofP h; rcases h with ⟨c114, h⟩ | ⟨c114, h⟩
  · refine fi_true rfl (decide_eq_true c114) ?_
    refine fi_skip ?_
    refine fi_seq ?_
    refine fi_block ?_
    refine fi_region ?_
    refine so_move (v := (.v v102)) rfl ?_
    refine so_move (v := (.v (.int .i64 i113))) rfl ?_
    refine so_move (v := (.v v0)) rfl ?_
    refine so_move (v := (.v (.int .i64 i113))) rfl ?_
    obtain ⟨c115, h⟩ := h
    refine sv_idx (g0 _ hs.tl) c115 (fun _ => rfl) (by decide) rfl rfl F63.tl22 ?_
    refine sv_cell (g0 _ hs.tl) c115 false 0 (fun x => (AV.bool x)) (fun _ => rfl) (fun _ => rfl) rfl F63.ag4 ?_
    obtain ⟨c116, h⟩ := h
    refine sv_idx (hs.shows 0 rfl) c116 (fun _ => rfl) (by decide) rfl rfl F63.tl22 ?_
    refine sv_set hs 0 rfl c116 (l0.getD (i113).toNat false) (fun _ => rfl) (by decide) rfl rfl rfl rfl F63.sz4 nofun (fun H117 hs => ?_)
    refine so_nil ?_
    refine fi_inBlock ?_
    refine fi_region ?_
    refine so_move (v := (.v (.int .i64 i113))) rfl ?_
    refine so_bin rfl rfl ab_add ?_
    refine so_assign (v := (.v (.int .i64 (IntKind.i64.wrap (i113 + (1 : Int)))))) rfl ?_
    refine so_nil ?_
    exact fi_at [(0, (.v v0)), (3, (.v v102)), (4, (.v (.int .i64 (IntKind.i64.wrap (i113 + (1 : Int))))))] ⟨rfl, rfl, rfl, trivial⟩ (h _ _  hs)
  · refine fi_false rfl (decide_eq_false c114) ?_
    refine fi_exit rfl ?_
    refine fi_seq ?_
    refine fi_region ?_
    refine so_move (v := (.v v102)) rfl ?_
    refine so_assign (v := (.v v102)) rfl ?_
    refine so_nil ?_
    exact by_ret rfl ⟨_, h, _, rfl, hs⟩

end Go.Proofs.YtcgiboeilcdonaaDoor.G

namespace Go.Proofs.YtcgiboeilcdonaaDoor.G
open Go Go.Ab Go.Proofs Go.Proofs.YtcgiboeilcdonaaDoor
set_option maxRecDepth 100000
set_option linter.unusedVariables false
set_option linter.unusedSimpArgs false
set_option maxHeartbeats 1000000
attribute [local irreducible] wops wopf Go.Ab.Fin
theorem F27.ag2 : tagg Tryd.prog 2 = some false := by kernel_rfl
theorem F27.ag22 : tagg Tryd.prog 22 = some false := by kernel_rfl
theorem F27.ag41 : tagg Tryd.prog 41 = some true := by kernel_rfl
theorem F27.fd38_0 : tfield Tryd.prog 38 0 = some (0, 1, false) := by kernel_rfl
theorem F27.fd38_1 : tfield Tryd.prog 38 1 = some (1, 1, false) := by kernel_rfl
theorem F27.fd38_2 : tfield Tryd.prog 38 2 = some (2, 1, false) := by kernel_rfl
theorem F27.fd41_0 : tfield Tryd.prog 41 0 = some (0, 1, false) := by kernel_rfl
theorem F27.fd41_1 : tfield Tryd.prog 41 1 = some (1, 1, false) := by kernel_rfl
theorem F27.fd41_2 : tfield Tryd.prog 41 2 = some (2, 1, false) := by kernel_rfl
theorem F27.inf38 : (Tryd.prog.info? 38).isSome = true := by kernel_rfl
theorem F27.sz2 : tsz Tryd.prog 2 = some 1 := by kernel_rfl
theorem F27.sz22 : tsz Tryd.prog 22 = some 1 := by kernel_rfl
theorem F27.sz41 : tsz Tryd.prog 41 = some 3 := by kernel_rfl
theorem F27.ze41 : tzero Tryd.prog 41 = some [(.int .i64 (0 : Int)), (.int .i64 (0 : Int)), .nilsl] := by kernel_rfl
theorem laws_toCoded_ok {fr : List Pc} {H : Heap} (a0 : Int) (a1 : Int) (v2 : AV) (l2 : List (Bool)) (hs : Sep H (fr)) (g2 : ∀ H, Sep H fr → Shows H v2 1 (enc eBool l2)) (K : Int → Int → (List (Bool)) → Prop) (h : laws_toCoded.wp a0 a1 l2 K) : OkQ Tryd.prog 27 [(.g [(.int .i64 a0), (.int .i64 a1), v2])] H (fun r H2 => ∃ (y0 : Int) (y1 : Int) (y2 : List (Bool)), K y0 y1 y2 ∧ ∃ (w0_ : AV), r = (.g [(.int .i64 y0), (.int .i64 y1), w0_]) ∧ Sep H2 (Pc.osl w0_ 1 (enc eBool y2) :: fr)) := by
  unfold laws_toCoded.wp at h
  refine of_body Tryd.f27 F.hm Tryd.func27 rfl Tryd.call27 (by kernel_rfl) (by simp) ?_
  refine fi_seq ?_
  refine fi_region ?_
  refine sv_box hs rfl (c := [(.int .i64 a0), (.int .i64 a1), v2]) rfl F27.inf38 (stc rfl (stc rfl (stc (g2 _ hs).stor stn))) nofun (fun id101 H102 hs => ?_)
  refine sv_alloc hs F27.ze41 rfl nofun (fun id104 H105 hs => ?_)
  refine so_nil ?_
  refine fi_seq ?_
  refine fi_region ?_
  refine sv_alloc hs F27.ze41 rfl nofun (fun id107 H108 hs => ?_)
  refine so_nil ?_
  refine fi_seq ?_
  refine fi_region ?_
  refine so_fieldAddr rfl F27.fd38_0 ?_
  refine sv_ld hs 2 rfl rfl rfl F27.ag2 ?_
  refine so_fieldAddr rfl F27.fd41_0 ?_
  refine sv_st hs 0 rfl rfl rfl (c := [(.int .i64 a0)]) rfl F27.sz2 rfl (stc rfl stn) (leb rfl) (cs' := [(.int .i64 a0), (.int .i64 (0 : Int)), .nilsl]) rfl nofun (fun H110 hs => ?_)
  refine so_nil ?_
  refine fi_seq ?_
  refine fi_region ?_
  refine so_fieldAddr rfl F27.fd38_1 ?_
  refine sv_ld hs 2 rfl rfl rfl F27.ag2 ?_
  refine so_fieldAddr rfl F27.fd41_1 ?_
  refine sv_st hs 0 rfl rfl rfl (c := [(.int .i64 a1)]) rfl F27.sz2 rfl (stc rfl stn) (leb rfl) (cs' := [(.int .i64 a0), (.int .i64 a1), .nilsl]) rfl nofun (fun H111 hs => ?_)
  refine so_nil ?_
  refine fi_seq ?_
  refine fi_region ?_
  refine so_fieldAddr rfl F27.fd38_2 ?_
  refine sv_ld hs 2 rfl rfl rfl F27.ag22 ?_
  refine sv_call (laws_toBoolS_ok v2 l2 hs (fun _ hs => (g2 _ hs.tl.tl.tl)) _ h) rfl rfl nofun ?_
  clear h hs
  rintro _ H115 ⟨y112, h, v113, rfl, hs⟩
  refine so_fieldAddr rfl F27.fd41_2 ?_
  refine sv_st hs 1 rfl rfl rfl (c := [v113]) rfl F27.sz22 rfl (stc (hs.shows 0 rfl).stor stn) (leb rfl) (cs' := [(.int .i64 a0), (.int .i64 a1), v113]) rfl nofun (fun H116 hs => ?_)
  refine so_nil ?_
  refine fi_seq ?_
  refine fi_region ?_
  refine sv_lds hs 1 rfl rfl (leb rfl) rfl F27.ag41 F27.sz41 ?_
  refine sv_st hs 2 rfl rfl rfl (c := [(.int .i64 a0), (.int .i64 a1), v113]) rfl F27.sz41 rfl (stc rfl (stc rfl (stc (hs.shows 0 rfl).stor stn))) (leb rfl) (cs' := [(.int .i64 a0), (.int .i64 a1), v113]) rfl nofun (fun H117 hs => ?_)
  refine so_nil ?_
  exact by_ret (res_mk (ar_cells rfl F27.ag41 F27.sz41 (hs.lds 2 rfl (leb rfl) rfl) ar_nil) rfl) ⟨_, _, _, h, _, rfl, (Sep.del 1 (Sep.del 1 (Sep.del 1 hs)))⟩

end Go.Proofs.YtcgiboeilcdonaaDoor.G

namespace Go.Proofs.YtcgiboeilcdonaaDoor.G
open Go Go.Ab Go.Proofs Go.Proofs.YtcgiboeilcdonaaDoor
set_option maxRecDepth 100000
set_option linter.unusedVariables false
set_option linter.unusedSimpArgs false
set_option maxHeartbeats 1000000
attribute [local irreducible] wops wopf Go.Ab.Fin
theorem impl_within_ok {fr : List Pc} {H : Heap} (a0 : Int) (a1 : Int) (a2 : Int) (hs : Sep H (fr))  (K : Bool → Prop) (h : impl_within.wp a0 a1 a2 K) : OkQ Tryd.prog 96 [(.v (.int .i64 a0)), (.v (.int .i64 a1)), (.v (.int .i64 a2))] H (fun r H2 => ∃ (y0 : Bool), K y0 ∧ r = (.v (.bool y0)) ∧ H = H2) := by
  unfold impl_within.wp at h
  refine of_body Tryd.f96 F.hm Tryd.func96 rfl Tryd.call96 (by kernel_rfl) (by simp) ?_
  refine fi_seq ?_
  refine fi_region ?_
  refine so_assign (v := (.v (.bool false))) rfl ?_
  refine so_nil ?_
  refine fi_seq ?_
  refine fi_region ?_
  refine so_move (v := (.v (.int .i64 a0))) rfl ?_
  refine so_move (v := (.v (.int .i64 a1))) rfl ?_
  refine so_bin rfl rfl ab_geq ?_
  refine so_move (v := (.v (.bool (decide (a1 ≤ a0))))) rfl ?_
  replace h := ofP h; rcases h with ⟨c101, h⟩ | ⟨c101, h⟩
  · refine so_gyes rfl (decide_eq_true c101) ?_
    refine so_move (v := (.v (.int .i64 a0))) rfl ?_
    refine so_gyes rfl (decide_eq_true c101) ?_
    refine so_move (v := (.v (.int .i64 a2))) rfl ?_
    refine so_gyes rfl (decide_eq_true c101) ?_
    refine so_bin rfl rfl ab_leq ?_
    refine so_pick_t (v := (.v (.bool (decide (a0 ≤ a2))))) rfl (decide_eq_true c101) rfl ?_
    refine so_assign (v := (.v (.bool (decide (a0 ≤ a2))))) rfl ?_
    refine so_nil ?_
    exact by_ret rfl ⟨_, h, rfl, rfl⟩
  · refine so_gno rfl (decide_eq_false c101) ?_
    refine so_gno rfl (decide_eq_false c101) ?_
    refine so_gno rfl (decide_eq_false c101) ?_
    refine so_pick_f (v := (.v (.bool false))) rfl (decide_eq_false c101) rfl ?_
    refine so_assign (v := (.v (.bool false))) rfl ?_
    refine so_nil ?_
    exact by_ret rfl ⟨_, h, rfl, rfl⟩

end Go.Proofs.YtcgiboeilcdonaaDoor.G

namespace Go.Proofs.YtcgiboeilcdonaaDoor.G
open Go Go.Ab Go.Proofs Go.Proofs.YtcgiboeilcdonaaDoor
set_option maxRecDepth 100000
set_option linter.unusedVariables false
set_option linter.unusedSimpArgs false
set_option maxHeartbeats 1000000
attribute [local irreducible] wops wopf Go.Ab.Fin
theorem F64.ag2 : tagg Tryd.prog 2 = some false := by kernel_rfl
theorem F64.ag22 : tagg Tryd.prog 22 = some false := by kernel_rfl
theorem F64.fd41_0 : tfield Tryd.prog 41 0 = some (0, 1, false) := by kernel_rfl
theorem F64.fd41_1 : tfield Tryd.prog 41 1 = some (1, 1, false) := by kernel_rfl
theorem F64.fd41_2 : tfield Tryd.prog 41 2 = some (2, 1, false) := by kernel_rfl
theorem F64.inf41 : (Tryd.prog.info? 41).isSome = true := by kernel_rfl
theorem F64.ti22 : (telem Tryd.prog 22).isSome = true := by kernel_rfl
theorem impl_ValidCoded_ok {fr : List Pc} {H : Heap} (a0 : Int) (a1 : Int) (v2 : AV) (l2 : List (Bool)) (hs : Sep H (fr)) (g2 : ∀ H, Sep H fr → Shows H v2 1 (enc eBool l2)) (K : Bool → Prop) (h : impl_ValidCoded.wp a0 a1 l2 K) : OkQ Tryd.prog 64 [(.g [(.int .i64 a0), (.int .i64 a1), v2])] H (fun r H2 => ∃ (y0 : Bool), K y0 ∧ r = (.v (.bool y0)) ∧ Sep H2 (fr)) := by
  unfold impl_ValidCoded.wp at h
  refine of_body Tryd.f64 F.hm Tryd.func64 rfl Tryd.call64 (by kernel_rfl) (by simp) ?_
  refine fi_seq ?_
  refine fi_region ?_
  refine sv_box hs rfl (c := [(.int .i64 a0), (.int .i64 a1), v2]) rfl F64.inf41 (stc rfl (stc rfl (stc (g2 _ hs).stor stn))) nofun (fun id101 H102 hs => ?_)
  refine so_assign (v := (.v (.bool false))) rfl ?_
  refine so_nil ?_
  refine fi_seq ?_
  refine fi_region ?_
  refine so_fieldAddr rfl F64.fd41_0 ?_
  refine sv_ld hs 0 rfl rfl rfl F64.ag2 ?_
  refine sv_callS (impl_within_ok a0 (1 : Int) (128 : Int) hs  _ h) (fun _ _ ⟨_, _, _, e⟩ => e) rfl rfl ?_
  clear h
  rintro _ _ ⟨y104, h, rfl, rfl⟩
  refine so_move (v := (.v (.bool y104))) rfl ?_
  replace h := ofT h; rcases h with ⟨c106, h⟩ | ⟨c106, h⟩
  · refine so_gyes rfl c106 ?_
    refine so_fieldAddr rfl F64.fd41_1 ?_
    refine so_gyes rfl c106 ?_
    refine sv_ld hs 0 rfl rfl rfl F64.ag2 ?_
    refine so_gyes rfl c106 ?_
    refine sv_callS (impl_within_ok a1 (0 : Int) (24 : Int) hs  _ h) (fun _ _ ⟨_, _, _, e⟩ => e) rfl rfl ?_
    clear h
    rintro _ _ ⟨y107, h, rfl, rfl⟩
    refine so_pick_t (v := (.v (.bool y107))) rfl c106 rfl ?_
    refine so_move (v := (.v (.bool y107))) rfl ?_
    replace h := ofT h; rcases h with ⟨c109, h⟩ | ⟨c109, h⟩
    · refine so_gyes rfl c109 ?_
      refine so_fieldAddr rfl F64.fd41_2 ?_
      refine so_gyes rfl c109 ?_
      refine sv_ld hs 0 rfl rfl rfl F64.ag22 ?_
      refine so_gyes rfl c109 ?_
      refine sv_len (g2 _ hs.tl) (fun _ => rfl) (by decide) rfl F64.ti22 ?_
      refine so_gyes rfl c109 ?_
      refine so_bin rfl rfl ab_leq ?_
      refine so_pick_t (v := (.v (.bool (decide ((l2.length : Int) ≤ (32768 : Int)))))) rfl c109 rfl ?_
      refine so_assign (v := (.v (.bool (decide ((l2.length : Int) ≤ (32768 : Int)))))) rfl ?_
      refine so_nil ?_
      exact by_ret rfl ⟨_, h, rfl, (Sep.del 0 hs)⟩
    · refine so_gno rfl c109 ?_
      refine so_gno rfl c109 ?_
      refine so_gno rfl c109 ?_
      refine so_gno rfl c109 ?_
      refine so_pick_f (v := (.v (.bool false))) rfl c109 rfl ?_
      refine so_assign (v := (.v (.bool false))) rfl ?_
      refine so_nil ?_
      exact by_ret rfl ⟨_, h, rfl, (Sep.del 0 hs)⟩
  · refine so_gno rfl c106 ?_
    refine so_gno rfl c106 ?_
    refine so_gno rfl c106 ?_
    refine so_pick_f (v := (.v (.bool false))) rfl c106 rfl ?_
    refine so_move (v := (.v (.bool false))) rfl ?_
    refine so_gno rfl rfl ?_
    refine so_gno rfl rfl ?_
    refine so_gno rfl rfl ?_
    refine so_gno rfl rfl ?_
    refine so_pick_f (v := (.v (.bool false))) rfl rfl rfl ?_
    refine so_assign (v := (.v (.bool false))) rfl ?_
    refine so_nil ?_
    exact by_ret rfl ⟨_, h, rfl, (Sep.del 0 hs)⟩

end Go.Proofs.YtcgiboeilcdonaaDoor.G

namespace Go.Proofs.YtcgiboeilcdonaaDoor.G
open Go Go.Ab Go.Proofs Go.Proofs.YtcgiboeilcdonaaDoor
set_option maxRecDepth 100000
set_option linter.unusedVariables false
set_option linter.unusedSimpArgs false
set_option maxHeartbeats 1000000
attribute [local irreducible] wops wopf Go.Ab.Fin
theorem impl_isValue_ok {fr : List Pc} {H : Heap} (a0 : Int) (hs : Sep H (fr))  (K : Bool → Prop) (h : impl_isValue.wp a0 K) : OkQ Tryd.prog 130 [(.v (.int .i64 a0))] H (fun r H2 => ∃ (y0 : Bool), K y0 ∧ r = (.v (.bool y0)) ∧ H = H2) := by
  unfold impl_isValue.wp at h
  refine of_body Tryd.f130 F.hm Tryd.func130 rfl Tryd.call130 (by kernel_rfl) (by simp) ?_
  refine fi_seq ?_
  refine fi_region ?_
  refine so_assign (v := (.v (.bool false))) rfl ?_
  refine so_nil ?_
  refine fi_seq ?_
  refine fi_region ?_
  refine so_move (v := (.v (.int .i64 a0))) rfl ?_
  refine sv_callS (impl_within_ok a0 (-1000000000000000 : Int) (1000000000000000 : Int) hs  _ h) (fun _ _ ⟨_, _, _, e⟩ => e) rfl rfl ?_
  clear h
  rintro _ _ ⟨y101, h, rfl, rfl⟩
  refine so_assign (v := (.v (.bool y101))) rfl ?_
  refine so_nil ?_
  exact by_ret rfl ⟨_, h, rfl, rfl⟩

end Go.Proofs.YtcgiboeilcdonaaDoor.G

namespace Go.Proofs.YtcgiboeilcdonaaDoor.G
open Go Go.Ab Go.Proofs Go.Proofs.YtcgiboeilcdonaaDoor
set_option maxRecDepth 100000
set_option linter.unusedVariables false
set_option linter.unusedSimpArgs false
set_option maxHeartbeats 1000000
attribute [local irreducible] wops wopf Go.Ab.Fin
theorem F104.ag2 : tagg Tryd.prog 2 = some false := by kernel_rfl
theorem F104.ti96 : (telem Tryd.prog 96).isSome = true := by kernel_rfl
theorem F104.tl96 : (telem Tryd.prog 96).bind (tsz Tryd.prog) = some 1 := by kernel_rfl
theorem impl_areValues_ok {fr : List Pc} {H : Heap} (v0 : AV) (l0 : List (Int)) (hs : Sep H (fr)) (g0 : ∀ H, Sep H fr → Shows H v0 1 (enc (eInt .i64) l0)) (K : Bool → Prop) (h : impl_areValues.wp l0 K) : OkQ Tryd.prog 104 [(.v v0)] H (fun r H2 => ∃ (y0 : Bool), K y0 ∧ r = (.v (.bool y0)) ∧ H = H2) := by
  unfold impl_areValues.wp at h
  refine of_body Tryd.f104 F.hm Tryd.func104 rfl Tryd.call104 (by kernel_rfl) (by simp) ?_
  refine fi_seq ?_
  refine fi_region ?_
  refine so_assign (v := (.v (.bool false))) rfl ?_
  refine so_nil ?_
  refine fi_seq ?_
  refine fi_seq ?_
  refine fi_region ?_
  refine so_move (v := (.v v0)) rfl ?_
  refine sv_len (g0 _ hs) (fun _ => rfl) (by decide) rfl F104.ti96 ?_
  refine so_move (v := (.v (.int .i64 (0 : Int)))) rfl ?_
  refine so_nil ?_
  refine fi_block ?_
  refine fi_loop ?_
  refine fi_at [(0, (.v v0)), (5, (.v v0)), (6, (.v (.int .i64 (l0.length : Int)))), (7, (.v (.int .i64 (0 : Int))))] ⟨rfl, rfl, rfl, rfl, trivial⟩ ?_
  refine h (fun (x102 : Int) => ∀ (s : Nat → TV), Fin _ _ (updL s [(0, (.v v0)), (5, (.v v0)), (6, (.v (.int .i64 (l0.length : Int)))), (7, (.v (.int .i64 x102)))]) _ _) ?_ _
  intro x102 h s108
  refine fi_inLoop ?_
  refine fi_seq ?_
  refine fi_region ?_
  refine so_bin rfl rfl ab_lss ?_
  refine so_nil ?_
  refine fi_seq ?_
  replace h := ofP h; rcases h with ⟨c103, h⟩ | ⟨c103, h⟩
  · refine fi_true rfl (decide_eq_true c103) ?_
    refine fi_skip ?_
    refine fi_seq ?_
    refine fi_block ?_
    refine fi_seq ?_
    refine fi_region ?_
    obtain ⟨c104, h⟩ := h
    refine sv_idx (g0 _ hs) c104 (fun _ => rfl) (by decide) rfl rfl F104.tl96 ?_
    refine sv_cell (g0 _ hs) c104 (0 : Int) 0 (fun x => (AV.int .i64 x)) (fun _ => rfl) (fun _ => rfl) rfl F104.ag2 ?_
    refine so_assign (v := (.v (.int .i64 (l0.getD (x102).toNat (0 : Int))))) rfl ?_
    refine so_nil ?_
    refine fi_seq ?_
    refine fi_region ?_
    refine so_move (v := (.v (.int .i64 (l0.getD (x102).toNat (0 : Int))))) rfl ?_
    refine sv_callS (impl_isValue_ok (l0.getD (x102).toNat (0 : Int)) hs  _ h) (fun _ _ ⟨_, _, _, e⟩ => e) rfl rfl ?_
    clear h
    rintro _ _ ⟨y105, h, rfl, rfl⟩
    refine so_un rfl au_not ?_
    refine so_nil ?_
    replace h := ofT h; rcases h with ⟨c107, h⟩ | ⟨c107, h⟩
    · refine fi_false rfl (not_f c107) ?_
      refine fi_skip ?_
      refine fi_inBlock ?_
      refine fi_region ?_
      refine so_bin rfl rfl ab_add ?_
      refine so_move (v := (.v (.int .i64 (IntKind.i64.wrap (x102 + (1 : Int)))))) rfl ?_
      refine so_nil ?_
      exact fi_at [(0, (.v v0)), (5, (.v v0)), (6, (.v (.int .i64 (l0.length : Int)))), (7, (.v (.int .i64 (IntKind.i64.wrap (x102 + (1 : Int))))))] ⟨rfl, rfl, rfl, rfl, trivial⟩ (h _)
    · refine fi_true rfl (not_t c107) ?_
      refine fi_seq ?_
      refine fi_region ?_
      refine so_assign (v := (.v (.bool false))) rfl ?_
      refine so_nil ?_
      exact by_ret rfl ⟨_, h, rfl, rfl⟩
  · refine fi_false rfl (decide_eq_false c103) ?_
    refine fi_exit rfl ?_
    refine fi_seq ?_
    refine fi_region ?_
    refine so_move (v := (.v v0)) rfl ?_
    refine sv_len (g0 _ hs) (fun _ => rfl) (by decide) rfl F104.ti96 ?_
    refine so_bin rfl rfl ab_leq ?_
    refine so_assign (v := (.v (.bool (decide ((l0.length : Int) ≤ (64 : Int)))))) rfl ?_
    refine so_nil ?_
    exact by_ret rfl ⟨_, h, rfl, rfl⟩

end Go.Proofs.YtcgiboeilcdonaaDoor.G

namespace Go.Proofs.YtcgiboeilcdonaaDoor.G
open Go Go.Ab Go.Proofs Go.Proofs.YtcgiboeilcdonaaDoor
set_option maxRecDepth 100000
set_option linter.unusedVariables false
set_option linter.unusedSimpArgs false
set_option maxHeartbeats 1000000
attribute [local irreducible] wops wopf Go.Ab.Fin
theorem strings_Join_ok {fr : List Pc} {H : Heap} (v0 : AV) (l0 : List (List UInt8)) (a1 : List UInt8) (hs : Sep H fr) (g0 : ∀ H, Sep H fr → Shows H v0 1 (enc eStr l0)) (K : List UInt8 → Prop) (h : strings_Join.wp l0 a1 K) : OkQ Tryd.prog 138 [.v v0, .v (.str (pk a1))] H (fun r H2 => ∃ (y0 : List UInt8), K y0 ∧ r = (.v (.str (pk y0))) ∧ H = H2) :=
  ⟨_, _, ok_join Tryd.call138 (fun a c sep w => Any.strings_Join_none Tryd.lays156 Tryd.Builder_Extra_156 a c sep w) (fun bk o c xs sep w h1 h2 h3 h4 h5 => Any.strings_Join Tryd.lays156 Tryd.Builder_Extra_156 bk o c xs sep w h1 h2 h3 h4 h5) (g0 H hs) h.1, _, h.2, rfl, rfl⟩

end Go.Proofs.YtcgiboeilcdonaaDoor.G

namespace Go.Proofs.YtcgiboeilcdonaaDoor.G
open Go Go.Ab Go.Proofs Go.Proofs.YtcgiboeilcdonaaDoor
set_option maxRecDepth 100000
set_option linter.unusedVariables false
set_option linter.unusedSimpArgs false
set_option maxHeartbeats 1000000
attribute [local irreducible] wops wopf Go.Ab.Fin
theorem F116.ti28 : (telem Tryd.prog 28).isSome = true := by kernel_rfl
theorem impl_joined_ok {fr : List Pc} {H : Heap} (v0 : AV) (l0 : List (List UInt8)) (hs : Sep H (fr)) (g0 : ∀ H, Sep H fr → Shows H v0 1 (enc eStr l0)) (K : (List UInt8) → Prop) (h : impl_joined.wp l0 K) : OkQ Tryd.prog 116 [(.v v0)] H (fun r H2 => ∃ (y0 : List UInt8), K y0 ∧ r = (.v (.str (pk y0))) ∧ H = H2) := by
  unfold impl_joined.wp at h
  refine of_body Tryd.f116 F.hm Tryd.func116 rfl Tryd.call116 (by kernel_rfl) (by simp) ?_
  refine fi_seq ?_
  refine fi_region ?_
  refine so_assign (v := (.v (.str (pk ([] : List UInt8))))) rfl ?_
  refine so_nil ?_
  refine fi_seq ?_
  refine fi_seq ?_
  refine fi_region ?_
  refine so_move (v := (.v v0)) rfl ?_
  refine sv_len (g0 _ hs) (fun _ => rfl) (by decide) rfl F116.ti28 ?_
  refine so_bin rfl rfl ab_eql ?_
  refine so_nil ?_
  replace h := ofP h; rcases h with ⟨c101, h⟩ | ⟨c101, h⟩
  · refine fi_true rfl (decide_eq_true c101) ?_
    refine fi_seq ?_
    refine fi_region ?_
    refine so_assign (v := (.v (.str (pk ([110, 111, 110, 101] : List UInt8))))) rfl ?_
    refine so_nil ?_
    exact by_ret rfl ⟨_, h, rfl, rfl⟩
  · refine fi_false rfl (decide_eq_false c101) ?_
    refine fi_skip ?_
    refine fi_seq ?_
    refine fi_region ?_
    refine so_move (v := (.v v0)) rfl ?_
    refine sv_callS (strings_Join_ok v0 l0 ([44] : List UInt8) hs (fun _ hs => (g0 _ hs)) _ h) (fun _ _ ⟨_, _, _, e⟩ => e) rfl rfl ?_
    clear h
    rintro _ _ ⟨y102, h, rfl, rfl⟩
    refine so_assign (v := (.v (.str (pk y102)))) rfl ?_
    refine so_nil ?_
    exact by_ret rfl ⟨_, h, rfl, rfl⟩

end Go.Proofs.YtcgiboeilcdonaaDoor.G

namespace Go.Proofs.YtcgiboeilcdonaaDoor.G
open Go Go.Ab Go.Proofs Go.Proofs.YtcgiboeilcdonaaDoor
set_option maxRecDepth 100000
set_option linter.unusedVariables false
set_option linter.unusedSimpArgs false
set_option maxHeartbeats 1000000
attribute [local irreducible] wops wopf Go.Ab.Fin
theorem internal_strconv_FormatInt_ok {fr : List Pc} {H : Heap} (a0 : Int) (a1 : Int) (hs : Sep H fr) (gt4 : ∀ H, Sep H fr → HasTab 4 F.tab4 H) (K : List UInt8 → Prop) (h : internal_strconv_FormatInt.wp a0 a1 K) : OkQ Tryd.prog 128 [.v (.int .i64 a0), .v (.int .i64 a1)] H (fun r H2 => ∃ (y0 : List UInt8), K y0 ∧ r = (.v (.str (pk y0))) ∧ H = H2) := by
  obtain ⟨rfl, h0, h⟩ := h
  exact ⟨.v (.str (pk (Lib.itoa a0))), _, ok_libG [.int .i64 a0, .int .i64 10] (.string (pk (Lib.itoa a0))) Tryd.call128 (args_ii _ _ _ _) (fun β => rfl) (fun β w hw => by
    obtain ⟨o, ho1, ho2⟩ := (gt4 H hs).heap hw
    exact Any.internal_strconv_FormatInt_10 Tryd.laysM246 a0 h0.1 h0.2 w (ho2 w ho1)), _, h, rfl, rfl⟩

end Go.Proofs.YtcgiboeilcdonaaDoor.G

namespace Go.Proofs.YtcgiboeilcdonaaDoor.G
open Go Go.Ab Go.Proofs Go.Proofs.YtcgiboeilcdonaaDoor
set_option maxRecDepth 100000
set_option linter.unusedVariables false
set_option linter.unusedSimpArgs false
set_option maxHeartbeats 1000000
attribute [local irreducible] wops wopf Go.Ab.Fin
theorem strconv_FormatInt_ok {fr : List Pc} {H : Heap} (a0 : Int) (a1 : Int) (hs : Sep H (fr)) (gt4 : ∀ H, Sep H fr → HasTab 4 F.tab4 H) (K : (List UInt8) → Prop) (h : strconv_FormatInt.wp a0 a1 K) : OkQ Tryd.prog 98 [(.v (.int .i64 a0)), (.v (.int .i64 a1))] H (fun r H2 => ∃ (y0 : List UInt8), K y0 ∧ r = (.v (.str (pk y0))) ∧ H = H2) := by
  unfold strconv_FormatInt.wp at h
  refine of_body Tryd.f98 F.hm Tryd.func98 rfl Tryd.call98 (by kernel_rfl) (by simp) ?_
  refine fi_seq ?_
  refine fi_region ?_
  refine so_assign (v := (.v (.str (pk ([] : List UInt8))))) rfl ?_
  refine so_nil ?_
  refine fi_seq ?_
  refine fi_region ?_
  refine so_move (v := (.v (.int .i64 a0))) rfl ?_
  refine so_move (v := (.v (.int .i64 a1))) rfl ?_
  refine sv_callS (internal_strconv_FormatInt_ok a0 a1 hs (fun _ hs => gt4 _ hs) _ h) (fun _ _ ⟨_, _, _, e⟩ => e) rfl rfl ?_
  clear h
  rintro _ _ ⟨y101, h, rfl, rfl⟩
  refine so_assign (v := (.v (.str (pk y101)))) rfl ?_
  refine so_nil ?_
  exact by_ret rfl ⟨_, h, rfl, rfl⟩

end Go.Proofs.YtcgiboeilcdonaaDoor.G

namespace Go.Proofs.YtcgiboeilcdonaaDoor.G
open Go Go.Ab Go.Proofs Go.Proofs.YtcgiboeilcdonaaDoor
set_option maxRecDepth 100000
set_option linter.unusedVariables false
set_option linter.unusedSimpArgs false
set_option maxHeartbeats 1000000
attribute [local irreducible] wops wopf Go.Ab.Fin
theorem impl_Decimal_ok {fr : List Pc} {H : Heap} (a0 : Int) (hs : Sep H (fr)) (gt4 : ∀ H, Sep H fr → HasTab 4 F.tab4 H) (K : (List UInt8) → Prop) (h : impl_Decimal.wp a0 K) : OkQ Tryd.prog 54 [(.v (.int .i64 a0))] H (fun r H2 => ∃ (y0 : List UInt8), K y0 ∧ r = (.v (.str (pk y0))) ∧ H = H2) := by
  unfold impl_Decimal.wp at h
  refine of_body Tryd.f54 F.hm Tryd.func54 rfl Tryd.call54 (by kernel_rfl) (by simp) ?_
  refine fi_seq ?_
  refine fi_region ?_
  refine so_assign (v := (.v (.str (pk ([] : List UInt8))))) rfl ?_
  refine so_nil ?_
  refine fi_seq ?_
  refine fi_region ?_
  refine so_move (v := (.v (.int .i64 a0))) rfl ?_
  refine sv_callS (strconv_FormatInt_ok a0 (10 : Int) hs (fun _ hs => gt4 _ hs) _ h) (fun _ _ ⟨_, _, _, e⟩ => e) rfl rfl ?_
  clear h
  rintro _ _ ⟨y101, h, rfl, rfl⟩
  refine so_assign (v := (.v (.str (pk y101)))) rfl ?_
  refine so_nil ?_
  exact by_ret rfl ⟨_, h, rfl, rfl⟩

end Go.Proofs.YtcgiboeilcdonaaDoor.G

namespace Go.Proofs.YtcgiboeilcdonaaDoor.G
open Go Go.Ab Go.Proofs Go.Proofs.YtcgiboeilcdonaaDoor
set_option maxRecDepth 100000
set_option linter.unusedVariables false
set_option linter.unusedSimpArgs false
set_option maxHeartbeats 1000000
attribute [local irreducible] wops wopf Go.Ab.Fin
theorem F105.ag2 : tagg Tryd.prog 2 = some false := by kernel_rfl
theorem F105.sz9 : tsz Tryd.prog 9 = some 1 := by kernel_rfl
theorem F105.ta28_28 : tapp Tryd.prog 28 28 = some (1, 16) := by kernel_rfl
theorem F105.te28 : telem Tryd.prog 28 = some 9 := by kernel_rfl
theorem F105.ti96 : (telem Tryd.prog 96).isSome = true := by kernel_rfl
theorem F105.tl96 : (telem Tryd.prog 96).bind (tsz Tryd.prog) = some 1 := by kernel_rfl
theorem F105.ze9 : tzero Tryd.prog 9 = some [(.str (pk ([] : List UInt8)))] := by kernel_rfl
theorem impl_listText_ok {fr : List Pc} {H : Heap} (v0 : AV) (l0 : List (Int)) (hs : Sep H (fr)) (g0 : ∀ H, Sep H fr → Shows H v0 1 (enc (eInt .i64) l0)) (gt4 : ∀ H, Sep H fr → HasTab 4 F.tab4 H) (K : (List UInt8) → Prop) (h : impl_listText.wp l0 K) : OkQ Tryd.prog 105 [(.v v0)] H (fun r H2 => ∃ (y0 : List UInt8), K y0 ∧ r = (.v (.str (pk y0))) ∧ Sep H2 (fr)) := by
  unfold impl_listText.wp at h
  refine of_body Tryd.f105 F.hm Tryd.func105 rfl Tryd.call105 (by kernel_rfl) (by simp) ?_
  refine fi_seq ?_
  refine fi_region ?_
  refine so_assign (v := (.v (.str (pk ([] : List UInt8))))) rfl ?_
  refine so_nil ?_
  refine fi_seq ?_
  refine fi_region ?_
  refine sv_bslice hs eStr ([] : List (List UInt8)) [] F105.te28 F105.sz9 F105.ze9 rfl rfl rfl rfl (fun _ => rfl) rfl (by decide) nofun (fun v101 H102 nv101 hs => ?_)
  refine so_assign (v := (.v v101)) rfl ?_
  refine so_nil ?_
  refine fi_seq ?_
  refine fi_seq ?_
  refine fi_region ?_
  refine so_move (v := (.v v0)) rfl ?_
  refine sv_len (g0 _ hs.tl) (fun _ => rfl) (by decide) rfl F105.ti96 ?_
  refine so_move (v := (.v (.int .i64 (0 : Int)))) rfl ?_
  refine so_nil ?_
  refine fi_block ?_
  refine fi_loop ?_
  refine fi_at [(3, (.v v101)), (7, (.v v0)), (8, (.v (.int .i64 (l0.length : Int)))), (9, (.v (.int .i64 (0 : Int))))] ⟨rfl, rfl, rfl, rfl, trivial⟩ ?_
  refine h (fun (texts121 : List (List UInt8)) (x123 : Int) => ∀ (s : Nat → TV) (H : Heap) (v122 : AV) (nv122 : v122 ≠ .nilsl), Sep H (Pc.osl v122 1 (enc eStr texts121) :: fr) → Fin _ _ (updL s [(3, (.v v122)), (7, (.v v0)), (8, (.v (.int .i64 (l0.length : Int)))), (9, (.v (.int .i64 x123)))]) H _) ?_ _ _ _ nv101 hs
  intro texts121 x123 h s136 H137 v122 nv122 hs
  refine fi_inLoop ?_
  refine fi_seq ?_
  refine fi_region ?_
  refine so_bin rfl rfl ab_lss ?_
  refine so_nil ?_
  refine fi_seq ?_
  replace h := ofP h; rcases h with ⟨c124, h⟩ | ⟨c124, h⟩
  · refine fi_true rfl (decide_eq_true c124) ?_
    refine fi_skip ?_
    refine fi_seq ?_
    refine fi_block ?_
    refine fi_seq ?_
    refine fi_region ?_
    obtain ⟨c125, h⟩ := h
    refine sv_idx (g0 _ hs.tl) c125 (fun _ => rfl) (by decide) rfl rfl F105.tl96 ?_
    refine sv_cell (g0 _ hs.tl) c125 (0 : Int) 0 (fun x => (AV.int .i64 x)) (fun _ => rfl) (fun _ => rfl) rfl F105.ag2 ?_
    refine so_assign (v := (.v (.int .i64 (l0.getD (x123).toNat (0 : Int))))) rfl ?_
    refine so_nil ?_
    refine fi_region ?_
    refine so_move (v := (.v v122)) rfl ?_
    refine so_move (v := (.v (.int .i64 (l0.getD (x123).toNat (0 : Int))))) rfl ?_
    refine sv_callS (impl_Decimal_ok (l0.getD (x123).toNat (0 : Int)) hs (fun _ hs => gt4 _ hs.tl) _ h) (fun _ _ ⟨_, _, _, e⟩ => e) rfl rfl ?_
    clear h
    rintro _ _ ⟨y126, h, rfl, rfl⟩
    refine sv_bslice hs eStr ([y126] : List (List UInt8)) [[(.str (pk y126))]] F105.te28 F105.sz9 F105.ze9 rfl rfl rfl rfl (fun _ => rfl) rfl (by decide) nofun (fun v128 H129 nv128 hs => ?_)
    obtain ⟨c133, h⟩ := h
    refine sv_app hs 1 rfl (hs.shows 0 rfl) (fun _ => rfl) (by decide) F105.ta28_28 (by decide) c133 rfl rfl nofun (fun v131 H132 kv131 hs => ?_)
    replace hs := hs.del 0
    have nv131 := kv131 nv122
    refine so_assign (v := (.v v131)) rfl ?_
    refine so_nil ?_
    refine fi_inBlock ?_
    refine fi_region ?_
    refine so_bin rfl rfl ab_add ?_
    refine so_move (v := (.v (.int .i64 (IntKind.i64.wrap (x123 + (1 : Int)))))) rfl ?_
    refine so_nil ?_
    exact fi_at [(3, (.v v131)), (7, (.v v0)), (8, (.v (.int .i64 (l0.length : Int)))), (9, (.v (.int .i64 (IntKind.i64.wrap (x123 + (1 : Int))))))] ⟨rfl, rfl, rfl, rfl, trivial⟩ (h _ _ _ nv131 hs)
  · refine fi_false rfl (decide_eq_false c124) ?_
    refine fi_exit rfl ?_
    refine fi_seq ?_
    refine fi_region ?_
    refine so_move (v := (.v v122)) rfl ?_
    refine sv_callS (impl_joined_ok v122 texts121 hs (fun _ hs => (hs.shows 0 rfl)) _ h) (fun _ _ ⟨_, _, _, e⟩ => e) rfl rfl ?_
    clear h
    rintro _ _ ⟨y134, h, rfl, rfl⟩
    refine so_assign (v := (.v (.str (pk y134)))) rfl ?_
    refine so_nil ?_
    exact by_ret rfl ⟨_, h, rfl, (Sep.del 0 hs)⟩

end Go.Proofs.YtcgiboeilcdonaaDoor.G

namespace Go.Proofs.YtcgiboeilcdonaaDoor.G
open Go Go.Ab Go.Proofs Go.Proofs.YtcgiboeilcdonaaDoor
set_option maxRecDepth 100000
set_option linter.unusedVariables false
set_option linter.unusedSimpArgs false
set_option maxHeartbeats 1000000
attribute [local irreducible] wops wopf Go.Ab.Fin
theorem impl_ListText_ok {fr : List Pc} {H : Heap} (v0 : AV) (l0 : List (Int)) (hs : Sep H (fr)) (g0 : ∀ H, Sep H fr → Shows H v0 1 (enc (eInt .i64) l0)) (gt4 : ∀ H, Sep H fr → HasTab 4 F.tab4 H) (K : (List UInt8) → Bool → Prop) (h : impl_ListText.wp l0 K) : OkQ Tryd.prog 65 [(.v v0)] H (fun r H2 => ∃ (y0 : List UInt8) (y1 : Bool), K y0 y1 ∧ r = (.t [(.v (.str (pk y0))), (.v (.bool y1))]) ∧ Sep H2 (fr)) := by
  unfold impl_ListText.wp at h
  refine of_body Tryd.f65 F.hm Tryd.func65 rfl Tryd.call65 (by kernel_rfl) (by simp) ?_
  refine fi_seq ?_
  refine fi_region ?_
  refine so_assign (v := (.v (.str (pk ([] : List UInt8))))) rfl ?_
  refine so_assign (v := (.v (.bool false))) rfl ?_
  refine so_nil ?_
  refine fi_seq ?_
  refine fi_seq ?_
  refine fi_region ?_
  refine so_move (v := (.v v0)) rfl ?_
  refine sv_callS (impl_areValues_ok v0 l0 hs (fun _ hs => (g0 _ hs)) _ h) (fun _ _ ⟨_, _, _, e⟩ => e) rfl rfl ?_
  clear h
  rintro _ _ ⟨y101, h, rfl, rfl⟩
  refine so_un rfl au_not ?_
  refine so_nil ?_
  replace h := ofT h; rcases h with ⟨c103, h⟩ | ⟨c103, h⟩
  · refine fi_false rfl (not_f c103) ?_
    refine fi_skip ?_
    refine fi_seq ?_
    refine fi_region ?_
    refine so_move (v := (.v v0)) rfl ?_
    refine sv_call (impl_listText_ok v0 l0 hs (fun _ hs => (g0 _ hs)) (fun _ hs => gt4 _ hs) _ h) rfl rfl nofun ?_
    clear h hs
    rintro _ H105 ⟨y104, h, rfl, hs⟩
    refine so_assign (v := (.v (.str (pk y104)))) rfl ?_
    refine so_assign (v := (.v (.bool true))) rfl ?_
    refine so_nil ?_
    exact by_ret rfl ⟨_, _, h, rfl, hs⟩
  · refine fi_true rfl (not_t c103) ?_
    refine fi_seq ?_
    refine fi_region ?_
    refine so_assign (v := (.v (.str (pk ([] : List UInt8))))) rfl ?_
    refine so_assign (v := (.v (.bool false))) rfl ?_
    refine so_nil ?_
    exact by_ret rfl ⟨_, _, h, rfl, hs⟩

end Go.Proofs.YtcgiboeilcdonaaDoor.G

namespace Go.Proofs.YtcgiboeilcdonaaDoor.G
open Go Go.Ab Go.Proofs Go.Proofs.YtcgiboeilcdonaaDoor
set_option maxRecDepth 100000
set_option linter.unusedVariables false
set_option linter.unusedSimpArgs false
set_option maxHeartbeats 1000000
attribute [local irreducible] wops wopf Go.Ab.Fin
theorem F66.ag4 : tagg Tryd.prog 4 = some false := by kernel_rfl
theorem F66.it5 : tint Tryd.prog 5 = some .u8 := by kernel_rfl
theorem F66.sr9 : tstr Tryd.prog 9 = true := by kernel_rfl
theorem F66.sz5 : tsz Tryd.prog 5 = some 1 := by kernel_rfl
theorem F66.ta72_72 : tapp Tryd.prog 72 72 = some (1, 1) := by kernel_rfl
theorem F66.te72 : telem Tryd.prog 72 = some 5 := by kernel_rfl
theorem F66.ti22 : (telem Tryd.prog 22).isSome = true := by kernel_rfl
theorem F66.tl22 : (telem Tryd.prog 22).bind (tsz Tryd.prog) = some 1 := by kernel_rfl
theorem F66.us72 : (Tryd.prog.underlying 72).isSome = true := by kernel_rfl
theorem F66.ze5 : tzero Tryd.prog 5 = some [(.int .u8 (0 : Int))] := by kernel_rfl
theorem impl_BitText_ok {fr : List Pc} {H : Heap} (v0 : AV) (l0 : List (Bool)) (hs : Sep H (fr)) (g0 : ∀ H, Sep H fr → Shows H v0 1 (enc eBool l0)) (K : (List UInt8) → Bool → Prop) (h : impl_BitText.wp l0 K) : OkQ Tryd.prog 66 [(.v v0)] H (fun r H2 => ∃ (y0 : List UInt8) (y1 : Bool), K y0 y1 ∧ r = (.t [(.v (.str (pk y0))), (.v (.bool y1))]) ∧ Sep H2 (fr)) := by
  unfold impl_BitText.wp at h
  refine of_body Tryd.f66 F.hm Tryd.func66 rfl Tryd.call66 (by kernel_rfl) (by simp) ?_
  refine fi_seq ?_
  refine fi_region ?_
  refine so_assign (v := (.v (.str (pk ([] : List UInt8))))) rfl ?_
  refine so_assign (v := (.v (.bool false))) rfl ?_
  refine so_nil ?_
  refine fi_seq ?_
  refine fi_seq ?_
  refine fi_region ?_
  refine so_move (v := (.v v0)) rfl ?_
  refine sv_len (g0 _ hs) (fun _ => rfl) (by decide) rfl F66.ti22 ?_
  refine so_bin rfl rfl ab_gtr ?_
  refine so_nil ?_
  replace h := ofP h; rcases h with ⟨c101, h⟩ | ⟨c101, h⟩
  · refine fi_true rfl (decide_eq_true c101) ?_
    refine fi_seq ?_
    refine fi_region ?_
    refine so_assign (v := (.v (.str (pk ([] : List UInt8))))) rfl ?_
    refine so_assign (v := (.v (.bool false))) rfl ?_
    refine so_nil ?_
    exact by_ret rfl ⟨_, _, h, rfl, hs⟩
  · refine fi_false rfl (decide_eq_false c101) ?_
    refine fi_skip ?_
    refine fi_seq ?_
    refine fi_region ?_
    refine sv_bslice hs (eInt .u8) ([] : List (Int)) [] F66.te72 F66.sz5 F66.ze5 rfl rfl rfl rfl (fun _ => rfl) rfl (by decide) nofun (fun v102 H103 nv102 hs => ?_)
    refine so_assign (v := (.v v102)) rfl ?_
    refine so_nil ?_
    refine fi_seq ?_
    refine fi_seq ?_
    refine fi_region ?_
    refine so_move (v := (.v v0)) rfl ?_
    refine sv_len (g0 _ hs.tl) (fun _ => rfl) (by decide) rfl F66.ti22 ?_
    refine so_move (v := (.v (.int .i64 (0 : Int)))) rfl ?_
    refine so_nil ?_
    refine fi_block ?_
    refine fi_loop ?_
    refine fi_at [(4, (.v v102)), (11, (.v v0)), (12, (.v (.int .i64 (l0.length : Int)))), (13, (.v (.int .i64 (0 : Int))))] ⟨rfl, rfl, rfl, rfl, trivial⟩ ?_
    refine h (fun (out125 : List (Int)) (x127 : Int) => ∀ (s : Nat → TV) (H : Heap) (v126 : AV) (nv126 : v126 ≠ .nilsl), Sep H (Pc.osl v126 1 (enc (eInt .u8) out125) :: fr) → Fin _ _ (updL s [(4, (.v v126)), (11, (.v v0)), (12, (.v (.int .i64 (l0.length : Int)))), (13, (.v (.int .i64 x127)))]) H _) ?_ _ _ _ nv102 hs
    intro out125 x127 h s143 H144 v126 nv126 hs
    refine fi_inLoop ?_
    refine fi_seq ?_
    refine fi_region ?_
    refine so_bin rfl rfl ab_lss ?_
    refine so_nil ?_
    refine fi_seq ?_
    replace h := ofP h; rcases h with ⟨c128, h⟩ | ⟨c128, h⟩
    · refine fi_true rfl (decide_eq_true c128) ?_
      refine fi_skip ?_
      refine fi_seq ?_
      refine fi_block ?_
      refine fi_seq ?_
      refine fi_region ?_
      obtain ⟨c129, h⟩ := h
      refine sv_idx (g0 _ hs.tl) c129 (fun _ => rfl) (by decide) rfl rfl F66.tl22 ?_
      refine sv_cell (g0 _ hs.tl) c129 false 0 (fun x => (AV.bool x)) (fun _ => rfl) (fun _ => rfl) rfl F66.ag4 ?_
      refine so_assign (v := (.v (.bool (l0.getD (x127).toNat false)))) rfl ?_
      refine so_nil ?_
      refine fi_seq ?_
      refine fi_region ?_
      refine so_move (v := (.v (.bool (l0.getD (x127).toNat false)))) rfl ?_
      refine so_nil ?_
      replace h := ofT h; rcases h with ⟨c130, h⟩ | ⟨c130, h⟩
      · refine fi_true rfl c130 ?_
        refine fi_region ?_
        refine so_move (v := (.v v126)) rfl ?_
        refine sv_bslice hs (eInt .u8) ([(49 : Int)] : List (Int)) [[(.int .u8 (49 : Int))]] F66.te72 F66.sz5 F66.ze5 rfl rfl rfl rfl (fun _ => rfl) rfl (by decide) nofun (fun v131 H132 nv131 hs => ?_)
        obtain ⟨c136, h⟩ := h
        refine sv_app hs 1 rfl (hs.shows 0 rfl) (fun _ => rfl) (by decide) F66.ta72_72 (by decide) c136 rfl rfl nofun (fun v134 H135 kv134 hs => ?_)
        replace hs := hs.del 0
        have nv134 := kv134 nv126
        refine so_assign (v := (.v v134)) rfl ?_
        refine so_nil ?_
        refine fi_inBlock ?_
        refine fi_region ?_
        refine so_bin rfl rfl ab_add ?_
        refine so_move (v := (.v (.int .i64 (IntKind.i64.wrap (x127 + (1 : Int)))))) rfl ?_
        refine so_nil ?_
        exact fi_at [(4, (.v v134)), (11, (.v v0)), (12, (.v (.int .i64 (l0.length : Int)))), (13, (.v (.int .i64 (IntKind.i64.wrap (x127 + (1 : Int))))))] ⟨rfl, rfl, rfl, rfl, trivial⟩ (h _ _ _ nv134 hs)
      · refine fi_false rfl c130 ?_
        refine fi_region ?_
        refine so_move (v := (.v v126)) rfl ?_
        refine sv_bslice hs (eInt .u8) ([(48 : Int)] : List (Int)) [[(.int .u8 (48 : Int))]] F66.te72 F66.sz5 F66.ze5 rfl rfl rfl rfl (fun _ => rfl) rfl (by decide) nofun (fun v137 H138 nv137 hs => ?_)
        obtain ⟨c142, h⟩ := h
        refine sv_app hs 1 rfl (hs.shows 0 rfl) (fun _ => rfl) (by decide) F66.ta72_72 (by decide) c142 rfl rfl nofun (fun v140 H141 kv140 hs => ?_)
        replace hs := hs.del 0
        have nv140 := kv140 nv126
        refine so_assign (v := (.v v140)) rfl ?_
        refine so_nil ?_
        refine fi_inBlock ?_
        refine fi_region ?_
        refine so_bin rfl rfl ab_add ?_
        refine so_move (v := (.v (.int .i64 (IntKind.i64.wrap (x127 + (1 : Int)))))) rfl ?_
        refine so_nil ?_
        exact fi_at [(4, (.v v140)), (11, (.v v0)), (12, (.v (.int .i64 (l0.length : Int)))), (13, (.v (.int .i64 (IntKind.i64.wrap (x127 + (1 : Int))))))] ⟨rfl, rfl, rfl, rfl, trivial⟩ (h _ _ _ nv140 hs)
    · refine fi_false rfl (decide_eq_false c128) ?_
      refine fi_exit rfl ?_
      refine fi_seq ?_
      refine fi_region ?_
      refine so_move (v := (.v v126)) rfl ?_
      refine sv_bs (hs.shows 0 rfl) nv126 rfl F66.te72 F66.it5 F66.sr9 ?_
      refine so_assign (v := (.v (.str (pk (byts out125))))) rfl ?_
      refine so_assign (v := (.v (.bool true))) rfl ?_
      refine so_nil ?_
      exact by_ret rfl ⟨_, _, h, rfl, (Sep.del 0 hs)⟩

end Go.Proofs.YtcgiboeilcdonaaDoor.G

namespace Go.Proofs.YtcgiboeilcdonaaDoor.G
open Go Go.Ab Go.Proofs Go.Proofs.YtcgiboeilcdonaaDoor
set_option maxRecDepth 100000
set_option linter.unusedVariables false
set_option linter.unusedSimpArgs false
set_option maxHeartbeats 1000000
attribute [local irreducible] wops wopf Go.Ab.Fin
theorem F28.ag2 : tagg Tryd.prog 2 = some false := by kernel_rfl
theorem F28.ag22 : tagg Tryd.prog 22 = some false := by kernel_rfl
theorem F28.ag41 : tagg Tryd.prog 41 = some true := by kernel_rfl
theorem F28.fd41_0 : tfield Tryd.prog 41 0 = some (0, 1, false) := by kernel_rfl
theorem F28.fd41_1 : tfield Tryd.prog 41 1 = some (1, 1, false) := by kernel_rfl
theorem F28.fd41_2 : tfield Tryd.prog 41 2 = some (2, 1, false) := by kernel_rfl
theorem F28.inf41 : (Tryd.prog.info? 41).isSome = true := by kernel_rfl
theorem F28.sz2 : tsz Tryd.prog 2 = some 1 := by kernel_rfl
theorem F28.sz41 : tsz Tryd.prog 41 = some 3 := by kernel_rfl
theorem F28.te96 : telem Tryd.prog 96 = some 2 := by kernel_rfl
theorem F28.ze2 : tzero Tryd.prog 2 = some [(.int .i64 (0 : Int))] := by kernel_rfl
theorem impl_CodedText_ok {fr : List Pc} {H : Heap} (a0 : Int) (a1 : Int) (v2 : AV) (l2 : List (Bool)) (hs : Sep H (fr)) (g2 : ∀ H, Sep H fr → Shows H v2 1 (enc eBool l2)) (gt4 : ∀ H, Sep H fr → HasTab 4 F.tab4 H) (K : (List UInt8) → Bool → Prop) (h : impl_CodedText.wp a0 a1 l2 K) : OkQ Tryd.prog 28 [(.g [(.int .i64 a0), (.int .i64 a1), v2])] H (fun r H2 => ∃ (y0 : List UInt8) (y1 : Bool), K y0 y1 ∧ r = (.t [(.v (.str (pk y0))), (.v (.bool y1))]) ∧ Sep H2 (fr)) := by
  unfold impl_CodedText.wp at h
  refine of_body Tryd.f28 F.hm Tryd.func28 rfl Tryd.call28 (by kernel_rfl) (by simp) ?_
  refine fi_seq ?_
  refine fi_region ?_
  refine sv_box hs rfl (c := [(.int .i64 a0), (.int .i64 a1), v2]) rfl F28.inf41 (stc rfl (stc rfl (stc (g2 _ hs).stor stn))) nofun (fun id101 H102 hs => ?_)
  refine so_assign (v := (.v (.str (pk ([] : List UInt8))))) rfl ?_
  refine so_assign (v := (.v (.bool false))) rfl ?_
  refine so_nil ?_
  refine fi_seq ?_
  refine fi_seq ?_
  refine fi_region ?_
  refine sv_lds hs 0 rfl rfl (leb rfl) rfl F28.ag41 F28.sz41 ?_
  refine sv_call (impl_ValidCoded_ok a0 a1 v2 l2 hs (fun _ hs => (g2 _ hs.tl)) _ h) rfl rfl nofun ?_
  clear h hs
  rintro _ H105 ⟨y104, h, rfl, hs⟩
  refine so_un rfl au_not ?_
  refine so_nil ?_
  replace h := ofT h; rcases h with ⟨c106, h⟩ | ⟨c106, h⟩
  · refine fi_false rfl (not_f c106) ?_
    refine fi_skip ?_
    refine fi_seq ?_
    refine fi_region ?_
    refine so_fieldAddr rfl F28.fd41_0 ?_
    refine sv_ld hs 0 rfl rfl rfl F28.ag2 ?_
    refine so_fieldAddr rfl F28.fd41_1 ?_
    refine sv_ld hs 0 rfl rfl rfl F28.ag2 ?_
    refine sv_bslice hs (eInt .i64) ([a0, a1] : List (Int)) [[(.int .i64 a0)], [(.int .i64 a1)]] F28.te96 F28.sz2 F28.ze2 rfl rfl rfl rfl (fun _ => rfl) rfl (by decide) nofun (fun v107 H108 nv107 hs => ?_)
    refine sv_call (impl_ListText_ok v107 ([a0, a1] : List (Int)) hs (fun _ hs => (hs.shows 0 rfl)) (fun _ hs => gt4 _ hs.tl.tl) _ h) rfl rfl nofun ?_
    clear h hs
    rintro _ H112 ⟨y110, y111, h, rfl, hs⟩
    refine so_move (v := (.t [(.v (.str (pk y110))), (.v (.bool y111))])) rfl ?_
    refine so_extract rfl rfl rfl ?_
    refine so_extract rfl rfl rfl ?_
    refine so_assign (v := (.v (.str (pk y110)))) rfl ?_
    refine so_assign (v := (.v (.bool y111))) rfl ?_
    refine so_nil ?_
    refine fi_seq ?_
    refine fi_region ?_
    refine so_fieldAddr rfl F28.fd41_2 ?_
    refine sv_ld hs 1 rfl rfl rfl F28.ag22 ?_
    refine sv_call (impl_BitText_ok v2 l2 hs (fun _ hs => (g2 _ hs.tl.tl)) _ h) rfl rfl nofun ?_
    clear h hs
    rintro _ H115 ⟨y113, y114, h, rfl, hs⟩
    refine so_move (v := (.t [(.v (.str (pk y113))), (.v (.bool y114))])) rfl ?_
    refine so_extract rfl rfl rfl ?_
    refine so_extract rfl rfl rfl ?_
    refine so_assign (v := (.v (.str (pk y113)))) rfl ?_
    refine so_assign (v := (.v (.bool y114))) rfl ?_
    refine so_nil ?_
    refine fi_seq ?_
    refine fi_region ?_
    refine so_move (v := (.v (.str (pk y110)))) rfl ?_
    obtain ⟨c116, h⟩ := h
    refine so_bin rfl rfl (ab_sadd c116) ?_
    refine so_move (v := (.v (.str (pk y113)))) rfl ?_
    obtain ⟨c117, h⟩ := h
    refine so_bin rfl rfl (ab_sadd c117) ?_
    refine so_move (v := (.v (.bool y111))) rfl ?_
    refine so_move (v := (.v (.bool y111))) rfl ?_
    replace h := ofT h; rcases h with ⟨c118, h⟩ | ⟨c118, h⟩
    · refine so_gyes rfl c118 ?_
      refine so_move (v := (.v (.bool y114))) rfl ?_
      refine so_pick_t (v := (.v (.bool y114))) rfl c118 rfl ?_
      refine so_assign (v := (.v (.str (pk ((y110 ++ ([59] : List UInt8)) ++ y113))))) rfl ?_
      refine so_assign (v := (.v (.bool y114))) rfl ?_
      refine so_nil ?_
      exact by_ret rfl ⟨_, _, h, rfl, (Sep.del 0 (Sep.del 0 hs))⟩
    · refine so_gno rfl c118 ?_
      refine so_pick_f (v := (.v (.bool false))) rfl c118 rfl ?_
      refine so_assign (v := (.v (.str (pk ((y110 ++ ([59] : List UInt8)) ++ y113))))) rfl ?_
      refine so_assign (v := (.v (.bool false))) rfl ?_
      refine so_nil ?_
      exact by_ret rfl ⟨_, _, h, rfl, (Sep.del 0 (Sep.del 0 hs))⟩
  · refine fi_true rfl (not_t c106) ?_
    refine fi_seq ?_
    refine fi_region ?_
    refine so_assign (v := (.v (.str (pk ([] : List UInt8))))) rfl ?_
    refine so_assign (v := (.v (.bool false))) rfl ?_
    refine so_nil ?_
    exact by_ret rfl ⟨_, _, h, rfl, (Sep.del 0 hs)⟩

end Go.Proofs.YtcgiboeilcdonaaDoor.G

namespace Go.Proofs.YtcgiboeilcdonaaDoor.G
open Go Go.Ab Go.Proofs Go.Proofs.YtcgiboeilcdonaaDoor
set_option maxRecDepth 100000
set_option linter.unusedVariables false
set_option linter.unusedSimpArgs false
set_option maxHeartbeats 1000000
attribute [local irreducible] wops wopf Go.Ab.Fin
theorem F13.ag4 : tagg Tryd.prog 4 = some false := by kernel_rfl
theorem F13.tb4 : tbool Tryd.prog 4 = true := by kernel_rfl
theorem F13.ti22 : (telem Tryd.prog 22).isSome = true := by kernel_rfl
theorem F13.tl22 : (telem Tryd.prog 22).bind (tsz Tryd.prog) = some 1 := by kernel_rfl
theorem laws_eqBoolS_ok {fr : List Pc} {H : Heap} (v0 : AV) (l0 : List (Bool)) (v1 : AV) (l1 : List (Bool)) (hs : Sep H (fr)) (g0 : ∀ H, Sep H fr → Shows H v0 1 (enc eBool l0)) (g1 : ∀ H, Sep H fr → Shows H v1 1 (enc eBool l1)) (K : Bool → Prop) (h : laws_eqBoolS.wp l0 l1 K) : OkQ Tryd.prog 13 [(.v v0), (.v v1)] H (fun r H2 => ∃ (y0 : Bool), K y0 ∧ r = (.v (.bool y0)) ∧ H = H2) := by
  unfold laws_eqBoolS.wp at h
  refine of_body Tryd.f13 F.hm Tryd.func13 rfl Tryd.call13 (by kernel_rfl) (by simp) ?_
  refine fi_seq ?_
  refine fi_region ?_
  refine so_assign (v := (.v (.bool false))) rfl ?_
  refine so_nil ?_
  refine fi_seq ?_
  refine fi_seq ?_
  refine fi_region ?_
  refine so_move (v := (.v v0)) rfl ?_
  refine sv_len (g0 _ hs) (fun _ => rfl) (by decide) rfl F13.ti22 ?_
  refine so_move (v := (.v v1)) rfl ?_
  refine sv_len (g1 _ hs) (fun _ => rfl) (by decide) rfl F13.ti22 ?_
  refine so_bin rfl rfl ab_neq ?_
  refine so_nil ?_
  replace h := ofP h; rcases h with ⟨c101, h⟩ | ⟨c101, h⟩
  · refine fi_false rfl (not_f (decide_eq_true c101)) ?_
    refine fi_skip ?_
    refine fi_seq ?_
    refine fi_seq ?_
    refine fi_region ?_
    refine so_assign (v := (.v (.int .i64 (0 : Int)))) rfl ?_
    refine so_nil ?_
    refine fi_block ?_
    refine fi_loop ?_
    refine fi_at [(0, (.v v0)), (1, (.v v1)), (5, (.v (.int .i64 (0 : Int))))] ⟨rfl, rfl, rfl, trivial⟩ ?_
    refine h (fun (i103 : Int) => ∀ (s : Nat → TV), Fin _ _ (updL s [(0, (.v v0)), (1, (.v v1)), (5, (.v (.int .i64 i103)))]) _ _) ?_ _
    intro i103 h s108
    refine fi_inLoop ?_
    refine fi_seq ?_
    refine fi_seq ?_
    refine fi_region ?_
    refine so_move (v := (.v (.int .i64 i103))) rfl ?_
    refine so_move (v := (.v v0)) rfl ?_
    refine sv_len (g0 _ hs) (fun _ => rfl) (by decide) rfl F13.ti22 ?_
    refine so_bin rfl rfl ab_lss ?_
    refine so_nil ?_
    replace h := ofP h; rcases h with ⟨c104, h⟩ | ⟨c104, h⟩
    · refine fi_true rfl (decide_eq_true c104) ?_
      refine fi_skip ?_
      refine fi_seq ?_
      refine fi_block ?_
      refine fi_seq ?_
      refine fi_region ?_
      refine so_move (v := (.v v0)) rfl ?_
      refine so_move (v := (.v (.int .i64 i103))) rfl ?_
      obtain ⟨c105, h⟩ := h
      refine sv_idx (g0 _ hs) c105 (fun _ => rfl) (by decide) rfl rfl F13.tl22 ?_
      refine sv_cell (g0 _ hs) c105 false 0 (fun x => (AV.bool x)) (fun _ => rfl) (fun _ => rfl) rfl F13.ag4 ?_
      refine so_move (v := (.v v1)) rfl ?_
      refine so_move (v := (.v (.int .i64 i103))) rfl ?_
      obtain ⟨c106, h⟩ := h
      refine sv_idx (g1 _ hs) c106 (fun _ => rfl) (by decide) rfl rfl F13.tl22 ?_
      refine sv_cell (g1 _ hs) c106 false 0 (fun x => (AV.bool x)) (fun _ => rfl) (fun _ => rfl) rfl F13.ag4 ?_
      refine so_bin rfl rfl (ab_bneq F13.tb4) ?_
      refine so_nil ?_
      replace h := ofT h; rcases h with ⟨c107, h⟩ | ⟨c107, h⟩
      · refine fi_false rfl (not_f c107) ?_
        refine fi_skip ?_
        refine fi_inBlock ?_
        refine fi_region ?_
        refine so_move (v := (.v (.int .i64 i103))) rfl ?_
        refine so_bin rfl rfl ab_add ?_
        refine so_assign (v := (.v (.int .i64 (IntKind.i64.wrap (i103 + (1 : Int)))))) rfl ?_
        refine so_nil ?_
        exact fi_at [(0, (.v v0)), (1, (.v v1)), (5, (.v (.int .i64 (IntKind.i64.wrap (i103 + (1 : Int))))))] ⟨rfl, rfl, rfl, trivial⟩ (h _)
      · refine fi_true rfl (not_t c107) ?_
        refine fi_seq ?_
        refine fi_region ?_
        refine so_assign (v := (.v (.bool false))) rfl ?_
        refine so_nil ?_
        exact by_ret rfl ⟨_, h, rfl, rfl⟩
    · refine fi_false rfl (decide_eq_false c104) ?_
      refine fi_exit rfl ?_
      refine fi_seq ?_
      refine fi_region ?_
      refine so_assign (v := (.v (.bool true))) rfl ?_
      refine so_nil ?_
      exact by_ret rfl ⟨_, h, rfl, rfl⟩
  · refine fi_true rfl (not_t (decide_eq_false c101)) ?_
    refine fi_seq ?_
    refine fi_region ?_
    refine so_assign (v := (.v (.bool false))) rfl ?_
    refine so_nil ?_
    exact by_ret rfl ⟨_, h, rfl, rfl⟩

end Go.Proofs.YtcgiboeilcdonaaDoor.G

namespace Go.Proofs.YtcgiboeilcdonaaDoor.G
open Go Go.Ab Go.Proofs Go.Proofs.YtcgiboeilcdonaaDoor
set_option maxRecDepth 100000
set_option linter.unusedVariables false
set_option linter.unusedSimpArgs false
set_option maxHeartbeats 1000000
attribute [local irreducible] wops wopf Go.Ab.Fin
theorem F29.ag2 : tagg Tryd.prog 2 = some false := by kernel_rfl
theorem F29.ag22 : tagg Tryd.prog 22 = some false := by kernel_rfl
theorem F29.fd41_0 : tfield Tryd.prog 41 0 = some (0, 1, false) := by kernel_rfl
theorem F29.fd41_1 : tfield Tryd.prog 41 1 = some (1, 1, false) := by kernel_rfl
theorem F29.fd41_2 : tfield Tryd.prog 41 2 = some (2, 1, false) := by kernel_rfl
theorem F29.inf41 : (Tryd.prog.info? 41).isSome = true := by kernel_rfl
theorem laws_eqCoded_ok {fr : List Pc} {H : Heap} (a0 : Int) (a1 : Int) (v2 : AV) (l2 : List (Bool)) (a3 : Int) (a4 : Int) (v5 : AV) (l5 : List (Bool)) (hs : Sep H (fr)) (g2 : ∀ H, Sep H fr → Shows H v2 1 (enc eBool l2)) (g5 : ∀ H, Sep H fr → Shows H v5 1 (enc eBool l5)) (K : Bool → Prop) (h : laws_eqCoded.wp a0 a1 l2 a3 a4 l5 K) : OkQ Tryd.prog 29 [(.g [(.int .i64 a0), (.int .i64 a1), v2]), (.g [(.int .i64 a3), (.int .i64 a4), v5])] H (fun r H2 => ∃ (y0 : Bool), K y0 ∧ r = (.v (.bool y0)) ∧ Sep H2 (fr)) := by
  unfold laws_eqCoded.wp at h
  refine of_body Tryd.f29 F.hm Tryd.func29 rfl Tryd.call29 (by kernel_rfl) (by simp) ?_
  refine fi_seq ?_
  refine fi_region ?_
  refine sv_box hs rfl (c := [(.int .i64 a0), (.int .i64 a1), v2]) rfl F29.inf41 (stc rfl (stc rfl (stc (g2 _ hs).stor stn))) nofun (fun id101 H102 hs => ?_)
  refine sv_box hs rfl (c := [(.int .i64 a3), (.int .i64 a4), v5]) rfl F29.inf41 (stc rfl (stc rfl (stc (g5 _ hs.tl).stor stn))) nofun (fun id104 H105 hs => ?_)
  refine so_assign (v := (.v (.bool false))) rfl ?_
  refine so_nil ?_
  refine fi_seq ?_
  refine fi_seq ?_
  refine fi_region ?_
  refine so_fieldAddr rfl F29.fd41_0 ?_
  refine sv_ld hs 1 rfl rfl rfl F29.ag2 ?_
  refine so_fieldAddr rfl F29.fd41_0 ?_
  refine sv_ld hs 0 rfl rfl rfl F29.ag2 ?_
  refine so_bin rfl rfl ab_neq ?_
  refine so_nil ?_
  replace h := ofP h; rcases h with ⟨c107, h⟩ | ⟨c107, h⟩
  · refine fi_false rfl (not_f (decide_eq_true c107)) ?_
    refine fi_skip ?_
    refine fi_seq ?_
    refine fi_seq ?_
    refine fi_region ?_
    refine so_fieldAddr rfl F29.fd41_1 ?_
    refine sv_ld hs 1 rfl rfl rfl F29.ag2 ?_
    refine so_fieldAddr rfl F29.fd41_1 ?_
    refine sv_ld hs 0 rfl rfl rfl F29.ag2 ?_
    refine so_bin rfl rfl ab_neq ?_
    refine so_nil ?_
    replace h := ofP h; rcases h with ⟨c108, h⟩ | ⟨c108, h⟩
    · refine fi_false rfl (not_f (decide_eq_true c108)) ?_
      refine fi_skip ?_
      refine fi_seq ?_
      refine fi_seq ?_
      refine fi_region ?_
      refine so_fieldAddr rfl F29.fd41_2 ?_
      refine sv_ld hs 1 rfl rfl rfl F29.ag22 ?_
      refine so_fieldAddr rfl F29.fd41_2 ?_
      refine sv_ld hs 0 rfl rfl rfl F29.ag22 ?_
      refine sv_callS (laws_eqBoolS_ok v2 l2 v5 l5 hs (fun _ hs => (g2 _ hs.tl.tl)) (fun _ hs => (g5 _ hs.tl.tl)) _ h) (fun _ _ ⟨_, _, _, e⟩ => e) rfl rfl ?_
      clear h
      rintro _ _ ⟨y109, h, rfl, rfl⟩
      refine so_un rfl au_not ?_
      refine so_nil ?_
      replace h := ofT h; rcases h with ⟨c111, h⟩ | ⟨c111, h⟩
      · refine fi_false rfl (not_f c111) ?_
        refine fi_skip ?_
        refine fi_seq ?_
        refine fi_region ?_
        refine so_assign (v := (.v (.bool true))) rfl ?_
        refine so_nil ?_
        exact by_ret rfl ⟨_, h, rfl, (Sep.del 0 (Sep.del 0 hs))⟩
      · refine fi_true rfl (not_t c111) ?_
        refine fi_seq ?_
        refine fi_region ?_
        refine so_assign (v := (.v (.bool false))) rfl ?_
        refine so_nil ?_
        exact by_ret rfl ⟨_, h, rfl, (Sep.del 0 (Sep.del 0 hs))⟩
    · refine fi_true rfl (not_t (decide_eq_false c108)) ?_
      refine fi_seq ?_
      refine fi_region ?_
      refine so_assign (v := (.v (.bool false))) rfl ?_
      refine so_nil ?_
      exact by_ret rfl ⟨_, h, rfl, (Sep.del 0 (Sep.del 0 hs))⟩
  · refine fi_true rfl (not_t (decide_eq_false c107)) ?_
    refine fi_seq ?_
    refine fi_region ?_
    refine so_assign (v := (.v (.bool false))) rfl ?_
    refine so_nil ?_
    exact by_ret rfl ⟨_, h, rfl, (Sep.del 0 (Sep.del 0 hs))⟩

end Go.Proofs.YtcgiboeilcdonaaDoor.G

namespace Go.Proofs.YtcgiboeilcdonaaDoor.G
open Go Go.Ab Go.Proofs Go.Proofs.YtcgiboeilcdonaaDoor
set_option maxRecDepth 100000
set_option linter.unusedVariables false
set_option linter.unusedSimpArgs false
set_option maxHeartbeats 1000000
attribute [local irreducible] wops wopf Go.Ab.Fin
theorem F6.ag38 : tagg Tryd.prog 38 = some true := by kernel_rfl
theorem F6.ag41 : tagg Tryd.prog 41 = some true := by kernel_rfl
theorem F6.inf38 : (Tryd.prog.info? 38).isSome = true := by kernel_rfl
theorem F6.sz38 : tsz Tryd.prog 38 = some 3 := by kernel_rfl
theorem F6.sz41 : tsz Tryd.prog 41 = some 3 := by kernel_rfl
theorem F6.tb4 : tbool Tryd.prog 4 = true := by kernel_rfl
theorem F6.ze41 : tzero Tryd.prog 41 = some [(.int .i64 (0 : Int)), (.int .i64 (0 : Int)), .nilsl] := by kernel_rfl
theorem laws_FnExactCodedText_ok {fr : List Pc} {H : Heap} (a0 : Int) (a1 : Int) (v2 : AV) (l2 : List (Bool)) (hs : Sep H (fr)) (g2 : ∀ H, Sep H fr → Shows H v2 1 (enc eBool l2)) (gt4 : ∀ H, Sep H fr → HasTab 4 F.tab4 H) (K : Bool → Prop) (h : laws_FnExactCodedText.wp a0 a1 l2 K) : OkQ Tryd.prog 6 [(.g [(.int .i64 a0), (.int .i64 a1), v2])] H (fun r H2 => ∃ (y0 : Bool), K y0 ∧ r = (.v (.bool y0)) ∧ Sep H2 (fr)) := by
  unfold laws_FnExactCodedText.wp at h
  refine of_body Tryd.f6 F.hm Tryd.func6 rfl Tryd.call6 (by kernel_rfl) (by simp) ?_
  refine fi_seq ?_
  refine fi_region ?_
  refine sv_box hs rfl (c := [(.int .i64 a0), (.int .i64 a1), v2]) rfl F6.inf38 (stc rfl (stc rfl (stc (g2 _ hs).stor stn))) nofun (fun id101 H102 hs => ?_)
  refine so_assign (v := (.v (.bool false))) rfl ?_
  refine so_nil ?_
  refine fi_seq ?_
  refine fi_region ?_
  refine so_assign (v := (.v (.int .i64 (1048576 : Int)))) rfl ?_
  refine so_nil ?_
  refine fi_seq ?_
  refine fi_region ?_
  refine sv_lds hs 0 rfl rfl (leb rfl) rfl F6.ag38 F6.sz38 ?_
  refine so_move (v := (.v (.int .i64 (1048576 : Int)))) rfl ?_
  refine sv_call (laws_szCoded_ok a0 a1 v2 l2 (1048576 : Int) hs (fun _ hs => (g2 _ hs.tl)) _ h) rfl rfl nofun ?_
  clear h hs
  rintro _ H105 ⟨y104, h, rfl, hs⟩
  refine so_assign (v := (.v (.int .i64 y104))) rfl ?_
  refine so_nil ?_
  refine fi_seq ?_
  refine fi_seq ?_
  refine fi_region ?_
  refine so_move (v := (.v (.int .i64 y104))) rfl ?_
  refine so_bin rfl rfl ab_lss ?_
  refine so_nil ?_
  replace h := ofP h; rcases h with ⟨c106, h⟩ | ⟨c106, h⟩
  · refine fi_true rfl (decide_eq_true c106) ?_
    refine fi_seq ?_
    refine fi_region ?_
    refine so_assign (v := (.v (.bool true))) rfl ?_
    refine so_nil ?_
    exact by_ret rfl ⟨_, h, rfl, (Sep.del 0 hs)⟩
  · refine fi_false rfl (decide_eq_false c106) ?_
    refine fi_skip ?_
    refine fi_seq ?_
    refine fi_region ?_
    refine sv_lds hs 0 rfl rfl (leb rfl) rfl F6.ag38 F6.sz38 ?_
    refine sv_call (laws_toCoded_ok a0 a1 v2 l2 hs (fun _ hs => (g2 _ hs.tl)) _ h) rfl rfl nofun ?_
    clear h hs
    rintro _ H112 ⟨y107, y108, y109, h, v110, rfl, hs⟩
    refine sv_call (spec_CodedText_ok y107 y108 v110 y109 hs (fun _ hs => (hs.shows 0 rfl)) _ h) rfl rfl nofun ?_
    clear h hs
    rintro _ H115 ⟨y113, y114, h, rfl, hs⟩
    refine so_move (v := (.t [(.v (.str (pk y113))), (.v (.bool y114))])) rfl ?_
    refine so_extract rfl rfl rfl ?_
    refine so_extract rfl rfl rfl ?_
    refine so_assign (v := (.v (.str (pk y113)))) rfl ?_
    refine so_assign (v := (.v (.bool y114))) rfl ?_
    refine so_nil ?_
    refine fi_seq ?_
    refine fi_region ?_
    refine sv_lds hs 1 rfl rfl (leb rfl) rfl F6.ag38 F6.sz38 ?_
    refine sv_call (laws_toCoded_ok a0 a1 v2 l2 hs (fun _ hs => (g2 _ hs.tl.tl)) _ h) rfl rfl nofun ?_
    clear h hs
    rintro _ H121 ⟨y116, y117, y118, h, v119, rfl, hs⟩
    refine sv_alloc hs F6.ze41 rfl nofun (fun id122 H123 hs => ?_)
    refine sv_st hs 0 rfl rfl rfl (c := [(.int .i64 y116), (.int .i64 y117), v119]) rfl F6.sz41 rfl (stc rfl (stc rfl (stc (hs.shows 1 rfl).stor stn))) (leb rfl) (cs' := [(.int .i64 y116), (.int .i64 y117), v119]) rfl nofun (fun H125 hs => ?_)
    refine so_nil ?_
    refine fi_seq ?_
    refine fi_region ?_
    refine sv_lds hs 0 rfl rfl (leb rfl) rfl F6.ag41 F6.sz41 ?_
    refine sv_call (impl_CodedText_ok y116 y117 v119 y118 hs (fun _ hs => (hs.shows 1 rfl)) (fun _ hs => gt4 _ hs.tl.tl.tl.tl) _ h) rfl rfl nofun ?_
    clear h hs
    rintro _ H128 ⟨y126, y127, h, rfl, hs⟩
    refine so_move (v := (.t [(.v (.str (pk y126))), (.v (.bool y127))])) rfl ?_
    refine so_extract rfl rfl rfl ?_
    refine so_extract rfl rfl rfl ?_
    refine so_assign (v := (.v (.str (pk y126)))) rfl ?_
    refine so_assign (v := (.v (.bool y127))) rfl ?_
    refine so_nil ?_
    refine fi_seq ?_
    refine fi_seq ?_
    refine fi_region ?_
    refine so_move (v := (.v (.str (pk y126)))) rfl ?_
    refine so_move (v := (.v (.str (pk y113)))) rfl ?_
    refine so_bin rfl rfl ab_sneq ?_
    refine so_move (v := (.v (.bool (!(decide (y126 = y113)))))) rfl ?_
    replace h := ofP h; rcases h with ⟨c129, h⟩ | ⟨c129, h⟩
    · refine so_gyes rfl (not_f (decide_eq_true c129)) ?_
      refine so_move (v := (.v (.bool y127))) rfl ?_
      refine so_gyes rfl (not_f (decide_eq_true c129)) ?_
      refine so_move (v := (.v (.bool y114))) rfl ?_
      refine so_gyes rfl (not_f (decide_eq_true c129)) ?_
      refine so_bin rfl rfl (ab_bneq F6.tb4) ?_
      refine so_pick_f (v := (.v (.bool (!(y127 == y114))))) rfl (not_f (decide_eq_true c129)) rfl ?_
      refine so_nil ?_
      replace h := ofT h; rcases h with ⟨c130, h⟩ | ⟨c130, h⟩
      · refine fi_false rfl (not_f c130) ?_
        refine fi_skip ?_
        refine fi_seq ?_
        refine fi_seq ?_
        refine fi_free [0] ?_
        refine wf_free (.g [(.int .i64 y116), (.int .i64 y117), v119]) rfl (by kernel_rfl) (stepr (i := 0) rfl (by refine sv_lds hs 0 rfl rfl (leb rfl) rfl F6.ag41 F6.sz41 ?_; exact so_end ⟨rfl, rfl⟩)) fan ?_
        refine wf_same (by decide +kernel) (by kernel_rfl) ?_
        refine sv_lds hs 3 rfl rfl (leb rfl) rfl F6.ag38 F6.sz38 ?_
        refine so_end ⟨rfl, ?_⟩
        have hs0_ := hs
        refine wf_chg (by kernel_rfl) ?_
        refine sv_call (laws_toCoded_ok a0 a1 v2 l2 hs (fun _ hs => (g2 _ hs.tl.tl.tl.tl)) _ h) rfl rfl nofun ?_
        clear h
        rintro _ H136 ⟨y131, y132, y133, h, v134, rfl, hs⟩
        refine so_end ⟨(fac (.inr (stepr (i := 0) rfl (by refine sv_lds hs 1 rfl rfl (leb rfl) rfl F6.ag41 F6.sz41 ?_; exact so_end ⟨rfl, rfl⟩))) fan), ?_⟩
        have hs1_ := hs
        refine wf_chg (by kernel_rfl) ?_
        refine sv_call (laws_eqCoded_ok y116 y117 v119 y118 y131 y132 v134 y133 hs (fun _ hs => (hs.shows 2 rfl)) (fun _ hs => (hs.shows 0 rfl)) _ h) rfl rfl nofun ?_
        clear h
        rintro _ H138 ⟨y137, h, rfl, hs⟩
        refine so_end ⟨(fac (.inl ⟨3, by kernel_rfl⟩) fan), ?_⟩
        refine wf_pure rfl (by kernel_rfl) ?_
        refine so_un rfl au_not ?_
        refine so_end ?_
        refine wf_nil ?_
        replace h := ofT h; rcases h with ⟨c139, h⟩ | ⟨c139, h⟩
        · refine fi_false rfl (not_f c139) ?_
          refine fi_skip ?_
          refine fi_seq ?_
          refine fi_region ?_
          refine so_assign (v := (.v (.bool true))) rfl ?_
          refine so_nil ?_
          exact by_ret rfl ⟨_, h, rfl, (Sep.dropn 5 hs)⟩
        · refine fi_true rfl (not_t c139) ?_
          refine fi_seq ?_
          refine fi_region ?_
          refine so_assign (v := (.v (.bool false))) rfl ?_
          refine so_nil ?_
          exact by_ret rfl ⟨_, h, rfl, (Sep.dropn 5 hs)⟩
      · refine fi_true rfl (not_t c130) ?_
        refine fi_seq ?_
        refine fi_region ?_
        refine so_assign (v := (.v (.bool false))) rfl ?_
        refine so_nil ?_
        exact by_ret rfl ⟨_, h, rfl, (Sep.dropn 4 hs)⟩
    · refine so_gno rfl (not_t (decide_eq_false c129)) ?_
      refine so_gno rfl (not_t (decide_eq_false c129)) ?_
      refine so_gno rfl (not_t (decide_eq_false c129)) ?_
      refine so_pick_t (v := (.v (.bool true))) rfl (not_t (decide_eq_false c129)) rfl ?_
      refine so_nil ?_
      refine fi_true rfl rfl ?_
      refine fi_seq ?_
      refine fi_region ?_
      refine so_assign (v := (.v (.bool false))) rfl ?_
      refine so_nil ?_
      exact by_ret rfl ⟨_, h, rfl, (Sep.dropn 4 hs)⟩

end Go.Proofs.YtcgiboeilcdonaaDoor.G

