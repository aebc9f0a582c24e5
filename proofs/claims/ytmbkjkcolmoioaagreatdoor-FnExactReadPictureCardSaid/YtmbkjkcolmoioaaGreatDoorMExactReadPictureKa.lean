/-
  The model ends so. Printed by a program of the session; nothing here is trusted.
-/
import Derived.Test.YtmbkjkcolmoioaaGreatDoorProg
import Derived.KernelRfl
import Derived.Test.YtmbkjkcolmoioaaGreatDoorMExactReadPictureWa
import Derived.Test.YtmbkjkcolmoioaaGreatDoorShelf
namespace Go.Proofs.YtmbkjkcolmoioaaGreatDoor.F
open Go Go.Ab Go.Proofs
set_option maxRecDepth 100000
set_option linter.unusedVariables false
set_option linter.unusedSimpArgs false
set_option maxHeartbeats 1000000
theorem hm : Tryz.prog.follows .mixedOrders = true := by kernel_rfl
def tab2 : Obj → Prop := showsTab Tryz.prog "internal/strconv.uint64pow10" .u64 Lib.pow10Tab 2
def tab6 : Obj → Prop := showsTab Tryz.prog "math/bits.deBruijn64tab" .u8 (Lib.deBruijn64tab.map Int.ofNat) 6
def tab4 : Obj → Prop := holdsErr 4
def tab3 : Obj → Prop := holdsErr 3
end Go.Proofs.YtmbkjkcolmoioaaGreatDoor.F

namespace Go.Proofs.YtmbkjkcolmoioaaGreatDoor.G
open Go Go.Ab Go.Proofs Go.Proofs.YtmbkjkcolmoioaaGreatDoor
set_option maxRecDepth 100000
set_option linter.unusedVariables false
set_option linter.unusedSimpArgs false
set_option maxHeartbeats 1000000
attribute [local irreducible] wops wopf Go.Ab.Fin
theorem F88.sr9 : tstr Tryz.prog 9 = true := by kernel_rfl
theorem F88.sz9 : tsz Tryz.prog 9 = some 1 := by kernel_rfl
theorem F88.ta83_83 : tapp Tryz.prog 83 83 = some (1, 16) := by kernel_rfl
theorem F88.te83 : telem Tryz.prog 83 = some 9 := by kernel_rfl
theorem F88.ze9 : tzero Tryz.prog 9 = some [(.str (pk ([] : List UInt8)))] := by kernel_rfl
theorem spec_l01Cut_ok {fr : List Pc} {H : Heap} (a0 : List UInt8) (a1 : Int) (hs : Sep H (fr))  (K : (List (List UInt8)) → Prop) (h : spec_l01Cut.wp a0 a1 K) : OkQ Tryz.prog 88 [(.v (.str (pk a0))), (.v (.int .u8 a1))] H (fun r H2 => ∃ (y0 : List (List UInt8)), K y0 ∧ ∃ (w0_ : AV), r = (.v w0_) ∧ Sep H2 (Pc.osl w0_ 1 (enc eStr y0) :: fr)) := by
  unfold spec_l01Cut.wp at h
  refine of_body Tryz.f88 F.hm Tryz.func88 rfl Tryz.call88 (by kernel_rfl) (by simp) ?_
  refine fi_seq ?_
  refine fi_region ?_
  refine so_assign (v := (.v .nilsl)) rfl ?_
  refine so_nil ?_
  refine fi_seq ?_
  refine fi_region ?_
  refine sv_bslice hs eStr ([] : List (List UInt8)) [] F88.te83 F88.sz9 F88.ze9 rfl rfl rfl rfl (fun _ => rfl) rfl (by decide) nofun (fun v101 H102 nv101 hs => ?_)
  refine so_assign (v := (.v v101)) rfl ?_
  refine so_nil ?_
  refine fi_seq ?_
  refine fi_region ?_
  refine so_assign (v := (.v (.int .i64 (0 : Int)))) rfl ?_
  refine so_nil ?_
  refine fi_seq ?_
  refine fi_seq ?_
  refine fi_region ?_
  refine so_assign (v := (.v (.int .i64 (0 : Int)))) rfl ?_
  refine so_nil ?_
  refine fi_block ?_
  refine fi_loop ?_
  refine fi_at [(0, (.v (.str (pk a0)))), (1, (.v (.int .u8 a1))), (5, (.v v101)), (6, (.v (.int .i64 (0 : Int)))), (7, (.v (.int .i64 (0 : Int))))] ⟨rfl, rfl, rfl, rfl, rfl, trivial⟩ ?_
  refine h (fun (out128 : List (List UInt8)) (fromq130 : Int) (i131 : Int) => ∀ (s : Nat → TV) (H : Heap) (v129 : AV) (nv129 : v129 ≠ .nilsl), Sep H (Pc.osl v129 1 (enc eStr out128) :: fr) → Fin _ _ (updL s [(0, (.v (.str (pk a0)))), (1, (.v (.int .u8 a1))), (5, (.v v129)), (6, (.v (.int .i64 fromq130))), (7, (.v (.int .i64 i131)))]) H _) ?_ _ _ _ nv101 hs
  intro out128 fromq130 i131 h s150 H151 v129 nv129 hs
  refine fi_inLoop ?_
  refine fi_seq ?_
  refine fi_seq ?_
  refine fi_region ?_
  refine so_move (v := (.v (.int .i64 i131))) rfl ?_
  refine so_move (v := (.v (.str (pk a0)))) rfl ?_
  refine so_slen rfl F88.sr9 ?_
  refine so_bin rfl rfl ab_leq ?_
  refine so_nil ?_
  replace h := ofP h; rcases h with ⟨c132, h⟩ | ⟨c132, h⟩
  · refine fi_true rfl (decide_eq_true c132) ?_
    refine fi_skip ?_
    refine fi_seq ?_
    refine fi_block ?_
    refine fi_seq ?_
    refine fi_region ?_
    refine so_move (v := (.v (.int .i64 i131))) rfl ?_
    refine so_move (v := (.v (.str (pk a0)))) rfl ?_
    refine so_slen rfl F88.sr9 ?_
    refine so_bin rfl rfl ab_eql ?_
    refine so_move (v := (.v (.bool (decide (i131 = (a0.length : Int)))))) rfl ?_
    replace h := ofP h; rcases h with ⟨c133, h⟩ | ⟨c133, h⟩
    · refine so_gno rfl (decide_eq_true c133) ?_
      refine so_gno rfl (decide_eq_true c133) ?_
      refine so_gno rfl (decide_eq_true c133) ?_
      refine so_gno rfl (decide_eq_true c133) ?_
      refine so_gno rfl (decide_eq_true c133) ?_
      refine so_pick_t (v := (.v (.bool true))) rfl (decide_eq_true c133) rfl ?_
      refine so_nil ?_
      refine fi_true rfl rfl ?_
      refine fi_seq ?_
      refine fi_region ?_
      refine so_move (v := (.v v129)) rfl ?_
      refine so_move (v := (.v (.str (pk a0)))) rfl ?_
      refine so_move (v := (.v (.int .i64 fromq130))) rfl ?_
      refine so_move (v := (.v (.int .i64 i131))) rfl ?_
      obtain ⟨c134, h⟩ := h
      refine so_sslice rfl rfl rfl F88.sr9 rfl rfl c134 ?_
      refine sv_bslice hs eStr ([((a0.drop (fromq130).toNat).take ((i131).toNat - (fromq130).toNat))] : List (List UInt8)) [[(.str (pk ((a0.drop (fromq130).toNat).take ((i131).toNat - (fromq130).toNat))))]] F88.te83 F88.sz9 F88.ze9 rfl rfl rfl rfl (fun _ => rfl) rfl (by decide) nofun (fun v135 H136 nv135 hs => ?_)
      obtain ⟨c140, h⟩ := h
      refine sv_app hs 1 rfl (hs.shows 0 rfl) (fun _ => rfl) (by decide) F88.ta83_83 (by decide) c140 rfl rfl nofun (fun v138 H139 kv138 hs => ?_)
      replace hs := hs.del 0
      have nv138 := kv138 nv129
      refine so_assign (v := (.v v138)) rfl ?_
      refine so_nil ?_
      refine fi_region ?_
      refine so_move (v := (.v (.int .i64 i131))) rfl ?_
      refine so_bin rfl rfl ab_add ?_
      refine so_assign (v := (.v (.int .i64 (IntKind.i64.wrap (i131 + (1 : Int)))))) rfl ?_
      refine so_nil ?_
      refine fi_inBlock ?_
      refine fi_region ?_
      refine so_move (v := (.v (.int .i64 i131))) rfl ?_
      refine so_bin rfl rfl ab_add ?_
      refine so_assign (v := (.v (.int .i64 (IntKind.i64.wrap (i131 + (1 : Int)))))) rfl ?_
      refine so_nil ?_
      exact fi_at [(0, (.v (.str (pk a0)))), (1, (.v (.int .u8 a1))), (5, (.v v138)), (6, (.v (.int .i64 (IntKind.i64.wrap (i131 + (1 : Int)))))), (7, (.v (.int .i64 (IntKind.i64.wrap (i131 + (1 : Int))))))] ⟨rfl, rfl, rfl, rfl, rfl, trivial⟩ (h _ _ _ nv138 hs)
    · refine so_gyes rfl (decide_eq_false c133) ?_
      refine so_move (v := (.v (.str (pk a0)))) rfl ?_
      refine so_gyes rfl (decide_eq_false c133) ?_
      refine so_move (v := (.v (.int .i64 i131))) rfl ?_
      refine so_gyes rfl (decide_eq_false c133) ?_
      obtain ⟨c141, h⟩ := h
      refine so_index rfl rfl F88.sr9 c141 ?_
      refine so_gyes rfl (decide_eq_false c133) ?_
      refine so_move (v := (.v (.int .u8 a1))) rfl ?_
      refine so_gyes rfl (decide_eq_false c133) ?_
      refine so_bin rfl rfl ab_eql ?_
      refine so_pick_f (v := (.v (.bool (decide ((bt a0 i131) = a1))))) rfl (decide_eq_false c133) rfl ?_
      refine so_nil ?_
      replace h := ofP h; rcases h with ⟨c142, h⟩ | ⟨c142, h⟩
      · refine fi_true rfl (decide_eq_true c142) ?_
        refine fi_seq ?_
        refine fi_region ?_
        refine so_move (v := (.v v129)) rfl ?_
        refine so_move (v := (.v (.str (pk a0)))) rfl ?_
        refine so_move (v := (.v (.int .i64 fromq130))) rfl ?_
        refine so_move (v := (.v (.int .i64 i131))) rfl ?_
        obtain ⟨c143, h⟩ := h
        refine so_sslice rfl rfl rfl F88.sr9 rfl rfl c143 ?_
        refine sv_bslice hs eStr ([((a0.drop (fromq130).toNat).take ((i131).toNat - (fromq130).toNat))] : List (List UInt8)) [[(.str (pk ((a0.drop (fromq130).toNat).take ((i131).toNat - (fromq130).toNat))))]] F88.te83 F88.sz9 F88.ze9 rfl rfl rfl rfl (fun _ => rfl) rfl (by decide) nofun (fun v144 H145 nv144 hs => ?_)
        obtain ⟨c149, h⟩ := h
        refine sv_app hs 1 rfl (hs.shows 0 rfl) (fun _ => rfl) (by decide) F88.ta83_83 (by decide) c149 rfl rfl nofun (fun v147 H148 kv147 hs => ?_)
        replace hs := hs.del 0
        have nv147 := kv147 nv129
        refine so_assign (v := (.v v147)) rfl ?_
        refine so_nil ?_
        refine fi_region ?_
        refine so_move (v := (.v (.int .i64 i131))) rfl ?_
        refine so_bin rfl rfl ab_add ?_
        refine so_assign (v := (.v (.int .i64 (IntKind.i64.wrap (i131 + (1 : Int)))))) rfl ?_
        refine so_nil ?_
        refine fi_inBlock ?_
        refine fi_region ?_
        refine so_move (v := (.v (.int .i64 i131))) rfl ?_
        refine so_bin rfl rfl ab_add ?_
        refine so_assign (v := (.v (.int .i64 (IntKind.i64.wrap (i131 + (1 : Int)))))) rfl ?_
        refine so_nil ?_
        exact fi_at [(0, (.v (.str (pk a0)))), (1, (.v (.int .u8 a1))), (5, (.v v147)), (6, (.v (.int .i64 (IntKind.i64.wrap (i131 + (1 : Int)))))), (7, (.v (.int .i64 (IntKind.i64.wrap (i131 + (1 : Int))))))] ⟨rfl, rfl, rfl, rfl, rfl, trivial⟩ (h _ _ _ nv147 hs)
      · refine fi_false rfl (decide_eq_false c142) ?_
        refine fi_skip ?_
        refine fi_inBlock ?_
        refine fi_region ?_
        refine so_move (v := (.v (.int .i64 i131))) rfl ?_
        refine so_bin rfl rfl ab_add ?_
        refine so_assign (v := (.v (.int .i64 (IntKind.i64.wrap (i131 + (1 : Int)))))) rfl ?_
        refine so_nil ?_
        exact fi_at [(0, (.v (.str (pk a0)))), (1, (.v (.int .u8 a1))), (5, (.v v129)), (6, (.v (.int .i64 fromq130))), (7, (.v (.int .i64 (IntKind.i64.wrap (i131 + (1 : Int))))))] ⟨rfl, rfl, rfl, rfl, rfl, trivial⟩ (h _ _ _ nv129 hs)
  · refine fi_false rfl (decide_eq_false c132) ?_
    refine fi_exit rfl ?_
    refine fi_seq ?_
    refine fi_region ?_
    refine so_move (v := (.v v129)) rfl ?_
    refine so_assign (v := (.v v129)) rfl ?_
    refine so_nil ?_
    exact by_ret rfl ⟨_, h, _, rfl, hs⟩

end Go.Proofs.YtmbkjkcolmoioaaGreatDoor.G

namespace Go.Proofs.YtmbkjkcolmoioaaGreatDoor.G
open Go Go.Ab Go.Proofs Go.Proofs.YtmbkjkcolmoioaaGreatDoor
set_option maxRecDepth 100000
set_option linter.unusedVariables false
set_option linter.unusedSimpArgs false
set_option maxHeartbeats 1000000
attribute [local irreducible] wops wopf Go.Ab.Fin
theorem spec_l00In_ok {fr : List Pc} {H : Heap} (a0 : Int) (a1 : Int) (a2 : Int) (hs : Sep H (fr))  (K : Bool → Prop) (h : spec_l00In.wp a0 a1 a2 K) : OkQ Tryz.prog 172 [(.v (.int .i64 a0)), (.v (.int .i64 a1)), (.v (.int .i64 a2))] H (fun r H2 => ∃ (y0 : Bool), K y0 ∧ r = (.v (.bool y0)) ∧ H = H2) := by
  unfold spec_l00In.wp at h
  refine of_body Tryz.f172 F.hm Tryz.func172 rfl Tryz.call172 (by kernel_rfl) (by simp) ?_
  refine fi_seq ?_
  refine fi_region ?_
  refine so_assign (v := (.v (.bool false))) rfl ?_
  refine so_nil ?_
  refine fi_seq ?_
  refine fi_region ?_
  refine so_move (v := (.v (.int .i64 a0))) rfl ?_
  refine so_move (v := (.v (.int .i64 a1))) rfl ?_
  refine so_bin rfl rfl ab_geq ?_
  refine so_move (v := (.v (.bool (decide (a1 ≤ a0))))) rfl ?_
  replace h := ofP h; rcases h with ⟨c101, h⟩ | ⟨c101, h⟩
  · refine so_gyes rfl (decide_eq_true c101) ?_
    refine so_move (v := (.v (.int .i64 a0))) rfl ?_
    refine so_gyes rfl (decide_eq_true c101) ?_
    refine so_move (v := (.v (.int .i64 a2))) rfl ?_
    refine so_gyes rfl (decide_eq_true c101) ?_
    refine so_bin rfl rfl ab_leq ?_
    refine so_pick_t (v := (.v (.bool (decide (a0 ≤ a2))))) rfl (decide_eq_true c101) rfl ?_
    refine so_assign (v := (.v (.bool (decide (a0 ≤ a2))))) rfl ?_
    refine so_nil ?_
    exact by_ret rfl ⟨_, h, rfl, rfl⟩
  · refine so_gno rfl (decide_eq_false c101) ?_
    refine so_gno rfl (decide_eq_false c101) ?_
    refine so_gno rfl (decide_eq_false c101) ?_
    refine so_pick_f (v := (.v (.bool false))) rfl (decide_eq_false c101) rfl ?_
    refine so_assign (v := (.v (.bool false))) rfl ?_
    refine so_nil ?_
    exact by_ret rfl ⟨_, h, rfl, rfl⟩

end Go.Proofs.YtmbkjkcolmoioaaGreatDoor.G

namespace Go.Proofs.YtmbkjkcolmoioaaGreatDoor.G
open Go Go.Ab Go.Proofs Go.Proofs.YtmbkjkcolmoioaaGreatDoor
set_option maxRecDepth 100000
set_option linter.unusedVariables false
set_option linter.unusedSimpArgs false
set_option maxHeartbeats 1000000
attribute [local irreducible] wops wopf Go.Ab.Fin
theorem F173.it5 : tint Tryz.prog 5 = some .u8 := by kernel_rfl
theorem F173.sr9 : tstr Tryz.prog 9 = true := by kernel_rfl
theorem F173.sz5 : tsz Tryz.prog 5 = some 1 := by kernel_rfl
theorem F173.ta30_30 : tapp Tryz.prog 30 30 = some (1, 1) := by kernel_rfl
theorem F173.te30 : telem Tryz.prog 30 = some 5 := by kernel_rfl
theorem F173.ti30 : (telem Tryz.prog 30).isSome = true := by kernel_rfl
theorem F173.us2 : (Tryz.prog.underlying 2).isSome = true := by kernel_rfl
theorem F173.us30 : (Tryz.prog.underlying 30).isSome = true := by kernel_rfl
theorem F173.ze5 : tzero Tryz.prog 5 = some [(.int .u8 (0 : Int))] := by kernel_rfl
theorem spec_l01Dec_ok {fr : List Pc} {H : Heap} (a0 : Int) (hs : Sep H (fr))  (K : (List UInt8) → Prop) (h : spec_l01Dec.wp a0 K) : OkQ Tryz.prog 173 [(.v (.int .i64 a0))] H (fun r H2 => ∃ (y0 : List UInt8), K y0 ∧ r = (.v (.str (pk y0))) ∧ Sep H2 (fr)) := by
  unfold spec_l01Dec.wp at h
  refine of_body Tryz.f173 F.hm Tryz.func173 rfl Tryz.call173 (by kernel_rfl) (by simp) ?_
  refine fi_seq ?_
  refine fi_region ?_
  refine so_assign (v := (.v (.str (pk ([] : List UInt8))))) rfl ?_
  refine so_nil ?_
  refine fi_seq ?_
  refine fi_region ?_
  refine sv_bslice hs (eInt .u8) ([] : List (Int)) [] F173.te30 F173.sz5 F173.ze5 rfl rfl rfl rfl (fun _ => rfl) rfl (by decide) nofun (fun v101 H102 nv101 hs => ?_)
  refine so_assign (v := (.v v101)) rfl ?_
  refine so_nil ?_
  refine fi_seq ?_
  refine fi_region ?_
  refine so_move (v := (.v (.int .i64 a0))) rfl ?_
  refine so_assign (v := (.v (.int .i64 a0))) rfl ?_
  refine so_nil ?_
  refine fi_seq ?_
  refine fi_block ?_
  refine fi_loop ?_
  refine fi_at [(0, (.v (.int .i64 a0))), (3, (.v v101)), (4, (.v (.int .i64 a0)))] ⟨rfl, rfl, rfl, trivial⟩ ?_
  refine h (fun (out105 : List (Int)) (rest107 : Int) => ∀ (s : Nat → TV) (H : Heap) (v106 : AV) (nv106 : v106 ≠ .nilsl), Sep H (Pc.osl v106 1 (enc (eInt .u8) out105) :: fr) → Fin _ _ (updL s [(0, (.v (.int .i64 a0))), (3, (.v v106)), (4, (.v (.int .i64 rest107)))]) H _) ?_ _ _ _ nv101 hs
  intro out105 rest107 h s143 H144 v106 nv106 hs
  refine fi_inLoop ?_
  refine fi_seq ?_
  refine fi_seq ?_
  refine fi_region ?_
  refine so_move (v := (.v v106)) rfl ?_
  refine sv_len (hs.shows 0 rfl) (fun _ => rfl) (by decide) rfl F173.ti30 ?_
  refine so_bin rfl rfl ab_eql ?_
  refine so_move (v := (.v (.bool (decide ((out105.length : Int) = (0 : Int)))))) rfl ?_
  replace h := ofP h; rcases h with ⟨c108, h⟩ | ⟨c108, h⟩
  · refine so_gno rfl (decide_eq_true c108) ?_
    refine so_gno rfl (decide_eq_true c108) ?_
    refine so_pick_t (v := (.v (.bool true))) rfl (decide_eq_true c108) rfl ?_
    refine so_nil ?_
    refine fi_true rfl rfl ?_
    refine fi_skip ?_
    refine fi_block ?_
    refine fi_seq ?_
    refine fi_region ?_
    refine so_move (v := (.v (.int .i64 rest107))) rfl ?_
    refine so_bin rfl rfl (ab_rem (by decide)) ?_
    refine so_assign (v := (.v (.int .i64 (Int.tmod rest107 (10 : Int))))) rfl ?_
    refine so_nil ?_
    refine fi_seq ?_
    refine fi_seq ?_
    refine fi_region ?_
    refine so_move (v := (.v (.int .i64 (Int.tmod rest107 (10 : Int))))) rfl ?_
    refine so_bin rfl rfl ab_lss ?_
    refine so_nil ?_
    replace h := ofP h; rcases h with ⟨c109, h⟩ | ⟨c109, h⟩
    · refine fi_true rfl (decide_eq_true c109) ?_
      refine fi_region ?_
      refine so_move (v := (.v (.int .i64 (Int.tmod rest107 (10 : Int))))) rfl ?_
      refine so_un rfl au_neg ?_
      refine so_assign (v := (.v (.int .i64 (IntKind.i64.wrap (0 - (Int.tmod rest107 (10 : Int))))))) rfl ?_
      refine so_nil ?_
      refine fi_seq ?_
      refine fi_region ?_
      refine so_move (v := (.v (.int .i64 (IntKind.i64.wrap (0 - (Int.tmod rest107 (10 : Int))))))) rfl ?_
      refine so_bin rfl rfl ab_add ?_
      refine sv_ii rfl F173.us2 F173.it5 ?_
      refine sv_bslice hs (eInt .u8) ([(IntKind.u8.wrap (IntKind.i64.wrap ((48 : Int) + (IntKind.i64.wrap (0 - (Int.tmod rest107 (10 : Int)))))))] : List (Int)) [[(.int .u8 (IntKind.u8.wrap (IntKind.i64.wrap ((48 : Int) + (IntKind.i64.wrap (0 - (Int.tmod rest107 (10 : Int))))))))]] F173.te30 F173.sz5 F173.ze5 rfl rfl rfl rfl (fun _ => rfl) rfl (by decide) nofun (fun v110 H111 nv110 hs => ?_)
      refine so_move (v := (.v v106)) rfl ?_
      obtain ⟨c115, h⟩ := h
      refine sv_app hs 0 rfl (hs.shows 1 rfl) (fun _ => rfl) (by decide) F173.ta30_30 (by decide) c115 rfl rfl nofun (fun v113 H114 kv113 hs => ?_)
      have nv113 := kv113 nv110
      refine so_assign (v := (.v v113)) rfl ?_
      refine so_nil ?_
      refine fi_region ?_
      refine so_move (v := (.v (.int .i64 rest107))) rfl ?_
      refine so_bin rfl rfl (ab_quo (by decide)) ?_
      refine so_assign (v := (.v (.int .i64 (IntKind.i64.wrap (Int.tdiv rest107 (10 : Int)))))) rfl ?_
      refine so_nil ?_
      refine fi_inBlock ?_
      exact fi_at [(0, (.v (.int .i64 a0))), (3, (.v v113)), (4, (.v (.int .i64 (IntKind.i64.wrap (Int.tdiv rest107 (10 : Int))))))] ⟨rfl, rfl, rfl, trivial⟩ (h _ _ _ nv113 (Sep.del 1 hs))
    · refine fi_false rfl (decide_eq_false c109) ?_
      refine fi_skip ?_
      refine fi_seq ?_
      refine fi_region ?_
      refine so_move (v := (.v (.int .i64 (Int.tmod rest107 (10 : Int))))) rfl ?_
      refine so_bin rfl rfl ab_add ?_
      refine sv_ii rfl F173.us2 F173.it5 ?_
      refine sv_bslice hs (eInt .u8) ([(IntKind.u8.wrap (IntKind.i64.wrap ((48 : Int) + (Int.tmod rest107 (10 : Int)))))] : List (Int)) [[(.int .u8 (IntKind.u8.wrap (IntKind.i64.wrap ((48 : Int) + (Int.tmod rest107 (10 : Int))))))]] F173.te30 F173.sz5 F173.ze5 rfl rfl rfl rfl (fun _ => rfl) rfl (by decide) nofun (fun v116 H117 nv116 hs => ?_)
      refine so_move (v := (.v v106)) rfl ?_
      obtain ⟨c121, h⟩ := h
      refine sv_app hs 0 rfl (hs.shows 1 rfl) (fun _ => rfl) (by decide) F173.ta30_30 (by decide) c121 rfl rfl nofun (fun v119 H120 kv119 hs => ?_)
      have nv119 := kv119 nv116
      refine so_assign (v := (.v v119)) rfl ?_
      refine so_nil ?_
      refine fi_region ?_
      refine so_move (v := (.v (.int .i64 rest107))) rfl ?_
      refine so_bin rfl rfl (ab_quo (by decide)) ?_
      refine so_assign (v := (.v (.int .i64 (IntKind.i64.wrap (Int.tdiv rest107 (10 : Int)))))) rfl ?_
      refine so_nil ?_
      refine fi_inBlock ?_
      exact fi_at [(0, (.v (.int .i64 a0))), (3, (.v v119)), (4, (.v (.int .i64 (IntKind.i64.wrap (Int.tdiv rest107 (10 : Int))))))] ⟨rfl, rfl, rfl, trivial⟩ (h _ _ _ nv119 (Sep.del 1 hs))
  · refine so_gyes rfl (decide_eq_false c108) ?_
    refine so_move (v := (.v (.int .i64 rest107))) rfl ?_
    refine so_gyes rfl (decide_eq_false c108) ?_
    refine so_bin rfl rfl ab_neq ?_
    refine so_pick_f (v := (.v (.bool (!(decide (rest107 = (0 : Int))))))) rfl (decide_eq_false c108) rfl ?_
    refine so_nil ?_
    replace h := ofP h; rcases h with ⟨c122, h⟩ | ⟨c122, h⟩
    · refine fi_false rfl (not_f (decide_eq_true c122)) ?_
      refine fi_exit rfl ?_
      refine fi_seq ?_
      refine fi_seq ?_
      refine fi_region ?_
      refine so_move (v := (.v (.int .i64 a0))) rfl ?_
      refine so_bin rfl rfl ab_lss ?_
      refine so_nil ?_
      replace h := ofP h; rcases h with ⟨c123, h⟩ | ⟨c123, h⟩
      · refine fi_true rfl (decide_eq_true c123) ?_
        refine fi_region ?_
        refine sv_bslice hs (eInt .u8) ([(45 : Int)] : List (Int)) [[(.int .u8 (45 : Int))]] F173.te30 F173.sz5 F173.ze5 rfl rfl rfl rfl (fun _ => rfl) rfl (by decide) nofun (fun v124 H125 nv124 hs => ?_)
        refine so_move (v := (.v v106)) rfl ?_
        obtain ⟨c129, h⟩ := h
        refine sv_app hs 0 rfl (hs.shows 1 rfl) (fun _ => rfl) (by decide) F173.ta30_30 (by decide) c129 rfl rfl nofun (fun v127 H128 kv127 hs => ?_)
        have nv127 := kv127 nv124
        refine so_assign (v := (.v v127)) rfl ?_
        refine so_nil ?_
        refine fi_seq ?_
        refine fi_region ?_
        refine so_move (v := (.v v127)) rfl ?_
        refine sv_bs (hs.shows 0 rfl) nv127 rfl F173.te30 F173.it5 F173.sr9 ?_
        refine so_assign (v := (.v (.str (pk (byts (([(45 : Int)] : List (Int)) ++ out105)))))) rfl ?_
        refine so_nil ?_
        exact by_ret rfl ⟨_, h, rfl, (Sep.del 0 (Sep.del 0 hs))⟩
      · refine fi_false rfl (decide_eq_false c123) ?_
        refine fi_skip ?_
        refine fi_seq ?_
        refine fi_region ?_
        refine so_move (v := (.v v106)) rfl ?_
        refine sv_bs (hs.shows 0 rfl) nv106 rfl F173.te30 F173.it5 F173.sr9 ?_
        refine so_assign (v := (.v (.str (pk (byts out105))))) rfl ?_
        refine so_nil ?_
        exact by_ret rfl ⟨_, h, rfl, (Sep.del 0 hs)⟩
    · refine fi_true rfl (not_t (decide_eq_false c122)) ?_
      refine fi_skip ?_
      refine fi_block ?_
      refine fi_seq ?_
      refine fi_region ?_
      refine so_move (v := (.v (.int .i64 rest107))) rfl ?_
      refine so_bin rfl rfl (ab_rem (by decide)) ?_
      refine so_assign (v := (.v (.int .i64 (Int.tmod rest107 (10 : Int))))) rfl ?_
      refine so_nil ?_
      refine fi_seq ?_
      refine fi_seq ?_
      refine fi_region ?_
      refine so_move (v := (.v (.int .i64 (Int.tmod rest107 (10 : Int))))) rfl ?_
      refine so_bin rfl rfl ab_lss ?_
      refine so_nil ?_
      replace h := ofP h; rcases h with ⟨c130, h⟩ | ⟨c130, h⟩
      · refine fi_true rfl (decide_eq_true c130) ?_
        refine fi_region ?_
        refine so_move (v := (.v (.int .i64 (Int.tmod rest107 (10 : Int))))) rfl ?_
        refine so_un rfl au_neg ?_
        refine so_assign (v := (.v (.int .i64 (IntKind.i64.wrap (0 - (Int.tmod rest107 (10 : Int))))))) rfl ?_
        refine so_nil ?_
        refine fi_seq ?_
        refine fi_region ?_
        refine so_move (v := (.v (.int .i64 (IntKind.i64.wrap (0 - (Int.tmod rest107 (10 : Int))))))) rfl ?_
        refine so_bin rfl rfl ab_add ?_
        refine sv_ii rfl F173.us2 F173.it5 ?_
        refine sv_bslice hs (eInt .u8) ([(IntKind.u8.wrap (IntKind.i64.wrap ((48 : Int) + (IntKind.i64.wrap (0 - (Int.tmod rest107 (10 : Int)))))))] : List (Int)) [[(.int .u8 (IntKind.u8.wrap (IntKind.i64.wrap ((48 : Int) + (IntKind.i64.wrap (0 - (Int.tmod rest107 (10 : Int))))))))]] F173.te30 F173.sz5 F173.ze5 rfl rfl rfl rfl (fun _ => rfl) rfl (by decide) nofun (fun v131 H132 nv131 hs => ?_)
        refine so_move (v := (.v v106)) rfl ?_
        obtain ⟨c136, h⟩ := h
        refine sv_app hs 0 rfl (hs.shows 1 rfl) (fun _ => rfl) (by decide) F173.ta30_30 (by decide) c136 rfl rfl nofun (fun v134 H135 kv134 hs => ?_)
        have nv134 := kv134 nv131
        refine so_assign (v := (.v v134)) rfl ?_
        refine so_nil ?_
        refine fi_region ?_
        refine so_move (v := (.v (.int .i64 rest107))) rfl ?_
        refine so_bin rfl rfl (ab_quo (by decide)) ?_
        refine so_assign (v := (.v (.int .i64 (IntKind.i64.wrap (Int.tdiv rest107 (10 : Int)))))) rfl ?_
        refine so_nil ?_
        refine fi_inBlock ?_
        exact fi_at [(0, (.v (.int .i64 a0))), (3, (.v v134)), (4, (.v (.int .i64 (IntKind.i64.wrap (Int.tdiv rest107 (10 : Int))))))] ⟨rfl, rfl, rfl, trivial⟩ (h _ _ _ nv134 (Sep.del 1 hs))
      · refine fi_false rfl (decide_eq_false c130) ?_
        refine fi_skip ?_
        refine fi_seq ?_
        refine fi_region ?_
        refine so_move (v := (.v (.int .i64 (Int.tmod rest107 (10 : Int))))) rfl ?_
        refine so_bin rfl rfl ab_add ?_
        refine sv_ii rfl F173.us2 F173.it5 ?_
        refine sv_bslice hs (eInt .u8) ([(IntKind.u8.wrap (IntKind.i64.wrap ((48 : Int) + (Int.tmod rest107 (10 : Int)))))] : List (Int)) [[(.int .u8 (IntKind.u8.wrap (IntKind.i64.wrap ((48 : Int) + (Int.tmod rest107 (10 : Int))))))]] F173.te30 F173.sz5 F173.ze5 rfl rfl rfl rfl (fun _ => rfl) rfl (by decide) nofun (fun v137 H138 nv137 hs => ?_)
        refine so_move (v := (.v v106)) rfl ?_
        obtain ⟨c142, h⟩ := h
        refine sv_app hs 0 rfl (hs.shows 1 rfl) (fun _ => rfl) (by decide) F173.ta30_30 (by decide) c142 rfl rfl nofun (fun v140 H141 kv140 hs => ?_)
        have nv140 := kv140 nv137
        refine so_assign (v := (.v v140)) rfl ?_
        refine so_nil ?_
        refine fi_region ?_
        refine so_move (v := (.v (.int .i64 rest107))) rfl ?_
        refine so_bin rfl rfl (ab_quo (by decide)) ?_
        refine so_assign (v := (.v (.int .i64 (IntKind.i64.wrap (Int.tdiv rest107 (10 : Int)))))) rfl ?_
        refine so_nil ?_
        refine fi_inBlock ?_
        exact fi_at [(0, (.v (.int .i64 a0))), (3, (.v v140)), (4, (.v (.int .i64 (IntKind.i64.wrap (Int.tdiv rest107 (10 : Int))))))] ⟨rfl, rfl, rfl, trivial⟩ (h _ _ _ nv140 (Sep.del 1 hs))
theorem spec_l01Dec_okS {fr : List Pc} {H : Heap} (a0 : Int) (hs : Sep H fr)  (K : (List UInt8) → Prop) (h : spec_l01Dec.wp a0 K) : OkQ Tryz.prog 173 [(.v (.int .i64 a0))] H (fun r H2 => ∃ (y0 : List UInt8), K y0 ∧ r = (.v (.str (pk y0))) ∧ H = H2) := by
  obtain ⟨r, H2, h1, y0, hK, hr, hsep⟩ := spec_l01Dec_ok (fr := came H) (H := H) a0 (came_sep H)  K h
  have hk : H.n ≤ H2.n ∧ ∀ i, i < H.n → H2.f i = H.f i := hsep.1.2.1
  exact ⟨r, H, h1.forget hk.1 hk.2 (by subst hr; rfl), y0, hK, hr, rfl⟩

end Go.Proofs.YtmbkjkcolmoioaaGreatDoor.G

namespace Go.Proofs.YtmbkjkcolmoioaaGreatDoor.G
open Go Go.Ab Go.Proofs Go.Proofs.YtmbkjkcolmoioaaGreatDoor
set_option maxRecDepth 100000
set_option linter.unusedVariables false
set_option linter.unusedSimpArgs false
set_option maxHeartbeats 1000000
attribute [local irreducible] wops wopf Go.Ab.Fin
theorem F131.it2 : tint Tryz.prog 2 = some .i64 := by kernel_rfl
theorem F131.sr9 : tstr Tryz.prog 9 = true := by kernel_rfl
theorem F131.us5 : (Tryz.prog.underlying 5).isSome = true := by kernel_rfl
theorem spec_l01Value_ok {fr : List Pc} {H : Heap} (a0 : List UInt8) (hs : Sep H (fr))  (K : Int → Bool → Prop) (h : spec_l01Value.wp a0 K) : OkQ Tryz.prog 131 [(.v (.str (pk a0)))] H (fun r H2 => ∃ (y0 : Int) (y1 : Bool), K y0 y1 ∧ r = (.t [(.v (.int .i64 y0)), (.v (.bool y1))]) ∧ H = H2) := by
  unfold spec_l01Value.wp at h
  refine of_body Tryz.f131 F.hm Tryz.func131 rfl Tryz.call131 (by kernel_rfl) (by simp) ?_
  refine fi_seq ?_
  refine fi_region ?_
  refine so_assign (v := (.v (.int .i64 (0 : Int)))) rfl ?_
  refine so_assign (v := (.v (.bool false))) rfl ?_
  refine so_nil ?_
  refine fi_seq ?_
  refine fi_seq ?_
  refine fi_region ?_
  refine so_move (v := (.v (.str (pk a0)))) rfl ?_
  refine so_slen rfl F131.sr9 ?_
  refine so_bin rfl rfl ab_lss ?_
  refine so_move (v := (.v (.bool (decide ((a0.length : Int) < (1 : Int)))))) rfl ?_
  replace h := ofP h; rcases h with ⟨c101, h⟩ | ⟨c101, h⟩
  · refine so_gno rfl (decide_eq_true c101) ?_
    refine so_gno rfl (decide_eq_true c101) ?_
    refine so_gno rfl (decide_eq_true c101) ?_
    refine so_pick_t (v := (.v (.bool true))) rfl (decide_eq_true c101) rfl ?_
    refine so_nil ?_
    refine fi_true rfl rfl ?_
    refine fi_seq ?_
    refine fi_region ?_
    refine so_assign (v := (.v (.int .i64 (0 : Int)))) rfl ?_
    refine so_assign (v := (.v (.bool false))) rfl ?_
    refine so_nil ?_
    exact by_ret rfl ⟨_, _, h, rfl, rfl⟩
  · refine so_gyes rfl (decide_eq_false c101) ?_
    refine so_move (v := (.v (.str (pk a0)))) rfl ?_
    refine so_gyes rfl (decide_eq_false c101) ?_
    refine so_slen rfl F131.sr9 ?_
    refine so_gyes rfl (decide_eq_false c101) ?_
    refine so_bin rfl rfl ab_gtr ?_
    refine so_pick_f (v := (.v (.bool (decide ((17 : Int) < (a0.length : Int)))))) rfl (decide_eq_false c101) rfl ?_
    refine so_nil ?_
    replace h := ofP h; rcases h with ⟨c102, h⟩ | ⟨c102, h⟩
    · refine fi_true rfl (decide_eq_true c102) ?_
      refine fi_seq ?_
      refine fi_region ?_
      refine so_assign (v := (.v (.int .i64 (0 : Int)))) rfl ?_
      refine so_assign (v := (.v (.bool false))) rfl ?_
      refine so_nil ?_
      exact by_ret rfl ⟨_, _, h, rfl, rfl⟩
    · refine fi_false rfl (decide_eq_false c102) ?_
      refine fi_skip ?_
      refine fi_seq ?_
      refine fi_region ?_
      refine so_assign (v := (.v (.int .i64 (0 : Int)))) rfl ?_
      refine so_nil ?_
      refine fi_seq ?_
      refine fi_seq ?_
      refine fi_region ?_
      refine so_assign (v := (.v (.int .i64 (0 : Int)))) rfl ?_
      refine so_nil ?_
      refine fi_block ?_
      refine fi_loop ?_
      refine fi_at [(0, (.v (.str (pk a0)))), (4, (.v (.int .i64 (0 : Int)))), (5, (.v (.int .i64 (0 : Int))))] ⟨rfl, rfl, rfl, trivial⟩ ?_
      refine h (fun (n104 : Int) (i105 : Int) => ∀ (s : Nat → TV), Fin _ _ (updL s [(0, (.v (.str (pk a0)))), (4, (.v (.int .i64 n104))), (5, (.v (.int .i64 i105)))]) _ _) ?_ _
      intro n104 i105 h s124
      refine fi_inLoop ?_
      refine fi_seq ?_
      refine fi_seq ?_
      refine fi_region ?_
      refine so_move (v := (.v (.int .i64 i105))) rfl ?_
      refine so_move (v := (.v (.str (pk a0)))) rfl ?_
      refine so_slen rfl F131.sr9 ?_
      refine so_bin rfl rfl ab_lss ?_
      refine so_nil ?_
      replace h := ofP h; rcases h with ⟨c106, h⟩ | ⟨c106, h⟩
      · refine fi_true rfl (decide_eq_true c106) ?_
        refine fi_skip ?_
        refine fi_seq ?_
        refine fi_block ?_
        refine fi_seq ?_
        refine fi_region ?_
        refine so_move (v := (.v (.str (pk a0)))) rfl ?_
        refine so_move (v := (.v (.int .i64 i105))) rfl ?_
        obtain ⟨c107, h⟩ := h
        refine so_index rfl rfl F131.sr9 c107 ?_
        refine so_bin rfl rfl ab_geq ?_
        refine so_move (v := (.v (.bool (decide ((48 : Int) ≤ (bt a0 i105)))))) rfl ?_
        replace h := ofP h; rcases h with ⟨c108, h⟩ | ⟨c108, h⟩
        · refine so_gyes rfl (decide_eq_true c108) ?_
          refine so_move (v := (.v (.str (pk a0)))) rfl ?_
          refine so_gyes rfl (decide_eq_true c108) ?_
          refine so_move (v := (.v (.int .i64 i105))) rfl ?_
          refine so_gyes rfl (decide_eq_true c108) ?_
          refine so_index rfl rfl F131.sr9 c107 ?_
          refine so_gyes rfl (decide_eq_true c108) ?_
          refine so_bin rfl rfl ab_leq ?_
          refine so_pick_t (v := (.v (.bool (decide ((bt a0 i105) ≤ (57 : Int)))))) rfl (decide_eq_true c108) rfl ?_
          refine so_nil ?_
          replace h := ofP h; rcases h with ⟨c109, h⟩ | ⟨c109, h⟩
          · refine fi_true rfl (decide_eq_true c109) ?_
            refine fi_region ?_
            refine so_move (v := (.v (.int .i64 n104))) rfl ?_
            refine so_bin rfl rfl ab_mul ?_
            refine so_move (v := (.v (.str (pk a0)))) rfl ?_
            refine so_move (v := (.v (.int .i64 i105))) rfl ?_
            refine so_index rfl rfl F131.sr9 c107 ?_
            refine so_bin rfl rfl ab_sub ?_
            refine sv_ii rfl F131.us5 F131.it2 ?_
            refine so_bin rfl rfl ab_add ?_
            refine so_assign (v := (.v (.int .i64 (IntKind.i64.wrap ((IntKind.i64.wrap ((10 : Int) * n104)) + (IntKind.i64.wrap (IntKind.u8.wrap ((bt a0 i105) - (48 : Int))))))))) rfl ?_
            refine so_nil ?_
            refine fi_inBlock ?_
            refine fi_region ?_
            refine so_move (v := (.v (.int .i64 i105))) rfl ?_
            refine so_bin rfl rfl ab_add ?_
            refine so_assign (v := (.v (.int .i64 (IntKind.i64.wrap (i105 + (1 : Int)))))) rfl ?_
            refine so_nil ?_
            exact fi_at [(0, (.v (.str (pk a0)))), (4, (.v (.int .i64 (IntKind.i64.wrap ((IntKind.i64.wrap ((10 : Int) * n104)) + (IntKind.i64.wrap (IntKind.u8.wrap ((bt a0 i105) - (48 : Int))))))))), (5, (.v (.int .i64 (IntKind.i64.wrap (i105 + (1 : Int))))))] ⟨rfl, rfl, rfl, trivial⟩ (h _)
          · refine fi_false rfl (decide_eq_false c109) ?_
            refine fi_skip ?_
            refine fi_inBlock ?_
            refine fi_region ?_
            refine so_move (v := (.v (.int .i64 i105))) rfl ?_
            refine so_bin rfl rfl ab_add ?_
            refine so_assign (v := (.v (.int .i64 (IntKind.i64.wrap (i105 + (1 : Int)))))) rfl ?_
            refine so_nil ?_
            exact fi_at [(0, (.v (.str (pk a0)))), (4, (.v (.int .i64 n104))), (5, (.v (.int .i64 (IntKind.i64.wrap (i105 + (1 : Int))))))] ⟨rfl, rfl, rfl, trivial⟩ (h _)
        · refine so_gno rfl (decide_eq_false c108) ?_
          refine so_gno rfl (decide_eq_false c108) ?_
          refine so_gno rfl (decide_eq_false c108) ?_
          refine so_gno rfl (decide_eq_false c108) ?_
          refine so_pick_f (v := (.v (.bool false))) rfl (decide_eq_false c108) rfl ?_
          refine so_nil ?_
          refine fi_false rfl rfl ?_
          refine fi_skip ?_
          refine fi_inBlock ?_
          refine fi_region ?_
          refine so_move (v := (.v (.int .i64 i105))) rfl ?_
          refine so_bin rfl rfl ab_add ?_
          refine so_assign (v := (.v (.int .i64 (IntKind.i64.wrap (i105 + (1 : Int)))))) rfl ?_
          refine so_nil ?_
          exact fi_at [(0, (.v (.str (pk a0)))), (4, (.v (.int .i64 n104))), (5, (.v (.int .i64 (IntKind.i64.wrap (i105 + (1 : Int))))))] ⟨rfl, rfl, rfl, trivial⟩ (h _)
      · refine fi_false rfl (decide_eq_false c106) ?_
        refine fi_exit rfl ?_
        refine fi_seq ?_
        refine fi_seq ?_
        refine fi_region ?_
        refine so_move (v := (.v (.str (pk a0)))) rfl ?_
        obtain ⟨c110, h⟩ := h
        refine so_index rfl rfl F131.sr9 c110 ?_
        refine so_bin rfl rfl ab_eql ?_
        refine so_nil ?_
        replace h := ofP h; rcases h with ⟨c111, h⟩ | ⟨c111, h⟩
        · refine fi_true rfl (decide_eq_true c111) ?_
          refine fi_region ?_
          refine so_move (v := (.v (.int .i64 n104))) rfl ?_
          refine so_un rfl au_neg ?_
          refine so_assign (v := (.v (.int .i64 (IntKind.i64.wrap (0 - n104))))) rfl ?_
          refine so_nil ?_
          refine fi_seq ?_
          refine fi_seq ?_
          refine fi_region ?_
          refine so_move (v := (.v (.int .i64 (IntKind.i64.wrap (0 - n104))))) rfl ?_
          refine sv_callS (spec_l00In_ok (IntKind.i64.wrap (0 - n104)) (-1000000000000000 : Int) (1000000000000000 : Int) hs  _ h) (fun _ _ ⟨_, _, _, e⟩ => e) rfl rfl ?_
          clear h
          rintro _ _ ⟨y112, h, rfl, rfl⟩
          refine so_un rfl au_not ?_
          refine so_move (v := (.v (.bool (!y112)))) rfl ?_
          replace h := ofT h; rcases h with ⟨c114, h⟩ | ⟨c114, h⟩
          · refine so_gyes rfl (not_f c114) ?_
            refine so_move (v := (.v (.int .i64 (IntKind.i64.wrap (0 - n104))))) rfl ?_
            refine so_gyes rfl (not_f c114) ?_
            refine sv_callS (spec_l01Dec_okS (IntKind.i64.wrap (0 - n104)) hs  _ h) (fun _ _ ⟨_, _, _, e⟩ => e) rfl rfl ?_
            clear h
            rintro _ _ ⟨y115, h, rfl, rfl⟩
            refine so_gyes rfl (not_f c114) ?_
            refine so_move (v := (.v (.str (pk a0)))) rfl ?_
            refine so_gyes rfl (not_f c114) ?_
            refine so_bin rfl rfl ab_sneq ?_
            refine so_pick_f (v := (.v (.bool (!(decide (y115 = a0)))))) rfl (not_f c114) rfl ?_
            refine so_nil ?_
            replace h := ofP h; rcases h with ⟨c117, h⟩ | ⟨c117, h⟩
            · refine fi_false rfl (not_f (decide_eq_true c117)) ?_
              refine fi_skip ?_
              refine fi_seq ?_
              refine fi_region ?_
              refine so_move (v := (.v (.int .i64 (IntKind.i64.wrap (0 - n104))))) rfl ?_
              refine so_assign (v := (.v (.int .i64 (IntKind.i64.wrap (0 - n104))))) rfl ?_
              refine so_assign (v := (.v (.bool true))) rfl ?_
              refine so_nil ?_
              exact by_ret rfl ⟨_, _, h, rfl, rfl⟩
            · refine fi_true rfl (not_t (decide_eq_false c117)) ?_
              refine fi_seq ?_
              refine fi_region ?_
              refine so_assign (v := (.v (.int .i64 (0 : Int)))) rfl ?_
              refine so_assign (v := (.v (.bool false))) rfl ?_
              refine so_nil ?_
              exact by_ret rfl ⟨_, _, h, rfl, rfl⟩
          · refine so_gno rfl (not_t c114) ?_
            refine so_gno rfl (not_t c114) ?_
            refine so_gno rfl (not_t c114) ?_
            refine so_gno rfl (not_t c114) ?_
            refine so_pick_t (v := (.v (.bool true))) rfl (not_t c114) rfl ?_
            refine so_nil ?_
            refine fi_true rfl rfl ?_
            refine fi_seq ?_
            refine fi_region ?_
            refine so_assign (v := (.v (.int .i64 (0 : Int)))) rfl ?_
            refine so_assign (v := (.v (.bool false))) rfl ?_
            refine so_nil ?_
            exact by_ret rfl ⟨_, _, h, rfl, rfl⟩
        · refine fi_false rfl (decide_eq_false c111) ?_
          refine fi_skip ?_
          refine fi_seq ?_
          refine fi_seq ?_
          refine fi_region ?_
          refine so_move (v := (.v (.int .i64 n104))) rfl ?_
          refine sv_callS (spec_l00In_ok n104 (-1000000000000000 : Int) (1000000000000000 : Int) hs  _ h) (fun _ _ ⟨_, _, _, e⟩ => e) rfl rfl ?_
          clear h
          rintro _ _ ⟨y118, h, rfl, rfl⟩
          refine so_un rfl au_not ?_
          refine so_move (v := (.v (.bool (!y118)))) rfl ?_
          replace h := ofT h; rcases h with ⟨c120, h⟩ | ⟨c120, h⟩
          · refine so_gyes rfl (not_f c120) ?_
            refine so_move (v := (.v (.int .i64 n104))) rfl ?_
            refine so_gyes rfl (not_f c120) ?_
            refine sv_callS (spec_l01Dec_okS n104 hs  _ h) (fun _ _ ⟨_, _, _, e⟩ => e) rfl rfl ?_
            clear h
            rintro _ _ ⟨y121, h, rfl, rfl⟩
            refine so_gyes rfl (not_f c120) ?_
            refine so_move (v := (.v (.str (pk a0)))) rfl ?_
            refine so_gyes rfl (not_f c120) ?_
            refine so_bin rfl rfl ab_sneq ?_
            refine so_pick_f (v := (.v (.bool (!(decide (y121 = a0)))))) rfl (not_f c120) rfl ?_
            refine so_nil ?_
            replace h := ofP h; rcases h with ⟨c123, h⟩ | ⟨c123, h⟩
            · refine fi_false rfl (not_f (decide_eq_true c123)) ?_
              refine fi_skip ?_
              refine fi_seq ?_
              refine fi_region ?_
              refine so_move (v := (.v (.int .i64 n104))) rfl ?_
              refine so_assign (v := (.v (.int .i64 n104))) rfl ?_
              refine so_assign (v := (.v (.bool true))) rfl ?_
              refine so_nil ?_
              exact by_ret rfl ⟨_, _, h, rfl, rfl⟩
            · refine fi_true rfl (not_t (decide_eq_false c123)) ?_
              refine fi_seq ?_
              refine fi_region ?_
              refine so_assign (v := (.v (.int .i64 (0 : Int)))) rfl ?_
              refine so_assign (v := (.v (.bool false))) rfl ?_
              refine so_nil ?_
              exact by_ret rfl ⟨_, _, h, rfl, rfl⟩
          · refine so_gno rfl (not_t c120) ?_
            refine so_gno rfl (not_t c120) ?_
            refine so_gno rfl (not_t c120) ?_
            refine so_gno rfl (not_t c120) ?_
            refine so_pick_t (v := (.v (.bool true))) rfl (not_t c120) rfl ?_
            refine so_nil ?_
            refine fi_true rfl rfl ?_
            refine fi_seq ?_
            refine fi_region ?_
            refine so_assign (v := (.v (.int .i64 (0 : Int)))) rfl ?_
            refine so_assign (v := (.v (.bool false))) rfl ?_
            refine so_nil ?_
            exact by_ret rfl ⟨_, _, h, rfl, rfl⟩

end Go.Proofs.YtmbkjkcolmoioaaGreatDoor.G

namespace Go.Proofs.YtmbkjkcolmoioaaGreatDoor.G
open Go Go.Ab Go.Proofs Go.Proofs.YtmbkjkcolmoioaaGreatDoor
set_option maxRecDepth 100000
set_option linter.unusedVariables false
set_option linter.unusedSimpArgs false
set_option maxHeartbeats 1000000
attribute [local irreducible] wops wopf Go.Ab.Fin
theorem F89.ag9 : tagg Tryz.prog 9 = some false := by kernel_rfl
theorem F89.sz2 : tsz Tryz.prog 2 = some 1 := by kernel_rfl
theorem F89.ta57_57 : tapp Tryz.prog 57 57 = some (1, 8) := by kernel_rfl
theorem F89.te57 : telem Tryz.prog 57 = some 2 := by kernel_rfl
theorem F89.ti83 : (telem Tryz.prog 83).isSome = true := by kernel_rfl
theorem F89.tl83 : (telem Tryz.prog 83).bind (tsz Tryz.prog) = some 1 := by kernel_rfl
theorem F89.ze2 : tzero Tryz.prog 2 = some [(.int .i64 (0 : Int))] := by kernel_rfl
theorem spec_l01Numbers_ok {fr : List Pc} {H : Heap} (a0 : List UInt8) (hs : Sep H (fr))  (K : (List (Int)) → Bool → Prop) (h : spec_l01Numbers.wp a0 K) : OkQ Tryz.prog 89 [(.v (.str (pk a0)))] H (fun r H2 => ∃ (y0 : List (Int)) (y1 : Bool), K y0 y1 ∧ ∃ (w0_ : AV), r = (.t [(.v w0_), (.v (.bool y1))]) ∧ Sep H2 (Pc.osl w0_ 1 (enc (eInt .i64) y0) :: fr)) := by
  unfold spec_l01Numbers.wp at h
  refine of_body Tryz.f89 F.hm Tryz.func89 rfl Tryz.call89 (by kernel_rfl) (by simp) ?_
  refine fi_seq ?_
  refine fi_region ?_
  refine so_assign (v := (.v .nilsl)) rfl ?_
  refine so_assign (v := (.v (.bool false))) rfl ?_
  refine so_nil ?_
  refine fi_seq ?_
  refine fi_region ?_
  refine sv_bslice hs (eInt .i64) ([] : List (Int)) [] F89.te57 F89.sz2 F89.ze2 rfl rfl rfl rfl (fun _ => rfl) rfl (by decide) nofun (fun v101 H102 nv101 hs => ?_)
  refine so_assign (v := (.v v101)) rfl ?_
  refine so_nil ?_
  refine fi_seq ?_
  refine fi_seq ?_
  refine fi_region ?_
  refine so_move (v := (.v (.str (pk a0)))) rfl ?_
  refine so_bin rfl rfl ab_seql ?_
  refine so_nil ?_
  replace h := ofP h; rcases h with ⟨c104, h⟩ | ⟨c104, h⟩
  · refine fi_true rfl (decide_eq_true c104) ?_
    refine fi_seq ?_
    refine fi_region ?_
    refine so_move (v := (.v v101)) rfl ?_
    refine so_assign (v := (.v v101)) rfl ?_
    refine so_assign (v := (.v (.bool true))) rfl ?_
    refine so_nil ?_
    exact by_ret rfl ⟨_, _, h, _, rfl, hs⟩
  · refine fi_false rfl (decide_eq_false c104) ?_
    refine fi_skip ?_
    refine fi_seq ?_
    refine fi_region ?_
    refine so_move (v := (.v (.str (pk a0)))) rfl ?_
    refine sv_call (spec_l01Cut_ok a0 (44 : Int) hs  _ h) rfl rfl nofun ?_
    clear h hs
    rintro _ H108 ⟨y105, h, v106, rfl, hs⟩
    refine so_assign (v := (.v v106)) rfl ?_
    refine so_nil ?_
    refine fi_seq ?_
    refine fi_seq ?_
    refine fi_region ?_
    refine so_move (v := (.v v106)) rfl ?_
    refine sv_len (hs.shows 0 rfl) (fun _ => rfl) (by decide) rfl F89.ti83 ?_
    refine so_bin rfl rfl ab_gtr ?_
    refine so_nil ?_
    replace h := ofP h; rcases h with ⟨c109, h⟩ | ⟨c109, h⟩
    · refine fi_true rfl (decide_eq_true c109) ?_
      refine fi_seq ?_
      refine fi_region ?_
      refine so_assign (v := (.v .nilsl)) rfl ?_
      refine so_assign (v := (.v (.bool false))) rfl ?_
      refine so_nil ?_
      exact by_ret rfl ⟨_, _, h, _, rfl, (Sep.nil (Sep.del 0 (Sep.del 0 hs)) 1)⟩
    · refine fi_false rfl (decide_eq_false c109) ?_
      refine fi_skip ?_
      refine fi_seq ?_
      refine fi_seq ?_
      refine fi_region ?_
      refine so_assign (v := (.v (.int .i64 (0 : Int)))) rfl ?_
      refine so_nil ?_
      refine fi_block ?_
      refine fi_loop ?_
      refine fi_at [(4, (.v v101)), (5, (.v v106)), (6, (.v (.int .i64 (0 : Int))))] ⟨rfl, rfl, rfl, trivial⟩ ?_
      refine h (fun (out127 : List (Int)) (i129 : Int) => ∀ (s : Nat → TV) (H : Heap) (v128 : AV) (nv128 : v128 ≠ .nilsl), Sep H (Pc.osl v106 1 (enc eStr y105) :: Pc.osl v128 1 (enc (eInt .i64) out127) :: fr) → Fin _ _ (updL s [(4, (.v v128)), (5, (.v v106)), (6, (.v (.int .i64 i129)))]) H _) ?_ _ _ _ nv101 hs
      intro out127 i129 h s142 H143 v128 nv128 hs
      refine fi_inLoop ?_
      refine fi_seq ?_
      refine fi_seq ?_
      refine fi_region ?_
      refine so_move (v := (.v (.int .i64 i129))) rfl ?_
      refine so_move (v := (.v v106)) rfl ?_
      refine sv_len (hs.shows 0 rfl) (fun _ => rfl) (by decide) rfl F89.ti83 ?_
      refine so_bin rfl rfl ab_lss ?_
      refine so_nil ?_
      replace h := ofP h; rcases h with ⟨c130, h⟩ | ⟨c130, h⟩
      · refine fi_true rfl (decide_eq_true c130) ?_
        refine fi_skip ?_
        refine fi_seq ?_
        refine fi_block ?_
        refine fi_seq ?_
        refine fi_region ?_
        refine so_move (v := (.v v106)) rfl ?_
        refine so_move (v := (.v (.int .i64 i129))) rfl ?_
        obtain ⟨c131, h⟩ := h
        refine sv_idx (hs.shows 0 rfl) c131 (fun _ => rfl) (by decide) rfl rfl F89.tl83 ?_
        refine sv_cell (hs.shows 0 rfl) c131 ([] : List UInt8) 0 (fun x => (AV.str (pk x))) (fun _ => rfl) (fun _ => rfl) rfl F89.ag9 ?_
        refine sv_callS (spec_l01Value_ok (y105.getD (i129).toNat ([] : List UInt8)) hs  _ h) (fun _ _ ⟨_, _, _, _, e⟩ => e) rfl rfl ?_
        clear h
        rintro _ _ ⟨y132, y133, h, rfl, rfl⟩
        refine so_move (v := (.t [(.v (.int .i64 y132)), (.v (.bool y133))])) rfl ?_
        refine so_extract rfl rfl rfl ?_
        refine so_extract rfl rfl rfl ?_
        refine so_assign (v := (.v (.int .i64 y132))) rfl ?_
        refine so_assign (v := (.v (.bool y133))) rfl ?_
        refine so_nil ?_
        refine fi_seq ?_
        refine fi_seq ?_
        refine fi_region ?_
        refine so_move (v := (.v (.bool y133))) rfl ?_
        refine so_un rfl au_not ?_
        refine so_nil ?_
        replace h := ofT h; rcases h with ⟨c135, h⟩ | ⟨c135, h⟩
        · refine fi_false rfl (not_f c135) ?_
          refine fi_skip ?_
          refine fi_region ?_
          refine so_move (v := (.v v128)) rfl ?_
          refine so_move (v := (.v (.int .i64 y132))) rfl ?_
          refine sv_bslice hs (eInt .i64) ([y132] : List (Int)) [[(.int .i64 y132)]] F89.te57 F89.sz2 F89.ze2 rfl rfl rfl rfl (fun _ => rfl) rfl (by decide) nofun (fun v136 H137 nv136 hs => ?_)
          obtain ⟨c141, h⟩ := h
          refine sv_app hs 2 rfl (hs.shows 0 rfl) (fun _ => rfl) (by decide) F89.ta57_57 (by decide) c141 rfl rfl nofun (fun v139 H140 kv139 hs => ?_)
          replace hs := hs.del 0
          have nv139 := kv139 nv128
          refine so_assign (v := (.v v139)) rfl ?_
          refine so_nil ?_
          refine fi_inBlock ?_
          refine fi_region ?_
          refine so_move (v := (.v (.int .i64 i129))) rfl ?_
          refine so_bin rfl rfl ab_add ?_
          refine so_assign (v := (.v (.int .i64 (IntKind.i64.wrap (i129 + (1 : Int)))))) rfl ?_
          refine so_nil ?_
          exact fi_at [(4, (.v v139)), (5, (.v v106)), (6, (.v (.int .i64 (IntKind.i64.wrap (i129 + (1 : Int))))))] ⟨rfl, rfl, rfl, trivial⟩ (h _ _ _ nv139 hs)
        · refine fi_true rfl (not_t c135) ?_
          refine fi_seq ?_
          refine fi_region ?_
          refine so_assign (v := (.v .nilsl)) rfl ?_
          refine so_assign (v := (.v (.bool false))) rfl ?_
          refine so_nil ?_
          exact by_ret rfl ⟨_, _, h, _, rfl, (Sep.nil (Sep.del 0 (Sep.del 0 hs)) 1)⟩
      · refine fi_false rfl (decide_eq_false c130) ?_
        refine fi_exit rfl ?_
        refine fi_seq ?_
        refine fi_region ?_
        refine so_move (v := (.v v128)) rfl ?_
        refine so_assign (v := (.v v128)) rfl ?_
        refine so_assign (v := (.v (.bool true))) rfl ?_
        refine so_nil ?_
        exact by_ret rfl ⟨_, _, h, _, rfl, (Sep.del 0 hs)⟩

end Go.Proofs.YtmbkjkcolmoioaaGreatDoor.G

namespace Go.Proofs.YtmbkjkcolmoioaaGreatDoor.G
open Go Go.Ab Go.Proofs Go.Proofs.YtmbkjkcolmoioaaGreatDoor
set_option maxRecDepth 100000
set_option linter.unusedVariables false
set_option linter.unusedSimpArgs false
set_option maxHeartbeats 1000000
attribute [local irreducible] wops wopf Go.Ab.Fin
theorem F138.xb138 : Tryz.f138.body = none := rfl
theorem F138.xe138 : Extern.find Tryz.f138 = some Extern.MathFloatBits.float32frombits := by rfl
theorem F138.xf138 : (Extern.findNext Tryz.f138).isNone = true := by kernel_rfl
theorem F138.xn138 : (Tryz.f138.name == "runtime.NumGoroutine") = false := by kernel_rfl
theorem math_Float32frombits_ok {fr : List Pc} {H : Heap} (x : Int) (hs : Sep H fr) (K : Nat → Prop) (h : math_Float32frombits.wp x K) : OkQ Tryz.prog 138 [(.v (.int .u32 x))] H (fun r H2 => ∃ y0 : Nat, K y0 ∧ r = (.v (.flt .f32 y0)) ∧ H = H2) := ⟨_, _, f32from_ok Tryz.func138 F138.xn138 F138.xb138 F138.xf138 F138.xe138 x, _, h, rfl, rfl⟩

end Go.Proofs.YtmbkjkcolmoioaaGreatDoor.G

namespace Go.Proofs.YtmbkjkcolmoioaaGreatDoor.G
open Go Go.Ab Go.Proofs Go.Proofs.YtmbkjkcolmoioaaGreatDoor
set_option maxRecDepth 100000
set_option linter.unusedVariables false
set_option linter.unusedSimpArgs false
set_option maxHeartbeats 1000000
attribute [local irreducible] wops wopf Go.Ab.Fin
theorem F132.it179 : tint Tryz.prog 179 = some .u32 := by kernel_rfl
theorem F132.us2 : (Tryz.prog.underlying 2).isSome = true := by kernel_rfl
theorem spec_l01From_ok {fr : List Pc} {H : Heap} (a0 : Int) (hs : Sep H (fr))  (K : Nat → Prop) (h : spec_l01From.wp a0 K) : OkQ Tryz.prog 132 [(.v (.int .i64 a0))] H (fun r H2 => ∃ (y0 : Nat), K y0 ∧ r = (.v (.flt .f32 y0)) ∧ H = H2) := by
  unfold spec_l01From.wp at h
  refine of_body Tryz.f132 F.hm Tryz.func132 rfl Tryz.call132 (by kernel_rfl) (by simp) ?_
  refine fi_seq ?_
  refine fi_region ?_
  refine so_assign (v := (.v (.flt .f32 (cz .f32 0)))) rfl ?_
  refine so_nil ?_
  refine fi_seq ?_
  refine fi_region ?_
  refine so_move (v := (.v (.int .i64 a0))) rfl ?_
  refine sv_ii rfl F132.us2 F132.it179 ?_
  refine sv_callS (math_Float32frombits_ok (IntKind.u32.wrap a0) hs  _ h) (fun _ _ ⟨_, _, _, e⟩ => e) rfl rfl ?_
  clear h
  rintro _ _ ⟨y101, h, rfl, rfl⟩
  refine so_assign (v := (.v (.flt .f32 y101))) rfl ?_
  refine so_nil ?_
  exact by_ret rfl ⟨_, h, rfl, rfl⟩

end Go.Proofs.YtmbkjkcolmoioaaGreatDoor.G

namespace Go.Proofs.YtmbkjkcolmoioaaGreatDoor.G
open Go Go.Ab Go.Proofs Go.Proofs.YtmbkjkcolmoioaaGreatDoor
set_option maxRecDepth 100000
set_option linter.unusedVariables false
set_option linter.unusedSimpArgs false
set_option maxHeartbeats 1000000
attribute [local irreducible] wops wopf Go.Ab.Fin
theorem F144.xb144 : Tryz.f144.body = none := rfl
theorem F144.xe144 : Extern.find Tryz.f144 = some Extern.MathFloatBits.float32bits := by rfl
theorem F144.xf144 : (Extern.findNext Tryz.f144).isNone = true := by kernel_rfl
theorem F144.xn144 : (Tryz.f144.name == "runtime.NumGoroutine") = false := by kernel_rfl
theorem math_Float32bits_ok {fr : List Pc} {H : Heap} (x : Nat) (hs : Sep H fr) (K : Int → Prop) (h : math_Float32bits.wp x K) : OkQ Tryz.prog 144 [(.v (.flt .f32 x))] H (fun r H2 => ∃ y0 : Int, K y0 ∧ r = (.v (.int .u32 y0)) ∧ H = H2) := ⟨_, _, f32bits_ok Tryz.func144 F144.xn144 F144.xb144 F144.xf144 F144.xe144 x h.1, _, h.2, rfl, rfl⟩

end Go.Proofs.YtmbkjkcolmoioaaGreatDoor.G

namespace Go.Proofs.YtmbkjkcolmoioaaGreatDoor.G
open Go Go.Ab Go.Proofs Go.Proofs.YtmbkjkcolmoioaaGreatDoor
set_option maxRecDepth 100000
set_option linter.unusedVariables false
set_option linter.unusedSimpArgs false
set_option maxHeartbeats 1000000
attribute [local irreducible] wops wopf Go.Ab.Fin
theorem F133.it2 : tint Tryz.prog 2 = some .i64 := by kernel_rfl
theorem F133.us179 : (Tryz.prog.underlying 179).isSome = true := by kernel_rfl
theorem spec_l01Bits_ok {fr : List Pc} {H : Heap} (a0 : Nat) (hs : Sep H (fr))  (K : Int → Prop) (h : spec_l01Bits.wp a0 K) : OkQ Tryz.prog 133 [(.v (.flt .f32 a0))] H (fun r H2 => ∃ (y0 : Int), K y0 ∧ r = (.v (.int .i64 y0)) ∧ H = H2) := by
  unfold spec_l01Bits.wp at h
  refine of_body Tryz.f133 F.hm Tryz.func133 rfl Tryz.call133 (by kernel_rfl) (by simp) ?_
  refine fi_seq ?_
  refine fi_region ?_
  refine so_assign (v := (.v (.int .i64 (0 : Int)))) rfl ?_
  refine so_nil ?_
  refine fi_seq ?_
  refine fi_seq ?_
  refine fi_region ?_
  refine so_move (v := (.v (.flt .f32 a0))) rfl ?_
  refine so_move (v := (.v (.flt .f32 a0))) rfl ?_
  refine so_bin rfl rfl ab_fneq ?_
  refine so_nil ?_
  replace h := ofT h; rcases h with ⟨c101, h⟩ | ⟨c101, h⟩
  · refine fi_true rfl c101 ?_
    refine fi_seq ?_
    refine fi_region ?_
    refine so_assign (v := (.v (.int .i64 (2143289344 : Int)))) rfl ?_
    refine so_nil ?_
    exact by_ret rfl ⟨_, h, rfl, rfl⟩
  · refine fi_false rfl c101 ?_
    refine fi_skip ?_
    refine fi_seq ?_
    refine fi_region ?_
    refine so_move (v := (.v (.flt .f32 a0))) rfl ?_
    refine sv_callS (math_Float32bits_ok a0 hs  _ h) (fun _ _ ⟨_, _, _, e⟩ => e) rfl rfl ?_
    clear h
    rintro _ _ ⟨y102, h, rfl, rfl⟩
    refine sv_ii rfl F133.us179 F133.it2 ?_
    refine so_assign (v := (.v (.int .i64 (IntKind.i64.wrap y102)))) rfl ?_
    refine so_nil ?_
    exact by_ret rfl ⟨_, h, rfl, rfl⟩

end Go.Proofs.YtmbkjkcolmoioaaGreatDoor.G

namespace Go.Proofs.YtmbkjkcolmoioaaGreatDoor.G
open Go Go.Ab Go.Proofs Go.Proofs.YtmbkjkcolmoioaaGreatDoor
set_option maxRecDepth 100000
set_option linter.unusedVariables false
set_option linter.unusedSimpArgs false
set_option maxHeartbeats 1000000
attribute [local irreducible] wops wopf Go.Ab.Fin
theorem F90.ag9 : tagg Tryz.prog 9 = some false := by kernel_rfl
theorem F90.it2 : tint Tryz.prog 2 = some .i64 := by kernel_rfl
theorem F90.sr9 : tstr Tryz.prog 9 = true := by kernel_rfl
theorem F90.sz32 : tsz Tryz.prog 32 = some 1 := by kernel_rfl
theorem F90.ta22_22 : tapp Tryz.prog 22 22 = some (1, 4) := by kernel_rfl
theorem F90.te22 : telem Tryz.prog 22 = some 32 := by kernel_rfl
theorem F90.ti83 : (telem Tryz.prog 83).isSome = true := by kernel_rfl
theorem F90.tl83 : (telem Tryz.prog 83).bind (tsz Tryz.prog) = some 1 := by kernel_rfl
theorem F90.us5 : (Tryz.prog.underlying 5).isSome = true := by kernel_rfl
theorem F90.ze32 : tzero Tryz.prog 32 = some [(.flt .f32 (0 : Nat))] := by kernel_rfl
theorem spec_l01NRead_ok {fr : List Pc} {H : Heap} (a0 : List UInt8) (hs : Sep H (fr))  (K : (List (Nat)) → Bool → Prop) (h : spec_l01NRead.wp a0 K) : OkQ Tryz.prog 90 [(.v (.str (pk a0)))] H (fun r H2 => ∃ (y0 : List (Nat)) (y1 : Bool), K y0 y1 ∧ ∃ (w0_ : AV), r = (.t [(.v w0_), (.v (.bool y1))]) ∧ Sep H2 (Pc.osl w0_ 1 (enc (eFlt .f32) y0) :: fr)) := by
  unfold spec_l01NRead.wp at h
  refine of_body Tryz.f90 F.hm Tryz.func90 rfl Tryz.call90 (by kernel_rfl) (by simp) ?_
  refine fi_seq ?_
  refine fi_region ?_
  refine so_assign (v := (.v .nilsl)) rfl ?_
  refine so_assign (v := (.v (.bool false))) rfl ?_
  refine so_nil ?_
  refine fi_seq ?_
  refine fi_region ?_
  refine sv_bslice hs (eFlt .f32) ([] : List (Nat)) [] F90.te22 F90.sz32 F90.ze32 rfl rfl rfl rfl (fun _ => rfl) rfl (by decide) nofun (fun v101 H102 nv101 hs => ?_)
  refine so_assign (v := (.v v101)) rfl ?_
  refine so_nil ?_
  refine fi_seq ?_
  refine fi_seq ?_
  refine fi_region ?_
  refine so_move (v := (.v (.str (pk a0)))) rfl ?_
  refine so_bin rfl rfl ab_seql ?_
  refine so_nil ?_
  replace h := ofP h; rcases h with ⟨c104, h⟩ | ⟨c104, h⟩
  · refine fi_true rfl (decide_eq_true c104) ?_
    refine fi_seq ?_
    refine fi_region ?_
    refine so_move (v := (.v v101)) rfl ?_
    refine so_assign (v := (.v v101)) rfl ?_
    refine so_assign (v := (.v (.bool true))) rfl ?_
    refine so_nil ?_
    exact by_ret rfl ⟨_, _, h, _, rfl, hs⟩
  · refine fi_false rfl (decide_eq_false c104) ?_
    refine fi_skip ?_
    refine fi_seq ?_
    refine fi_region ?_
    refine so_move (v := (.v (.str (pk a0)))) rfl ?_
    refine sv_call (spec_l01Cut_ok a0 (44 : Int) hs  _ h) rfl rfl nofun ?_
    clear h hs
    rintro _ H108 ⟨y105, h, v106, rfl, hs⟩
    refine so_assign (v := (.v v106)) rfl ?_
    refine so_nil ?_
    refine fi_seq ?_
    refine fi_seq ?_
    refine fi_region ?_
    refine so_move (v := (.v v106)) rfl ?_
    refine sv_len (hs.shows 0 rfl) (fun _ => rfl) (by decide) rfl F90.ti83 ?_
    refine so_bin rfl rfl ab_gtr ?_
    refine so_nil ?_
    replace h := ofP h; rcases h with ⟨c109, h⟩ | ⟨c109, h⟩
    · refine fi_true rfl (decide_eq_true c109) ?_
      refine fi_seq ?_
      refine fi_region ?_
      refine so_assign (v := (.v .nilsl)) rfl ?_
      refine so_assign (v := (.v (.bool false))) rfl ?_
      refine so_nil ?_
      exact by_ret rfl ⟨_, _, h, _, rfl, (Sep.nil (Sep.del 0 (Sep.del 0 hs)) 1)⟩
    · refine fi_false rfl (decide_eq_false c109) ?_
      refine fi_skip ?_
      refine fi_seq ?_
      refine fi_seq ?_
      refine fi_region ?_
      refine so_assign (v := (.v (.int .i64 (0 : Int)))) rfl ?_
      refine so_nil ?_
      refine fi_block ?_
      refine fi_loop ?_
      refine fi_at [(4, (.v v101)), (5, (.v v106)), (6, (.v (.int .i64 (0 : Int))))] ⟨rfl, rfl, rfl, trivial⟩ ?_
      refine h (fun (out153 : List (Nat)) (i155 : Int) => ∀ (s : Nat → TV) (H : Heap) (v154 : AV) (nv154 : v154 ≠ .nilsl), Sep H (Pc.osl v106 1 (enc eStr y105) :: Pc.osl v154 1 (enc (eFlt .f32) out153) :: fr) → Fin _ _ (updL s [(4, (.v v154)), (5, (.v v106)), (6, (.v (.int .i64 i155)))]) H _) ?_ _ _ _ nv101 hs
      intro out153 i155 h s194 H195 v154 nv154 hs
      refine fi_inLoop ?_
      refine fi_seq ?_
      refine fi_seq ?_
      refine fi_region ?_
      refine so_move (v := (.v (.int .i64 i155))) rfl ?_
      refine so_move (v := (.v v106)) rfl ?_
      refine sv_len (hs.shows 0 rfl) (fun _ => rfl) (by decide) rfl F90.ti83 ?_
      refine so_bin rfl rfl ab_lss ?_
      refine so_nil ?_
      replace h := ofP h; rcases h with ⟨c156, h⟩ | ⟨c156, h⟩
      · refine fi_true rfl (decide_eq_true c156) ?_
        refine fi_skip ?_
        refine fi_seq ?_
        refine fi_block ?_
        refine fi_seq ?_
        refine fi_seq ?_
        refine fi_region ?_
        refine so_move (v := (.v v106)) rfl ?_
        refine so_move (v := (.v (.int .i64 i155))) rfl ?_
        obtain ⟨c157, h⟩ := h
        refine sv_idx (hs.shows 0 rfl) c157 (fun _ => rfl) (by decide) rfl rfl F90.tl83 ?_
        refine sv_cell (hs.shows 0 rfl) c157 ([] : List UInt8) 0 (fun x => (AV.str (pk x))) (fun _ => rfl) (fun _ => rfl) rfl F90.ag9 ?_
        refine so_slen rfl F90.sr9 ?_
        refine so_bin rfl rfl ab_neq ?_
        refine so_nil ?_
        replace h := ofP h; rcases h with ⟨c158, h⟩ | ⟨c158, h⟩
        · refine fi_false rfl (not_f (decide_eq_true c158)) ?_
          refine fi_skip ?_
          refine fi_seq ?_
          refine fi_region ?_
          refine so_assign (v := (.v (.int .i64 (0 : Int)))) rfl ?_
          refine so_nil ?_
          refine fi_seq ?_
          refine fi_seq ?_
          refine fi_region ?_
          refine so_assign (v := (.v (.int .i64 (0 : Int)))) rfl ?_
          refine so_nil ?_
          refine fi_block ?_
          refine fi_loop ?_
          refine fi_at [(4, (.v v154)), (5, (.v v106)), (6, (.v (.int .i64 i155))), (7, (.v (.int .i64 (0 : Int)))), (8, (.v (.int .i64 (0 : Int))))] ⟨rfl, rfl, rfl, rfl, rfl, trivial⟩ ?_
          refine h (fun (n160 : Int) (k161 : Int) => ∀ (s : Nat → TV) (H : Heap), Sep H (Pc.osl v106 1 (enc eStr y105) :: Pc.osl v154 1 (enc (eFlt .f32) out153) :: fr) → Fin _ _ (updL s [(4, (.v v154)), (5, (.v v106)), (6, (.v (.int .i64 i155))), (7, (.v (.int .i64 n160))), (8, (.v (.int .i64 k161)))]) H _) ?_ _ _ hs
          intro n160 k161 h s192 H193 hs
          refine fi_inLoop ?_
          refine fi_seq ?_
          refine fi_seq ?_
          refine fi_region ?_
          refine so_move (v := (.v (.int .i64 k161))) rfl ?_
          refine so_bin rfl rfl ab_lss ?_
          refine so_nil ?_
          replace h := ofP h; rcases h with ⟨c162, h⟩ | ⟨c162, h⟩
          · refine fi_true rfl (decide_eq_true c162) ?_
            refine fi_skip ?_
            refine fi_seq ?_
            refine fi_block ?_
            refine fi_seq ?_
            refine fi_region ?_
            refine so_move (v := (.v v106)) rfl ?_
            refine so_move (v := (.v (.int .i64 i155))) rfl ?_
            refine sv_idx (hs.shows 0 rfl) c157 (fun _ => rfl) (by decide) rfl rfl F90.tl83 ?_
            refine sv_cell (hs.shows 0 rfl) c157 ([] : List UInt8) 0 (fun x => (AV.str (pk x))) (fun _ => rfl) (fun _ => rfl) rfl F90.ag9 ?_
            refine so_move (v := (.v (.int .i64 k161))) rfl ?_
            obtain ⟨c163, h⟩ := h
            refine so_index rfl rfl F90.sr9 c163 ?_
            refine so_assign (v := (.v (.int .u8 (bt (y105.getD (i155).toNat ([] : List UInt8)) k161)))) rfl ?_
            refine so_nil ?_
            refine fi_seq ?_
            refine fi_region ?_
            refine so_assign (v := (.v (.int .i64 (-1 : Int)))) rfl ?_
            refine so_nil ?_
            refine fi_seq ?_
            refine fi_seq ?_
            refine fi_region ?_
            refine so_move (v := (.v (.int .u8 (bt (y105.getD (i155).toNat ([] : List UInt8)) k161)))) rfl ?_
            refine so_bin rfl rfl ab_geq ?_
            refine so_move (v := (.v (.bool (decide ((48 : Int) ≤ (bt (y105.getD (i155).toNat ([] : List UInt8)) k161)))))) rfl ?_
            replace h := ofP h; rcases h with ⟨c164, h⟩ | ⟨c164, h⟩
            · refine so_gyes rfl (decide_eq_true c164) ?_
              refine so_move (v := (.v (.int .u8 (bt (y105.getD (i155).toNat ([] : List UInt8)) k161)))) rfl ?_
              refine so_gyes rfl (decide_eq_true c164) ?_
              refine so_bin rfl rfl ab_leq ?_
              refine so_pick_t (v := (.v (.bool (decide ((bt (y105.getD (i155).toNat ([] : List UInt8)) k161) ≤ (57 : Int)))))) rfl (decide_eq_true c164) rfl ?_
              refine so_nil ?_
              replace h := ofP h; rcases h with ⟨c165, h⟩ | ⟨c165, h⟩
              · refine fi_true rfl (decide_eq_true c165) ?_
                refine fi_region ?_
                refine so_move (v := (.v (.int .u8 (bt (y105.getD (i155).toNat ([] : List UInt8)) k161)))) rfl ?_
                refine so_bin rfl rfl ab_sub ?_
                refine sv_ii rfl F90.us5 F90.it2 ?_
                refine so_assign (v := (.v (.int .i64 (IntKind.i64.wrap (IntKind.u8.wrap ((bt (y105.getD (i155).toNat ([] : List UInt8)) k161) - (48 : Int))))))) rfl ?_
                refine so_nil ?_
                refine fi_seq ?_
                refine fi_seq ?_
                refine fi_region ?_
                refine so_move (v := (.v (.int .u8 (bt (y105.getD (i155).toNat ([] : List UInt8)) k161)))) rfl ?_
                refine so_bin rfl rfl ab_geq ?_
                refine so_move (v := (.v (.bool (decide ((97 : Int) ≤ (bt (y105.getD (i155).toNat ([] : List UInt8)) k161)))))) rfl ?_
                replace h := ofP h; rcases h with ⟨c166, h⟩ | ⟨c166, h⟩
                · refine so_gyes rfl (decide_eq_true c166) ?_
                  refine so_move (v := (.v (.int .u8 (bt (y105.getD (i155).toNat ([] : List UInt8)) k161)))) rfl ?_
                  refine so_gyes rfl (decide_eq_true c166) ?_
                  refine so_bin rfl rfl ab_leq ?_
                  refine so_pick_t (v := (.v (.bool (decide ((bt (y105.getD (i155).toNat ([] : List UInt8)) k161) ≤ (102 : Int)))))) rfl (decide_eq_true c166) rfl ?_
                  refine so_nil ?_
                  replace h := ofP h; rcases h with ⟨c167, h⟩ | ⟨c167, h⟩
                  · refine fi_true rfl (decide_eq_true c167) ?_
                    refine fi_region ?_
                    refine so_move (v := (.v (.int .u8 (bt (y105.getD (i155).toNat ([] : List UInt8)) k161)))) rfl ?_
                    refine so_bin rfl rfl ab_sub ?_
                    refine sv_ii rfl F90.us5 F90.it2 ?_
                    refine so_bin rfl rfl ab_add ?_
                    refine so_assign (v := (.v (.int .i64 (IntKind.i64.wrap ((IntKind.i64.wrap (IntKind.u8.wrap ((bt (y105.getD (i155).toNat ([] : List UInt8)) k161) - (97 : Int)))) + (10 : Int)))))) rfl ?_
                    refine so_nil ?_
                    refine fi_seq ?_
                    refine fi_seq ?_
                    refine fi_region ?_
                    refine so_move (v := (.v (.int .i64 (IntKind.i64.wrap ((IntKind.i64.wrap (IntKind.u8.wrap ((bt (y105.getD (i155).toNat ([] : List UInt8)) k161) - (97 : Int)))) + (10 : Int)))))) rfl ?_
                    refine so_bin rfl rfl ab_lss ?_
                    refine so_nil ?_
                    replace h := ofP h; rcases h with ⟨c168, h⟩ | ⟨c168, h⟩
                    · refine fi_true rfl (decide_eq_true c168) ?_
                      refine fi_seq ?_
                      refine fi_region ?_
                      refine so_assign (v := (.v .nilsl)) rfl ?_
                      refine so_assign (v := (.v (.bool false))) rfl ?_
                      refine so_nil ?_
                      exact by_ret rfl ⟨_, _, h, _, rfl, (Sep.nil (Sep.del 0 (Sep.del 0 hs)) 1)⟩
                    · refine fi_false rfl (decide_eq_false c168) ?_
                      refine fi_skip ?_
                      refine fi_region ?_
                      refine so_move (v := (.v (.int .i64 n160))) rfl ?_
                      refine so_bin rfl rfl ab_mul ?_
                      refine so_move (v := (.v (.int .i64 (IntKind.i64.wrap ((IntKind.i64.wrap (IntKind.u8.wrap ((bt (y105.getD (i155).toNat ([] : List UInt8)) k161) - (97 : Int)))) + (10 : Int)))))) rfl ?_
                      refine so_bin rfl rfl ab_add ?_
                      refine so_assign (v := (.v (.int .i64 (IntKind.i64.wrap ((IntKind.i64.wrap ((16 : Int) * n160)) + (IntKind.i64.wrap ((IntKind.i64.wrap (IntKind.u8.wrap ((bt (y105.getD (i155).toNat ([] : List UInt8)) k161) - (97 : Int)))) + (10 : Int)))))))) rfl ?_
                      refine so_nil ?_
                      refine fi_inBlock ?_
                      refine fi_region ?_
                      refine so_move (v := (.v (.int .i64 k161))) rfl ?_
                      refine so_bin rfl rfl ab_add ?_
                      refine so_assign (v := (.v (.int .i64 (IntKind.i64.wrap (k161 + (1 : Int)))))) rfl ?_
                      refine so_nil ?_
                      exact fi_at [(4, (.v v154)), (5, (.v v106)), (6, (.v (.int .i64 i155))), (7, (.v (.int .i64 (IntKind.i64.wrap ((IntKind.i64.wrap ((16 : Int) * n160)) + (IntKind.i64.wrap ((IntKind.i64.wrap (IntKind.u8.wrap ((bt (y105.getD (i155).toNat ([] : List UInt8)) k161) - (97 : Int)))) + (10 : Int)))))))), (8, (.v (.int .i64 (IntKind.i64.wrap (k161 + (1 : Int))))))] ⟨rfl, rfl, rfl, rfl, rfl, trivial⟩ (h _ _  hs)
                  · refine fi_false rfl (decide_eq_false c167) ?_
                    refine fi_skip ?_
                    refine fi_seq ?_
                    refine fi_seq ?_
                    refine fi_region ?_
                    refine so_move (v := (.v (.int .i64 (IntKind.i64.wrap (IntKind.u8.wrap ((bt (y105.getD (i155).toNat ([] : List UInt8)) k161) - (48 : Int))))))) rfl ?_
                    refine so_bin rfl rfl ab_lss ?_
                    refine so_nil ?_
                    replace h := ofP h; rcases h with ⟨c169, h⟩ | ⟨c169, h⟩
                    · refine fi_true rfl (decide_eq_true c169) ?_
                      refine fi_seq ?_
                      refine fi_region ?_
                      refine so_assign (v := (.v .nilsl)) rfl ?_
                      refine so_assign (v := (.v (.bool false))) rfl ?_
                      refine so_nil ?_
                      exact by_ret rfl ⟨_, _, h, _, rfl, (Sep.nil (Sep.del 0 (Sep.del 0 hs)) 1)⟩
                    · refine fi_false rfl (decide_eq_false c169) ?_
                      refine fi_skip ?_
                      refine fi_region ?_
                      refine so_move (v := (.v (.int .i64 n160))) rfl ?_
                      refine so_bin rfl rfl ab_mul ?_
                      refine so_move (v := (.v (.int .i64 (IntKind.i64.wrap (IntKind.u8.wrap ((bt (y105.getD (i155).toNat ([] : List UInt8)) k161) - (48 : Int))))))) rfl ?_
                      refine so_bin rfl rfl ab_add ?_
                      refine so_assign (v := (.v (.int .i64 (IntKind.i64.wrap ((IntKind.i64.wrap ((16 : Int) * n160)) + (IntKind.i64.wrap (IntKind.u8.wrap ((bt (y105.getD (i155).toNat ([] : List UInt8)) k161) - (48 : Int))))))))) rfl ?_
                      refine so_nil ?_
                      refine fi_inBlock ?_
                      refine fi_region ?_
                      refine so_move (v := (.v (.int .i64 k161))) rfl ?_
                      refine so_bin rfl rfl ab_add ?_
                      refine so_assign (v := (.v (.int .i64 (IntKind.i64.wrap (k161 + (1 : Int)))))) rfl ?_
                      refine so_nil ?_
                      exact fi_at [(4, (.v v154)), (5, (.v v106)), (6, (.v (.int .i64 i155))), (7, (.v (.int .i64 (IntKind.i64.wrap ((IntKind.i64.wrap ((16 : Int) * n160)) + (IntKind.i64.wrap (IntKind.u8.wrap ((bt (y105.getD (i155).toNat ([] : List UInt8)) k161) - (48 : Int))))))))), (8, (.v (.int .i64 (IntKind.i64.wrap (k161 + (1 : Int))))))] ⟨rfl, rfl, rfl, rfl, rfl, trivial⟩ (h _ _  hs)
                · refine so_gno rfl (decide_eq_false c166) ?_
                  refine so_gno rfl (decide_eq_false c166) ?_
                  refine so_pick_f (v := (.v (.bool false))) rfl (decide_eq_false c166) rfl ?_
                  refine so_nil ?_
                  refine fi_false rfl rfl ?_
                  refine fi_skip ?_
                  refine fi_seq ?_
                  refine fi_seq ?_
                  refine fi_region ?_
                  refine so_move (v := (.v (.int .i64 (IntKind.i64.wrap (IntKind.u8.wrap ((bt (y105.getD (i155).toNat ([] : List UInt8)) k161) - (48 : Int))))))) rfl ?_
                  refine so_bin rfl rfl ab_lss ?_
                  refine so_nil ?_
                  replace h := ofP h; rcases h with ⟨c170, h⟩ | ⟨c170, h⟩
                  · refine fi_true rfl (decide_eq_true c170) ?_
                    refine fi_seq ?_
                    refine fi_region ?_
                    refine so_assign (v := (.v .nilsl)) rfl ?_
                    refine so_assign (v := (.v (.bool false))) rfl ?_
                    refine so_nil ?_
                    exact by_ret rfl ⟨_, _, h, _, rfl, (Sep.nil (Sep.del 0 (Sep.del 0 hs)) 1)⟩
                  · refine fi_false rfl (decide_eq_false c170) ?_
                    refine fi_skip ?_
                    refine fi_region ?_
                    refine so_move (v := (.v (.int .i64 n160))) rfl ?_
                    refine so_bin rfl rfl ab_mul ?_
                    refine so_move (v := (.v (.int .i64 (IntKind.i64.wrap (IntKind.u8.wrap ((bt (y105.getD (i155).toNat ([] : List UInt8)) k161) - (48 : Int))))))) rfl ?_
                    refine so_bin rfl rfl ab_add ?_
                    refine so_assign (v := (.v (.int .i64 (IntKind.i64.wrap ((IntKind.i64.wrap ((16 : Int) * n160)) + (IntKind.i64.wrap (IntKind.u8.wrap ((bt (y105.getD (i155).toNat ([] : List UInt8)) k161) - (48 : Int))))))))) rfl ?_
                    refine so_nil ?_
                    refine fi_inBlock ?_
                    refine fi_region ?_
                    refine so_move (v := (.v (.int .i64 k161))) rfl ?_
                    refine so_bin rfl rfl ab_add ?_
                    refine so_assign (v := (.v (.int .i64 (IntKind.i64.wrap (k161 + (1 : Int)))))) rfl ?_
                    refine so_nil ?_
                    exact fi_at [(4, (.v v154)), (5, (.v v106)), (6, (.v (.int .i64 i155))), (7, (.v (.int .i64 (IntKind.i64.wrap ((IntKind.i64.wrap ((16 : Int) * n160)) + (IntKind.i64.wrap (IntKind.u8.wrap ((bt (y105.getD (i155).toNat ([] : List UInt8)) k161) - (48 : Int))))))))), (8, (.v (.int .i64 (IntKind.i64.wrap (k161 + (1 : Int))))))] ⟨rfl, rfl, rfl, rfl, rfl, trivial⟩ (h _ _  hs)
              · refine fi_false rfl (decide_eq_false c165) ?_
                refine fi_skip ?_
                refine fi_seq ?_
                refine fi_seq ?_
                refine fi_region ?_
                refine so_move (v := (.v (.int .u8 (bt (y105.getD (i155).toNat ([] : List UInt8)) k161)))) rfl ?_
                refine so_bin rfl rfl ab_geq ?_
                refine so_move (v := (.v (.bool (decide ((97 : Int) ≤ (bt (y105.getD (i155).toNat ([] : List UInt8)) k161)))))) rfl ?_
                replace h := ofP h; rcases h with ⟨c171, h⟩ | ⟨c171, h⟩
                · refine so_gyes rfl (decide_eq_true c171) ?_
                  refine so_move (v := (.v (.int .u8 (bt (y105.getD (i155).toNat ([] : List UInt8)) k161)))) rfl ?_
                  refine so_gyes rfl (decide_eq_true c171) ?_
                  refine so_bin rfl rfl ab_leq ?_
                  refine so_pick_t (v := (.v (.bool (decide ((bt (y105.getD (i155).toNat ([] : List UInt8)) k161) ≤ (102 : Int)))))) rfl (decide_eq_true c171) rfl ?_
                  refine so_nil ?_
                  replace h := ofP h; rcases h with ⟨c172, h⟩ | ⟨c172, h⟩
                  · refine fi_true rfl (decide_eq_true c172) ?_
                    refine fi_region ?_
                    refine so_move (v := (.v (.int .u8 (bt (y105.getD (i155).toNat ([] : List UInt8)) k161)))) rfl ?_
                    refine so_bin rfl rfl ab_sub ?_
                    refine sv_ii rfl F90.us5 F90.it2 ?_
                    refine so_bin rfl rfl ab_add ?_
                    refine so_assign (v := (.v (.int .i64 (IntKind.i64.wrap ((IntKind.i64.wrap (IntKind.u8.wrap ((bt (y105.getD (i155).toNat ([] : List UInt8)) k161) - (97 : Int)))) + (10 : Int)))))) rfl ?_
                    refine so_nil ?_
                    refine fi_seq ?_
                    refine fi_seq ?_
                    refine fi_region ?_
                    refine so_move (v := (.v (.int .i64 (IntKind.i64.wrap ((IntKind.i64.wrap (IntKind.u8.wrap ((bt (y105.getD (i155).toNat ([] : List UInt8)) k161) - (97 : Int)))) + (10 : Int)))))) rfl ?_
                    refine so_bin rfl rfl ab_lss ?_
                    refine so_nil ?_
                    replace h := ofP h; rcases h with ⟨c173, h⟩ | ⟨c173, h⟩
                    · refine fi_true rfl (decide_eq_true c173) ?_
                      refine fi_seq ?_
                      refine fi_region ?_
                      refine so_assign (v := (.v .nilsl)) rfl ?_
                      refine so_assign (v := (.v (.bool false))) rfl ?_
                      refine so_nil ?_
                      exact by_ret rfl ⟨_, _, h, _, rfl, (Sep.nil (Sep.del 0 (Sep.del 0 hs)) 1)⟩
                    · refine fi_false rfl (decide_eq_false c173) ?_
                      refine fi_skip ?_
                      refine fi_region ?_
                      refine so_move (v := (.v (.int .i64 n160))) rfl ?_
                      refine so_bin rfl rfl ab_mul ?_
                      refine so_move (v := (.v (.int .i64 (IntKind.i64.wrap ((IntKind.i64.wrap (IntKind.u8.wrap ((bt (y105.getD (i155).toNat ([] : List UInt8)) k161) - (97 : Int)))) + (10 : Int)))))) rfl ?_
                      refine so_bin rfl rfl ab_add ?_
                      refine so_assign (v := (.v (.int .i64 (IntKind.i64.wrap ((IntKind.i64.wrap ((16 : Int) * n160)) + (IntKind.i64.wrap ((IntKind.i64.wrap (IntKind.u8.wrap ((bt (y105.getD (i155).toNat ([] : List UInt8)) k161) - (97 : Int)))) + (10 : Int)))))))) rfl ?_
                      refine so_nil ?_
                      refine fi_inBlock ?_
                      refine fi_region ?_
                      refine so_move (v := (.v (.int .i64 k161))) rfl ?_
                      refine so_bin rfl rfl ab_add ?_
                      refine so_assign (v := (.v (.int .i64 (IntKind.i64.wrap (k161 + (1 : Int)))))) rfl ?_
                      refine so_nil ?_
                      exact fi_at [(4, (.v v154)), (5, (.v v106)), (6, (.v (.int .i64 i155))), (7, (.v (.int .i64 (IntKind.i64.wrap ((IntKind.i64.wrap ((16 : Int) * n160)) + (IntKind.i64.wrap ((IntKind.i64.wrap (IntKind.u8.wrap ((bt (y105.getD (i155).toNat ([] : List UInt8)) k161) - (97 : Int)))) + (10 : Int)))))))), (8, (.v (.int .i64 (IntKind.i64.wrap (k161 + (1 : Int))))))] ⟨rfl, rfl, rfl, rfl, rfl, trivial⟩ (h _ _  hs)
                  · refine fi_false rfl (decide_eq_false c172) ?_
                    refine fi_skip ?_
                    refine fi_seq ?_
                    refine fi_seq ?_
                    refine fi_region ?_
                    refine so_move (v := (.v (.int .i64 (-1 : Int)))) rfl ?_
                    refine so_bin rfl rfl ab_lss ?_
                    refine so_nil ?_
                    replace h := ofP h; rcases h with ⟨c174, h⟩ | ⟨c174, h⟩
                    · refine fi_true rfl (decide_eq_true c174) ?_
                      refine fi_seq ?_
                      refine fi_region ?_
                      refine so_assign (v := (.v .nilsl)) rfl ?_
                      refine so_assign (v := (.v (.bool false))) rfl ?_
                      refine so_nil ?_
                      exact by_ret rfl ⟨_, _, h, _, rfl, (Sep.nil (Sep.del 0 (Sep.del 0 hs)) 1)⟩
                    · refine fi_false rfl (decide_eq_false c174) ?_
                      refine fi_skip ?_
                      refine fi_region ?_
                      refine so_move (v := (.v (.int .i64 n160))) rfl ?_
                      refine so_bin rfl rfl ab_mul ?_
                      refine so_move (v := (.v (.int .i64 (-1 : Int)))) rfl ?_
                      refine so_bin rfl rfl ab_add ?_
                      refine so_assign (v := (.v (.int .i64 (IntKind.i64.wrap ((IntKind.i64.wrap ((16 : Int) * n160)) + (-1 : Int)))))) rfl ?_
                      refine so_nil ?_
                      refine fi_inBlock ?_
                      refine fi_region ?_
                      refine so_move (v := (.v (.int .i64 k161))) rfl ?_
                      refine so_bin rfl rfl ab_add ?_
                      refine so_assign (v := (.v (.int .i64 (IntKind.i64.wrap (k161 + (1 : Int)))))) rfl ?_
                      refine so_nil ?_
                      exact fi_at [(4, (.v v154)), (5, (.v v106)), (6, (.v (.int .i64 i155))), (7, (.v (.int .i64 (IntKind.i64.wrap ((IntKind.i64.wrap ((16 : Int) * n160)) + (-1 : Int)))))), (8, (.v (.int .i64 (IntKind.i64.wrap (k161 + (1 : Int))))))] ⟨rfl, rfl, rfl, rfl, rfl, trivial⟩ (h _ _  hs)
                · refine so_gno rfl (decide_eq_false c171) ?_
                  refine so_gno rfl (decide_eq_false c171) ?_
                  refine so_pick_f (v := (.v (.bool false))) rfl (decide_eq_false c171) rfl ?_
                  refine so_nil ?_
                  refine fi_false rfl rfl ?_
                  refine fi_skip ?_
                  refine fi_seq ?_
                  refine fi_seq ?_
                  refine fi_region ?_
                  refine so_move (v := (.v (.int .i64 (-1 : Int)))) rfl ?_
                  refine so_bin rfl rfl ab_lss ?_
                  refine so_nil ?_
                  replace h := ofP h; rcases h with ⟨c175, h⟩ | ⟨c175, h⟩
                  · refine fi_true rfl (decide_eq_true c175) ?_
                    refine fi_seq ?_
                    refine fi_region ?_
                    refine so_assign (v := (.v .nilsl)) rfl ?_
                    refine so_assign (v := (.v (.bool false))) rfl ?_
                    refine so_nil ?_
                    exact by_ret rfl ⟨_, _, h, _, rfl, (Sep.nil (Sep.del 0 (Sep.del 0 hs)) 1)⟩
                  · refine fi_false rfl (decide_eq_false c175) ?_
                    refine fi_skip ?_
                    refine fi_region ?_
                    refine so_move (v := (.v (.int .i64 n160))) rfl ?_
                    refine so_bin rfl rfl ab_mul ?_
                    refine so_move (v := (.v (.int .i64 (-1 : Int)))) rfl ?_
                    refine so_bin rfl rfl ab_add ?_
                    refine so_assign (v := (.v (.int .i64 (IntKind.i64.wrap ((IntKind.i64.wrap ((16 : Int) * n160)) + (-1 : Int)))))) rfl ?_
                    refine so_nil ?_
                    refine fi_inBlock ?_
                    refine fi_region ?_
                    refine so_move (v := (.v (.int .i64 k161))) rfl ?_
                    refine so_bin rfl rfl ab_add ?_
                    refine so_assign (v := (.v (.int .i64 (IntKind.i64.wrap (k161 + (1 : Int)))))) rfl ?_
                    refine so_nil ?_
                    exact fi_at [(4, (.v v154)), (5, (.v v106)), (6, (.v (.int .i64 i155))), (7, (.v (.int .i64 (IntKind.i64.wrap ((IntKind.i64.wrap ((16 : Int) * n160)) + (-1 : Int)))))), (8, (.v (.int .i64 (IntKind.i64.wrap (k161 + (1 : Int))))))] ⟨rfl, rfl, rfl, rfl, rfl, trivial⟩ (h _ _  hs)
            · refine so_gno rfl (decide_eq_false c164) ?_
              refine so_gno rfl (decide_eq_false c164) ?_
              refine so_pick_f (v := (.v (.bool false))) rfl (decide_eq_false c164) rfl ?_
              refine so_nil ?_
              refine fi_false rfl rfl ?_
              refine fi_skip ?_
              refine fi_seq ?_
              refine fi_seq ?_
              refine fi_region ?_
              refine so_move (v := (.v (.int .u8 (bt (y105.getD (i155).toNat ([] : List UInt8)) k161)))) rfl ?_
              refine so_bin rfl rfl ab_geq ?_
              refine so_move (v := (.v (.bool (decide ((97 : Int) ≤ (bt (y105.getD (i155).toNat ([] : List UInt8)) k161)))))) rfl ?_
              replace h := ofP h; rcases h with ⟨c176, h⟩ | ⟨c176, h⟩
              · refine so_gyes rfl (decide_eq_true c176) ?_
                refine so_move (v := (.v (.int .u8 (bt (y105.getD (i155).toNat ([] : List UInt8)) k161)))) rfl ?_
                refine so_gyes rfl (decide_eq_true c176) ?_
                refine so_bin rfl rfl ab_leq ?_
                refine so_pick_t (v := (.v (.bool (decide ((bt (y105.getD (i155).toNat ([] : List UInt8)) k161) ≤ (102 : Int)))))) rfl (decide_eq_true c176) rfl ?_
                refine so_nil ?_
                replace h := ofP h; rcases h with ⟨c177, h⟩ | ⟨c177, h⟩
                · refine fi_true rfl (decide_eq_true c177) ?_
                  refine fi_region ?_
                  refine so_move (v := (.v (.int .u8 (bt (y105.getD (i155).toNat ([] : List UInt8)) k161)))) rfl ?_
                  refine so_bin rfl rfl ab_sub ?_
                  refine sv_ii rfl F90.us5 F90.it2 ?_
                  refine so_bin rfl rfl ab_add ?_
                  refine so_assign (v := (.v (.int .i64 (IntKind.i64.wrap ((IntKind.i64.wrap (IntKind.u8.wrap ((bt (y105.getD (i155).toNat ([] : List UInt8)) k161) - (97 : Int)))) + (10 : Int)))))) rfl ?_
                  refine so_nil ?_
                  refine fi_seq ?_
                  refine fi_seq ?_
                  refine fi_region ?_
                  refine so_move (v := (.v (.int .i64 (IntKind.i64.wrap ((IntKind.i64.wrap (IntKind.u8.wrap ((bt (y105.getD (i155).toNat ([] : List UInt8)) k161) - (97 : Int)))) + (10 : Int)))))) rfl ?_
                  refine so_bin rfl rfl ab_lss ?_
                  refine so_nil ?_
                  replace h := ofP h; rcases h with ⟨c178, h⟩ | ⟨c178, h⟩
                  · refine fi_true rfl (decide_eq_true c178) ?_
                    refine fi_seq ?_
                    refine fi_region ?_
                    refine so_assign (v := (.v .nilsl)) rfl ?_
                    refine so_assign (v := (.v (.bool false))) rfl ?_
                    refine so_nil ?_
                    exact by_ret rfl ⟨_, _, h, _, rfl, (Sep.nil (Sep.del 0 (Sep.del 0 hs)) 1)⟩
                  · refine fi_false rfl (decide_eq_false c178) ?_
                    refine fi_skip ?_
                    refine fi_region ?_
                    refine so_move (v := (.v (.int .i64 n160))) rfl ?_
                    refine so_bin rfl rfl ab_mul ?_
                    refine so_move (v := (.v (.int .i64 (IntKind.i64.wrap ((IntKind.i64.wrap (IntKind.u8.wrap ((bt (y105.getD (i155).toNat ([] : List UInt8)) k161) - (97 : Int)))) + (10 : Int)))))) rfl ?_
                    refine so_bin rfl rfl ab_add ?_
                    refine so_assign (v := (.v (.int .i64 (IntKind.i64.wrap ((IntKind.i64.wrap ((16 : Int) * n160)) + (IntKind.i64.wrap ((IntKind.i64.wrap (IntKind.u8.wrap ((bt (y105.getD (i155).toNat ([] : List UInt8)) k161) - (97 : Int)))) + (10 : Int)))))))) rfl ?_
                    refine so_nil ?_
                    refine fi_inBlock ?_
                    refine fi_region ?_
                    refine so_move (v := (.v (.int .i64 k161))) rfl ?_
                    refine so_bin rfl rfl ab_add ?_
                    refine so_assign (v := (.v (.int .i64 (IntKind.i64.wrap (k161 + (1 : Int)))))) rfl ?_
                    refine so_nil ?_
                    exact fi_at [(4, (.v v154)), (5, (.v v106)), (6, (.v (.int .i64 i155))), (7, (.v (.int .i64 (IntKind.i64.wrap ((IntKind.i64.wrap ((16 : Int) * n160)) + (IntKind.i64.wrap ((IntKind.i64.wrap (IntKind.u8.wrap ((bt (y105.getD (i155).toNat ([] : List UInt8)) k161) - (97 : Int)))) + (10 : Int)))))))), (8, (.v (.int .i64 (IntKind.i64.wrap (k161 + (1 : Int))))))] ⟨rfl, rfl, rfl, rfl, rfl, trivial⟩ (h _ _  hs)
                · refine fi_false rfl (decide_eq_false c177) ?_
                  refine fi_skip ?_
                  refine fi_seq ?_
                  refine fi_seq ?_
                  refine fi_region ?_
                  refine so_move (v := (.v (.int .i64 (-1 : Int)))) rfl ?_
                  refine so_bin rfl rfl ab_lss ?_
                  refine so_nil ?_
                  replace h := ofP h; rcases h with ⟨c179, h⟩ | ⟨c179, h⟩
                  · refine fi_true rfl (decide_eq_true c179) ?_
                    refine fi_seq ?_
                    refine fi_region ?_
                    refine so_assign (v := (.v .nilsl)) rfl ?_
                    refine so_assign (v := (.v (.bool false))) rfl ?_
                    refine so_nil ?_
                    exact by_ret rfl ⟨_, _, h, _, rfl, (Sep.nil (Sep.del 0 (Sep.del 0 hs)) 1)⟩
                  · refine fi_false rfl (decide_eq_false c179) ?_
                    refine fi_skip ?_
                    refine fi_region ?_
                    refine so_move (v := (.v (.int .i64 n160))) rfl ?_
                    refine so_bin rfl rfl ab_mul ?_
                    refine so_move (v := (.v (.int .i64 (-1 : Int)))) rfl ?_
                    refine so_bin rfl rfl ab_add ?_
                    refine so_assign (v := (.v (.int .i64 (IntKind.i64.wrap ((IntKind.i64.wrap ((16 : Int) * n160)) + (-1 : Int)))))) rfl ?_
                    refine so_nil ?_
                    refine fi_inBlock ?_
                    refine fi_region ?_
                    refine so_move (v := (.v (.int .i64 k161))) rfl ?_
                    refine so_bin rfl rfl ab_add ?_
                    refine so_assign (v := (.v (.int .i64 (IntKind.i64.wrap (k161 + (1 : Int)))))) rfl ?_
                    refine so_nil ?_
                    exact fi_at [(4, (.v v154)), (5, (.v v106)), (6, (.v (.int .i64 i155))), (7, (.v (.int .i64 (IntKind.i64.wrap ((IntKind.i64.wrap ((16 : Int) * n160)) + (-1 : Int)))))), (8, (.v (.int .i64 (IntKind.i64.wrap (k161 + (1 : Int))))))] ⟨rfl, rfl, rfl, rfl, rfl, trivial⟩ (h _ _  hs)
              · refine so_gno rfl (decide_eq_false c176) ?_
                refine so_gno rfl (decide_eq_false c176) ?_
                refine so_pick_f (v := (.v (.bool false))) rfl (decide_eq_false c176) rfl ?_
                refine so_nil ?_
                refine fi_false rfl rfl ?_
                refine fi_skip ?_
                refine fi_seq ?_
                refine fi_seq ?_
                refine fi_region ?_
                refine so_move (v := (.v (.int .i64 (-1 : Int)))) rfl ?_
                refine so_bin rfl rfl ab_lss ?_
                refine so_nil ?_
                replace h := ofP h; rcases h with ⟨c180, h⟩ | ⟨c180, h⟩
                · refine fi_true rfl (decide_eq_true c180) ?_
                  refine fi_seq ?_
                  refine fi_region ?_
                  refine so_assign (v := (.v .nilsl)) rfl ?_
                  refine so_assign (v := (.v (.bool false))) rfl ?_
                  refine so_nil ?_
                  exact by_ret rfl ⟨_, _, h, _, rfl, (Sep.nil (Sep.del 0 (Sep.del 0 hs)) 1)⟩
                · refine fi_false rfl (decide_eq_false c180) ?_
                  refine fi_skip ?_
                  refine fi_region ?_
                  refine so_move (v := (.v (.int .i64 n160))) rfl ?_
                  refine so_bin rfl rfl ab_mul ?_
                  refine so_move (v := (.v (.int .i64 (-1 : Int)))) rfl ?_
                  refine so_bin rfl rfl ab_add ?_
                  refine so_assign (v := (.v (.int .i64 (IntKind.i64.wrap ((IntKind.i64.wrap ((16 : Int) * n160)) + (-1 : Int)))))) rfl ?_
                  refine so_nil ?_
                  refine fi_inBlock ?_
                  refine fi_region ?_
                  refine so_move (v := (.v (.int .i64 k161))) rfl ?_
                  refine so_bin rfl rfl ab_add ?_
                  refine so_assign (v := (.v (.int .i64 (IntKind.i64.wrap (k161 + (1 : Int)))))) rfl ?_
                  refine so_nil ?_
                  exact fi_at [(4, (.v v154)), (5, (.v v106)), (6, (.v (.int .i64 i155))), (7, (.v (.int .i64 (IntKind.i64.wrap ((IntKind.i64.wrap ((16 : Int) * n160)) + (-1 : Int)))))), (8, (.v (.int .i64 (IntKind.i64.wrap (k161 + (1 : Int))))))] ⟨rfl, rfl, rfl, rfl, rfl, trivial⟩ (h _ _  hs)
          · refine fi_false rfl (decide_eq_false c162) ?_
            refine fi_exit rfl ?_
            refine fi_seq ?_
            refine fi_region ?_
            refine so_move (v := (.v (.int .i64 n160))) rfl ?_
            refine sv_callS (spec_l01From_ok n160 hs  _ h) (fun _ _ ⟨_, _, _, e⟩ => e) rfl rfl ?_
            clear h
            rintro _ _ ⟨y181, h, rfl, rfl⟩
            refine so_assign (v := (.v (.flt .f32 y181))) rfl ?_
            refine so_nil ?_
            refine fi_seq ?_
            refine fi_seq ?_
            refine fi_region ?_
            refine so_move (v := (.v (.flt .f32 y181))) rfl ?_
            refine sv_callS (spec_l01Bits_ok y181 hs  _ h) (fun _ _ ⟨_, _, _, e⟩ => e) rfl rfl ?_
            clear h
            rintro _ _ ⟨y183, h, rfl, rfl⟩
            refine so_move (v := (.v (.int .i64 n160))) rfl ?_
            refine so_bin rfl rfl ab_neq ?_
            refine so_nil ?_
            replace h := ofP h; rcases h with ⟨c185, h⟩ | ⟨c185, h⟩
            · refine fi_false rfl (not_f (decide_eq_true c185)) ?_
              refine fi_skip ?_
              refine fi_region ?_
              refine so_move (v := (.v v154)) rfl ?_
              refine so_move (v := (.v (.flt .f32 y181))) rfl ?_
              refine sv_bslice hs (eFlt .f32) ([y181] : List (Nat)) [[(.flt .f32 y181)]] F90.te22 F90.sz32 F90.ze32 rfl rfl rfl rfl (fun _ => rfl) rfl (by decide) nofun (fun v186 H187 nv186 hs => ?_)
              obtain ⟨c191, h⟩ := h
              refine sv_app hs 2 rfl (hs.shows 0 rfl) (fun _ => rfl) (by decide) F90.ta22_22 (by decide) c191 rfl rfl nofun (fun v189 H190 kv189 hs => ?_)
              replace hs := hs.del 0
              have nv189 := kv189 nv154
              refine so_assign (v := (.v v189)) rfl ?_
              refine so_nil ?_
              refine fi_inBlock ?_
              refine fi_region ?_
              refine so_move (v := (.v (.int .i64 i155))) rfl ?_
              refine so_bin rfl rfl ab_add ?_
              refine so_assign (v := (.v (.int .i64 (IntKind.i64.wrap (i155 + (1 : Int)))))) rfl ?_
              refine so_nil ?_
              exact fi_at [(4, (.v v189)), (5, (.v v106)), (6, (.v (.int .i64 (IntKind.i64.wrap (i155 + (1 : Int))))))] ⟨rfl, rfl, rfl, trivial⟩ (h _ _ _ nv189 hs)
            · refine fi_true rfl (not_t (decide_eq_false c185)) ?_
              refine fi_seq ?_
              refine fi_region ?_
              refine so_assign (v := (.v .nilsl)) rfl ?_
              refine so_assign (v := (.v (.bool false))) rfl ?_
              refine so_nil ?_
              exact by_ret rfl ⟨_, _, h, _, rfl, (Sep.nil (Sep.del 0 (Sep.del 0 hs)) 1)⟩
        · refine fi_true rfl (not_t (decide_eq_false c158)) ?_
          refine fi_seq ?_
          refine fi_region ?_
          refine so_assign (v := (.v .nilsl)) rfl ?_
          refine so_assign (v := (.v (.bool false))) rfl ?_
          refine so_nil ?_
          exact by_ret rfl ⟨_, _, h, _, rfl, (Sep.nil (Sep.del 0 (Sep.del 0 hs)) 1)⟩
      · refine fi_false rfl (decide_eq_false c156) ?_
        refine fi_exit rfl ?_
        refine fi_seq ?_
        refine fi_region ?_
        refine so_move (v := (.v v154)) rfl ?_
        refine so_assign (v := (.v v154)) rfl ?_
        refine so_assign (v := (.v (.bool true))) rfl ?_
        refine so_nil ?_
        exact by_ret rfl ⟨_, _, h, _, rfl, (Sep.del 0 hs)⟩

end Go.Proofs.YtmbkjkcolmoioaaGreatDoor.G

namespace Go.Proofs.YtmbkjkcolmoioaaGreatDoor.G
open Go Go.Ab Go.Proofs Go.Proofs.YtmbkjkcolmoioaaGreatDoor
set_option maxRecDepth 100000
set_option linter.unusedVariables false
set_option linter.unusedSimpArgs false
set_option maxHeartbeats 1000000
attribute [local irreducible] wops wopf Go.Ab.Fin
theorem spec_l04Sides_ok {fr : List Pc} {H : Heap} (a0 : Int) (a1 : Int) (hs : Sep H (fr))  (K : Bool → Prop) (h : spec_l04Sides.wp a0 a1 K) : OkQ Tryz.prog 174 [(.v (.int .i64 a0)), (.v (.int .i64 a1))] H (fun r H2 => ∃ (y0 : Bool), K y0 ∧ r = (.v (.bool y0)) ∧ H = H2) := by
  unfold spec_l04Sides.wp at h
  refine of_body Tryz.f174 F.hm Tryz.func174 rfl Tryz.call174 (by kernel_rfl) (by simp) ?_
  refine fi_seq ?_
  refine fi_region ?_
  refine so_assign (v := (.v (.bool false))) rfl ?_
  refine so_nil ?_
  refine fi_seq ?_
  refine fi_region ?_
  refine so_move (v := (.v (.int .i64 a0))) rfl ?_
  refine sv_callS (spec_l00In_ok a0 (1 : Int) (16 : Int) hs  _ h) (fun _ _ ⟨_, _, _, e⟩ => e) rfl rfl ?_
  clear h
  rintro _ _ ⟨y101, h, rfl, rfl⟩
  refine so_move (v := (.v (.bool y101))) rfl ?_
  replace h := ofT h; rcases h with ⟨c103, h⟩ | ⟨c103, h⟩
  · refine so_gyes rfl c103 ?_
    refine so_move (v := (.v (.int .i64 a1))) rfl ?_
    refine so_gyes rfl c103 ?_
    refine sv_callS (spec_l00In_ok a1 (1 : Int) (16 : Int) hs  _ h) (fun _ _ ⟨_, _, _, e⟩ => e) rfl rfl ?_
    clear h
    rintro _ _ ⟨y104, h, rfl, rfl⟩
    refine so_pick_t (v := (.v (.bool y104))) rfl c103 rfl ?_
    refine so_assign (v := (.v (.bool y104))) rfl ?_
    refine so_nil ?_
    exact by_ret rfl ⟨_, h, rfl, rfl⟩
  · refine so_gno rfl c103 ?_
    refine so_gno rfl c103 ?_
    refine so_pick_f (v := (.v (.bool false))) rfl c103 rfl ?_
    refine so_assign (v := (.v (.bool false))) rfl ?_
    refine so_nil ?_
    exact by_ret rfl ⟨_, h, rfl, rfl⟩

end Go.Proofs.YtmbkjkcolmoioaaGreatDoor.G

namespace Go.Proofs.YtmbkjkcolmoioaaGreatDoor.G
open Go Go.Ab Go.Proofs Go.Proofs.YtmbkjkcolmoioaaGreatDoor
set_option maxRecDepth 100000
set_option linter.unusedVariables false
set_option linter.unusedSimpArgs false
set_option maxHeartbeats 1000000
attribute [local irreducible] wops wopf Go.Ab.Fin
theorem spec_l01Finite_ok {fr : List Pc} {H : Heap} (a0 : Nat) (hs : Sep H (fr))  (K : Bool → Prop) (h : spec_l01Finite.wp a0 K) : OkQ Tryz.prog 218 [(.v (.flt .f32 a0))] H (fun r H2 => ∃ (y0 : Bool), K y0 ∧ r = (.v (.bool y0)) ∧ H = H2) := by
  unfold spec_l01Finite.wp at h
  refine of_body Tryz.f218 F.hm Tryz.func218 rfl Tryz.call218 (by kernel_rfl) (by simp) ?_
  refine fi_seq ?_
  refine fi_region ?_
  refine so_assign (v := (.v (.bool false))) rfl ?_
  refine so_nil ?_
  refine fi_seq ?_
  refine fi_region ?_
  refine so_move (v := (.v (.flt .f32 a0))) rfl ?_
  refine so_move (v := (.v (.flt .f32 a0))) rfl ?_
  refine so_bin rfl rfl ab_fsub ?_
  refine so_bin rfl rfl ab_feql ?_
  refine so_assign (v := (.v (.bool (fcmp .eql .f32 (fop .sub .f32 a0 a0) (cz .f32 0))))) rfl ?_
  refine so_nil ?_
  exact by_ret rfl ⟨_, h, rfl, rfl⟩

end Go.Proofs.YtmbkjkcolmoioaaGreatDoor.G

namespace Go.Proofs.YtmbkjkcolmoioaaGreatDoor.G
open Go Go.Ab Go.Proofs Go.Proofs.YtmbkjkcolmoioaaGreatDoor
set_option maxRecDepth 100000
set_option linter.unusedVariables false
set_option linter.unusedSimpArgs false
set_option maxHeartbeats 1000000
attribute [local irreducible] wops wopf Go.Ab.Fin
theorem F175.ag32 : tagg Tryz.prog 32 = some false := by kernel_rfl
theorem F175.ti22 : (telem Tryz.prog 22).isSome = true := by kernel_rfl
theorem F175.tl22 : (telem Tryz.prog 22).bind (tsz Tryz.prog) = some 1 := by kernel_rfl
theorem spec_l02Finite_ok {fr : List Pc} {H : Heap} (v0 : AV) (l0 : List (Nat)) (hs : Sep H (fr)) (g0 : ∀ H, Sep H fr → Shows H v0 1 (enc (eFlt .f32) l0)) (K : Bool → Prop) (h : spec_l02Finite.wp l0 K) : OkQ Tryz.prog 175 [(.v v0)] H (fun r H2 => ∃ (y0 : Bool), K y0 ∧ r = (.v (.bool y0)) ∧ H = H2) := by
  unfold spec_l02Finite.wp at h
  refine of_body Tryz.f175 F.hm Tryz.func175 rfl Tryz.call175 (by kernel_rfl) (by simp) ?_
  refine fi_seq ?_
  refine fi_region ?_
  refine so_assign (v := (.v (.bool false))) rfl ?_
  refine so_nil ?_
  refine fi_seq ?_
  refine fi_seq ?_
  refine fi_region ?_
  refine so_assign (v := (.v (.int .i64 (0 : Int)))) rfl ?_
  refine so_nil ?_
  refine fi_block ?_
  refine fi_loop ?_
  refine fi_at [(0, (.v v0)), (3, (.v (.int .i64 (0 : Int))))] ⟨rfl, rfl, trivial⟩ ?_
  refine h (fun (i102 : Int) => ∀ (s : Nat → TV), Fin _ _ (updL s [(0, (.v v0)), (3, (.v (.int .i64 i102)))]) _ _) ?_ _
  intro i102 h s108
  refine fi_inLoop ?_
  refine fi_seq ?_
  refine fi_seq ?_
  refine fi_region ?_
  refine so_move (v := (.v (.int .i64 i102))) rfl ?_
  refine so_move (v := (.v v0)) rfl ?_
  refine sv_len (g0 _ hs) (fun _ => rfl) (by decide) rfl F175.ti22 ?_
  refine so_bin rfl rfl ab_lss ?_
  refine so_nil ?_
  replace h := ofP h; rcases h with ⟨c103, h⟩ | ⟨c103, h⟩
  · refine fi_true rfl (decide_eq_true c103) ?_
    refine fi_skip ?_
    refine fi_seq ?_
    refine fi_block ?_
    refine fi_seq ?_
    refine fi_region ?_
    refine so_move (v := (.v v0)) rfl ?_
    refine so_move (v := (.v (.int .i64 i102))) rfl ?_
    obtain ⟨c104, h⟩ := h
    refine sv_idx (g0 _ hs) c104 (fun _ => rfl) (by decide) rfl rfl F175.tl22 ?_
    refine sv_cell (g0 _ hs) c104 (0 : Nat) 0 (fun x => (AV.flt .f32 x)) (fun _ => rfl) (fun _ => rfl) rfl F175.ag32 ?_
    refine sv_callS (spec_l01Finite_ok (l0.getD (i102).toNat (0 : Nat)) hs  _ h) (fun _ _ ⟨_, _, _, e⟩ => e) rfl rfl ?_
    clear h
    rintro _ _ ⟨y105, h, rfl, rfl⟩
    refine so_un rfl au_not ?_
    refine so_nil ?_
    replace h := ofT h; rcases h with ⟨c107, h⟩ | ⟨c107, h⟩
    · refine fi_false rfl (not_f c107) ?_
      refine fi_skip ?_
      refine fi_inBlock ?_
      refine fi_region ?_
      refine so_move (v := (.v (.int .i64 i102))) rfl ?_
      refine so_bin rfl rfl ab_add ?_
      refine so_assign (v := (.v (.int .i64 (IntKind.i64.wrap (i102 + (1 : Int)))))) rfl ?_
      refine so_nil ?_
      exact fi_at [(0, (.v v0)), (3, (.v (.int .i64 (IntKind.i64.wrap (i102 + (1 : Int))))))] ⟨rfl, rfl, trivial⟩ (h _)
    · refine fi_true rfl (not_t c107) ?_
      refine fi_seq ?_
      refine fi_region ?_
      refine so_assign (v := (.v (.bool false))) rfl ?_
      refine so_nil ?_
      exact by_ret rfl ⟨_, h, rfl, rfl⟩
  · refine fi_false rfl (decide_eq_false c103) ?_
    refine fi_exit rfl ?_
    refine fi_seq ?_
    refine fi_region ?_
    refine so_assign (v := (.v (.bool true))) rfl ?_
    refine so_nil ?_
    exact by_ret rfl ⟨_, h, rfl, rfl⟩

end Go.Proofs.YtmbkjkcolmoioaaGreatDoor.G

namespace Go.Proofs.YtmbkjkcolmoioaaGreatDoor.G
open Go Go.Ab Go.Proofs Go.Proofs.YtmbkjkcolmoioaaGreatDoor
set_option maxRecDepth 100000
set_option linter.unusedVariables false
set_option linter.unusedSimpArgs false
set_option maxHeartbeats 1000000
attribute [local irreducible] wops wopf Go.Ab.Fin
theorem F134.ag2 : tagg Tryz.prog 2 = some false := by kernel_rfl
theorem F134.ag22 : tagg Tryz.prog 22 = some false := by kernel_rfl
theorem F134.fd24_0 : tfield Tryz.prog 24 0 = some (0, 1, false) := by kernel_rfl
theorem F134.fd24_1 : tfield Tryz.prog 24 1 = some (1, 1, false) := by kernel_rfl
theorem F134.fd24_2 : tfield Tryz.prog 24 2 = some (2, 1, false) := by kernel_rfl
theorem F134.ti22 : (telem Tryz.prog 22).isSome = true := by kernel_rfl
theorem spec_l04Is_ok {fr : List Pc} {H : Heap} (i0 o0 : Nat) (a0 : Int) (a1 : Int) (v2 : AV) (l2 : List (Nat)) (hs : Sep H (fr)) (g2 : ∀ H, Sep H fr → Shows H v2 1 (enc (eFlt .f32) l2)) (q0 : ∀ H, Sep H fr → PtAt H i0 o0 [(.int .i64 a0), (.int .i64 a1), v2]) (K : Bool → Prop) (h : spec_l04Is.wp a0 a1 l2 K) : OkQ Tryz.prog 134 [(.v (.ptr i0 o0))] H (fun r H2 => ∃ (y0 : Bool), K y0 ∧ r = (.v (.bool y0)) ∧ H = H2) := by
  unfold spec_l04Is.wp at h
  refine of_body Tryz.f134 F.hm Tryz.func134 rfl Tryz.call134 (by kernel_rfl) (by simp) ?_
  refine fi_seq ?_
  refine fi_region ?_
  refine so_assign (v := (.v (.bool false))) rfl ?_
  refine so_nil ?_
  refine fi_seq ?_
  refine fi_region ?_
  refine so_move (v := (.v (.ptr i0 o0))) rfl ?_
  refine so_nilCheck rfl ?_
  refine so_fieldAddr rfl F134.fd24_0 ?_
  refine su_ld (q0 _ hs) 0 rfl rfl F134.ag2 ?_
  refine so_move (v := (.v (.ptr i0 o0))) rfl ?_
  refine so_nilCheck rfl ?_
  refine so_fieldAddr rfl F134.fd24_1 ?_
  refine su_ld (q0 _ hs) 1 rfl rfl F134.ag2 ?_
  refine sv_callS (spec_l04Sides_ok a0 a1 hs  _ h) (fun _ _ ⟨_, _, _, e⟩ => e) rfl rfl ?_
  clear h
  rintro _ _ ⟨y101, h, rfl, rfl⟩
  refine so_move (v := (.v (.bool y101))) rfl ?_
  replace h := ofT h; rcases h with ⟨c103, h⟩ | ⟨c103, h⟩
  · refine so_gyes rfl c103 ?_
    refine so_move (v := (.v (.ptr i0 o0))) rfl ?_
    refine so_gyes rfl c103 ?_
    refine so_nilCheck rfl ?_
    refine so_gyes rfl c103 ?_
    refine so_fieldAddr rfl F134.fd24_2 ?_
    refine so_gyes rfl c103 ?_
    refine su_ld (q0 _ hs) 2 rfl rfl F134.ag22 ?_
    refine so_gyes rfl c103 ?_
    refine sv_len (g2 _ hs) (fun _ => rfl) (by decide) rfl F134.ti22 ?_
    refine so_gyes rfl c103 ?_
    refine so_move (v := (.v (.ptr i0 o0))) rfl ?_
    refine so_gyes rfl c103 ?_
    refine so_nilCheck rfl ?_
    refine so_gyes rfl c103 ?_
    refine so_fieldAddr rfl F134.fd24_0 ?_
    refine so_gyes rfl c103 ?_
    refine su_ld (q0 _ hs) 0 rfl rfl F134.ag2 ?_
    refine so_gyes rfl c103 ?_
    refine so_move (v := (.v (.ptr i0 o0))) rfl ?_
    refine so_gyes rfl c103 ?_
    refine so_nilCheck rfl ?_
    refine so_gyes rfl c103 ?_
    refine so_fieldAddr rfl F134.fd24_1 ?_
    refine so_gyes rfl c103 ?_
    refine su_ld (q0 _ hs) 1 rfl rfl F134.ag2 ?_
    refine so_gyes rfl c103 ?_
    refine so_bin rfl rfl ab_mul ?_
    refine so_gyes rfl c103 ?_
    refine so_bin rfl rfl ab_eql ?_
    refine so_pick_t (v := (.v (.bool (decide ((l2.length : Int) = (IntKind.i64.wrap (a0 * a1))))))) rfl c103 rfl ?_
    refine so_move (v := (.v (.bool (decide ((l2.length : Int) = (IntKind.i64.wrap (a0 * a1))))))) rfl ?_
    replace h := ofP h; rcases h with ⟨c104, h⟩ | ⟨c104, h⟩
    · refine so_gyes rfl (decide_eq_true c104) ?_
      refine so_move (v := (.v (.ptr i0 o0))) rfl ?_
      refine so_gyes rfl (decide_eq_true c104) ?_
      refine so_nilCheck rfl ?_
      refine so_gyes rfl (decide_eq_true c104) ?_
      refine so_fieldAddr rfl F134.fd24_2 ?_
      refine so_gyes rfl (decide_eq_true c104) ?_
      refine su_ld (q0 _ hs) 2 rfl rfl F134.ag22 ?_
      refine so_gyes rfl (decide_eq_true c104) ?_
      refine sv_callS (spec_l02Finite_ok v2 l2 hs (fun _ hs => (g2 _ hs)) _ h) (fun _ _ ⟨_, _, _, e⟩ => e) rfl rfl ?_
      clear h
      rintro _ _ ⟨y105, h, rfl, rfl⟩
      refine so_pick_t (v := (.v (.bool y105))) rfl (decide_eq_true c104) rfl ?_
      refine so_assign (v := (.v (.bool y105))) rfl ?_
      refine so_nil ?_
      exact by_ret rfl ⟨_, h, rfl, rfl⟩
    · refine so_gno rfl (decide_eq_false c104) ?_
      refine so_gno rfl (decide_eq_false c104) ?_
      refine so_gno rfl (decide_eq_false c104) ?_
      refine so_gno rfl (decide_eq_false c104) ?_
      refine so_gno rfl (decide_eq_false c104) ?_
      refine so_pick_f (v := (.v (.bool false))) rfl (decide_eq_false c104) rfl ?_
      refine so_assign (v := (.v (.bool false))) rfl ?_
      refine so_nil ?_
      exact by_ret rfl ⟨_, h, rfl, rfl⟩
  · refine so_gno rfl c103 ?_
    refine so_gno rfl c103 ?_
    refine so_gno rfl c103 ?_
    refine so_gno rfl c103 ?_
    refine so_gno rfl c103 ?_
    refine so_gno rfl c103 ?_
    refine so_gno rfl c103 ?_
    refine so_gno rfl c103 ?_
    refine so_gno rfl c103 ?_
    refine so_gno rfl c103 ?_
    refine so_gno rfl c103 ?_
    refine so_gno rfl c103 ?_
    refine so_gno rfl c103 ?_
    refine so_gno rfl c103 ?_
    refine so_gno rfl c103 ?_
    refine so_pick_f (v := (.v (.bool false))) rfl c103 rfl ?_
    refine so_move (v := (.v (.bool false))) rfl ?_
    refine so_gno rfl rfl ?_
    refine so_gno rfl rfl ?_
    refine so_gno rfl rfl ?_
    refine so_gno rfl rfl ?_
    refine so_gno rfl rfl ?_
    refine so_pick_f (v := (.v (.bool false))) rfl rfl rfl ?_
    refine so_assign (v := (.v (.bool false))) rfl ?_
    refine so_nil ?_
    exact by_ret rfl ⟨_, h, rfl, rfl⟩

end Go.Proofs.YtmbkjkcolmoioaaGreatDoor.G

namespace Go.Proofs.YtmbkjkcolmoioaaGreatDoor.G
open Go Go.Ab Go.Proofs Go.Proofs.YtmbkjkcolmoioaaGreatDoor
set_option maxRecDepth 100000
set_option linter.unusedVariables false
set_option linter.unusedSimpArgs false
set_option maxHeartbeats 1000000
attribute [local irreducible] wops wopf Go.Ab.Fin
theorem F91.ag24 : tagg Tryz.prog 24 = some true := by kernel_rfl
theorem F91.bp24 : bplan Tryz.prog 24 = some ([(.int .i64 (0 : Int)), (.int .i64 (0 : Int)), .nilsl], [(0, 1), (1, 1), (2, 1)]) := by kernel_rfl
theorem F91.inf24 : (Tryz.prog.info? 24).isSome = true := by kernel_rfl
theorem F91.sz24 : tsz Tryz.prog 24 = some 3 := by kernel_rfl
theorem F91.ze24 : tzero Tryz.prog 24 = some [(.int .i64 (0 : Int)), (.int .i64 (0 : Int)), .nilsl] := by kernel_rfl
theorem spec_l04Give_ok {fr : List Pc} {H : Heap} (a0 : Int) (a1 : Int) (v2 : AV) (l2 : List (Nat)) (hs : Sep H (fr)) (g2 : ∀ H, Sep H fr → Shows H v2 1 (enc (eFlt .f32) l2)) (K : Int → Int → Bool → Bool → Prop) (h : spec_l04Give.wp a0 a1 l2 K) : OkQ Tryz.prog 91 [(.g [(.int .i64 a0), (.int .i64 a1), v2])] H (fun r H2 => ∃ (y0 : Int) (y1 : Int) (y2 : Bool) (y3 : Bool), K y0 y1 y2 y3 ∧ r = (.t [(.g [(.int .i64 y0), (.int .i64 y1), (bif y2 then v2 else .nilsl)]), (.v (.bool y3))]) ∧ Sep H2 (fr)) := by
  unfold spec_l04Give.wp at h
  refine of_body Tryz.f91 F.hm Tryz.func91 rfl Tryz.call91 (by kernel_rfl) (by simp) ?_
  refine fi_seq ?_
  refine fi_region ?_
  refine sv_box hs rfl (c := [(.int .i64 a0), (.int .i64 a1), v2]) rfl F91.inf24 (stc rfl (stc rfl (stc (g2 _ hs).stor stn))) nofun (fun id101 H102 hs => ?_)
  refine sv_alloc hs F91.ze24 rfl nofun (fun id104 H105 hs => ?_)
  refine so_assign (v := (.v (.bool false))) rfl ?_
  refine so_nil ?_
  refine fi_seq ?_
  refine fi_seq ?_
  refine fi_region ?_
  refine sv_callS (spec_l04Is_ok id101 0 a0 a1 v2 l2 hs (fun _ hs => (g2 _ hs.tl.tl)) (fun _ hs => (hs.ptat 1 rfl)) _ h) (fun _ _ ⟨_, _, _, e⟩ => e) rfl rfl ?_
  clear h
  rintro _ _ ⟨y107, h, rfl, rfl⟩
  refine so_un rfl au_not ?_
  refine so_nil ?_
  replace h := ofT h; rcases h with ⟨c109, h⟩ | ⟨c109, h⟩
  · refine fi_false rfl (not_f c109) ?_
    refine fi_skip ?_
    refine fi_seq ?_
    refine fi_region ?_
    refine sv_lds hs 1 rfl rfl (leb rfl) rfl F91.ag24 F91.sz24 ?_
    refine sv_st hs 0 rfl rfl rfl (c := [(.int .i64 a0), (.int .i64 a1), v2]) rfl F91.sz24 rfl (stc rfl (stc rfl (stc (g2 _ hs.tl.tl).stor stn))) (leb rfl) (cs' := [(.int .i64 a0), (.int .i64 a1), v2]) rfl nofun (fun H110 hs => ?_)
    refine so_assign (v := (.v (.bool true))) rfl ?_
    refine so_nil ?_
    exact by_ret (res_mk (ar_cells rfl F91.ag24 F91.sz24 (hs.lds 0 rfl (leb rfl) rfl) (ar_tmp rfl ar_nil)) rfl) ⟨_, _, _, _, h, rfl, (Sep.del 0 (Sep.del 0 hs))⟩
  · refine fi_true rfl (not_t c109) ?_
    refine fi_seq ?_
    refine fi_region ?_
    refine so_build F91.bp24 (cps := []) rfl fan rfl ?_
    refine sv_st hs 0 rfl rfl rfl (c := [(.int .i64 (0 : Int)), (.int .i64 (0 : Int)), .nilsl]) rfl F91.sz24 rfl (stc rfl (stc rfl (stc rfl stn))) (leb rfl) (cs' := [(.int .i64 (0 : Int)), (.int .i64 (0 : Int)), .nilsl]) rfl nofun (fun H111 hs => ?_)
    refine so_assign (v := (.v (.bool false))) rfl ?_
    refine so_nil ?_
    exact by_ret (res_mk (ar_cells rfl F91.ag24 F91.sz24 (hs.lds 0 rfl (leb rfl) rfl) (ar_tmp rfl ar_nil)) rfl) ⟨_, _, _, _, h, rfl, (Sep.del 0 (Sep.del 0 hs))⟩

end Go.Proofs.YtmbkjkcolmoioaaGreatDoor.G

namespace Go.Proofs.YtmbkjkcolmoioaaGreatDoor.G
open Go Go.Ab Go.Proofs Go.Proofs.YtmbkjkcolmoioaaGreatDoor
set_option maxRecDepth 100000
set_option linter.unusedVariables false
set_option linter.unusedSimpArgs false
set_option maxHeartbeats 1000000
attribute [local irreducible] wops wopf Go.Ab.Fin
theorem F34.ag2 : tagg Tryz.prog 2 = some false := by kernel_rfl
theorem F34.ag24 : tagg Tryz.prog 24 = some true := by kernel_rfl
theorem F34.ag9 : tagg Tryz.prog 9 = some false := by kernel_rfl
theorem F34.bp24 : bplan Tryz.prog 24 = some ([(.int .i64 (0 : Int)), (.int .i64 (0 : Int)), .nilsl], [(0, 1), (1, 1), (2, 1)]) := by kernel_rfl
theorem F34.sz24 : tsz Tryz.prog 24 = some 3 := by kernel_rfl
theorem F34.ti57 : (telem Tryz.prog 57).isSome = true := by kernel_rfl
theorem F34.ti83 : (telem Tryz.prog 83).isSome = true := by kernel_rfl
theorem F34.tl57 : (telem Tryz.prog 57).bind (tsz Tryz.prog) = some 1 := by kernel_rfl
theorem F34.tl83 : (telem Tryz.prog 83).bind (tsz Tryz.prog) = some 1 := by kernel_rfl
theorem F34.ze24 : tzero Tryz.prog 24 = some [(.int .i64 (0 : Int)), (.int .i64 (0 : Int)), .nilsl] := by kernel_rfl
theorem spec_l08ReadPicture_ok {fr : List Pc} {H : Heap} (a0 : List UInt8) (hs : Sep H (fr))  (K : Int → Int → (List (Nat)) → Bool → Prop) (h : spec_l08ReadPicture.wp a0 K) : OkQ Tryz.prog 34 [(.v (.str (pk a0)))] H (fun r H2 => ∃ (y0 : Int) (y1 : Int) (y2 : List (Nat)) (y3 : Bool), K y0 y1 y2 y3 ∧ ∃ (w0_ : AV), r = (.t [(.g [(.int .i64 y0), (.int .i64 y1), w0_]), (.v (.bool y3))]) ∧ Sep H2 (Pc.osl w0_ 1 (enc (eFlt .f32) y2) :: fr)) := by
  unfold spec_l08ReadPicture.wp at h
  refine of_body Tryz.f34 F.hm Tryz.func34 rfl Tryz.call34 (by kernel_rfl) (by simp) ?_
  refine fi_seq ?_
  refine fi_region ?_
  refine sv_alloc hs F34.ze24 rfl nofun (fun id101 H102 hs => ?_)
  refine so_assign (v := (.v (.bool false))) rfl ?_
  refine so_nil ?_
  refine fi_seq ?_
  refine fi_region ?_
  refine so_move (v := (.v (.str (pk a0)))) rfl ?_
  refine sv_call (spec_l01Cut_ok a0 (59 : Int) hs  _ h) rfl rfl nofun ?_
  clear h hs
  rintro _ H107 ⟨y104, h, v105, rfl, hs⟩
  refine so_assign (v := (.v v105)) rfl ?_
  refine so_nil ?_
  refine fi_seq ?_
  refine fi_seq ?_
  refine fi_region ?_
  refine so_move (v := (.v v105)) rfl ?_
  refine sv_len (hs.shows 0 rfl) (fun _ => rfl) (by decide) rfl F34.ti83 ?_
  refine so_bin rfl rfl ab_neq ?_
  refine so_nil ?_
  replace h := ofP h; rcases h with ⟨c108, h⟩ | ⟨c108, h⟩
  · refine fi_false rfl (not_f (decide_eq_true c108)) ?_
    refine fi_skip ?_
    refine fi_seq ?_
    refine fi_region ?_
    refine so_move (v := (.v v105)) rfl ?_
    obtain ⟨c109, h⟩ := h
    refine sv_idx (hs.shows 0 rfl) c109 (fun _ => rfl) (by decide) rfl rfl F34.tl83 ?_
    refine sv_cell (hs.shows 0 rfl) c109 ([] : List UInt8) 0 (fun x => (AV.str (pk x))) (fun _ => rfl) (fun _ => rfl) rfl F34.ag9 ?_
    refine sv_call (spec_l01Numbers_ok (y104.getD ((0 : Int)).toNat ([] : List UInt8)) hs  _ h) rfl rfl nofun ?_
    clear h hs
    rintro _ H114 ⟨y110, y113, h, v111, rfl, hs⟩
    refine so_move (v := (.t [(.v v111), (.v (.bool y113))])) rfl ?_
    refine so_extract rfl rfl rfl ?_
    refine so_extract rfl rfl rfl ?_
    refine so_assign (v := (.v v111)) rfl ?_
    refine so_assign (v := (.v (.bool y113))) rfl ?_
    refine so_nil ?_
    refine fi_seq ?_
    refine fi_region ?_
    refine so_move (v := (.v v105)) rfl ?_
    obtain ⟨c115, h⟩ := h
    refine sv_idx (hs.shows 1 rfl) c115 (fun _ => rfl) (by decide) rfl rfl F34.tl83 ?_
    refine sv_cell (hs.shows 1 rfl) c115 ([] : List UInt8) 0 (fun x => (AV.str (pk x))) (fun _ => rfl) (fun _ => rfl) rfl F34.ag9 ?_
    refine sv_call (spec_l01NRead_ok (y104.getD ((1 : Int)).toNat ([] : List UInt8)) hs  _ h) rfl rfl nofun ?_
    clear h hs
    rintro _ H120 ⟨y116, y119, h, v117, rfl, hs⟩
    refine so_move (v := (.t [(.v v117), (.v (.bool y119))])) rfl ?_
    refine so_extract rfl rfl rfl ?_
    refine so_extract rfl rfl rfl ?_
    refine so_assign (v := (.v v117)) rfl ?_
    refine so_assign (v := (.v (.bool y119))) rfl ?_
    refine so_nil ?_
    refine fi_seq ?_
    refine fi_seq ?_
    refine fi_region ?_
    refine so_move (v := (.v (.bool y113))) rfl ?_
    refine so_un rfl au_not ?_
    refine so_move (v := (.v (.bool (!y113)))) rfl ?_
    replace h := ofT h; rcases h with ⟨c121, h⟩ | ⟨c121, h⟩
    · refine so_gyes rfl (not_f c121) ?_
      refine so_move (v := (.v (.bool y119))) rfl ?_
      refine so_gyes rfl (not_f c121) ?_
      refine so_un rfl au_not ?_
      refine so_pick_f (v := (.v (.bool (!y119)))) rfl (not_f c121) rfl ?_
      refine so_move (v := (.v (.bool (!y119)))) rfl ?_
      replace h := ofT h; rcases h with ⟨c122, h⟩ | ⟨c122, h⟩
      · refine so_gyes rfl (not_f c122) ?_
        refine so_move (v := (.v v111)) rfl ?_
        refine so_gyes rfl (not_f c122) ?_
        refine sv_len (hs.shows 1 rfl) (fun _ => rfl) (by decide) rfl F34.ti57 ?_
        refine so_gyes rfl (not_f c122) ?_
        refine so_bin rfl rfl ab_neq ?_
        refine so_pick_f (v := (.v (.bool (!(decide ((y110.length : Int) = (2 : Int))))))) rfl (not_f c122) rfl ?_
        refine so_nil ?_
        replace h := ofP h; rcases h with ⟨c123, h⟩ | ⟨c123, h⟩
        · refine fi_false rfl (not_f (decide_eq_true c123)) ?_
          refine fi_skip ?_
          refine fi_seq ?_
          refine fi_region ?_
          refine so_move (v := (.v v111)) rfl ?_
          obtain ⟨c124, h⟩ := h
          refine sv_idx (hs.shows 1 rfl) c124 (fun _ => rfl) (by decide) rfl rfl F34.tl57 ?_
          refine sv_cell (hs.shows 1 rfl) c124 (0 : Int) 0 (fun x => (AV.int .i64 x)) (fun _ => rfl) (fun _ => rfl) rfl F34.ag2 ?_
          refine so_move (v := (.v v111)) rfl ?_
          obtain ⟨c125, h⟩ := h
          refine sv_idx (hs.shows 1 rfl) c125 (fun _ => rfl) (by decide) rfl rfl F34.tl57 ?_
          refine sv_cell (hs.shows 1 rfl) c125 (0 : Int) 0 (fun x => (AV.int .i64 x)) (fun _ => rfl) (fun _ => rfl) rfl F34.ag2 ?_
          refine so_move (v := (.v v117)) rfl ?_
          refine so_build F34.bp24 (cps := [(0, [(.int .i64 (y110.getD ((0 : Int)).toNat (0 : Int)))]), (1, [(.int .i64 (y110.getD ((1 : Int)).toNat (0 : Int)))]), (2, [v117])]) rfl (fac (stc rfl stn) (fac (stc rfl stn) (fac (stc (hs.shows 0 rfl).stor stn) fan))) rfl ?_
          refine sv_call (spec_l04Give_ok (y110.getD ((0 : Int)).toNat (0 : Int)) (y110.getD ((1 : Int)).toNat (0 : Int)) v117 y116 hs (fun _ hs => (hs.shows 0 rfl)) _ h) rfl rfl (fun _ => by kernel_rfl) ?_
          clear h hs
          rintro _ H130 ⟨y126, y127, y128, y129, h, rfl, hs⟩
          replace h := ofT h; rcases h with ⟨c131, h⟩ | ⟨c131, h⟩
          · subst c131
            refine so_extract rfl rfl rfl ?_
            refine so_extract rfl rfl rfl ?_
            refine sv_st hs 3 rfl rfl rfl (c := [(.int .i64 y126), (.int .i64 y127), v117]) rfl F34.sz24 rfl (stc rfl (stc rfl (stc (hs.shows 0 rfl).stor stn))) (leb rfl) (cs' := [(.int .i64 y126), (.int .i64 y127), v117]) rfl (fun _ => by kernel_rfl) (fun H132 hs => ?_)
            refine so_assign (v := (.v (.bool y129))) rfl ?_
            refine so_nil ?_
            exact by_ret (res_mk (ar_cells rfl F34.ag24 F34.sz24 (hs.lds 3 rfl (leb rfl) rfl) (ar_tmp rfl ar_nil)) rfl) ⟨_, _, _, _, h, _, rfl, (Sep.del 1 (Sep.del 1 (Sep.del 1 hs)))⟩
          · subst c131
            refine so_extract rfl rfl rfl ?_
            refine so_extract rfl rfl rfl ?_
            refine sv_st hs 3 rfl rfl rfl (c := [(.int .i64 y126), (.int .i64 y127), .nilsl]) rfl F34.sz24 rfl (stc rfl (stc rfl (stc rfl stn))) (leb rfl) (cs' := [(.int .i64 y126), (.int .i64 y127), .nilsl]) rfl (fun _ => by kernel_rfl) (fun H133 hs => ?_)
            refine so_assign (v := (.v (.bool y129))) rfl ?_
            refine so_nil ?_
            exact by_ret (res_mk (ar_cells rfl F34.ag24 F34.sz24 (hs.lds 3 rfl (leb rfl) rfl) (ar_tmp rfl ar_nil)) rfl) ⟨_, _, _, _, h, _, rfl, (Sep.nil (Sep.dropn 4 hs) 1)⟩
        · refine fi_true rfl (not_t (decide_eq_false c123)) ?_
          refine fi_seq ?_
          refine fi_region ?_
          refine so_build F34.bp24 (cps := []) rfl fan rfl ?_
          refine sv_st hs 3 rfl rfl rfl (c := [(.int .i64 (0 : Int)), (.int .i64 (0 : Int)), .nilsl]) rfl F34.sz24 rfl (stc rfl (stc rfl (stc rfl stn))) (leb rfl) (cs' := [(.int .i64 (0 : Int)), (.int .i64 (0 : Int)), .nilsl]) rfl nofun (fun H134 hs => ?_)
          refine so_assign (v := (.v (.bool false))) rfl ?_
          refine so_nil ?_
          exact by_ret (res_mk (ar_cells rfl F34.ag24 F34.sz24 (hs.lds 3 rfl (leb rfl) rfl) (ar_tmp rfl ar_nil)) rfl) ⟨_, _, _, _, h, _, rfl, (Sep.nil (Sep.dropn 4 hs) 1)⟩
      · refine so_gno rfl (not_t c122) ?_
        refine so_gno rfl (not_t c122) ?_
        refine so_gno rfl (not_t c122) ?_
        refine so_pick_t (v := (.v (.bool true))) rfl (not_t c122) rfl ?_
        refine so_nil ?_
        refine fi_true rfl rfl ?_
        refine fi_seq ?_
        refine fi_region ?_
        refine so_build F34.bp24 (cps := []) rfl fan rfl ?_
        refine sv_st hs 3 rfl rfl rfl (c := [(.int .i64 (0 : Int)), (.int .i64 (0 : Int)), .nilsl]) rfl F34.sz24 rfl (stc rfl (stc rfl (stc rfl stn))) (leb rfl) (cs' := [(.int .i64 (0 : Int)), (.int .i64 (0 : Int)), .nilsl]) rfl nofun (fun H135 hs => ?_)
        refine so_assign (v := (.v (.bool false))) rfl ?_
        refine so_nil ?_
        exact by_ret (res_mk (ar_cells rfl F34.ag24 F34.sz24 (hs.lds 3 rfl (leb rfl) rfl) (ar_tmp rfl ar_nil)) rfl) ⟨_, _, _, _, h, _, rfl, (Sep.nil (Sep.dropn 4 hs) 1)⟩
    · refine so_gno rfl (not_t c121) ?_
      refine so_gno rfl (not_t c121) ?_
      refine so_pick_t (v := (.v (.bool true))) rfl (not_t c121) rfl ?_
      refine so_move (v := (.v (.bool true))) rfl ?_
      refine so_gno rfl rfl ?_
      refine so_gno rfl rfl ?_
      refine so_gno rfl rfl ?_
      refine so_pick_t (v := (.v (.bool true))) rfl rfl rfl ?_
      refine so_nil ?_
      refine fi_true rfl rfl ?_
      refine fi_seq ?_
      refine fi_region ?_
      refine so_build F34.bp24 (cps := []) rfl fan rfl ?_
      refine sv_st hs 3 rfl rfl rfl (c := [(.int .i64 (0 : Int)), (.int .i64 (0 : Int)), .nilsl]) rfl F34.sz24 rfl (stc rfl (stc rfl (stc rfl stn))) (leb rfl) (cs' := [(.int .i64 (0 : Int)), (.int .i64 (0 : Int)), .nilsl]) rfl nofun (fun H136 hs => ?_)
      refine so_assign (v := (.v (.bool false))) rfl ?_
      refine so_nil ?_
      exact by_ret (res_mk (ar_cells rfl F34.ag24 F34.sz24 (hs.lds 3 rfl (leb rfl) rfl) (ar_tmp rfl ar_nil)) rfl) ⟨_, _, _, _, h, _, rfl, (Sep.nil (Sep.dropn 4 hs) 1)⟩
  · refine fi_true rfl (not_t (decide_eq_false c108)) ?_
    refine fi_seq ?_
    refine fi_region ?_
    refine so_build F34.bp24 (cps := []) rfl fan rfl ?_
    refine sv_st hs 1 rfl rfl rfl (c := [(.int .i64 (0 : Int)), (.int .i64 (0 : Int)), .nilsl]) rfl F34.sz24 rfl (stc rfl (stc rfl (stc rfl stn))) (leb rfl) (cs' := [(.int .i64 (0 : Int)), (.int .i64 (0 : Int)), .nilsl]) rfl nofun (fun H137 hs => ?_)
    refine so_assign (v := (.v (.bool false))) rfl ?_
    refine so_nil ?_
    exact by_ret (res_mk (ar_cells rfl F34.ag24 F34.sz24 (hs.lds 1 rfl (leb rfl) rfl) (ar_tmp rfl ar_nil)) rfl) ⟨_, _, _, _, h, _, rfl, (Sep.nil (Sep.del 0 (Sep.del 0 hs)) 1)⟩

end Go.Proofs.YtmbkjkcolmoioaaGreatDoor.G

namespace Go.Proofs.YtmbkjkcolmoioaaGreatDoor.G
open Go Go.Ab Go.Proofs Go.Proofs.YtmbkjkcolmoioaaGreatDoor
set_option maxRecDepth 100000
set_option linter.unusedVariables false
set_option linter.unusedSimpArgs false
set_option maxHeartbeats 1000000
attribute [local irreducible] wops wopf Go.Ab.Fin
theorem F5.ag24 : tagg Tryz.prog 24 = some true := by kernel_rfl
theorem F5.sz24 : tsz Tryz.prog 24 = some 3 := by kernel_rfl
theorem F5.ze24 : tzero Tryz.prog 24 = some [(.int .i64 (0 : Int)), (.int .i64 (0 : Int)), .nilsl] := by kernel_rfl
theorem spec_ReadPicture_ok {fr : List Pc} {H : Heap} (a0 : List UInt8) (hs : Sep H (fr))  (K : Int → Int → (List (Nat)) → Bool → Prop) (h : spec_ReadPicture.wp a0 K) : OkQ Tryz.prog 5 [(.v (.str (pk a0)))] H (fun r H2 => ∃ (y0 : Int) (y1 : Int) (y2 : List (Nat)) (y3 : Bool), K y0 y1 y2 y3 ∧ ∃ (w0_ : AV), r = (.t [(.g [(.int .i64 y0), (.int .i64 y1), w0_]), (.v (.bool y3))]) ∧ Sep H2 (Pc.osl w0_ 1 (enc (eFlt .f32) y2) :: fr)) := by
  unfold spec_ReadPicture.wp at h
  refine of_body Tryz.f5 F.hm Tryz.func5 rfl Tryz.call5 (by kernel_rfl) (by simp) ?_
  refine fi_seq ?_
  refine fi_region ?_
  refine sv_alloc hs F5.ze24 rfl nofun (fun id101 H102 hs => ?_)
  refine so_assign (v := (.v (.bool false))) rfl ?_
  refine so_nil ?_
  refine fi_seq ?_
  refine fi_region ?_
  refine so_move (v := (.v (.str (pk a0)))) rfl ?_
  refine sv_call (spec_l08ReadPicture_ok a0 hs  _ h) rfl rfl nofun ?_
  clear h hs
  rintro _ H110 ⟨y104, y105, y106, y109, h, v107, rfl, hs⟩
  refine so_extract rfl rfl rfl ?_
  refine so_extract rfl rfl rfl ?_
  refine sv_st hs 1 rfl rfl rfl (c := [(.int .i64 y104), (.int .i64 y105), v107]) rfl F5.sz24 rfl (stc rfl (stc rfl (stc (hs.shows 0 rfl).stor stn))) (leb rfl) (cs' := [(.int .i64 y104), (.int .i64 y105), v107]) rfl nofun (fun H111 hs => ?_)
  refine so_assign (v := (.v (.bool y109))) rfl ?_
  refine so_nil ?_
  exact by_ret (res_mk (ar_cells rfl F5.ag24 F5.sz24 (hs.lds 1 rfl (leb rfl) rfl) (ar_tmp rfl ar_nil)) rfl) ⟨_, _, _, _, h, _, rfl, (Sep.del 1 hs)⟩

end Go.Proofs.YtmbkjkcolmoioaaGreatDoor.G

namespace Go.Proofs.YtmbkjkcolmoioaaGreatDoor.G
open Go Go.Ab Go.Proofs Go.Proofs.YtmbkjkcolmoioaaGreatDoor
set_option maxRecDepth 100000
set_option linter.unusedVariables false
set_option linter.unusedSimpArgs false
set_option maxHeartbeats 1000000
attribute [local irreducible] wops wopf Go.Ab.Fin
theorem internal_stringslite_Index_ok {fr : List Pc} {H : Heap} (a0 : List UInt8) (a1 : List UInt8) (hs : Sep H fr) (K : Int → Prop) (h : internal_stringslite_Index.wp a0 a1 K) : OkQ Tryz.prog 135 [.v (.str (pk a0)), .v (.str (pk a1))] H (fun r H2 => ∃ (y0 : Int), K y0 ∧ r = (.v (.int .i64 y0)) ∧ H = H2) := by
  obtain ⟨c, rfl, h⟩ := h
  exact ⟨.v (.int .i64 (Lib.indexByte a0 c)), _, ok_lib [.string (pk a0), .string (pk [c])] (.int .i64 (Lib.indexByte a0 c)) Tryz.call135 (args_ss _ _) (fun β => rfl) (fun w => Any.stringslite_Index_one Tryz.lays219 (pk a0) c w), _, h, rfl, rfl⟩

end Go.Proofs.YtmbkjkcolmoioaaGreatDoor.G

namespace Go.Proofs.YtmbkjkcolmoioaaGreatDoor.G
open Go Go.Ab Go.Proofs Go.Proofs.YtmbkjkcolmoioaaGreatDoor
set_option maxRecDepth 100000
set_option linter.unusedVariables false
set_option linter.unusedSimpArgs false
set_option maxHeartbeats 1000000
attribute [local irreducible] wops wopf Go.Ab.Fin
theorem F92.sr9 : tstr Tryz.prog 9 = true := by kernel_rfl
theorem internal_stringslite_Cut_ok {fr : List Pc} {H : Heap} (a0 : List UInt8) (a1 : List UInt8) (hs : Sep H (fr))  (K : (List UInt8) → (List UInt8) → Bool → Prop) (h : internal_stringslite_Cut.wp a0 a1 K) : OkQ Tryz.prog 92 [(.v (.str (pk a0))), (.v (.str (pk a1)))] H (fun r H2 => ∃ (y0 : List UInt8) (y1 : List UInt8) (y2 : Bool), K y0 y1 y2 ∧ r = (.t [(.v (.str (pk y0))), (.v (.str (pk y1))), (.v (.bool y2))]) ∧ H = H2) := by
  unfold internal_stringslite_Cut.wp at h
  refine of_body Tryz.f92 F.hm Tryz.func92 rfl Tryz.call92 (by kernel_rfl) (by simp) ?_
  refine fi_seq ?_
  refine fi_region ?_
  refine so_assign (v := (.v (.str (pk ([] : List UInt8))))) rfl ?_
  refine so_assign (v := (.v (.str (pk ([] : List UInt8))))) rfl ?_
  refine so_assign (v := (.v (.bool false))) rfl ?_
  refine so_nil ?_
  refine fi_seq ?_
  refine fi_seq ?_
  refine fi_region ?_
  refine so_move (v := (.v (.str (pk a0)))) rfl ?_
  refine so_move (v := (.v (.str (pk a1)))) rfl ?_
  refine sv_callS (internal_stringslite_Index_ok a0 a1 hs  _ h) (fun _ _ ⟨_, _, _, e⟩ => e) rfl rfl ?_
  clear h
  rintro _ _ ⟨y101, h, rfl, rfl⟩
  refine so_assign (v := (.v (.int .i64 y101))) rfl ?_
  refine so_nil ?_
  refine fi_seq ?_
  refine fi_region ?_
  refine so_move (v := (.v (.int .i64 y101))) rfl ?_
  refine so_bin rfl rfl ab_geq ?_
  refine so_nil ?_
  replace h := ofP h; rcases h with ⟨c103, h⟩ | ⟨c103, h⟩
  · refine fi_true rfl (decide_eq_true c103) ?_
    refine fi_seq ?_
    refine fi_region ?_
    refine so_move (v := (.v (.str (pk a0)))) rfl ?_
    refine so_move (v := (.v (.int .i64 y101))) rfl ?_
    obtain ⟨c104, h⟩ := h
    refine so_sslice rfl rfl rfl F92.sr9 rfl rfl c104 ?_
    refine so_move (v := (.v (.str (pk a0)))) rfl ?_
    refine so_move (v := (.v (.int .i64 y101))) rfl ?_
    refine so_move (v := (.v (.str (pk a1)))) rfl ?_
    refine so_slen rfl F92.sr9 ?_
    refine so_bin rfl rfl ab_add ?_
    obtain ⟨c105, h⟩ := h
    refine so_sslice rfl rfl rfl F92.sr9 rfl rfl c105 ?_
    refine so_assign (v := (.v (.str (pk ((a0.drop ((0 : Int)).toNat).take ((y101).toNat - ((0 : Int)).toNat)))))) rfl ?_
    refine so_assign (v := (.v (.str (pk ((a0.drop ((IntKind.i64.wrap (y101 + (a1.length : Int)))).toNat).take (((a0.length : Int)).toNat - ((IntKind.i64.wrap (y101 + (a1.length : Int)))).toNat)))))) rfl ?_
    refine so_assign (v := (.v (.bool true))) rfl ?_
    refine so_nil ?_
    exact by_ret rfl ⟨_, _, _, h, rfl, rfl⟩
  · refine fi_false rfl (decide_eq_false c103) ?_
    refine fi_skip ?_
    refine fi_seq ?_
    refine fi_region ?_
    refine so_move (v := (.v (.str (pk a0)))) rfl ?_
    refine so_assign (v := (.v (.str (pk a0)))) rfl ?_
    refine so_assign (v := (.v (.str (pk ([] : List UInt8))))) rfl ?_
    refine so_assign (v := (.v (.bool false))) rfl ?_
    refine so_nil ?_
    exact by_ret rfl ⟨_, _, _, h, rfl, rfl⟩

end Go.Proofs.YtmbkjkcolmoioaaGreatDoor.G

namespace Go.Proofs.YtmbkjkcolmoioaaGreatDoor.G
open Go Go.Ab Go.Proofs Go.Proofs.YtmbkjkcolmoioaaGreatDoor
set_option maxRecDepth 100000
set_option linter.unusedVariables false
set_option linter.unusedSimpArgs false
set_option maxHeartbeats 1000000
attribute [local irreducible] wops wopf Go.Ab.Fin
theorem strings_Cut_ok {fr : List Pc} {H : Heap} (a0 : List UInt8) (a1 : List UInt8) (hs : Sep H (fr))  (K : (List UInt8) → (List UInt8) → Bool → Prop) (h : strings_Cut.wp a0 a1 K) : OkQ Tryz.prog 35 [(.v (.str (pk a0))), (.v (.str (pk a1)))] H (fun r H2 => ∃ (y0 : List UInt8) (y1 : List UInt8) (y2 : Bool), K y0 y1 y2 ∧ r = (.t [(.v (.str (pk y0))), (.v (.str (pk y1))), (.v (.bool y2))]) ∧ H = H2) := by
  unfold strings_Cut.wp at h
  refine of_body Tryz.f35 F.hm Tryz.func35 rfl Tryz.call35 (by kernel_rfl) (by simp) ?_
  refine fi_seq ?_
  refine fi_region ?_
  refine so_assign (v := (.v (.str (pk ([] : List UInt8))))) rfl ?_
  refine so_assign (v := (.v (.str (pk ([] : List UInt8))))) rfl ?_
  refine so_assign (v := (.v (.bool false))) rfl ?_
  refine so_nil ?_
  refine fi_seq ?_
  refine fi_region ?_
  refine so_move (v := (.v (.str (pk a0)))) rfl ?_
  refine so_move (v := (.v (.str (pk a1)))) rfl ?_
  refine sv_callS (internal_stringslite_Cut_ok a0 a1 hs  _ h) (fun _ _ ⟨_, _, _, _, _, e⟩ => e) rfl rfl ?_
  clear h
  rintro _ _ ⟨y101, y102, y103, h, rfl, rfl⟩
  refine so_extract rfl rfl rfl ?_
  refine so_extract rfl rfl rfl ?_
  refine so_extract rfl rfl rfl ?_
  refine so_assign (v := (.v (.str (pk y101)))) rfl ?_
  refine so_assign (v := (.v (.str (pk y102)))) rfl ?_
  refine so_assign (v := (.v (.bool y103))) rfl ?_
  refine so_nil ?_
  exact by_ret rfl ⟨_, _, _, h, rfl, rfl⟩

end Go.Proofs.YtmbkjkcolmoioaaGreatDoor.G

namespace Go.Proofs.YtmbkjkcolmoioaaGreatDoor.G
open Go Go.Ab Go.Proofs Go.Proofs.YtmbkjkcolmoioaaGreatDoor
set_option maxRecDepth 100000
set_option linter.unusedVariables false
set_option linter.unusedSimpArgs false
set_option maxHeartbeats 1000000
attribute [local irreducible] wops wopf Go.Ab.Fin
theorem impl_within_ok {fr : List Pc} {H : Heap} (a0 : Int) (a1 : Int) (a2 : Int) (hs : Sep H (fr))  (K : Bool → Prop) (h : impl_within.wp a0 a1 a2 K) : OkQ Tryz.prog 59 [(.v (.int .i64 a0)), (.v (.int .i64 a1)), (.v (.int .i64 a2))] H (fun r H2 => ∃ (y0 : Bool), K y0 ∧ r = (.v (.bool y0)) ∧ H = H2) := by
  unfold impl_within.wp at h
  refine of_body Tryz.f59 F.hm Tryz.func59 rfl Tryz.call59 (by kernel_rfl) (by simp) ?_
  refine fi_seq ?_
  refine fi_region ?_
  refine so_assign (v := (.v (.bool false))) rfl ?_
  refine so_nil ?_
  refine fi_seq ?_
  refine fi_region ?_
  refine so_move (v := (.v (.int .i64 a0))) rfl ?_
  refine so_move (v := (.v (.int .i64 a1))) rfl ?_
  refine so_bin rfl rfl ab_geq ?_
  refine so_move (v := (.v (.bool (decide (a1 ≤ a0))))) rfl ?_
  replace h := ofP h; rcases h with ⟨c101, h⟩ | ⟨c101, h⟩
  · refine so_gyes rfl (decide_eq_true c101) ?_
    refine so_move (v := (.v (.int .i64 a0))) rfl ?_
    refine so_gyes rfl (decide_eq_true c101) ?_
    refine so_move (v := (.v (.int .i64 a2))) rfl ?_
    refine so_gyes rfl (decide_eq_true c101) ?_
    refine so_bin rfl rfl ab_leq ?_
    refine so_pick_t (v := (.v (.bool (decide (a0 ≤ a2))))) rfl (decide_eq_true c101) rfl ?_
    refine so_assign (v := (.v (.bool (decide (a0 ≤ a2))))) rfl ?_
    refine so_nil ?_
    exact by_ret rfl ⟨_, h, rfl, rfl⟩
  · refine so_gno rfl (decide_eq_false c101) ?_
    refine so_gno rfl (decide_eq_false c101) ?_
    refine so_gno rfl (decide_eq_false c101) ?_
    refine so_pick_f (v := (.v (.bool false))) rfl (decide_eq_false c101) rfl ?_
    refine so_assign (v := (.v (.bool false))) rfl ?_
    refine so_nil ?_
    exact by_ret rfl ⟨_, h, rfl, rfl⟩

end Go.Proofs.YtmbkjkcolmoioaaGreatDoor.G

namespace Go.Proofs.YtmbkjkcolmoioaaGreatDoor.G
open Go Go.Ab Go.Proofs Go.Proofs.YtmbkjkcolmoioaaGreatDoor
set_option maxRecDepth 100000
set_option linter.unusedVariables false
set_option linter.unusedSimpArgs false
set_option maxHeartbeats 1000000
attribute [local irreducible] wops wopf Go.Ab.Fin
theorem impl_isValue_ok {fr : List Pc} {H : Heap} (a0 : Int) (hs : Sep H (fr))  (K : Bool → Prop) (h : impl_isValue.wp a0 K) : OkQ Tryz.prog 116 [(.v (.int .i64 a0))] H (fun r H2 => ∃ (y0 : Bool), K y0 ∧ r = (.v (.bool y0)) ∧ H = H2) := by
  unfold impl_isValue.wp at h
  refine of_body Tryz.f116 F.hm Tryz.func116 rfl Tryz.call116 (by kernel_rfl) (by simp) ?_
  refine fi_seq ?_
  refine fi_region ?_
  refine so_assign (v := (.v (.bool false))) rfl ?_
  refine so_nil ?_
  refine fi_seq ?_
  refine fi_region ?_
  refine so_move (v := (.v (.int .i64 a0))) rfl ?_
  refine sv_callS (impl_within_ok a0 (-1000000000000000 : Int) (1000000000000000 : Int) hs  _ h) (fun _ _ ⟨_, _, _, e⟩ => e) rfl rfl ?_
  clear h
  rintro _ _ ⟨y101, h, rfl, rfl⟩
  refine so_assign (v := (.v (.bool y101))) rfl ?_
  refine so_nil ?_
  exact by_ret rfl ⟨_, h, rfl, rfl⟩

end Go.Proofs.YtmbkjkcolmoioaaGreatDoor.G

namespace Go.Proofs.YtmbkjkcolmoioaaGreatDoor.G
open Go Go.Ab Go.Proofs Go.Proofs.YtmbkjkcolmoioaaGreatDoor
set_option maxRecDepth 100000
set_option linter.unusedVariables false
set_option linter.unusedSimpArgs false
set_option maxHeartbeats 1000000
attribute [local irreducible] wops wopf Go.Ab.Fin
theorem F149.sr9 : tstr Tryz.prog 9 = true := by kernel_rfl
theorem internal_strconv_small_ok {fr : List Pc} {H : Heap} (a0 : Int) (hs : Sep H (fr))  (K : (List UInt8) → Prop) (h : internal_strconv_small.wp a0 K) : OkQ Tryz.prog 149 [(.v (.int .i64 a0))] H (fun r H2 => ∃ (y0 : List UInt8), K y0 ∧ r = (.v (.str (pk y0))) ∧ H = H2) := by
  unfold internal_strconv_small.wp at h
  refine of_body Tryz.f149 F.hm Tryz.func149 rfl Tryz.call149 (by kernel_rfl) (by simp) ?_
  refine fi_seq ?_
  refine fi_region ?_
  refine so_assign (v := (.v (.str (pk ([] : List UInt8))))) rfl ?_
  refine so_nil ?_
  refine fi_seq ?_
  refine fi_seq ?_
  refine fi_region ?_
  refine so_move (v := (.v (.int .i64 a0))) rfl ?_
  refine so_bin rfl rfl ab_lss ?_
  refine so_nil ?_
  replace h := ofP h; rcases h with ⟨c101, h⟩ | ⟨c101, h⟩
  · refine fi_true rfl (decide_eq_true c101) ?_
    refine fi_seq ?_
    refine fi_region ?_
    refine so_move (v := (.v (.int .i64 a0))) rfl ?_
    refine so_move (v := (.v (.int .i64 a0))) rfl ?_
    refine so_bin rfl rfl ab_add ?_
    obtain ⟨c102, h⟩ := h
    refine so_sslice rfl rfl rfl F149.sr9 rfl rfl c102 ?_
    refine so_assign (v := (.v (.str (pk ((([48, 49, 50, 51, 52, 53, 54, 55, 56, 57, 97, 98, 99, 100, 101, 102, 103, 104, 105, 106, 107, 108, 109, 110, 111, 112, 113, 114, 115, 116, 117, 118, 119, 120, 121, 122] : List UInt8).drop (a0).toNat).take (((IntKind.i64.wrap (a0 + (1 : Int)))).toNat - (a0).toNat)))))) rfl ?_
    refine so_nil ?_
    exact by_ret rfl ⟨_, h, rfl, rfl⟩
  · refine fi_false rfl (decide_eq_false c101) ?_
    refine fi_skip ?_
    refine fi_seq ?_
    refine fi_region ?_
    refine so_move (v := (.v (.int .i64 a0))) rfl ?_
    refine so_bin rfl rfl ab_mul ?_
    refine so_move (v := (.v (.int .i64 a0))) rfl ?_
    refine so_bin rfl rfl ab_mul ?_
    refine so_bin rfl rfl ab_add ?_
    obtain ⟨c103, h⟩ := h
    refine so_sslice rfl rfl rfl F149.sr9 rfl rfl c103 ?_
    refine so_assign (v := (.v (.str (pk ((([48, 48, 48, 49, 48, 50, 48, 51, 48, 52, 48, 53, 48, 54, 48, 55, 48, 56, 48, 57, 49, 48, 49, 49, 49, 50, 49, 51, 49, 52, 49, 53, 49, 54, 49, 55, 49, 56, 49, 57, 50, 48, 50, 49, 50, 50, 50, 51, 50, 52, 50, 53, 50, 54, 50, 55, 50, 56, 50, 57, 51, 48, 51, 49, 51, 50, 51, 51, 51, 52, 51, 53, 51, 54, 51, 55, 51, 56, 51, 57, 52, 48, 52, 49, 52, 50, 52, 51, 52, 52, 52, 53, 52, 54, 52, 55, 52, 56, 52, 57, 53, 48, 53, 49, 53, 50, 53, 51, 53, 52, 53, 53, 53, 54, 53, 55, 53, 56, 53, 57, 54, 48, 54, 49, 54, 50, 54, 51, 54, 52, 54, 53, 54, 54, 54, 55, 54, 56, 54, 57, 55, 48, 55, 49, 55, 50, 55, 51, 55, 52, 55, 53, 55, 54, 55, 55, 55, 56, 55, 57, 56, 48, 56, 49, 56, 50, 56, 51, 56, 52, 56, 53, 56, 54, 56, 55, 56, 56, 56, 57, 57, 48, 57, 49, 57, 50, 57, 51, 57, 52, 57, 53, 57, 54, 57, 55, 57, 56, 57, 57] : List UInt8).drop ((IntKind.i64.wrap (a0 * (2 : Int)))).toNat).take (((IntKind.i64.wrap ((IntKind.i64.wrap (a0 * (2 : Int))) + (2 : Int)))).toNat - ((IntKind.i64.wrap (a0 * (2 : Int)))).toNat)))))) rfl ?_
    refine so_nil ?_
    exact by_ret rfl ⟨_, h, rfl, rfl⟩

end Go.Proofs.YtmbkjkcolmoioaaGreatDoor.G

namespace Go.Proofs.YtmbkjkcolmoioaaGreatDoor.G
open Go Go.Ab Go.Proofs Go.Proofs.YtmbkjkcolmoioaaGreatDoor
set_option maxRecDepth 100000
set_option linter.unusedVariables false
set_option linter.unusedSimpArgs false
set_option maxHeartbeats 1000000
attribute [local irreducible] wops wopf Go.Ab.Fin
theorem internal_strconv_isPowerOfTwo_ok {fr : List Pc} {H : Heap} (a0 : Int) (hs : Sep H (fr))  (K : Bool → Prop) (h : internal_strconv_isPowerOfTwo.wp a0 K) : OkQ Tryz.prog 193 [(.v (.int .i64 a0))] H (fun r H2 => ∃ (y0 : Bool), K y0 ∧ r = (.v (.bool y0)) ∧ H = H2) := by
  unfold internal_strconv_isPowerOfTwo.wp at h
  refine of_body Tryz.f193 F.hm Tryz.func193 rfl Tryz.call193 (by kernel_rfl) (by simp) ?_
  refine fi_seq ?_
  refine fi_region ?_
  refine so_assign (v := (.v (.bool false))) rfl ?_
  refine so_nil ?_
  refine fi_seq ?_
  refine fi_region ?_
  refine so_move (v := (.v (.int .i64 a0))) rfl ?_
  refine so_move (v := (.v (.int .i64 a0))) rfl ?_
  refine so_bin rfl rfl ab_sub ?_
  refine so_bin rfl rfl ab_and ?_
  refine so_bin rfl rfl ab_eql ?_
  refine so_assign (v := (.v (.bool (decide ((ibits .and .i64 a0 (IntKind.i64.wrap (a0 - (1 : Int)))) = (0 : Int)))))) rfl ?_
  refine so_nil ?_
  exact by_ret rfl ⟨_, h, rfl, rfl⟩

end Go.Proofs.YtmbkjkcolmoioaaGreatDoor.G

namespace Go.Proofs.YtmbkjkcolmoioaaGreatDoor.G
open Go Go.Ab Go.Proofs Go.Proofs.YtmbkjkcolmoioaaGreatDoor
set_option maxRecDepth 100000
set_option linter.unusedVariables false
set_option linter.unusedSimpArgs false
set_option maxHeartbeats 1000000
attribute [local irreducible] wops wopf Go.Ab.Fin
theorem math_bits_TrailingZeros_ok {fr : List Pc} {H : Heap} (a0 : Int) (hs : Sep H fr) (gt6 : ∀ H, Sep H fr → HasTab 6 F.tab6 H) (K : Int → Prop) (h : math_bits_TrailingZeros.wp a0 K) : OkQ Tryz.prog 194 [.v (.int .u64 a0)] H (fun r H2 => ∃ (y0 : Int), K y0 ∧ r = (.v (.int .i64 y0)) ∧ H = H2) := by
  obtain ⟨x, rfl⟩ : ∃ x : Nat, a0 = (x : Int) := ⟨a0.toNat, by have := h.1.1; omega⟩
  exact ⟨.v (.int .i64 ((Lib.ctz 64 x : Nat) : Int)), _, ok_libB (.int .i64 ((Lib.ctz 64 x : Nat) : Int)) Tryz.call194 (fun β => rfl) (fun β w us hw ha => by
    obtain ⟨o, ho1, ho2⟩ := (gt6 H hs).heap hw
    rw [args_i _ _ β us ha]
    exact (Any7.bits_TrailingZeros Tryz.lays727 x (by have := h.1.2; omega) w (fun _ => tab_bytes (by kernel_rfl) ho2 ho1)).mono fun e w' ⟨he, hw'⟩ => ⟨he, hw' ▸ Go.RowKit.Below.refl _ _⟩), _, h.2, rfl, rfl⟩

end Go.Proofs.YtmbkjkcolmoioaaGreatDoor.G

namespace Go.Proofs.YtmbkjkcolmoioaaGreatDoor.G
open Go Go.Ab Go.Proofs Go.Proofs.YtmbkjkcolmoioaaGreatDoor
set_option maxRecDepth 100000
set_option linter.unusedVariables false
set_option linter.unusedSimpArgs false
set_option maxHeartbeats 1000000
attribute [local irreducible] wops wopf Go.Ab.Fin
theorem F152.ar223 : tarr Tryz.prog 223 = some (65, 5) := by kernel_rfl
theorem F152.it138 : tint Tryz.prog 138 = some .u64 := by kernel_rfl
theorem F152.it182 : tint Tryz.prog 182 = some .u64 := by kernel_rfl
theorem F152.it5 : tint Tryz.prog 5 = some .u8 := by kernel_rfl
theorem F152.sr9 : tstr Tryz.prog 9 = true := by kernel_rfl
theorem F152.sz5 : tsz Tryz.prog 5 = some 1 := by kernel_rfl
theorem F152.te30 : telem Tryz.prog 30 = some 5 := by kernel_rfl
theorem F152.us3 : (Tryz.prog.underlying 3).isSome = true := by kernel_rfl
theorem F152.us30 : (Tryz.prog.underlying 30).isSome = true := by kernel_rfl
theorem F152.za223 : tzero Tryz.prog 223 = some (List.replicate 65 (.int .u8 (0 : Int))) := by kernel_rfl
theorem internal_strconv_formatBits_ok {fr : List Pc} {H : Heap} (v0 : AV) (l0 : List (Int)) (a1 : Int) (a2 : Int) (a3 : Bool) (a4 : Bool) (hs : Sep H (fr)) (g0 : ∀ H, Sep H fr → Shows H v0 1 (enc (eInt .u8) l0)) (gt6 : ∀ H, Sep H fr → HasTab 6 F.tab6 H) (K : (List (Int)) → (List UInt8) → Prop) (h : internal_strconv_formatBits.wp l0 a1 a2 a3 a4 K) : OkQ Tryz.prog 152 [(.v v0), (.v (.int .u64 a1)), (.v (.int .i64 a2)), (.v (.bool a3)), (.v (.bool a4))] H (fun r H2 => ∃ (y0 : List (Int)) (y1 : List UInt8), K y0 y1 ∧ ∃ (w0_ : AV), r = (.t [(.v w0_), (.v (.str (pk y1)))]) ∧ Sep H2 (Pc.osl w0_ 1 (enc (eInt .u8) y0) :: fr)) := by
  unfold internal_strconv_formatBits.wp at h
  refine of_body Tryz.f152 F.hm Tryz.func152 rfl Tryz.call152 (by kernel_rfl) (by simp) ?_
  refine fi_seq ?_
  refine fi_region ?_
  refine so_assign (v := (.v .nilsl)) rfl ?_
  refine so_assign (v := (.v (.str (pk ([] : List UInt8))))) rfl ?_
  refine so_nil ?_
  refine fi_seq ?_
  refine fi_seq ?_
  refine fi_region ?_
  refine so_move (v := (.v (.int .i64 a2))) rfl ?_
  refine so_bin rfl rfl ab_lss ?_
  refine so_move (v := (.v (.bool (decide (a2 < (2 : Int)))))) rfl ?_
  replace h := ofP h; rcases h with ⟨c101, h⟩ | ⟨c101, h⟩
  · refine so_gno rfl (decide_eq_true c101) ?_
    refine so_gno rfl (decide_eq_true c101) ?_
    refine so_pick_t (v := (.v (.bool true))) rfl (decide_eq_true c101) rfl ?_
    refine so_move (v := (.v (.bool true))) rfl ?_
    refine so_gno rfl rfl ?_
    refine so_gno rfl rfl ?_
    refine so_pick_t (v := (.v (.bool true))) rfl rfl rfl ?_
    refine so_nil ?_
    refine fi_true rfl rfl ?_
    refine fi_region ?_
    exact h.elim
  · refine so_gyes rfl (decide_eq_false c101) ?_
    refine so_move (v := (.v (.int .i64 a2))) rfl ?_
    refine so_gyes rfl (decide_eq_false c101) ?_
    refine so_bin rfl rfl ab_eql ?_
    refine so_pick_f (v := (.v (.bool (decide (a2 = (10 : Int)))))) rfl (decide_eq_false c101) rfl ?_
    refine so_move (v := (.v (.bool (decide (a2 = (10 : Int)))))) rfl ?_
    replace h := ofP h; rcases h with ⟨c102, h⟩ | ⟨c102, h⟩
    · refine so_gno rfl (decide_eq_true c102) ?_
      refine so_gno rfl (decide_eq_true c102) ?_
      refine so_pick_t (v := (.v (.bool true))) rfl (decide_eq_true c102) rfl ?_
      refine so_nil ?_
      refine fi_true rfl rfl ?_
      refine fi_region ?_
      exact h.elim
    · refine so_gyes rfl (decide_eq_false c102) ?_
      refine so_move (v := (.v (.int .i64 a2))) rfl ?_
      refine so_gyes rfl (decide_eq_false c102) ?_
      refine so_bin rfl rfl ab_gtr ?_
      refine so_pick_f (v := (.v (.bool (decide ((36 : Int) < a2))))) rfl (decide_eq_false c102) rfl ?_
      refine so_nil ?_
      replace h := ofP h; rcases h with ⟨c103, h⟩ | ⟨c103, h⟩
      · refine fi_true rfl (decide_eq_true c103) ?_
        refine fi_region ?_
        exact h.elim
      · refine fi_false rfl (decide_eq_false c103) ?_
        refine fi_skip ?_
        refine fi_seq ?_
        refine fi_region ?_
        refine sv_allocA hs 65 (eInt .u8) (0 : Int) (fun _ => rfl) F152.za223 (by rfl) (by rfl) nofun (fun v104 H105 nv104 av104 hs => ?_)
        refine so_nil ?_
        refine fi_seq ?_
        refine fi_region ?_
        refine so_assign (v := (.v (.int .i64 (65 : Int)))) rfl ?_
        refine so_nil ?_
        refine fi_seq ?_
        refine fi_seq ?_
        refine fi_region ?_
        refine so_move (v := (.v (.bool a3))) rfl ?_
        refine so_nil ?_
        replace h := ofT h; rcases h with ⟨c107, h⟩ | ⟨c107, h⟩
        · refine fi_true rfl c107 ?_
          refine fi_region ?_
          refine so_move (v := (.v (.int .u64 a1))) rfl ?_
          refine so_un rfl au_neg ?_
          refine so_assign (v := (.v (.int .u64 (IntKind.u64.wrap (0 - a1))))) rfl ?_
          refine so_nil ?_
          refine fi_seq ?_
          refine fi_seq ?_
          refine fi_region ?_
          refine so_move (v := (.v (.int .i64 a2))) rfl ?_
          refine sv_callS (internal_strconv_isPowerOfTwo_ok a2 hs  _ h) (fun _ _ ⟨_, _, _, e⟩ => e) rfl rfl ?_
          clear h
          rintro _ _ ⟨y108, h, rfl, rfl⟩
          refine so_nil ?_
          replace h := ofT h; rcases h with ⟨c110, h⟩ | ⟨c110, h⟩
          · refine fi_true rfl c110 ?_
            refine fi_seq ?_
            refine fi_region ?_
            refine so_move (v := (.v (.int .i64 a2))) rfl ?_
            refine sv_ii rfl F152.us3 F152.it182 ?_
            refine sv_callS (math_bits_TrailingZeros_ok (IntKind.u64.wrap a2) hs (fun _ hs => gt6 _ hs.tl) _ h) (fun _ _ ⟨_, _, _, e⟩ => e) rfl rfl ?_
            clear h
            rintro _ _ ⟨y111, h, rfl, rfl⟩
            refine sv_ii rfl F152.us3 F152.it182 ?_
            refine so_assign (v := (.v (.int .u64 (IntKind.u64.wrap y111)))) rfl ?_
            refine so_nil ?_
            refine fi_seq ?_
            refine fi_region ?_
            refine so_move (v := (.v (.int .i64 a2))) rfl ?_
            refine sv_ii rfl F152.us3 F152.it138 ?_
            refine so_assign (v := (.v (.int .u64 (IntKind.u64.wrap a2)))) rfl ?_
            refine so_nil ?_
            refine fi_seq ?_
            refine fi_region ?_
            refine so_move (v := (.v (.int .i64 a2))) rfl ?_
            refine sv_ii rfl F152.us3 F152.it182 ?_
            refine so_bin rfl rfl ab_sub ?_
            refine so_assign (v := (.v (.int .u64 (IntKind.u64.wrap ((IntKind.u64.wrap a2) - (1 : Int)))))) rfl ?_
            refine so_nil ?_
            refine fi_seq ?_
            refine fi_block ?_
            refine fi_loop ?_
            refine fi_at [(0, (.v v0)), (1, (.v (.int .u64 (IntKind.u64.wrap (0 - a1))))), (3, (.v (.bool a3))), (4, (.v (.bool a4))), (10, (.v .nilsl)), (11, (.v (.str (pk ([] : List UInt8))))), (12, (.v (.ptr v104.id0 0))), (13, (.v (.int .i64 (65 : Int)))), (14, (.v (.int .u64 (IntKind.u64.wrap y111)))), (15, (.v (.int .u64 (IntKind.u64.wrap a2)))), (16, (.v (.int .u64 (IntKind.u64.wrap ((IntKind.u64.wrap a2) - (1 : Int))))))] ⟨rfl, rfl, rfl, rfl, rfl, rfl, rfl, rfl, rfl, rfl, rfl, trivial⟩ ?_
            refine h (fun (l130 : List (Int)) (u131 : Int) (i132 : Int) => ∀ (s : Nat → TV) (H : Heap), Sep H (Pc.osl v104 1 (enc (eInt .u8) l130) :: fr) → Fin _ _ (updL s [(0, (.v v0)), (1, (.v (.int .u64 u131))), (3, (.v (.bool a3))), (4, (.v (.bool a4))), (10, (.v .nilsl)), (11, (.v (.str (pk ([] : List UInt8))))), (12, (.v (.ptr v104.id0 0))), (13, (.v (.int .i64 i132))), (14, (.v (.int .u64 (IntKind.u64.wrap y111)))), (15, (.v (.int .u64 (IntKind.u64.wrap a2)))), (16, (.v (.int .u64 (IntKind.u64.wrap ((IntKind.u64.wrap a2) - (1 : Int))))))]) H _) ?_ _ _ hs
            intro l130 u131 i132 h s146 H147 hs
            refine fi_inLoop ?_
            refine fi_seq ?_
            refine fi_seq ?_
            refine fi_region ?_
            refine so_move (v := (.v (.int .u64 u131))) rfl ?_
            refine so_move (v := (.v (.int .u64 (IntKind.u64.wrap a2)))) rfl ?_
            refine so_bin rfl rfl ab_geq ?_
            refine so_nil ?_
            replace h := ofP h; rcases h with ⟨c133, h⟩ | ⟨c133, h⟩
            · refine fi_true rfl (decide_eq_true c133) ?_
              refine fi_skip ?_
              refine fi_block ?_
              refine fi_seq ?_
              refine fi_region ?_
              refine so_move (v := (.v (.int .i64 i132))) rfl ?_
              refine so_bin rfl rfl ab_sub ?_
              refine so_assign (v := (.v (.int .i64 (IntKind.i64.wrap (i132 - (1 : Int)))))) rfl ?_
              refine so_nil ?_
              refine fi_seq ?_
              refine fi_region ?_
              refine so_move (v := (.v (.int .i64 (IntKind.i64.wrap (i132 - (1 : Int)))))) rfl ?_
              refine so_move (v := (.v (.int .u64 u131))) rfl ?_
              refine so_move (v := (.v (.int .u64 (IntKind.u64.wrap ((IntKind.u64.wrap a2) - (1 : Int)))))) rfl ?_
              refine so_bin rfl rfl ab_and ?_
              obtain ⟨c134, h⟩ := h
              refine so_index rfl rfl F152.sr9 c134 ?_
              obtain ⟨c135, h⟩ := h
              refine sv_idxA hs 0 rfl av104 c135 (fun _ => rfl) (by decide) rfl rfl F152.ar223 F152.sz5 ?_
              refine sv_set hs 0 rfl c135 (bt ([48, 49, 50, 51, 52, 53, 54, 55, 56, 57, 97, 98, 99, 100, 101, 102, 103, 104, 105, 106, 107, 108, 109, 110, 111, 112, 113, 114, 115, 116, 117, 118, 119, 120, 121, 122] : List UInt8) (ibits .and .u64 u131 (IntKind.u64.wrap ((IntKind.u64.wrap a2) - (1 : Int))))) (fun _ => rfl) (by decide) rfl rfl rfl rfl F152.sz5 nofun (fun H136 hs => ?_)
              refine so_nil ?_
              refine fi_region ?_
              refine so_move (v := (.v (.int .u64 u131))) rfl ?_
              refine so_move (v := (.v (.int .u64 (IntKind.u64.wrap y111)))) rfl ?_
              obtain ⟨c137, h⟩ := h
              refine so_bin rfl rfl (ab_shr c137) ?_
              refine so_assign (v := (.v (.int .u64 (Int.fdiv u131 (2 ^ (min ((IntKind.u64.wrap y111)).toNat IntKind.u64.bits)))))) rfl ?_
              refine so_nil ?_
              refine fi_inBlock ?_
              exact fi_at [(0, (.v v0)), (1, (.v (.int .u64 (Int.fdiv u131 (2 ^ (min ((IntKind.u64.wrap y111)).toNat IntKind.u64.bits)))))), (3, (.v (.bool a3))), (4, (.v (.bool a4))), (10, (.v .nilsl)), (11, (.v (.str (pk ([] : List UInt8))))), (12, (.v (.ptr v104.id0 0))), (13, (.v (.int .i64 (IntKind.i64.wrap (i132 - (1 : Int)))))), (14, (.v (.int .u64 (IntKind.u64.wrap y111)))), (15, (.v (.int .u64 (IntKind.u64.wrap a2)))), (16, (.v (.int .u64 (IntKind.u64.wrap ((IntKind.u64.wrap a2) - (1 : Int))))))] ⟨rfl, rfl, rfl, rfl, rfl, rfl, rfl, rfl, rfl, rfl, rfl, trivial⟩ (h _ _  hs)
            · refine fi_false rfl (decide_eq_false c133) ?_
              refine fi_exit rfl ?_
              refine fi_seq ?_
              refine fi_region ?_
              refine so_move (v := (.v (.int .i64 i132))) rfl ?_
              refine so_bin rfl rfl ab_sub ?_
              refine so_assign (v := (.v (.int .i64 (IntKind.i64.wrap (i132 - (1 : Int)))))) rfl ?_
              refine so_nil ?_
              refine fi_region ?_
              refine so_move (v := (.v (.int .i64 (IntKind.i64.wrap (i132 - (1 : Int)))))) rfl ?_
              refine so_move (v := (.v (.int .u64 u131))) rfl ?_
              obtain ⟨c138, h⟩ := h
              refine so_index rfl rfl F152.sr9 c138 ?_
              obtain ⟨c139, h⟩ := h
              refine sv_idxA hs 0 rfl av104 c139 (fun _ => rfl) (by decide) rfl rfl F152.ar223 F152.sz5 ?_
              refine sv_set hs 0 rfl c139 (bt ([48, 49, 50, 51, 52, 53, 54, 55, 56, 57, 97, 98, 99, 100, 101, 102, 103, 104, 105, 106, 107, 108, 109, 110, 111, 112, 113, 114, 115, 116, 117, 118, 119, 120, 121, 122] : List UInt8) u131) (fun _ => rfl) (by decide) rfl rfl rfl rfl F152.sz5 nofun (fun H140 hs => ?_)
              refine so_nil ?_
              refine fi_seq ?_
              refine fi_seq ?_
              refine fi_region ?_
              refine so_move (v := (.v (.bool a3))) rfl ?_
              refine so_nil ?_
              refine fi_true rfl c107 ?_
              refine fi_seq ?_
              refine fi_region ?_
              refine so_move (v := (.v (.int .i64 (IntKind.i64.wrap (i132 - (1 : Int)))))) rfl ?_
              refine so_bin rfl rfl ab_sub ?_
              refine so_assign (v := (.v (.int .i64 (IntKind.i64.wrap ((IntKind.i64.wrap (i132 - (1 : Int))) - (1 : Int)))))) rfl ?_
              refine so_nil ?_
              refine fi_region ?_
              refine so_move (v := (.v (.int .i64 (IntKind.i64.wrap ((IntKind.i64.wrap (i132 - (1 : Int))) - (1 : Int)))))) rfl ?_
              obtain ⟨c141, h⟩ := h
              refine sv_idxA hs 0 rfl av104 c141 (fun _ => rfl) (by decide) rfl rfl F152.ar223 F152.sz5 ?_
              refine sv_set hs 0 rfl c141 (45 : Int) (fun _ => rfl) (by decide) rfl rfl rfl rfl F152.sz5 nofun (fun H142 hs => ?_)
              refine so_nil ?_
              refine fi_seq ?_
              refine fi_seq ?_
              refine fi_region ?_
              refine so_move (v := (.v (.bool a4))) rfl ?_
              refine so_nil ?_
              replace h := ofT h; rcases h with ⟨c143, h⟩ | ⟨c143, h⟩
              · exact h.elim
              · refine fi_false rfl c143 ?_
                refine fi_skip ?_
                refine fi_seq ?_
                refine fi_region ?_
                refine so_move (v := (.v (.int .i64 (IntKind.i64.wrap ((IntKind.i64.wrap (i132 - (1 : Int))) - (1 : Int)))))) rfl ?_
                obtain ⟨c145, h⟩ := h
                refine sv_sliceA hs 0 rfl av104 c145 (fun _ => rfl) (by decide) rfl rfl rfl rfl rfl F152.ar223 F152.sz5 ?_
                refine sv_bs (Shows.cut (e := (eInt .u8)) (n := 1) (fun _ => rfl) (hs.shows 0 rfl) (by decide) (cutok c145)) (cut_nn nv104) rfl F152.te30 F152.it5 F152.sr9 ?_
                refine so_assign (v := (.v (.str (pk (byts ((((l130.set ((IntKind.i64.wrap (i132 - (1 : Int)))).toNat (bt ([48, 49, 50, 51, 52, 53, 54, 55, 56, 57, 97, 98, 99, 100, 101, 102, 103, 104, 105, 106, 107, 108, 109, 110, 111, 112, 113, 114, 115, 116, 117, 118, 119, 120, 121, 122] : List UInt8) u131)).set ((IntKind.i64.wrap ((IntKind.i64.wrap (i132 - (1 : Int))) - (1 : Int)))).toNat (45 : Int)).drop ((IntKind.i64.wrap ((IntKind.i64.wrap (i132 - (1 : Int))) - (1 : Int)))).toNat).take (((((l130.set ((IntKind.i64.wrap (i132 - (1 : Int)))).toNat (bt ([48, 49, 50, 51, 52, 53, 54, 55, 56, 57, 97, 98, 99, 100, 101, 102, 103, 104, 105, 106, 107, 108, 109, 110, 111, 112, 113, 114, 115, 116, 117, 118, 119, 120, 121, 122] : List UInt8) u131)).set ((IntKind.i64.wrap ((IntKind.i64.wrap (i132 - (1 : Int))) - (1 : Int)))).toNat (45 : Int)).length : Int)).toNat - ((IntKind.i64.wrap ((IntKind.i64.wrap (i132 - (1 : Int))) - (1 : Int)))).toNat))))))) rfl ?_
                refine so_nil ?_
                exact by_ret rfl ⟨_, _, h, _, rfl, (Sep.nil (Sep.del 0 hs) 1)⟩
          · refine fi_false rfl c110 ?_
            refine fi_seq ?_
            refine fi_region ?_
            refine so_move (v := (.v (.int .i64 a2))) rfl ?_
            refine sv_ii rfl F152.us3 F152.it138 ?_
            refine so_assign (v := (.v (.int .u64 (IntKind.u64.wrap a2)))) rfl ?_
            refine so_nil ?_
            refine fi_seq ?_
            refine fi_block ?_
            refine fi_loop ?_
            refine fi_at [(0, (.v v0)), (1, (.v (.int .u64 (IntKind.u64.wrap (0 - a1))))), (3, (.v (.bool a3))), (4, (.v (.bool a4))), (10, (.v .nilsl)), (11, (.v (.str (pk ([] : List UInt8))))), (12, (.v (.ptr v104.id0 0))), (13, (.v (.int .i64 (65 : Int)))), (17, (.v (.int .u64 (IntKind.u64.wrap a2))))] ⟨rfl, rfl, rfl, rfl, rfl, rfl, rfl, rfl, rfl, trivial⟩ ?_
            refine h (fun (l165 : List (Int)) (u166 : Int) (i167 : Int) => ∀ (s : Nat → TV) (H : Heap), Sep H (Pc.osl v104 1 (enc (eInt .u8) l165) :: fr) → Fin _ _ (updL s [(0, (.v v0)), (1, (.v (.int .u64 u166))), (3, (.v (.bool a3))), (4, (.v (.bool a4))), (10, (.v .nilsl)), (11, (.v (.str (pk ([] : List UInt8))))), (12, (.v (.ptr v104.id0 0))), (13, (.v (.int .i64 i167))), (17, (.v (.int .u64 (IntKind.u64.wrap a2))))]) H _) ?_ _ _ hs
            intro l165 u166 i167 h s181 H182 hs
            refine fi_inLoop ?_
            refine fi_seq ?_
            refine fi_seq ?_
            refine fi_region ?_
            refine so_move (v := (.v (.int .u64 u166))) rfl ?_
            refine so_move (v := (.v (.int .u64 (IntKind.u64.wrap a2)))) rfl ?_
            refine so_bin rfl rfl ab_geq ?_
            refine so_nil ?_
            replace h := ofP h; rcases h with ⟨c168, h⟩ | ⟨c168, h⟩
            · refine fi_true rfl (decide_eq_true c168) ?_
              refine fi_skip ?_
              refine fi_block ?_
              refine fi_seq ?_
              refine fi_region ?_
              refine so_move (v := (.v (.int .i64 i167))) rfl ?_
              refine so_bin rfl rfl ab_sub ?_
              refine so_assign (v := (.v (.int .i64 (IntKind.i64.wrap (i167 - (1 : Int)))))) rfl ?_
              refine so_nil ?_
              refine fi_seq ?_
              refine fi_region ?_
              refine so_move (v := (.v (.int .u64 u166))) rfl ?_
              refine so_move (v := (.v (.int .u64 (IntKind.u64.wrap a2)))) rfl ?_
              obtain ⟨c169, h⟩ := h
              refine so_bin rfl rfl (ab_quo c169) ?_
              refine so_assign (v := (.v (.int .u64 (IntKind.u64.wrap (Int.tdiv u166 (IntKind.u64.wrap a2)))))) rfl ?_
              refine so_nil ?_
              refine fi_seq ?_
              refine fi_region ?_
              refine so_move (v := (.v (.int .i64 (IntKind.i64.wrap (i167 - (1 : Int)))))) rfl ?_
              refine so_move (v := (.v (.int .u64 u166))) rfl ?_
              refine so_move (v := (.v (.int .u64 (IntKind.u64.wrap (Int.tdiv u166 (IntKind.u64.wrap a2)))))) rfl ?_
              refine so_move (v := (.v (.int .u64 (IntKind.u64.wrap a2)))) rfl ?_
              refine so_bin rfl rfl ab_mul ?_
              refine so_bin rfl rfl ab_sub ?_
              obtain ⟨c170, h⟩ := h
              refine so_index rfl rfl F152.sr9 c170 ?_
              obtain ⟨c171, h⟩ := h
              refine sv_idxA hs 0 rfl av104 c171 (fun _ => rfl) (by decide) rfl rfl F152.ar223 F152.sz5 ?_
              refine sv_set hs 0 rfl c171 (bt ([48, 49, 50, 51, 52, 53, 54, 55, 56, 57, 97, 98, 99, 100, 101, 102, 103, 104, 105, 106, 107, 108, 109, 110, 111, 112, 113, 114, 115, 116, 117, 118, 119, 120, 121, 122] : List UInt8) (IntKind.u64.wrap (u166 - (IntKind.u64.wrap ((IntKind.u64.wrap (Int.tdiv u166 (IntKind.u64.wrap a2))) * (IntKind.u64.wrap a2)))))) (fun _ => rfl) (by decide) rfl rfl rfl rfl F152.sz5 nofun (fun H172 hs => ?_)
              refine so_nil ?_
              refine fi_region ?_
              refine so_move (v := (.v (.int .u64 (IntKind.u64.wrap (Int.tdiv u166 (IntKind.u64.wrap a2)))))) rfl ?_
              refine so_assign (v := (.v (.int .u64 (IntKind.u64.wrap (Int.tdiv u166 (IntKind.u64.wrap a2)))))) rfl ?_
              refine so_nil ?_
              refine fi_inBlock ?_
              exact fi_at [(0, (.v v0)), (1, (.v (.int .u64 (IntKind.u64.wrap (Int.tdiv u166 (IntKind.u64.wrap a2)))))), (3, (.v (.bool a3))), (4, (.v (.bool a4))), (10, (.v .nilsl)), (11, (.v (.str (pk ([] : List UInt8))))), (12, (.v (.ptr v104.id0 0))), (13, (.v (.int .i64 (IntKind.i64.wrap (i167 - (1 : Int)))))), (17, (.v (.int .u64 (IntKind.u64.wrap a2))))] ⟨rfl, rfl, rfl, rfl, rfl, rfl, rfl, rfl, rfl, trivial⟩ (h _ _  hs)
            · refine fi_false rfl (decide_eq_false c168) ?_
              refine fi_exit rfl ?_
              refine fi_seq ?_
              refine fi_region ?_
              refine so_move (v := (.v (.int .i64 i167))) rfl ?_
              refine so_bin rfl rfl ab_sub ?_
              refine so_assign (v := (.v (.int .i64 (IntKind.i64.wrap (i167 - (1 : Int)))))) rfl ?_
              refine so_nil ?_
              refine fi_region ?_
              refine so_move (v := (.v (.int .i64 (IntKind.i64.wrap (i167 - (1 : Int)))))) rfl ?_
              refine so_move (v := (.v (.int .u64 u166))) rfl ?_
              obtain ⟨c173, h⟩ := h
              refine so_index rfl rfl F152.sr9 c173 ?_
              obtain ⟨c174, h⟩ := h
              refine sv_idxA hs 0 rfl av104 c174 (fun _ => rfl) (by decide) rfl rfl F152.ar223 F152.sz5 ?_
              refine sv_set hs 0 rfl c174 (bt ([48, 49, 50, 51, 52, 53, 54, 55, 56, 57, 97, 98, 99, 100, 101, 102, 103, 104, 105, 106, 107, 108, 109, 110, 111, 112, 113, 114, 115, 116, 117, 118, 119, 120, 121, 122] : List UInt8) u166) (fun _ => rfl) (by decide) rfl rfl rfl rfl F152.sz5 nofun (fun H175 hs => ?_)
              refine so_nil ?_
              refine fi_seq ?_
              refine fi_seq ?_
              refine fi_region ?_
              refine so_move (v := (.v (.bool a3))) rfl ?_
              refine so_nil ?_
              refine fi_true rfl c107 ?_
              refine fi_seq ?_
              refine fi_region ?_
              refine so_move (v := (.v (.int .i64 (IntKind.i64.wrap (i167 - (1 : Int)))))) rfl ?_
              refine so_bin rfl rfl ab_sub ?_
              refine so_assign (v := (.v (.int .i64 (IntKind.i64.wrap ((IntKind.i64.wrap (i167 - (1 : Int))) - (1 : Int)))))) rfl ?_
              refine so_nil ?_
              refine fi_region ?_
              refine so_move (v := (.v (.int .i64 (IntKind.i64.wrap ((IntKind.i64.wrap (i167 - (1 : Int))) - (1 : Int)))))) rfl ?_
              obtain ⟨c176, h⟩ := h
              refine sv_idxA hs 0 rfl av104 c176 (fun _ => rfl) (by decide) rfl rfl F152.ar223 F152.sz5 ?_
              refine sv_set hs 0 rfl c176 (45 : Int) (fun _ => rfl) (by decide) rfl rfl rfl rfl F152.sz5 nofun (fun H177 hs => ?_)
              refine so_nil ?_
              refine fi_seq ?_
              refine fi_seq ?_
              refine fi_region ?_
              refine so_move (v := (.v (.bool a4))) rfl ?_
              refine so_nil ?_
              replace h := ofT h; rcases h with ⟨c178, h⟩ | ⟨c178, h⟩
              · exact h.elim
              · refine fi_false rfl c178 ?_
                refine fi_skip ?_
                refine fi_seq ?_
                refine fi_region ?_
                refine so_move (v := (.v (.int .i64 (IntKind.i64.wrap ((IntKind.i64.wrap (i167 - (1 : Int))) - (1 : Int)))))) rfl ?_
                obtain ⟨c180, h⟩ := h
                refine sv_sliceA hs 0 rfl av104 c180 (fun _ => rfl) (by decide) rfl rfl rfl rfl rfl F152.ar223 F152.sz5 ?_
                refine sv_bs (Shows.cut (e := (eInt .u8)) (n := 1) (fun _ => rfl) (hs.shows 0 rfl) (by decide) (cutok c180)) (cut_nn nv104) rfl F152.te30 F152.it5 F152.sr9 ?_
                refine so_assign (v := (.v (.str (pk (byts ((((l165.set ((IntKind.i64.wrap (i167 - (1 : Int)))).toNat (bt ([48, 49, 50, 51, 52, 53, 54, 55, 56, 57, 97, 98, 99, 100, 101, 102, 103, 104, 105, 106, 107, 108, 109, 110, 111, 112, 113, 114, 115, 116, 117, 118, 119, 120, 121, 122] : List UInt8) u166)).set ((IntKind.i64.wrap ((IntKind.i64.wrap (i167 - (1 : Int))) - (1 : Int)))).toNat (45 : Int)).drop ((IntKind.i64.wrap ((IntKind.i64.wrap (i167 - (1 : Int))) - (1 : Int)))).toNat).take (((((l165.set ((IntKind.i64.wrap (i167 - (1 : Int)))).toNat (bt ([48, 49, 50, 51, 52, 53, 54, 55, 56, 57, 97, 98, 99, 100, 101, 102, 103, 104, 105, 106, 107, 108, 109, 110, 111, 112, 113, 114, 115, 116, 117, 118, 119, 120, 121, 122] : List UInt8) u166)).set ((IntKind.i64.wrap ((IntKind.i64.wrap (i167 - (1 : Int))) - (1 : Int)))).toNat (45 : Int)).length : Int)).toNat - ((IntKind.i64.wrap ((IntKind.i64.wrap (i167 - (1 : Int))) - (1 : Int)))).toNat))))))) rfl ?_
                refine so_nil ?_
                exact by_ret rfl ⟨_, _, h, _, rfl, (Sep.nil (Sep.del 0 hs) 1)⟩
        · refine fi_false rfl c107 ?_
          refine fi_skip ?_
          refine fi_seq ?_
          refine fi_seq ?_
          refine fi_region ?_
          refine so_move (v := (.v (.int .i64 a2))) rfl ?_
          refine sv_callS (internal_strconv_isPowerOfTwo_ok a2 hs  _ h) (fun _ _ ⟨_, _, _, e⟩ => e) rfl rfl ?_
          clear h
          rintro _ _ ⟨y183, h, rfl, rfl⟩
          refine so_nil ?_
          replace h := ofT h; rcases h with ⟨c185, h⟩ | ⟨c185, h⟩
          · refine fi_true rfl c185 ?_
            refine fi_seq ?_
            refine fi_region ?_
            refine so_move (v := (.v (.int .i64 a2))) rfl ?_
            refine sv_ii rfl F152.us3 F152.it182 ?_
            refine sv_callS (math_bits_TrailingZeros_ok (IntKind.u64.wrap a2) hs (fun _ hs => gt6 _ hs.tl) _ h) (fun _ _ ⟨_, _, _, e⟩ => e) rfl rfl ?_
            clear h
            rintro _ _ ⟨y186, h, rfl, rfl⟩
            refine sv_ii rfl F152.us3 F152.it182 ?_
            refine so_assign (v := (.v (.int .u64 (IntKind.u64.wrap y186)))) rfl ?_
            refine so_nil ?_
            refine fi_seq ?_
            refine fi_region ?_
            refine so_move (v := (.v (.int .i64 a2))) rfl ?_
            refine sv_ii rfl F152.us3 F152.it138 ?_
            refine so_assign (v := (.v (.int .u64 (IntKind.u64.wrap a2)))) rfl ?_
            refine so_nil ?_
            refine fi_seq ?_
            refine fi_region ?_
            refine so_move (v := (.v (.int .i64 a2))) rfl ?_
            refine sv_ii rfl F152.us3 F152.it182 ?_
            refine so_bin rfl rfl ab_sub ?_
            refine so_assign (v := (.v (.int .u64 (IntKind.u64.wrap ((IntKind.u64.wrap a2) - (1 : Int)))))) rfl ?_
            refine so_nil ?_
            refine fi_seq ?_
            refine fi_block ?_
            refine fi_loop ?_
            refine fi_at [(0, (.v v0)), (1, (.v (.int .u64 a1))), (3, (.v (.bool a3))), (4, (.v (.bool a4))), (10, (.v .nilsl)), (11, (.v (.str (pk ([] : List UInt8))))), (12, (.v (.ptr v104.id0 0))), (13, (.v (.int .i64 (65 : Int)))), (14, (.v (.int .u64 (IntKind.u64.wrap y186)))), (15, (.v (.int .u64 (IntKind.u64.wrap a2)))), (16, (.v (.int .u64 (IntKind.u64.wrap ((IntKind.u64.wrap a2) - (1 : Int))))))] ⟨rfl, rfl, rfl, rfl, rfl, rfl, rfl, rfl, rfl, rfl, rfl, trivial⟩ ?_
            refine h (fun (l203 : List (Int)) (u204 : Int) (i205 : Int) => ∀ (s : Nat → TV) (H : Heap), Sep H (Pc.osl v104 1 (enc (eInt .u8) l203) :: fr) → Fin _ _ (updL s [(0, (.v v0)), (1, (.v (.int .u64 u204))), (3, (.v (.bool a3))), (4, (.v (.bool a4))), (10, (.v .nilsl)), (11, (.v (.str (pk ([] : List UInt8))))), (12, (.v (.ptr v104.id0 0))), (13, (.v (.int .i64 i205))), (14, (.v (.int .u64 (IntKind.u64.wrap y186)))), (15, (.v (.int .u64 (IntKind.u64.wrap a2)))), (16, (.v (.int .u64 (IntKind.u64.wrap ((IntKind.u64.wrap a2) - (1 : Int))))))]) H _) ?_ _ _ hs
            intro l203 u204 i205 h s217 H218 hs
            refine fi_inLoop ?_
            refine fi_seq ?_
            refine fi_seq ?_
            refine fi_region ?_
            refine so_move (v := (.v (.int .u64 u204))) rfl ?_
            refine so_move (v := (.v (.int .u64 (IntKind.u64.wrap a2)))) rfl ?_
            refine so_bin rfl rfl ab_geq ?_
            refine so_nil ?_
            replace h := ofP h; rcases h with ⟨c206, h⟩ | ⟨c206, h⟩
            · refine fi_true rfl (decide_eq_true c206) ?_
              refine fi_skip ?_
              refine fi_block ?_
              refine fi_seq ?_
              refine fi_region ?_
              refine so_move (v := (.v (.int .i64 i205))) rfl ?_
              refine so_bin rfl rfl ab_sub ?_
              refine so_assign (v := (.v (.int .i64 (IntKind.i64.wrap (i205 - (1 : Int)))))) rfl ?_
              refine so_nil ?_
              refine fi_seq ?_
              refine fi_region ?_
              refine so_move (v := (.v (.int .i64 (IntKind.i64.wrap (i205 - (1 : Int)))))) rfl ?_
              refine so_move (v := (.v (.int .u64 u204))) rfl ?_
              refine so_move (v := (.v (.int .u64 (IntKind.u64.wrap ((IntKind.u64.wrap a2) - (1 : Int)))))) rfl ?_
              refine so_bin rfl rfl ab_and ?_
              obtain ⟨c207, h⟩ := h
              refine so_index rfl rfl F152.sr9 c207 ?_
              obtain ⟨c208, h⟩ := h
              refine sv_idxA hs 0 rfl av104 c208 (fun _ => rfl) (by decide) rfl rfl F152.ar223 F152.sz5 ?_
              refine sv_set hs 0 rfl c208 (bt ([48, 49, 50, 51, 52, 53, 54, 55, 56, 57, 97, 98, 99, 100, 101, 102, 103, 104, 105, 106, 107, 108, 109, 110, 111, 112, 113, 114, 115, 116, 117, 118, 119, 120, 121, 122] : List UInt8) (ibits .and .u64 u204 (IntKind.u64.wrap ((IntKind.u64.wrap a2) - (1 : Int))))) (fun _ => rfl) (by decide) rfl rfl rfl rfl F152.sz5 nofun (fun H209 hs => ?_)
              refine so_nil ?_
              refine fi_region ?_
              refine so_move (v := (.v (.int .u64 u204))) rfl ?_
              refine so_move (v := (.v (.int .u64 (IntKind.u64.wrap y186)))) rfl ?_
              obtain ⟨c210, h⟩ := h
              refine so_bin rfl rfl (ab_shr c210) ?_
              refine so_assign (v := (.v (.int .u64 (Int.fdiv u204 (2 ^ (min ((IntKind.u64.wrap y186)).toNat IntKind.u64.bits)))))) rfl ?_
              refine so_nil ?_
              refine fi_inBlock ?_
              exact fi_at [(0, (.v v0)), (1, (.v (.int .u64 (Int.fdiv u204 (2 ^ (min ((IntKind.u64.wrap y186)).toNat IntKind.u64.bits)))))), (3, (.v (.bool a3))), (4, (.v (.bool a4))), (10, (.v .nilsl)), (11, (.v (.str (pk ([] : List UInt8))))), (12, (.v (.ptr v104.id0 0))), (13, (.v (.int .i64 (IntKind.i64.wrap (i205 - (1 : Int)))))), (14, (.v (.int .u64 (IntKind.u64.wrap y186)))), (15, (.v (.int .u64 (IntKind.u64.wrap a2)))), (16, (.v (.int .u64 (IntKind.u64.wrap ((IntKind.u64.wrap a2) - (1 : Int))))))] ⟨rfl, rfl, rfl, rfl, rfl, rfl, rfl, rfl, rfl, rfl, rfl, trivial⟩ (h _ _  hs)
            · refine fi_false rfl (decide_eq_false c206) ?_
              refine fi_exit rfl ?_
              refine fi_seq ?_
              refine fi_region ?_
              refine so_move (v := (.v (.int .i64 i205))) rfl ?_
              refine so_bin rfl rfl ab_sub ?_
              refine so_assign (v := (.v (.int .i64 (IntKind.i64.wrap (i205 - (1 : Int)))))) rfl ?_
              refine so_nil ?_
              refine fi_region ?_
              refine so_move (v := (.v (.int .i64 (IntKind.i64.wrap (i205 - (1 : Int)))))) rfl ?_
              refine so_move (v := (.v (.int .u64 u204))) rfl ?_
              obtain ⟨c211, h⟩ := h
              refine so_index rfl rfl F152.sr9 c211 ?_
              obtain ⟨c212, h⟩ := h
              refine sv_idxA hs 0 rfl av104 c212 (fun _ => rfl) (by decide) rfl rfl F152.ar223 F152.sz5 ?_
              refine sv_set hs 0 rfl c212 (bt ([48, 49, 50, 51, 52, 53, 54, 55, 56, 57, 97, 98, 99, 100, 101, 102, 103, 104, 105, 106, 107, 108, 109, 110, 111, 112, 113, 114, 115, 116, 117, 118, 119, 120, 121, 122] : List UInt8) u204) (fun _ => rfl) (by decide) rfl rfl rfl rfl F152.sz5 nofun (fun H213 hs => ?_)
              refine so_nil ?_
              refine fi_seq ?_
              refine fi_seq ?_
              refine fi_region ?_
              refine so_move (v := (.v (.bool a3))) rfl ?_
              refine so_nil ?_
              refine fi_false rfl c107 ?_
              refine fi_skip ?_
              refine fi_seq ?_
              refine fi_seq ?_
              refine fi_region ?_
              refine so_move (v := (.v (.bool a4))) rfl ?_
              refine so_nil ?_
              replace h := ofT h; rcases h with ⟨c214, h⟩ | ⟨c214, h⟩
              · exact h.elim
              · refine fi_false rfl c214 ?_
                refine fi_skip ?_
                refine fi_seq ?_
                refine fi_region ?_
                refine so_move (v := (.v (.int .i64 (IntKind.i64.wrap (i205 - (1 : Int)))))) rfl ?_
                obtain ⟨c216, h⟩ := h
                refine sv_sliceA hs 0 rfl av104 c216 (fun _ => rfl) (by decide) rfl rfl rfl rfl rfl F152.ar223 F152.sz5 ?_
                refine sv_bs (Shows.cut (e := (eInt .u8)) (n := 1) (fun _ => rfl) (hs.shows 0 rfl) (by decide) (cutok c216)) (cut_nn nv104) rfl F152.te30 F152.it5 F152.sr9 ?_
                refine so_assign (v := (.v (.str (pk (byts (((l203.set ((IntKind.i64.wrap (i205 - (1 : Int)))).toNat (bt ([48, 49, 50, 51, 52, 53, 54, 55, 56, 57, 97, 98, 99, 100, 101, 102, 103, 104, 105, 106, 107, 108, 109, 110, 111, 112, 113, 114, 115, 116, 117, 118, 119, 120, 121, 122] : List UInt8) u204)).drop ((IntKind.i64.wrap (i205 - (1 : Int)))).toNat).take ((((l203.set ((IntKind.i64.wrap (i205 - (1 : Int)))).toNat (bt ([48, 49, 50, 51, 52, 53, 54, 55, 56, 57, 97, 98, 99, 100, 101, 102, 103, 104, 105, 106, 107, 108, 109, 110, 111, 112, 113, 114, 115, 116, 117, 118, 119, 120, 121, 122] : List UInt8) u204)).length : Int)).toNat - ((IntKind.i64.wrap (i205 - (1 : Int)))).toNat))))))) rfl ?_
                refine so_nil ?_
                exact by_ret rfl ⟨_, _, h, _, rfl, (Sep.nil (Sep.del 0 hs) 1)⟩
          · refine fi_false rfl c185 ?_
            refine fi_seq ?_
            refine fi_region ?_
            refine so_move (v := (.v (.int .i64 a2))) rfl ?_
            refine sv_ii rfl F152.us3 F152.it138 ?_
            refine so_assign (v := (.v (.int .u64 (IntKind.u64.wrap a2)))) rfl ?_
            refine so_nil ?_
            refine fi_seq ?_
            refine fi_block ?_
            refine fi_loop ?_
            refine fi_at [(0, (.v v0)), (1, (.v (.int .u64 a1))), (3, (.v (.bool a3))), (4, (.v (.bool a4))), (10, (.v .nilsl)), (11, (.v (.str (pk ([] : List UInt8))))), (12, (.v (.ptr v104.id0 0))), (13, (.v (.int .i64 (65 : Int)))), (17, (.v (.int .u64 (IntKind.u64.wrap a2))))] ⟨rfl, rfl, rfl, rfl, rfl, rfl, rfl, rfl, rfl, trivial⟩ ?_
            refine h (fun (l234 : List (Int)) (u235 : Int) (i236 : Int) => ∀ (s : Nat → TV) (H : Heap), Sep H (Pc.osl v104 1 (enc (eInt .u8) l234) :: fr) → Fin _ _ (updL s [(0, (.v v0)), (1, (.v (.int .u64 u235))), (3, (.v (.bool a3))), (4, (.v (.bool a4))), (10, (.v .nilsl)), (11, (.v (.str (pk ([] : List UInt8))))), (12, (.v (.ptr v104.id0 0))), (13, (.v (.int .i64 i236))), (17, (.v (.int .u64 (IntKind.u64.wrap a2))))]) H _) ?_ _ _ hs
            intro l234 u235 i236 h s248 H249 hs
            refine fi_inLoop ?_
            refine fi_seq ?_
            refine fi_seq ?_
            refine fi_region ?_
            refine so_move (v := (.v (.int .u64 u235))) rfl ?_
            refine so_move (v := (.v (.int .u64 (IntKind.u64.wrap a2)))) rfl ?_
            refine so_bin rfl rfl ab_geq ?_
            refine so_nil ?_
            replace h := ofP h; rcases h with ⟨c237, h⟩ | ⟨c237, h⟩
            · refine fi_true rfl (decide_eq_true c237) ?_
              refine fi_skip ?_
              refine fi_block ?_
              refine fi_seq ?_
              refine fi_region ?_
              refine so_move (v := (.v (.int .i64 i236))) rfl ?_
              refine so_bin rfl rfl ab_sub ?_
              refine so_assign (v := (.v (.int .i64 (IntKind.i64.wrap (i236 - (1 : Int)))))) rfl ?_
              refine so_nil ?_
              refine fi_seq ?_
              refine fi_region ?_
              refine so_move (v := (.v (.int .u64 u235))) rfl ?_
              refine so_move (v := (.v (.int .u64 (IntKind.u64.wrap a2)))) rfl ?_
              obtain ⟨c238, h⟩ := h
              refine so_bin rfl rfl (ab_quo c238) ?_
              refine so_assign (v := (.v (.int .u64 (IntKind.u64.wrap (Int.tdiv u235 (IntKind.u64.wrap a2)))))) rfl ?_
              refine so_nil ?_
              refine fi_seq ?_
              refine fi_region ?_
              refine so_move (v := (.v (.int .i64 (IntKind.i64.wrap (i236 - (1 : Int)))))) rfl ?_
              refine so_move (v := (.v (.int .u64 u235))) rfl ?_
              refine so_move (v := (.v (.int .u64 (IntKind.u64.wrap (Int.tdiv u235 (IntKind.u64.wrap a2)))))) rfl ?_
              refine so_move (v := (.v (.int .u64 (IntKind.u64.wrap a2)))) rfl ?_
              refine so_bin rfl rfl ab_mul ?_
              refine so_bin rfl rfl ab_sub ?_
              obtain ⟨c239, h⟩ := h
              refine so_index rfl rfl F152.sr9 c239 ?_
              obtain ⟨c240, h⟩ := h
              refine sv_idxA hs 0 rfl av104 c240 (fun _ => rfl) (by decide) rfl rfl F152.ar223 F152.sz5 ?_
              refine sv_set hs 0 rfl c240 (bt ([48, 49, 50, 51, 52, 53, 54, 55, 56, 57, 97, 98, 99, 100, 101, 102, 103, 104, 105, 106, 107, 108, 109, 110, 111, 112, 113, 114, 115, 116, 117, 118, 119, 120, 121, 122] : List UInt8) (IntKind.u64.wrap (u235 - (IntKind.u64.wrap ((IntKind.u64.wrap (Int.tdiv u235 (IntKind.u64.wrap a2))) * (IntKind.u64.wrap a2)))))) (fun _ => rfl) (by decide) rfl rfl rfl rfl F152.sz5 nofun (fun H241 hs => ?_)
              refine so_nil ?_
              refine fi_region ?_
              refine so_move (v := (.v (.int .u64 (IntKind.u64.wrap (Int.tdiv u235 (IntKind.u64.wrap a2)))))) rfl ?_
              refine so_assign (v := (.v (.int .u64 (IntKind.u64.wrap (Int.tdiv u235 (IntKind.u64.wrap a2)))))) rfl ?_
              refine so_nil ?_
              refine fi_inBlock ?_
              exact fi_at [(0, (.v v0)), (1, (.v (.int .u64 (IntKind.u64.wrap (Int.tdiv u235 (IntKind.u64.wrap a2)))))), (3, (.v (.bool a3))), (4, (.v (.bool a4))), (10, (.v .nilsl)), (11, (.v (.str (pk ([] : List UInt8))))), (12, (.v (.ptr v104.id0 0))), (13, (.v (.int .i64 (IntKind.i64.wrap (i236 - (1 : Int)))))), (17, (.v (.int .u64 (IntKind.u64.wrap a2))))] ⟨rfl, rfl, rfl, rfl, rfl, rfl, rfl, rfl, rfl, trivial⟩ (h _ _  hs)
            · refine fi_false rfl (decide_eq_false c237) ?_
              refine fi_exit rfl ?_
              refine fi_seq ?_
              refine fi_region ?_
              refine so_move (v := (.v (.int .i64 i236))) rfl ?_
              refine so_bin rfl rfl ab_sub ?_
              refine so_assign (v := (.v (.int .i64 (IntKind.i64.wrap (i236 - (1 : Int)))))) rfl ?_
              refine so_nil ?_
              refine fi_region ?_
              refine so_move (v := (.v (.int .i64 (IntKind.i64.wrap (i236 - (1 : Int)))))) rfl ?_
              refine so_move (v := (.v (.int .u64 u235))) rfl ?_
              obtain ⟨c242, h⟩ := h
              refine so_index rfl rfl F152.sr9 c242 ?_
              obtain ⟨c243, h⟩ := h
              refine sv_idxA hs 0 rfl av104 c243 (fun _ => rfl) (by decide) rfl rfl F152.ar223 F152.sz5 ?_
              refine sv_set hs 0 rfl c243 (bt ([48, 49, 50, 51, 52, 53, 54, 55, 56, 57, 97, 98, 99, 100, 101, 102, 103, 104, 105, 106, 107, 108, 109, 110, 111, 112, 113, 114, 115, 116, 117, 118, 119, 120, 121, 122] : List UInt8) u235) (fun _ => rfl) (by decide) rfl rfl rfl rfl F152.sz5 nofun (fun H244 hs => ?_)
              refine so_nil ?_
              refine fi_seq ?_
              refine fi_seq ?_
              refine fi_region ?_
              refine so_move (v := (.v (.bool a3))) rfl ?_
              refine so_nil ?_
              refine fi_false rfl c107 ?_
              refine fi_skip ?_
              refine fi_seq ?_
              refine fi_seq ?_
              refine fi_region ?_
              refine so_move (v := (.v (.bool a4))) rfl ?_
              refine so_nil ?_
              replace h := ofT h; rcases h with ⟨c245, h⟩ | ⟨c245, h⟩
              · exact h.elim
              · refine fi_false rfl c245 ?_
                refine fi_skip ?_
                refine fi_seq ?_
                refine fi_region ?_
                refine so_move (v := (.v (.int .i64 (IntKind.i64.wrap (i236 - (1 : Int)))))) rfl ?_
                obtain ⟨c247, h⟩ := h
                refine sv_sliceA hs 0 rfl av104 c247 (fun _ => rfl) (by decide) rfl rfl rfl rfl rfl F152.ar223 F152.sz5 ?_
                refine sv_bs (Shows.cut (e := (eInt .u8)) (n := 1) (fun _ => rfl) (hs.shows 0 rfl) (by decide) (cutok c247)) (cut_nn nv104) rfl F152.te30 F152.it5 F152.sr9 ?_
                refine so_assign (v := (.v (.str (pk (byts (((l234.set ((IntKind.i64.wrap (i236 - (1 : Int)))).toNat (bt ([48, 49, 50, 51, 52, 53, 54, 55, 56, 57, 97, 98, 99, 100, 101, 102, 103, 104, 105, 106, 107, 108, 109, 110, 111, 112, 113, 114, 115, 116, 117, 118, 119, 120, 121, 122] : List UInt8) u235)).drop ((IntKind.i64.wrap (i236 - (1 : Int)))).toNat).take ((((l234.set ((IntKind.i64.wrap (i236 - (1 : Int)))).toNat (bt ([48, 49, 50, 51, 52, 53, 54, 55, 56, 57, 97, 98, 99, 100, 101, 102, 103, 104, 105, 106, 107, 108, 109, 110, 111, 112, 113, 114, 115, 116, 117, 118, 119, 120, 121, 122] : List UInt8) u235)).length : Int)).toNat - ((IntKind.i64.wrap (i236 - (1 : Int)))).toNat))))))) rfl ?_
                refine so_nil ?_
                exact by_ret rfl ⟨_, _, h, _, rfl, (Sep.nil (Sep.del 0 hs) 1)⟩

end Go.Proofs.YtmbkjkcolmoioaaGreatDoor.G

namespace Go.Proofs.YtmbkjkcolmoioaaGreatDoor.G
open Go Go.Ab Go.Proofs Go.Proofs.YtmbkjkcolmoioaaGreatDoor
set_option maxRecDepth 100000
set_option linter.unusedVariables false
set_option linter.unusedSimpArgs false
set_option maxHeartbeats 1000000
attribute [local irreducible] wops wopf Go.Ab.Fin
theorem F105.it138 : tint Tryz.prog 138 = some .u64 := by kernel_rfl
theorem F105.us2 : (Tryz.prog.underlying 2).isSome = true := by kernel_rfl
theorem F105.za189 : tzero Tryz.prog 189 = some (List.replicate 24 (.int .u8 (0 : Int))) := by kernel_rfl
theorem internal_strconv_FormatIntW_ok {fr : List Pc} {H : Heap} (a0 : Int) (a1 : Int) (hs : Sep H (fr)) (gt6 : ∀ H, Sep H fr → HasTab 6 F.tab6 H) (K : (List UInt8) → Prop) (h : internal_strconv_FormatIntW.wp a0 a1 K) : OkQ Tryz.prog 105 [(.v (.int .i64 a0)), (.v (.int .i64 a1))] H (fun r H2 => ∃ (y0 : List UInt8), K y0 ∧ r = (.v (.str (pk y0))) ∧ Sep H2 (fr)) := by
  unfold internal_strconv_FormatIntW.wp at h
  refine of_body Tryz.f105 F.hm Tryz.func105 rfl Tryz.call105 (by kernel_rfl) (by simp) ?_
  refine fi_seq ?_
  refine fi_region ?_
  refine so_assign (v := (.v (.str (pk ([] : List UInt8))))) rfl ?_
  refine so_nil ?_
  refine fi_seq ?_
  refine fi_seq ?_
  refine fi_region ?_
  refine so_move (v := (.v (.int .i64 a1))) rfl ?_
  refine so_bin rfl rfl ab_eql ?_
  refine so_nil ?_
  replace h := ofP h; rcases h with ⟨c101, h⟩ | ⟨c101, h⟩
  · refine fi_true rfl (decide_eq_true c101) ?_
    refine fi_seq ?_
    refine fi_seq ?_
    refine fi_region ?_
    refine so_move (v := (.v (.int .i64 a0))) rfl ?_
    refine so_bin rfl rfl ab_leq ?_
    refine so_move (v := (.v (.bool (decide ((0 : Int) ≤ a0))))) rfl ?_
    replace h := ofP h; rcases h with ⟨c102, h⟩ | ⟨c102, h⟩
    · refine so_gyes rfl (decide_eq_true c102) ?_
      refine so_move (v := (.v (.int .i64 a0))) rfl ?_
      refine so_gyes rfl (decide_eq_true c102) ?_
      refine so_bin rfl rfl ab_lss ?_
      refine so_pick_t (v := (.v (.bool (decide (a0 < (100 : Int)))))) rfl (decide_eq_true c102) rfl ?_
      refine so_nil ?_
      replace h := ofP h; rcases h with ⟨c103, h⟩ | ⟨c103, h⟩
      · refine fi_true rfl (decide_eq_true c103) ?_
        refine fi_seq ?_
        refine fi_region ?_
        refine so_move (v := (.v (.int .i64 a0))) rfl ?_
        refine sv_callS (internal_strconv_small_ok a0 hs  _ h) (fun _ _ ⟨_, _, _, e⟩ => e) rfl rfl ?_
        clear h
        rintro _ _ ⟨y104, h, rfl, rfl⟩
        refine so_assign (v := (.v (.str (pk y104)))) rfl ?_
        refine so_nil ?_
        exact by_ret rfl ⟨_, h, rfl, hs⟩
      · refine fi_false rfl (decide_eq_false c103) ?_
        refine fi_skip ?_
        refine fi_seq ?_
        refine fi_region ?_
        refine sv_allocA hs 24 (eInt .u8) (0 : Int) (fun _ => rfl) F105.za189 (by rfl) (by rfl) nofun (fun v106 H107 nv106 av106 hs => ?_)
        refine so_nil ?_
        refine fi_seq ?_
        refine fi_region ?_
        refine so_move (v := (.v (.int .i64 a0))) rfl ?_
        refine sv_ii rfl F105.us2 F105.it138 ?_
        refine so_assign (v := (.v (.int .u64 (IntKind.u64.wrap a0)))) rfl ?_
        refine so_nil ?_
        refine fi_seq ?_
        refine fi_seq ?_
        refine fi_region ?_
        refine so_move (v := (.v (.int .i64 a0))) rfl ?_
        refine so_bin rfl rfl ab_lss ?_
        refine so_nil ?_
        replace h := ofP h; rcases h with ⟨c109, h⟩ | ⟨c109, h⟩
        · exact h.elim
        · exact h.elim
    · refine so_gno rfl (decide_eq_false c102) ?_
      refine so_gno rfl (decide_eq_false c102) ?_
      refine so_pick_f (v := (.v (.bool false))) rfl (decide_eq_false c102) rfl ?_
      refine so_nil ?_
      refine fi_false rfl rfl ?_
      refine fi_skip ?_
      refine fi_seq ?_
      refine fi_region ?_
      refine sv_allocA hs 24 (eInt .u8) (0 : Int) (fun _ => rfl) F105.za189 (by rfl) (by rfl) nofun (fun v110 H111 nv110 av110 hs => ?_)
      refine so_nil ?_
      refine fi_seq ?_
      refine fi_region ?_
      refine so_move (v := (.v (.int .i64 a0))) rfl ?_
      refine sv_ii rfl F105.us2 F105.it138 ?_
      refine so_assign (v := (.v (.int .u64 (IntKind.u64.wrap a0)))) rfl ?_
      refine so_nil ?_
      refine fi_seq ?_
      refine fi_seq ?_
      refine fi_region ?_
      refine so_move (v := (.v (.int .i64 a0))) rfl ?_
      refine so_bin rfl rfl ab_lss ?_
      refine so_nil ?_
      replace h := ofP h; rcases h with ⟨c113, h⟩ | ⟨c113, h⟩
      · exact h.elim
      · exact h.elim
  · refine fi_false rfl (decide_eq_false c101) ?_
    refine fi_skip ?_
    refine fi_seq ?_
    refine fi_region ?_
    refine so_move (v := (.v (.int .i64 a0))) rfl ?_
    refine sv_ii rfl F105.us2 F105.it138 ?_
    refine so_move (v := (.v (.int .i64 a1))) rfl ?_
    refine so_move (v := (.v (.int .i64 a0))) rfl ?_
    refine so_bin rfl rfl ab_lss ?_
    refine sv_call (internal_strconv_formatBits_ok .nilsl ([] : List (Int)) (IntKind.u64.wrap a0) a1 (decide (a0 < (0 : Int))) false hs (fun _ hs => (.inl ⟨rfl, rfl⟩ : Shows _ .nilsl 1 (enc (eInt .u8) []))) (fun _ hs => gt6 _ hs) _ h) rfl rfl nofun ?_
    clear h hs
    rintro _ H118 ⟨y114, y117, h, v115, rfl, hs⟩
    refine so_move (v := (.t [(.v v115), (.v (.str (pk y117)))])) rfl ?_
    refine so_extract rfl rfl rfl ?_
    refine so_extract rfl rfl rfl ?_
    refine so_assign (v := (.v v115)) rfl ?_
    refine so_assign (v := (.v (.str (pk y117)))) rfl ?_
    refine so_nil ?_
    refine fi_seq ?_
    refine fi_region ?_
    refine so_move (v := (.v (.str (pk y117)))) rfl ?_
    refine so_assign (v := (.v (.str (pk y117)))) rfl ?_
    refine so_nil ?_
    exact by_ret rfl ⟨_, h, rfl, (Sep.del 0 hs)⟩
theorem internal_strconv_FormatIntW_okS {fr : List Pc} {H : Heap} (a0 : Int) (a1 : Int) (hs : Sep H fr) (gt6 : ∀ H, Sep H fr → HasTab 6 F.tab6 H) (K : (List UInt8) → Prop) (h : internal_strconv_FormatIntW.wp a0 a1 K) : OkQ Tryz.prog 105 [(.v (.int .i64 a0)), (.v (.int .i64 a1))] H (fun r H2 => ∃ (y0 : List UInt8), K y0 ∧ r = (.v (.str (pk y0))) ∧ H = H2) := by
  obtain ⟨r, H2, h1, y0, hK, hr, hsep⟩ := internal_strconv_FormatIntW_ok (fr := came H) (H := H) a0 a1 (came_sep H) (came_tab (gt6 H hs)) K h
  have hk : H.n ≤ H2.n ∧ ∀ i, i < H.n → H2.f i = H.f i := hsep.1.2.1
  exact ⟨r, H, h1.forget hk.1 hk.2 (by subst hr; rfl), y0, hK, hr, rfl⟩
theorem internal_strconv_FormatIntH_ok {fr : List Pc} {H : Heap} (a0 : Int) (a1 : Int) (hs : Sep H fr) (gt2 : ∀ H, Sep H fr → HasTab 2 F.tab2 H) (K : List UInt8 → Prop) (h : internal_strconv_FormatIntH.wp a0 a1 K) : OkQ Tryz.prog 105 [.v (.int .i64 a0), .v (.int .i64 a1)] H (fun r H2 => ∃ (y0 : List UInt8), K y0 ∧ r = (.v (.str (pk y0))) ∧ H = H2) := by
  obtain ⟨rfl, h0, h⟩ := h
  exact ⟨.v (.str (pk (Lib.itoa a0))), _, ok_libG [.int .i64 a0, .int .i64 10] (.string (pk (Lib.itoa a0))) Tryz.call105 (args_ii _ _ _ _) (fun β => rfl) (fun β w hw => by
    obtain ⟨o, ho1, ho2⟩ := (gt2 H hs).heap hw
    exact Any.internal_strconv_FormatInt_10 Tryz.laysM246 a0 h0.1 h0.2 w (ho2 w ho1)), _, h, rfl, rfl⟩
theorem internal_strconv_FormatInt_ok {fr : List Pc} {H : Heap} (a0 : Int) (a1 : Int) (hs : Sep H fr) (gt2 : ∀ H, Sep H fr → HasTab 2 F.tab2 H) (gt6 : ∀ H, Sep H fr → HasTab 6 F.tab6 H) (K : List UInt8 → Prop) (h : internal_strconv_FormatInt.wp a0 a1 K) : OkQ Tryz.prog 105 [.v (.int .i64 a0), .v (.int .i64 a1)] H (fun r H2 => ∃ (y0 : List UInt8), K y0 ∧ r = (.v (.str (pk y0))) ∧ H = H2) := by
  rcases h with h | h
  · exact internal_strconv_FormatIntH_ok a0 a1 hs gt2 K h
  · exact internal_strconv_FormatIntW_okS a0 a1 hs gt6 K h

end Go.Proofs.YtmbkjkcolmoioaaGreatDoor.G

namespace Go.Proofs.YtmbkjkcolmoioaaGreatDoor.G
open Go Go.Ab Go.Proofs Go.Proofs.YtmbkjkcolmoioaaGreatDoor
set_option maxRecDepth 100000
set_option linter.unusedVariables false
set_option linter.unusedSimpArgs false
set_option maxHeartbeats 1000000
attribute [local irreducible] wops wopf Go.Ab.Fin
theorem strconv_FormatInt_ok {fr : List Pc} {H : Heap} (a0 : Int) (a1 : Int) (hs : Sep H (fr)) (gt2 : ∀ H, Sep H fr → HasTab 2 F.tab2 H) (gt6 : ∀ H, Sep H fr → HasTab 6 F.tab6 H) (K : (List UInt8) → Prop) (h : strconv_FormatInt.wp a0 a1 K) : OkQ Tryz.prog 50 [(.v (.int .i64 a0)), (.v (.int .i64 a1))] H (fun r H2 => ∃ (y0 : List UInt8), K y0 ∧ r = (.v (.str (pk y0))) ∧ H = H2) := by
  unfold strconv_FormatInt.wp at h
  refine of_body Tryz.f50 F.hm Tryz.func50 rfl Tryz.call50 (by kernel_rfl) (by simp) ?_
  refine fi_seq ?_
  refine fi_region ?_
  refine so_assign (v := (.v (.str (pk ([] : List UInt8))))) rfl ?_
  refine so_nil ?_
  refine fi_seq ?_
  refine fi_region ?_
  refine so_move (v := (.v (.int .i64 a0))) rfl ?_
  refine so_move (v := (.v (.int .i64 a1))) rfl ?_
  refine sv_callS (internal_strconv_FormatInt_ok a0 a1 hs (fun _ hs => gt2 _ hs) (fun _ hs => gt6 _ hs) _ h) (fun _ _ ⟨_, _, _, e⟩ => e) rfl rfl ?_
  clear h
  rintro _ _ ⟨y101, h, rfl, rfl⟩
  refine so_assign (v := (.v (.str (pk y101)))) rfl ?_
  refine so_nil ?_
  exact by_ret rfl ⟨_, h, rfl, rfl⟩

end Go.Proofs.YtmbkjkcolmoioaaGreatDoor.G

namespace Go.Proofs.YtmbkjkcolmoioaaGreatDoor.G
open Go Go.Ab Go.Proofs Go.Proofs.YtmbkjkcolmoioaaGreatDoor
set_option maxRecDepth 100000
set_option linter.unusedVariables false
set_option linter.unusedSimpArgs false
set_option maxHeartbeats 1000000
attribute [local irreducible] wops wopf Go.Ab.Fin
theorem impl_Decimal_ok {fr : List Pc} {H : Heap} (a0 : Int) (hs : Sep H (fr)) (gt2 : ∀ H, Sep H fr → HasTab 2 F.tab2 H) (gt6 : ∀ H, Sep H fr → HasTab 6 F.tab6 H) (K : (List UInt8) → Prop) (h : impl_Decimal.wp a0 K) : OkQ Tryz.prog 17 [(.v (.int .i64 a0))] H (fun r H2 => ∃ (y0 : List UInt8), K y0 ∧ r = (.v (.str (pk y0))) ∧ H = H2) := by
  unfold impl_Decimal.wp at h
  refine of_body Tryz.f17 F.hm Tryz.func17 rfl Tryz.call17 (by kernel_rfl) (by simp) ?_
  refine fi_seq ?_
  refine fi_region ?_
  refine so_assign (v := (.v (.str (pk ([] : List UInt8))))) rfl ?_
  refine so_nil ?_
  refine fi_seq ?_
  refine fi_region ?_
  refine so_move (v := (.v (.int .i64 a0))) rfl ?_
  refine sv_callS (strconv_FormatInt_ok a0 (10 : Int) hs (fun _ hs => gt2 _ hs) (fun _ hs => gt6 _ hs) _ h) (fun _ _ ⟨_, _, _, e⟩ => e) rfl rfl ?_
  clear h
  rintro _ _ ⟨y101, h, rfl, rfl⟩
  refine so_assign (v := (.v (.str (pk y101)))) rfl ?_
  refine so_nil ?_
  exact by_ret rfl ⟨_, h, rfl, rfl⟩

end Go.Proofs.YtmbkjkcolmoioaaGreatDoor.G

namespace Go.Proofs.YtmbkjkcolmoioaaGreatDoor.G
open Go Go.Ab Go.Proofs Go.Proofs.YtmbkjkcolmoioaaGreatDoor
set_option maxRecDepth 100000
set_option linter.unusedVariables false
set_option linter.unusedSimpArgs false
set_option maxHeartbeats 1000000
attribute [local irreducible] wops wopf Go.Ab.Fin
theorem strconv_ParseInt_ok {fr : List Pc} {H : Heap} (a0 : List UInt8) (a1 a2 : Int) (hs : Sep H fr) (gt3 : ∀ H, Sep H fr → HasTab 3 F.tab3 H) (gt4 : ∀ H, Sep H fr → HasTab 4 F.tab4 H) (K : Int → IfV → Prop) (h : strconv_ParseInt.wp a0 a1 a2 K) : OkQ Tryz.prog 221 [.v (.str (pk a0)), .v (.int .i64 a1), .v (.int .i64 a2)] H (fun r H2 => ∃ (y0 : Int) (y1 : IfV), K y0 y1 ∧ r = (.t [(.v (.int .i64 y0)), (.v (.ifc y1))]) ∧ H = H2) := by
  obtain ⟨⟨⟨rfl, rfl⟩, hl⟩, h⟩ := h
  have hl2 : (pk a0).size ≤ 281474976710656 := by rw [pk_size]; exact Nat.le_trans hl (by decide)
  cases hp : Lib.parseIntB 64 a0 with
  | ok v =>
    rw [hp] at h
    refine ⟨.t [.v (.int .i64 v), .v (.ifc .nil)], _, ok_libE Tryz.call221 (fun β w us hw ha => ?_), _, _, h, rfl, rfl⟩
    rw [args_sii _ _ _ _ _ β us ha]
    refine (Any.strconv_ParseInt_10_at64_ok Tryz.laysC174 (pk a0) (by omega) v hp w).mono fun e w' ⟨he, hw'⟩ => ⟨⟨_, he, fun β => tvr_num_err _ _ _ _ rfl⟩, ?_⟩
    rcases hw' with rfl | ⟨t, rfl⟩
    · exact Go.RowKit.Below.refl _ _
    · exact Lib.bytesWorld_below _ _ _
  | «syntax» =>
    rw [hp] at h
    refine ⟨.t [.v (.int .i64 0), .v (.ifc .other)], _, ok_libE Tryz.call221 (fun β w us hw ha => ?_), _, _, h, rfl, rfl⟩
    obtain ⟨o, ho1, ho2⟩ := (gt3 H hs).heap hw
    obtain ⟨ev, hv, hev⟩ := ho2 w ho1
    rw [args_sii _ _ _ _ _ β us ha]
    exact (Any.strconv_ParseInt_10_at64_syntax Tryz.laysC174 (pk a0) hl2 hp ev w hv hev).mono fun e w' ⟨N, he, _, _, hb⟩ => ⟨⟨_, he, fun β => tvr_num_err _ _ _ _ ⟨_, _, rfl⟩⟩, hb⟩
  | range =>
    rw [hp] at h
    refine ⟨.t [.v (.int .i64 (Lib.intSat 64 a0)), .v (.ifc .other)], _, ok_libE Tryz.call221 (fun β w us hw ha => ?_), _, _, h, rfl, rfl⟩
    obtain ⟨o, ho1, ho2⟩ := (gt4 H hs).heap hw
    obtain ⟨ev, hv, hev⟩ := ho2 w ho1
    rw [args_sii _ _ _ _ _ β us ha]
    exact (Any.strconv_ParseInt_10_at64_range Tryz.laysC174 (pk a0) hl2 hp ev w hv hev).mono fun e w' ⟨N, he, _, _, hb⟩ => ⟨⟨_, he, fun β => tvr_num_err _ _ _ _ ⟨_, _, rfl⟩⟩, hb⟩

end Go.Proofs.YtmbkjkcolmoioaaGreatDoor.G

namespace Go.Proofs.YtmbkjkcolmoioaaGreatDoor.G
open Go Go.Ab Go.Proofs Go.Proofs.YtmbkjkcolmoioaaGreatDoor
set_option maxRecDepth 100000
set_option linter.unusedVariables false
set_option linter.unusedSimpArgs false
set_option maxHeartbeats 1000000
attribute [local irreducible] wops wopf Go.Ab.Fin
theorem F180.if99 : tif Tryz.prog 99 = true := by kernel_rfl
theorem impl_ReadDecimal_ok {fr : List Pc} {H : Heap} (a0 : List UInt8) (hs : Sep H (fr)) (gt2 : ∀ H, Sep H fr → HasTab 2 F.tab2 H) (gt3 : ∀ H, Sep H fr → HasTab 3 F.tab3 H) (gt4 : ∀ H, Sep H fr → HasTab 4 F.tab4 H) (gt6 : ∀ H, Sep H fr → HasTab 6 F.tab6 H) (K : Int → Bool → Prop) (h : impl_ReadDecimal.wp a0 K) : OkQ Tryz.prog 180 [(.v (.str (pk a0)))] H (fun r H2 => ∃ (y0 : Int) (y1 : Bool), K y0 y1 ∧ r = (.t [(.v (.int .i64 y0)), (.v (.bool y1))]) ∧ H = H2) := by
  unfold impl_ReadDecimal.wp at h
  refine of_body Tryz.f180 F.hm Tryz.func180 rfl Tryz.call180 (by kernel_rfl) (by simp) ?_
  refine fi_seq ?_
  refine fi_region ?_
  refine so_assign (v := (.v (.int .i64 (0 : Int)))) rfl ?_
  refine so_assign (v := (.v (.bool false))) rfl ?_
  refine so_nil ?_
  refine fi_seq ?_
  refine fi_region ?_
  refine so_move (v := (.v (.str (pk a0)))) rfl ?_
  refine sv_callS (strconv_ParseInt_ok a0 (10 : Int) (64 : Int) hs (fun _ hs => gt3 _ hs) (fun _ hs => gt4 _ hs) _ h) (fun _ _ ⟨_, _, _, _, e⟩ => e) rfl rfl ?_
  clear h
  rintro _ _ ⟨y101, y102, h, rfl, rfl⟩
  refine so_move (v := (.t [(.v (.int .i64 y101)), (.v (.ifc y102))])) rfl ?_
  refine so_extract rfl rfl rfl ?_
  refine so_extract rfl rfl rfl ?_
  refine so_assign (v := (.v (.int .i64 y101))) rfl ?_
  refine so_assign (v := (.v (.ifc y102))) rfl ?_
  refine so_nil ?_
  refine fi_seq ?_
  refine fi_seq ?_
  refine fi_region ?_
  refine so_move (v := (.v (.ifc y102))) rfl ?_
  refine so_ifc_ne rfl rfl F180.if99 ?_
  refine so_move (v := (.v (.bool (!(y102.isNil))))) rfl ?_
  replace h := ofT h; rcases h with ⟨c104, h⟩ | ⟨c104, h⟩
  · refine so_gyes rfl (not_f c104) ?_
    refine so_move (v := (.v (.int .i64 y101))) rfl ?_
    refine so_gyes rfl (not_f c104) ?_
    refine sv_callS (impl_isValue_ok y101 hs  _ h) (fun _ _ ⟨_, _, _, e⟩ => e) rfl rfl ?_
    clear h
    rintro _ _ ⟨y105, h, rfl, rfl⟩
    refine so_gyes rfl (not_f c104) ?_
    refine so_un rfl au_not ?_
    refine so_pick_f (v := (.v (.bool (!y105)))) rfl (not_f c104) rfl ?_
    refine so_move (v := (.v (.bool (!y105)))) rfl ?_
    replace h := ofT h; rcases h with ⟨c107, h⟩ | ⟨c107, h⟩
    · refine so_gyes rfl (not_f c107) ?_
      refine so_move (v := (.v (.int .i64 y101))) rfl ?_
      refine so_gyes rfl (not_f c107) ?_
      refine sv_callS (impl_Decimal_ok y101 hs (fun _ hs => gt2 _ hs) (fun _ hs => gt6 _ hs) _ h) (fun _ _ ⟨_, _, _, e⟩ => e) rfl rfl ?_
      clear h
      rintro _ _ ⟨y108, h, rfl, rfl⟩
      refine so_gyes rfl (not_f c107) ?_
      refine so_move (v := (.v (.str (pk a0)))) rfl ?_
      refine so_gyes rfl (not_f c107) ?_
      refine so_bin rfl rfl ab_sneq ?_
      refine so_pick_f (v := (.v (.bool (!(decide (y108 = a0)))))) rfl (not_f c107) rfl ?_
      refine so_nil ?_
      replace h := ofP h; rcases h with ⟨c110, h⟩ | ⟨c110, h⟩
      · refine fi_false rfl (not_f (decide_eq_true c110)) ?_
        refine fi_skip ?_
        refine fi_seq ?_
        refine fi_region ?_
        refine so_move (v := (.v (.int .i64 y101))) rfl ?_
        refine so_assign (v := (.v (.int .i64 y101))) rfl ?_
        refine so_assign (v := (.v (.bool true))) rfl ?_
        refine so_nil ?_
        exact by_ret rfl ⟨_, _, h, rfl, rfl⟩
      · refine fi_true rfl (not_t (decide_eq_false c110)) ?_
        refine fi_seq ?_
        refine fi_region ?_
        refine so_assign (v := (.v (.int .i64 (0 : Int)))) rfl ?_
        refine so_assign (v := (.v (.bool false))) rfl ?_
        refine so_nil ?_
        exact by_ret rfl ⟨_, _, h, rfl, rfl⟩
    · refine so_gno rfl (not_t c107) ?_
      refine so_gno rfl (not_t c107) ?_
      refine so_gno rfl (not_t c107) ?_
      refine so_gno rfl (not_t c107) ?_
      refine so_pick_t (v := (.v (.bool true))) rfl (not_t c107) rfl ?_
      refine so_nil ?_
      refine fi_true rfl rfl ?_
      refine fi_seq ?_
      refine fi_region ?_
      refine so_assign (v := (.v (.int .i64 (0 : Int)))) rfl ?_
      refine so_assign (v := (.v (.bool false))) rfl ?_
      refine so_nil ?_
      exact by_ret rfl ⟨_, _, h, rfl, rfl⟩
  · refine so_gno rfl (not_t c104) ?_
    refine so_gno rfl (not_t c104) ?_
    refine so_gno rfl (not_t c104) ?_
    refine so_pick_t (v := (.v (.bool true))) rfl (not_t c104) rfl ?_
    refine so_move (v := (.v (.bool true))) rfl ?_
    refine so_gno rfl rfl ?_
    refine so_gno rfl rfl ?_
    refine so_gno rfl rfl ?_
    refine so_gno rfl rfl ?_
    refine so_pick_t (v := (.v (.bool true))) rfl rfl rfl ?_
    refine so_nil ?_
    refine fi_true rfl rfl ?_
    refine fi_seq ?_
    refine fi_region ?_
    refine so_assign (v := (.v (.int .i64 (0 : Int)))) rfl ?_
    refine so_assign (v := (.v (.bool false))) rfl ?_
    refine so_nil ?_
    exact by_ret rfl ⟨_, _, h, rfl, rfl⟩

end Go.Proofs.YtmbkjkcolmoioaaGreatDoor.G

namespace Go.Proofs.YtmbkjkcolmoioaaGreatDoor.G
open Go Go.Ab Go.Proofs Go.Proofs.YtmbkjkcolmoioaaGreatDoor
set_option maxRecDepth 100000
set_option linter.unusedVariables false
set_option linter.unusedSimpArgs false
set_option maxHeartbeats 1000000
attribute [local irreducible] wops wopf Go.Ab.Fin
theorem strings_explode_ok {fr : List Pc} {H : Heap} (a0 : List UInt8) (a1 : Int) (hs : Sep H (fr))  (K : (List (List UInt8)) → Prop) (h : strings_explode.wp a0 a1 K) : OkQ Tryz.prog 195 [(.v (.str (pk a0))), (.v (.int .i64 a1))] H (fun r H2 => ∃ (y0 : List (List UInt8)), K y0 ∧ ∃ (w0_ : AV), r = (.v w0_) ∧ Sep H2 (Pc.osl w0_ 1 (enc eStr y0) :: fr)) := by
  unfold strings_explode.wp at h
  refine of_body Tryz.f195 F.hm Tryz.func195 rfl Tryz.call195 (by kernel_rfl) (by simp) ?_
  exact h.elim

end Go.Proofs.YtmbkjkcolmoioaaGreatDoor.G

namespace Go.Proofs.YtmbkjkcolmoioaaGreatDoor.G
open Go Go.Ab Go.Proofs Go.Proofs.YtmbkjkcolmoioaaGreatDoor
set_option maxRecDepth 100000
set_option linter.unusedVariables false
set_option linter.unusedSimpArgs false
set_option maxHeartbeats 1000000
attribute [local irreducible] wops wopf Go.Ab.Fin
theorem strings_Count_ok {fr : List Pc} {H : Heap} (a0 : List UInt8) (a1 : List UInt8) (hs : Sep H fr) (K : Int → Prop) (h : strings_Count.wp a0 a1 K) : OkQ Tryz.prog 196 [.v (.str (pk a0)), .v (.str (pk a1))] H (fun r H2 => ∃ (y0 : Int), K y0 ∧ r = (.v (.int .i64 y0)) ∧ H = H2) := by
  obtain ⟨c, rfl, h⟩ := h
  exact ⟨.v (.int .i64 ((Lib.countByte a0 c : Nat) : Int)), _, ok_lib [.string (pk a0), .string (pk [c])] (.int .i64 ((Lib.countByte a0 c : Nat) : Int)) Tryz.call196 (args_ss _ _) (fun β => rfl) (fun w => Any.strings_Count_one Tryz.lays138 (pk a0) c w), _, h, rfl, rfl⟩

end Go.Proofs.YtmbkjkcolmoioaaGreatDoor.G

namespace Go.Proofs.YtmbkjkcolmoioaaGreatDoor.G
open Go Go.Ab Go.Proofs Go.Proofs.YtmbkjkcolmoioaaGreatDoor
set_option maxRecDepth 100000
set_option linter.unusedVariables false
set_option linter.unusedSimpArgs false
set_option maxHeartbeats 1000000
attribute [local irreducible] wops wopf Go.Ab.Fin
theorem strings_Index_ok {fr : List Pc} {H : Heap} (a0 : List UInt8) (a1 : List UInt8) (hs : Sep H fr) (K : Int → Prop) (h : strings_Index.wp a0 a1 K) : OkQ Tryz.prog 197 [.v (.str (pk a0)), .v (.str (pk a1))] H (fun r H2 => ∃ (y0 : Int), K y0 ∧ r = (.v (.int .i64 y0)) ∧ H = H2) := by
  obtain ⟨c, rfl, h⟩ := h
  exact ⟨.v (.int .i64 (Lib.indexByte a0 c)), _, ok_lib [.string (pk a0), .string (pk [c])] (.int .i64 (Lib.indexByte a0 c)) Tryz.call197 (args_ss _ _) (fun β => rfl) (fun w => Any.strings_Index_one Tryz.lays143 (pk a0) c w), _, h, rfl, rfl⟩

end Go.Proofs.YtmbkjkcolmoioaaGreatDoor.G

namespace Go.Proofs.YtmbkjkcolmoioaaGreatDoor.G
open Go Go.Ab Go.Proofs Go.Proofs.YtmbkjkcolmoioaaGreatDoor
set_option maxRecDepth 100000
set_option linter.unusedVariables false
set_option linter.unusedSimpArgs false
set_option maxHeartbeats 1000000
attribute [local irreducible] wops wopf Go.Ab.Fin
theorem F153.by9 : tbytes Tryz.prog 9 = some 16 := by kernel_rfl
theorem F153.sr9 : tstr Tryz.prog 9 = true := by kernel_rfl
theorem F153.sz9 : tsz Tryz.prog 9 = some 1 := by kernel_rfl
theorem F153.te83 : telem Tryz.prog 83 = some 9 := by kernel_rfl
theorem F153.tl83 : (telem Tryz.prog 83).bind (tsz Tryz.prog) = some 1 := by kernel_rfl
theorem F153.ze9 : tzero Tryz.prog 9 = some [(.str (pk ([] : List UInt8)))] := by kernel_rfl
theorem strings_genSplit_ok {fr : List Pc} {H : Heap} (a0 : List UInt8) (a1 : List UInt8) (a2 : Int) (a3 : Int) (hs : Sep H (fr))  (K : (List (List UInt8)) → Prop) (h : strings_genSplit.wp a0 a1 a2 a3 K) : OkQ Tryz.prog 153 [(.v (.str (pk a0))), (.v (.str (pk a1))), (.v (.int .i64 a2)), (.v (.int .i64 a3))] H (fun r H2 => ∃ (y0 : List (List UInt8)), K y0 ∧ ∃ (w0_ : AV), r = (.v w0_) ∧ Sep H2 (rdp w0_ 1 (enc eStr y0) :: fr)) := by
  unfold strings_genSplit.wp at h
  refine of_body Tryz.f153 F.hm Tryz.func153 rfl Tryz.call153 (by kernel_rfl) (by simp) ?_
  refine fi_seq ?_
  refine fi_region ?_
  refine so_assign (v := (.v .nilsl)) rfl ?_
  refine so_nil ?_
  refine fi_seq ?_
  refine fi_seq ?_
  refine fi_region ?_
  refine so_move (v := (.v (.int .i64 a3))) rfl ?_
  refine so_bin rfl rfl ab_eql ?_
  refine so_nil ?_
  replace h := ofP h; rcases h with ⟨c101, h⟩ | ⟨c101, h⟩
  · refine fi_true rfl (decide_eq_true c101) ?_
    refine fi_seq ?_
    refine fi_region ?_
    refine so_assign (v := (.v .nilsl)) rfl ?_
    refine so_nil ?_
    exact by_ret rfl ⟨_, h, _, rfl, (Sep.tord (Sep.nil hs 1) (.inl ⟨rfl, rfl⟩) (fun _ h => h))⟩
  · refine fi_false rfl (decide_eq_false c101) ?_
    refine fi_skip ?_
    refine fi_seq ?_
    refine fi_seq ?_
    refine fi_region ?_
    refine so_move (v := (.v (.str (pk a1)))) rfl ?_
    refine so_bin rfl rfl ab_seql ?_
    refine so_nil ?_
    replace h := ofP h; rcases h with ⟨c102, h⟩ | ⟨c102, h⟩
    · refine fi_true rfl (decide_eq_true c102) ?_
      refine fi_seq ?_
      refine fi_region ?_
      refine so_move (v := (.v (.str (pk a0)))) rfl ?_
      refine so_move (v := (.v (.int .i64 a3))) rfl ?_
      refine sv_call (strings_explode_ok a0 a3 hs  _ h) rfl rfl nofun ?_
      clear h hs
      rintro _ H106 ⟨y103, h, v104, rfl, hs⟩
      refine so_assign (v := (.v v104)) rfl ?_
      refine so_nil ?_
      exact by_ret rfl ⟨_, h, _, rfl, (Sep.tord hs (hs.shows 0 rfl) (fun _ h => h))⟩
    · refine fi_false rfl (decide_eq_false c102) ?_
      refine fi_skip ?_
      refine fi_seq ?_
      refine fi_seq ?_
      refine fi_region ?_
      refine so_move (v := (.v (.int .i64 a3))) rfl ?_
      refine so_bin rfl rfl ab_lss ?_
      refine so_nil ?_
      replace h := ofP h; rcases h with ⟨c107, h⟩ | ⟨c107, h⟩
      · refine fi_true rfl (decide_eq_true c107) ?_
        refine fi_region ?_
        refine so_move (v := (.v (.str (pk a0)))) rfl ?_
        refine so_move (v := (.v (.str (pk a1)))) rfl ?_
        refine sv_callS (strings_Count_ok a0 a1 hs  _ h) (fun _ _ ⟨_, _, _, e⟩ => e) rfl rfl ?_
        clear h
        rintro _ _ ⟨y108, h, rfl, rfl⟩
        refine so_bin rfl rfl ab_add ?_
        refine so_assign (v := (.v (.int .i64 (IntKind.i64.wrap (y108 + (1 : Int)))))) rfl ?_
        refine so_nil ?_
        refine fi_seq ?_
        refine fi_region ?_
        refine so_move (v := (.v (.int .i64 (IntKind.i64.wrap (y108 + (1 : Int)))))) rfl ?_
        refine so_move (v := (.v (.str (pk a0)))) rfl ?_
        refine so_slen rfl F153.sr9 ?_
        refine so_bin rfl rfl ab_add ?_
        refine sv_min rfl rfl ?_
        refine so_assign (v := (.v (.int .i64 (mnI (IntKind.i64.wrap (y108 + (1 : Int))) (IntKind.i64.wrap ((a0.length : Int) + (1 : Int))))))) rfl ?_
        refine so_nil ?_
        refine fi_seq ?_
        refine fi_region ?_
        refine so_move (v := (.v (.int .i64 (mnI (IntKind.i64.wrap (y108 + (1 : Int))) (IntKind.i64.wrap ((a0.length : Int) + (1 : Int))))))) rfl ?_
        obtain ⟨c110, h⟩ := h
        refine sv_make hs eStr ([] : List UInt8) c110 (fun _ => rfl) rfl rfl F153.te83 F153.sz9 F153.by9 F153.ze9 rfl rfl nofun (fun v111 H112 nv111 hs => ?_)
        refine so_assign (v := (.v v111)) rfl ?_
        refine so_nil ?_
        refine fi_seq ?_
        refine fi_region ?_
        refine so_move (v := (.v (.int .i64 (mnI (IntKind.i64.wrap (y108 + (1 : Int))) (IntKind.i64.wrap ((a0.length : Int) + (1 : Int))))))) rfl ?_
        refine so_bin rfl rfl ab_sub ?_
        refine so_assign (v := (.v (.int .i64 (IntKind.i64.wrap ((mnI (IntKind.i64.wrap (y108 + (1 : Int))) (IntKind.i64.wrap ((a0.length : Int) + (1 : Int)))) - (1 : Int)))))) rfl ?_
        refine so_nil ?_
        refine fi_seq ?_
        refine fi_region ?_
        refine so_assign (v := (.v (.int .i64 (0 : Int)))) rfl ?_
        refine so_nil ?_
        refine fi_seq ?_
        refine fi_block ?_
        refine fi_loop ?_
        refine fi_at [(0, (.v (.str (pk a0)))), (1, (.v (.str (pk a1)))), (2, (.v (.int .i64 a2))), (3, (.v (.int .i64 (IntKind.i64.wrap ((mnI (IntKind.i64.wrap (y108 + (1 : Int))) (IntKind.i64.wrap ((a0.length : Int) + (1 : Int)))) - (1 : Int)))))), (9, (.v v111)), (10, (.v (.int .i64 (0 : Int))))] ⟨rfl, rfl, rfl, rfl, rfl, rfl, trivial⟩ ?_
        refine h (fun (a132 : List (List UInt8)) (sq133 : List UInt8) (i134 : Int) => ∀ (s : Nat → TV) (H : Heap), Sep H (Pc.osl v111 1 (enc eStr a132) :: fr) → Fin _ _ (updL s [(0, (.v (.str (pk sq133)))), (1, (.v (.str (pk a1)))), (2, (.v (.int .i64 a2))), (3, (.v (.int .i64 (IntKind.i64.wrap ((mnI (IntKind.i64.wrap (y108 + (1 : Int))) (IntKind.i64.wrap ((a0.length : Int) + (1 : Int)))) - (1 : Int)))))), (9, (.v v111)), (10, (.v (.int .i64 i134)))]) H _) ?_ _ _ hs
        intro a132 sq133 i134 h s149 H150 hs
        refine fi_inLoop ?_
        refine fi_seq ?_
        refine fi_seq ?_
        refine fi_region ?_
        refine so_move (v := (.v (.int .i64 i134))) rfl ?_
        refine so_move (v := (.v (.int .i64 (IntKind.i64.wrap ((mnI (IntKind.i64.wrap (y108 + (1 : Int))) (IntKind.i64.wrap ((a0.length : Int) + (1 : Int)))) - (1 : Int)))))) rfl ?_
        refine so_bin rfl rfl ab_lss ?_
        refine so_nil ?_
        replace h := ofP h; rcases h with ⟨c135, h⟩ | ⟨c135, h⟩
        · refine fi_true rfl (decide_eq_true c135) ?_
          refine fi_skip ?_
          refine fi_block ?_
          refine fi_seq ?_
          refine fi_region ?_
          refine so_move (v := (.v (.str (pk sq133)))) rfl ?_
          refine so_move (v := (.v (.str (pk a1)))) rfl ?_
          refine sv_callS (strings_Index_ok sq133 a1 hs  _ h) (fun _ _ ⟨_, _, _, e⟩ => e) rfl rfl ?_
          clear h
          rintro _ _ ⟨y136, h, rfl, rfl⟩
          refine so_assign (v := (.v (.int .i64 y136))) rfl ?_
          refine so_nil ?_
          refine fi_seq ?_
          refine fi_seq ?_
          refine fi_region ?_
          refine so_move (v := (.v (.int .i64 y136))) rfl ?_
          refine so_bin rfl rfl ab_lss ?_
          refine so_nil ?_
          replace h := ofP h; rcases h with ⟨c138, h⟩ | ⟨c138, h⟩
          · refine fi_true rfl (decide_eq_true c138) ?_
            refine fi_exit rfl ?_
            refine fi_seq ?_
            refine fi_region ?_
            refine so_move (v := (.v v111)) rfl ?_
            refine so_move (v := (.v (.int .i64 i134))) rfl ?_
            refine so_move (v := (.v (.str (pk sq133)))) rfl ?_
            obtain ⟨c139, h⟩ := h
            refine sv_idx (hs.shows 0 rfl) c139 (fun _ => rfl) (by decide) rfl rfl F153.tl83 ?_
            refine sv_set hs 0 rfl c139 sq133 (fun _ => rfl) (by decide) rfl rfl rfl rfl F153.sz9 nofun (fun H140 hs => ?_)
            refine so_nil ?_
            refine fi_seq ?_
            refine fi_region ?_
            refine so_move (v := (.v v111)) rfl ?_
            refine so_move (v := (.v (.int .i64 i134))) rfl ?_
            refine so_bin rfl rfl ab_add ?_
            obtain ⟨c141, h⟩ := h
            refine sv_slice (hs.shows 0 rfl) c141 (fun _ => rfl) (by decide) rfl rfl rfl rfl rfl F153.tl83 ?_
            refine so_assign (v := (.v (v111.cut 1 ((0 : Int)).toNat ((IntKind.i64.wrap (i134 + (1 : Int)))).toNat))) rfl ?_
            refine so_nil ?_
            exact by_ret rfl ⟨_, h, _, rfl, (Sep.tord hs (Shows.cut (e := eStr) (n := 1) (fun _ => rfl) (hs.shows 0 rfl) (by decide) (cutok c141)) (cut_row _ _ _ _))⟩
          · refine fi_false rfl (decide_eq_false c138) ?_
            refine fi_skip ?_
            refine fi_seq ?_
            refine fi_region ?_
            refine so_move (v := (.v v111)) rfl ?_
            refine so_move (v := (.v (.int .i64 i134))) rfl ?_
            refine so_move (v := (.v (.str (pk sq133)))) rfl ?_
            refine so_move (v := (.v (.int .i64 y136))) rfl ?_
            refine so_move (v := (.v (.int .i64 a2))) rfl ?_
            refine so_bin rfl rfl ab_add ?_
            obtain ⟨c142, h⟩ := h
            refine so_sslice rfl rfl rfl F153.sr9 rfl rfl c142 ?_
            obtain ⟨c143, h⟩ := h
            refine sv_idx (hs.shows 0 rfl) c143 (fun _ => rfl) (by decide) rfl rfl F153.tl83 ?_
            refine sv_set hs 0 rfl c143 ((sq133.drop ((0 : Int)).toNat).take (((IntKind.i64.wrap (y136 + a2))).toNat - ((0 : Int)).toNat)) (fun _ => rfl) (by decide) rfl rfl rfl rfl F153.sz9 nofun (fun H144 hs => ?_)
            refine so_nil ?_
            refine fi_seq ?_
            refine fi_region ?_
            refine so_move (v := (.v (.str (pk sq133)))) rfl ?_
            refine so_move (v := (.v (.int .i64 y136))) rfl ?_
            refine so_move (v := (.v (.str (pk a1)))) rfl ?_
            refine so_slen rfl F153.sr9 ?_
            refine so_bin rfl rfl ab_add ?_
            obtain ⟨c145, h⟩ := h
            refine so_sslice rfl rfl rfl F153.sr9 rfl rfl c145 ?_
            refine so_assign (v := (.v (.str (pk ((sq133.drop ((IntKind.i64.wrap (y136 + (a1.length : Int)))).toNat).take (((sq133.length : Int)).toNat - ((IntKind.i64.wrap (y136 + (a1.length : Int)))).toNat)))))) rfl ?_
            refine so_nil ?_
            refine fi_region ?_
            refine so_move (v := (.v (.int .i64 i134))) rfl ?_
            refine so_bin rfl rfl ab_add ?_
            refine so_assign (v := (.v (.int .i64 (IntKind.i64.wrap (i134 + (1 : Int)))))) rfl ?_
            refine so_nil ?_
            refine fi_inBlock ?_
            exact fi_at [(0, (.v (.str (pk ((sq133.drop ((IntKind.i64.wrap (y136 + (a1.length : Int)))).toNat).take (((sq133.length : Int)).toNat - ((IntKind.i64.wrap (y136 + (a1.length : Int)))).toNat)))))), (1, (.v (.str (pk a1)))), (2, (.v (.int .i64 a2))), (3, (.v (.int .i64 (IntKind.i64.wrap ((mnI (IntKind.i64.wrap (y108 + (1 : Int))) (IntKind.i64.wrap ((a0.length : Int) + (1 : Int)))) - (1 : Int)))))), (9, (.v v111)), (10, (.v (.int .i64 (IntKind.i64.wrap (i134 + (1 : Int))))))] ⟨rfl, rfl, rfl, rfl, rfl, rfl, trivial⟩ (h _ _  hs)
        · refine fi_false rfl (decide_eq_false c135) ?_
          refine fi_exit rfl ?_
          refine fi_seq ?_
          refine fi_region ?_
          refine so_move (v := (.v v111)) rfl ?_
          refine so_move (v := (.v (.int .i64 i134))) rfl ?_
          refine so_move (v := (.v (.str (pk sq133)))) rfl ?_
          obtain ⟨c146, h⟩ := h
          refine sv_idx (hs.shows 0 rfl) c146 (fun _ => rfl) (by decide) rfl rfl F153.tl83 ?_
          refine sv_set hs 0 rfl c146 sq133 (fun _ => rfl) (by decide) rfl rfl rfl rfl F153.sz9 nofun (fun H147 hs => ?_)
          refine so_nil ?_
          refine fi_seq ?_
          refine fi_region ?_
          refine so_move (v := (.v v111)) rfl ?_
          refine so_move (v := (.v (.int .i64 i134))) rfl ?_
          refine so_bin rfl rfl ab_add ?_
          obtain ⟨c148, h⟩ := h
          refine sv_slice (hs.shows 0 rfl) c148 (fun _ => rfl) (by decide) rfl rfl rfl rfl rfl F153.tl83 ?_
          refine so_assign (v := (.v (v111.cut 1 ((0 : Int)).toNat ((IntKind.i64.wrap (i134 + (1 : Int)))).toNat))) rfl ?_
          refine so_nil ?_
          exact by_ret rfl ⟨_, h, _, rfl, (Sep.tord hs (Shows.cut (e := eStr) (n := 1) (fun _ => rfl) (hs.shows 0 rfl) (by decide) (cutok c148)) (cut_row _ _ _ _))⟩
      · refine fi_false rfl (decide_eq_false c107) ?_
        refine fi_skip ?_
        refine fi_seq ?_
        refine fi_region ?_
        refine so_move (v := (.v (.int .i64 a3))) rfl ?_
        refine so_move (v := (.v (.str (pk a0)))) rfl ?_
        refine so_slen rfl F153.sr9 ?_
        refine so_bin rfl rfl ab_add ?_
        refine sv_min rfl rfl ?_
        refine so_assign (v := (.v (.int .i64 (mnI a3 (IntKind.i64.wrap ((a0.length : Int) + (1 : Int))))))) rfl ?_
        refine so_nil ?_
        refine fi_seq ?_
        refine fi_region ?_
        refine so_move (v := (.v (.int .i64 (mnI a3 (IntKind.i64.wrap ((a0.length : Int) + (1 : Int))))))) rfl ?_
        obtain ⟨c151, h⟩ := h
        refine sv_make hs eStr ([] : List UInt8) c151 (fun _ => rfl) rfl rfl F153.te83 F153.sz9 F153.by9 F153.ze9 rfl rfl nofun (fun v152 H153 nv152 hs => ?_)
        refine so_assign (v := (.v v152)) rfl ?_
        refine so_nil ?_
        refine fi_seq ?_
        refine fi_region ?_
        refine so_move (v := (.v (.int .i64 (mnI a3 (IntKind.i64.wrap ((a0.length : Int) + (1 : Int))))))) rfl ?_
        refine so_bin rfl rfl ab_sub ?_
        refine so_assign (v := (.v (.int .i64 (IntKind.i64.wrap ((mnI a3 (IntKind.i64.wrap ((a0.length : Int) + (1 : Int)))) - (1 : Int)))))) rfl ?_
        refine so_nil ?_
        refine fi_seq ?_
        refine fi_region ?_
        refine so_assign (v := (.v (.int .i64 (0 : Int)))) rfl ?_
        refine so_nil ?_
        refine fi_seq ?_
        refine fi_block ?_
        refine fi_loop ?_
        refine fi_at [(0, (.v (.str (pk a0)))), (1, (.v (.str (pk a1)))), (2, (.v (.int .i64 a2))), (3, (.v (.int .i64 (IntKind.i64.wrap ((mnI a3 (IntKind.i64.wrap ((a0.length : Int) + (1 : Int)))) - (1 : Int)))))), (9, (.v v152)), (10, (.v (.int .i64 (0 : Int))))] ⟨rfl, rfl, rfl, rfl, rfl, rfl, trivial⟩ ?_
        refine h (fun (a173 : List (List UInt8)) (sq174 : List UInt8) (i175 : Int) => ∀ (s : Nat → TV) (H : Heap), Sep H (Pc.osl v152 1 (enc eStr a173) :: fr) → Fin _ _ (updL s [(0, (.v (.str (pk sq174)))), (1, (.v (.str (pk a1)))), (2, (.v (.int .i64 a2))), (3, (.v (.int .i64 (IntKind.i64.wrap ((mnI a3 (IntKind.i64.wrap ((a0.length : Int) + (1 : Int)))) - (1 : Int)))))), (9, (.v v152)), (10, (.v (.int .i64 i175)))]) H _) ?_ _ _ hs
        intro a173 sq174 i175 h s190 H191 hs
        refine fi_inLoop ?_
        refine fi_seq ?_
        refine fi_seq ?_
        refine fi_region ?_
        refine so_move (v := (.v (.int .i64 i175))) rfl ?_
        refine so_move (v := (.v (.int .i64 (IntKind.i64.wrap ((mnI a3 (IntKind.i64.wrap ((a0.length : Int) + (1 : Int)))) - (1 : Int)))))) rfl ?_
        refine so_bin rfl rfl ab_lss ?_
        refine so_nil ?_
        replace h := ofP h; rcases h with ⟨c176, h⟩ | ⟨c176, h⟩
        · refine fi_true rfl (decide_eq_true c176) ?_
          refine fi_skip ?_
          refine fi_block ?_
          refine fi_seq ?_
          refine fi_region ?_
          refine so_move (v := (.v (.str (pk sq174)))) rfl ?_
          refine so_move (v := (.v (.str (pk a1)))) rfl ?_
          refine sv_callS (strings_Index_ok sq174 a1 hs  _ h) (fun _ _ ⟨_, _, _, e⟩ => e) rfl rfl ?_
          clear h
          rintro _ _ ⟨y177, h, rfl, rfl⟩
          refine so_assign (v := (.v (.int .i64 y177))) rfl ?_
          refine so_nil ?_
          refine fi_seq ?_
          refine fi_seq ?_
          refine fi_region ?_
          refine so_move (v := (.v (.int .i64 y177))) rfl ?_
          refine so_bin rfl rfl ab_lss ?_
          refine so_nil ?_
          replace h := ofP h; rcases h with ⟨c179, h⟩ | ⟨c179, h⟩
          · refine fi_true rfl (decide_eq_true c179) ?_
            refine fi_exit rfl ?_
            refine fi_seq ?_
            refine fi_region ?_
            refine so_move (v := (.v v152)) rfl ?_
            refine so_move (v := (.v (.int .i64 i175))) rfl ?_
            refine so_move (v := (.v (.str (pk sq174)))) rfl ?_
            obtain ⟨c180, h⟩ := h
            refine sv_idx (hs.shows 0 rfl) c180 (fun _ => rfl) (by decide) rfl rfl F153.tl83 ?_
            refine sv_set hs 0 rfl c180 sq174 (fun _ => rfl) (by decide) rfl rfl rfl rfl F153.sz9 nofun (fun H181 hs => ?_)
            refine so_nil ?_
            refine fi_seq ?_
            refine fi_region ?_
            refine so_move (v := (.v v152)) rfl ?_
            refine so_move (v := (.v (.int .i64 i175))) rfl ?_
            refine so_bin rfl rfl ab_add ?_
            obtain ⟨c182, h⟩ := h
            refine sv_slice (hs.shows 0 rfl) c182 (fun _ => rfl) (by decide) rfl rfl rfl rfl rfl F153.tl83 ?_
            refine so_assign (v := (.v (v152.cut 1 ((0 : Int)).toNat ((IntKind.i64.wrap (i175 + (1 : Int)))).toNat))) rfl ?_
            refine so_nil ?_
            exact by_ret rfl ⟨_, h, _, rfl, (Sep.tord hs (Shows.cut (e := eStr) (n := 1) (fun _ => rfl) (hs.shows 0 rfl) (by decide) (cutok c182)) (cut_row _ _ _ _))⟩
          · refine fi_false rfl (decide_eq_false c179) ?_
            refine fi_skip ?_
            refine fi_seq ?_
            refine fi_region ?_
            refine so_move (v := (.v v152)) rfl ?_
            refine so_move (v := (.v (.int .i64 i175))) rfl ?_
            refine so_move (v := (.v (.str (pk sq174)))) rfl ?_
            refine so_move (v := (.v (.int .i64 y177))) rfl ?_
            refine so_move (v := (.v (.int .i64 a2))) rfl ?_
            refine so_bin rfl rfl ab_add ?_
            obtain ⟨c183, h⟩ := h
            refine so_sslice rfl rfl rfl F153.sr9 rfl rfl c183 ?_
            obtain ⟨c184, h⟩ := h
            refine sv_idx (hs.shows 0 rfl) c184 (fun _ => rfl) (by decide) rfl rfl F153.tl83 ?_
            refine sv_set hs 0 rfl c184 ((sq174.drop ((0 : Int)).toNat).take (((IntKind.i64.wrap (y177 + a2))).toNat - ((0 : Int)).toNat)) (fun _ => rfl) (by decide) rfl rfl rfl rfl F153.sz9 nofun (fun H185 hs => ?_)
            refine so_nil ?_
            refine fi_seq ?_
            refine fi_region ?_
            refine so_move (v := (.v (.str (pk sq174)))) rfl ?_
            refine so_move (v := (.v (.int .i64 y177))) rfl ?_
            refine so_move (v := (.v (.str (pk a1)))) rfl ?_
            refine so_slen rfl F153.sr9 ?_
            refine so_bin rfl rfl ab_add ?_
            obtain ⟨c186, h⟩ := h
            refine so_sslice rfl rfl rfl F153.sr9 rfl rfl c186 ?_
            refine so_assign (v := (.v (.str (pk ((sq174.drop ((IntKind.i64.wrap (y177 + (a1.length : Int)))).toNat).take (((sq174.length : Int)).toNat - ((IntKind.i64.wrap (y177 + (a1.length : Int)))).toNat)))))) rfl ?_
            refine so_nil ?_
            refine fi_region ?_
            refine so_move (v := (.v (.int .i64 i175))) rfl ?_
            refine so_bin rfl rfl ab_add ?_
            refine so_assign (v := (.v (.int .i64 (IntKind.i64.wrap (i175 + (1 : Int)))))) rfl ?_
            refine so_nil ?_
            refine fi_inBlock ?_
            exact fi_at [(0, (.v (.str (pk ((sq174.drop ((IntKind.i64.wrap (y177 + (a1.length : Int)))).toNat).take (((sq174.length : Int)).toNat - ((IntKind.i64.wrap (y177 + (a1.length : Int)))).toNat)))))), (1, (.v (.str (pk a1)))), (2, (.v (.int .i64 a2))), (3, (.v (.int .i64 (IntKind.i64.wrap ((mnI a3 (IntKind.i64.wrap ((a0.length : Int) + (1 : Int)))) - (1 : Int)))))), (9, (.v v152)), (10, (.v (.int .i64 (IntKind.i64.wrap (i175 + (1 : Int))))))] ⟨rfl, rfl, rfl, rfl, rfl, rfl, trivial⟩ (h _ _  hs)
        · refine fi_false rfl (decide_eq_false c176) ?_
          refine fi_exit rfl ?_
          refine fi_seq ?_
          refine fi_region ?_
          refine so_move (v := (.v v152)) rfl ?_
          refine so_move (v := (.v (.int .i64 i175))) rfl ?_
          refine so_move (v := (.v (.str (pk sq174)))) rfl ?_
          obtain ⟨c187, h⟩ := h
          refine sv_idx (hs.shows 0 rfl) c187 (fun _ => rfl) (by decide) rfl rfl F153.tl83 ?_
          refine sv_set hs 0 rfl c187 sq174 (fun _ => rfl) (by decide) rfl rfl rfl rfl F153.sz9 nofun (fun H188 hs => ?_)
          refine so_nil ?_
          refine fi_seq ?_
          refine fi_region ?_
          refine so_move (v := (.v v152)) rfl ?_
          refine so_move (v := (.v (.int .i64 i175))) rfl ?_
          refine so_bin rfl rfl ab_add ?_
          obtain ⟨c189, h⟩ := h
          refine sv_slice (hs.shows 0 rfl) c189 (fun _ => rfl) (by decide) rfl rfl rfl rfl rfl F153.tl83 ?_
          refine so_assign (v := (.v (v152.cut 1 ((0 : Int)).toNat ((IntKind.i64.wrap (i175 + (1 : Int)))).toNat))) rfl ?_
          refine so_nil ?_
          exact by_ret rfl ⟨_, h, _, rfl, (Sep.tord hs (Shows.cut (e := eStr) (n := 1) (fun _ => rfl) (hs.shows 0 rfl) (by decide) (cutok c189)) (cut_row _ _ _ _))⟩

end Go.Proofs.YtmbkjkcolmoioaaGreatDoor.G

namespace Go.Proofs.YtmbkjkcolmoioaaGreatDoor.G
open Go Go.Ab Go.Proofs Go.Proofs.YtmbkjkcolmoioaaGreatDoor
set_option maxRecDepth 100000
set_option linter.unusedVariables false
set_option linter.unusedSimpArgs false
set_option maxHeartbeats 1000000
attribute [local irreducible] wops wopf Go.Ab.Fin
theorem strings_Split_ok {fr : List Pc} {H : Heap} (a0 : List UInt8) (a1 : List UInt8) (hs : Sep H (fr))  (K : (List (List UInt8)) → Prop) (h : strings_Split.wp a0 a1 K) : OkQ Tryz.prog 106 [(.v (.str (pk a0))), (.v (.str (pk a1)))] H (fun r H2 => ∃ (y0 : List (List UInt8)), K y0 ∧ ∃ (w0_ : AV), r = (.v w0_) ∧ Sep H2 (rdp w0_ 1 (enc eStr y0) :: fr)) := by
  unfold strings_Split.wp at h
  refine of_body Tryz.f106 F.hm Tryz.func106 rfl Tryz.call106 (by kernel_rfl) (by simp) ?_
  refine fi_seq ?_
  refine fi_region ?_
  refine so_assign (v := (.v .nilsl)) rfl ?_
  refine so_nil ?_
  refine fi_seq ?_
  refine fi_region ?_
  refine so_move (v := (.v (.str (pk a0)))) rfl ?_
  refine so_move (v := (.v (.str (pk a1)))) rfl ?_
  refine sv_call (strings_genSplit_ok a0 a1 (0 : Int) (-1 : Int) hs  _ h) rfl rfl nofun ?_
  clear h hs
  rintro _ H104 ⟨y101, h, v102, rfl, hs⟩
  refine so_assign (v := (.v v102)) rfl ?_
  refine so_nil ?_
  exact by_ret rfl ⟨_, h, _, rfl, hs⟩

end Go.Proofs.YtmbkjkcolmoioaaGreatDoor.G

namespace Go.Proofs.YtmbkjkcolmoioaaGreatDoor.G
open Go Go.Ab Go.Proofs Go.Proofs.YtmbkjkcolmoioaaGreatDoor
set_option maxRecDepth 100000
set_option linter.unusedVariables false
set_option linter.unusedSimpArgs false
set_option maxHeartbeats 1000000
attribute [local irreducible] wops wopf Go.Ab.Fin
theorem impl_pieces_ok {fr : List Pc} {H : Heap} (a0 : List UInt8) (hs : Sep H (fr))  (K : (List (List UInt8)) → Prop) (h : impl_pieces.wp a0 K) : OkQ Tryz.prog 94 [(.v (.str (pk a0)))] H (fun r H2 => ∃ (y0 : List (List UInt8)), K y0 ∧ ∃ (w0_ : AV), r = (.v w0_) ∧ Sep H2 (rdp w0_ 1 (enc eStr y0) :: fr)) := by
  unfold impl_pieces.wp at h
  refine of_body Tryz.f94 F.hm Tryz.func94 rfl Tryz.call94 (by kernel_rfl) (by simp) ?_
  refine fi_seq ?_
  refine fi_region ?_
  refine so_assign (v := (.v .nilsl)) rfl ?_
  refine so_nil ?_
  refine fi_seq ?_
  refine fi_seq ?_
  refine fi_region ?_
  refine so_move (v := (.v (.str (pk a0)))) rfl ?_
  refine so_bin rfl rfl ab_seql ?_
  refine so_nil ?_
  replace h := ofP h; rcases h with ⟨c101, h⟩ | ⟨c101, h⟩
  · refine fi_true rfl (decide_eq_true c101) ?_
    refine fi_seq ?_
    refine fi_region ?_
    refine so_assign (v := (.v .nilsl)) rfl ?_
    refine so_nil ?_
    exact by_ret rfl ⟨_, h, _, rfl, (Sep.tord (Sep.nil hs 1) (.inl ⟨rfl, rfl⟩) (fun _ h => h))⟩
  · refine fi_false rfl (decide_eq_false c101) ?_
    refine fi_skip ?_
    refine fi_seq ?_
    refine fi_region ?_
    refine so_move (v := (.v (.str (pk a0)))) rfl ?_
    refine sv_call (strings_Split_ok a0 ([44] : List UInt8) hs  _ h) rfl rfl nofun ?_
    clear h hs
    rintro _ H105 ⟨y102, h, v103, rfl, hs⟩
    refine so_assign (v := (.v v103)) rfl ?_
    refine so_nil ?_
    exact by_ret rfl ⟨_, h, _, rfl, hs⟩

end Go.Proofs.YtmbkjkcolmoioaaGreatDoor.G

namespace Go.Proofs.YtmbkjkcolmoioaaGreatDoor.G
open Go Go.Ab Go.Proofs Go.Proofs.YtmbkjkcolmoioaaGreatDoor
set_option maxRecDepth 100000
set_option linter.unusedVariables false
set_option linter.unusedSimpArgs false
set_option maxHeartbeats 1000000
attribute [local irreducible] wops wopf Go.Ab.Fin
theorem F136.ag9 : tagg Tryz.prog 9 = some false := by kernel_rfl
theorem F136.sz2 : tsz Tryz.prog 2 = some 1 := by kernel_rfl
theorem F136.ta57_57 : tapp Tryz.prog 57 57 = some (1, 8) := by kernel_rfl
theorem F136.te57 : telem Tryz.prog 57 = some 2 := by kernel_rfl
theorem F136.ti83 : (telem Tryz.prog 83).isSome = true := by kernel_rfl
theorem F136.tl83 : (telem Tryz.prog 83).bind (tsz Tryz.prog) = some 1 := by kernel_rfl
theorem F136.ze2 : tzero Tryz.prog 2 = some [(.int .i64 (0 : Int))] := by kernel_rfl
theorem impl_readList_ok {fr : List Pc} {H : Heap} (a0 : List UInt8) (hs : Sep H (fr)) (gt2 : ∀ H, Sep H fr → HasTab 2 F.tab2 H) (gt3 : ∀ H, Sep H fr → HasTab 3 F.tab3 H) (gt4 : ∀ H, Sep H fr → HasTab 4 F.tab4 H) (gt6 : ∀ H, Sep H fr → HasTab 6 F.tab6 H) (K : (List (Int)) → Bool → Prop) (h : impl_readList.wp a0 K) : OkQ Tryz.prog 136 [(.v (.str (pk a0)))] H (fun r H2 => ∃ (y0 : List (Int)) (y1 : Bool), K y0 y1 ∧ ∃ (w0_ : AV), r = (.t [(.v w0_), (.v (.bool y1))]) ∧ Sep H2 (Pc.osl w0_ 1 (enc (eInt .i64) y0) :: fr)) := by
  unfold impl_readList.wp at h
  refine of_body Tryz.f136 F.hm Tryz.func136 rfl Tryz.call136 (by kernel_rfl) (by simp) ?_
  refine fi_seq ?_
  refine fi_region ?_
  refine so_assign (v := (.v .nilsl)) rfl ?_
  refine so_assign (v := (.v (.bool false))) rfl ?_
  refine so_nil ?_
  refine fi_seq ?_
  refine fi_region ?_
  refine sv_bslice hs (eInt .i64) ([] : List (Int)) [] F136.te57 F136.sz2 F136.ze2 rfl rfl rfl rfl (fun _ => rfl) rfl (by decide) nofun (fun v101 H102 nv101 hs => ?_)
  refine so_assign (v := (.v v101)) rfl ?_
  refine so_nil ?_
  refine fi_seq ?_
  refine fi_seq ?_
  refine fi_region ?_
  refine so_move (v := (.v (.str (pk a0)))) rfl ?_
  refine sv_call (impl_pieces_ok a0 hs  _ h) rfl rfl nofun ?_
  clear h hs
  rintro _ H107 ⟨y104, h, v105, rfl, hs⟩
  refine sv_len (hs.rshows 0 rfl) (fun _ => rfl) (by decide) rfl F136.ti83 ?_
  refine so_move (v := (.v (.int .i64 (0 : Int)))) rfl ?_
  refine so_nil ?_
  refine fi_block ?_
  refine fi_loop ?_
  refine fi_at [(4, (.v v101)), (11, (.v v105)), (12, (.v (.int .i64 (y104.length : Int)))), (13, (.v (.int .i64 (0 : Int))))] ⟨rfl, rfl, rfl, rfl, trivial⟩ ?_
  refine h (fun (out125 : List (Int)) (x127 : Int) => ∀ (s : Nat → TV) (H : Heap) (v126 : AV) (nv126 : v126 ≠ .nilsl), Sep H (rdp v105 1 (enc eStr y104) :: Pc.osl v126 1 (enc (eInt .i64) out125) :: fr) → Fin _ _ (updL s [(4, (.v v126)), (11, (.v v105)), (12, (.v (.int .i64 (y104.length : Int)))), (13, (.v (.int .i64 x127)))]) H _) ?_ _ _ _ nv101 hs
  intro out125 x127 h s140 H141 v126 nv126 hs
  refine fi_inLoop ?_
  refine fi_seq ?_
  refine fi_region ?_
  refine so_bin rfl rfl ab_lss ?_
  refine so_nil ?_
  refine fi_seq ?_
  replace h := ofP h; rcases h with ⟨c128, h⟩ | ⟨c128, h⟩
  · refine fi_true rfl (decide_eq_true c128) ?_
    refine fi_skip ?_
    refine fi_seq ?_
    refine fi_block ?_
    refine fi_seq ?_
    refine fi_region ?_
    obtain ⟨c129, h⟩ := h
    refine sv_idx (hs.rshows 0 rfl) c129 (fun _ => rfl) (by decide) rfl rfl F136.tl83 ?_
    refine sv_cell (hs.rshows 0 rfl) c129 ([] : List UInt8) 0 (fun x => (AV.str (pk x))) (fun _ => rfl) (fun _ => rfl) rfl F136.ag9 ?_
    refine so_assign (v := (.v (.str (pk (y104.getD (x127).toNat ([] : List UInt8)))))) rfl ?_
    refine so_nil ?_
    refine fi_seq ?_
    refine fi_region ?_
    refine so_move (v := (.v (.str (pk (y104.getD (x127).toNat ([] : List UInt8)))))) rfl ?_
    refine sv_callS (impl_ReadDecimal_ok (y104.getD (x127).toNat ([] : List UInt8)) hs (fun _ hs => gt2 _ hs.tl.tl) (fun _ hs => gt3 _ hs.tl.tl) (fun _ hs => gt4 _ hs.tl.tl) (fun _ hs => gt6 _ hs.tl.tl) _ h) (fun _ _ ⟨_, _, _, _, e⟩ => e) rfl rfl ?_
    clear h
    rintro _ _ ⟨y130, y131, h, rfl, rfl⟩
    refine so_move (v := (.t [(.v (.int .i64 y130)), (.v (.bool y131))])) rfl ?_
    refine so_extract rfl rfl rfl ?_
    refine so_extract rfl rfl rfl ?_
    refine so_assign (v := (.v (.int .i64 y130))) rfl ?_
    refine so_assign (v := (.v (.bool y131))) rfl ?_
    refine so_nil ?_
    refine fi_seq ?_
    refine fi_seq ?_
    refine fi_region ?_
    refine so_move (v := (.v (.bool y131))) rfl ?_
    refine so_un rfl au_not ?_
    refine so_nil ?_
    replace h := ofT h; rcases h with ⟨c133, h⟩ | ⟨c133, h⟩
    · refine fi_false rfl (not_f c133) ?_
      refine fi_skip ?_
      refine fi_region ?_
      refine so_move (v := (.v v126)) rfl ?_
      refine so_move (v := (.v (.int .i64 y130))) rfl ?_
      refine sv_bslice hs (eInt .i64) ([y130] : List (Int)) [[(.int .i64 y130)]] F136.te57 F136.sz2 F136.ze2 rfl rfl rfl rfl (fun _ => rfl) rfl (by decide) nofun (fun v134 H135 nv134 hs => ?_)
      obtain ⟨c139, h⟩ := h
      refine sv_app hs 2 rfl (hs.shows 0 rfl) (fun _ => rfl) (by decide) F136.ta57_57 (by decide) c139 rfl rfl nofun (fun v137 H138 kv137 hs => ?_)
      replace hs := hs.del 0
      have nv137 := kv137 nv126
      refine so_assign (v := (.v v137)) rfl ?_
      refine so_nil ?_
      refine fi_inBlock ?_
      refine fi_region ?_
      refine so_bin rfl rfl ab_add ?_
      refine so_move (v := (.v (.int .i64 (IntKind.i64.wrap (x127 + (1 : Int)))))) rfl ?_
      refine so_nil ?_
      exact fi_at [(4, (.v v137)), (11, (.v v105)), (12, (.v (.int .i64 (y104.length : Int)))), (13, (.v (.int .i64 (IntKind.i64.wrap (x127 + (1 : Int))))))] ⟨rfl, rfl, rfl, rfl, trivial⟩ (h _ _ _ nv137 hs)
    · refine fi_true rfl (not_t c133) ?_
      refine fi_seq ?_
      refine fi_region ?_
      refine so_assign (v := (.v .nilsl)) rfl ?_
      refine so_assign (v := (.v (.bool false))) rfl ?_
      refine so_nil ?_
      exact by_ret rfl ⟨_, _, h, _, rfl, (Sep.nil (Sep.del 0 (Sep.del 0 hs)) 1)⟩
  · refine fi_false rfl (decide_eq_false c128) ?_
    refine fi_exit rfl ?_
    refine fi_seq ?_
    refine fi_region ?_
    refine so_move (v := (.v v126)) rfl ?_
    refine so_assign (v := (.v v126)) rfl ?_
    refine so_assign (v := (.v (.bool true))) rfl ?_
    refine so_nil ?_
    exact by_ret rfl ⟨_, _, h, _, rfl, (Sep.del 0 hs)⟩

end Go.Proofs.YtmbkjkcolmoioaaGreatDoor.G

namespace Go.Proofs.YtmbkjkcolmoioaaGreatDoor.G
open Go Go.Ab Go.Proofs Go.Proofs.YtmbkjkcolmoioaaGreatDoor
set_option maxRecDepth 100000
set_option linter.unusedVariables false
set_option linter.unusedSimpArgs false
set_option maxHeartbeats 1000000
attribute [local irreducible] wops wopf Go.Ab.Fin
theorem F93.ti57 : (telem Tryz.prog 57).isSome = true := by kernel_rfl
theorem impl_ReadList_ok {fr : List Pc} {H : Heap} (a0 : List UInt8) (hs : Sep H (fr)) (gt2 : ∀ H, Sep H fr → HasTab 2 F.tab2 H) (gt3 : ∀ H, Sep H fr → HasTab 3 F.tab3 H) (gt4 : ∀ H, Sep H fr → HasTab 4 F.tab4 H) (gt6 : ∀ H, Sep H fr → HasTab 6 F.tab6 H) (K : (List (Int)) → Bool → Prop) (h : impl_ReadList.wp a0 K) : OkQ Tryz.prog 93 [(.v (.str (pk a0)))] H (fun r H2 => ∃ (y0 : List (Int)) (y1 : Bool), K y0 y1 ∧ ∃ (w0_ : AV), r = (.t [(.v w0_), (.v (.bool y1))]) ∧ Sep H2 (Pc.osl w0_ 1 (enc (eInt .i64) y0) :: fr)) := by
  unfold impl_ReadList.wp at h
  refine of_body Tryz.f93 F.hm Tryz.func93 rfl Tryz.call93 (by kernel_rfl) (by simp) ?_
  refine fi_seq ?_
  refine fi_region ?_
  refine so_assign (v := (.v .nilsl)) rfl ?_
  refine so_assign (v := (.v (.bool false))) rfl ?_
  refine so_nil ?_
  refine fi_seq ?_
  refine fi_region ?_
  refine so_move (v := (.v (.str (pk a0)))) rfl ?_
  refine sv_call (impl_readList_ok a0 hs (fun _ hs => gt2 _ hs) (fun _ hs => gt3 _ hs) (fun _ hs => gt4 _ hs) (fun _ hs => gt6 _ hs) _ h) rfl rfl nofun ?_
  clear h hs
  rintro _ H105 ⟨y101, y104, h, v102, rfl, hs⟩
  refine so_move (v := (.t [(.v v102), (.v (.bool y104))])) rfl ?_
  refine so_extract rfl rfl rfl ?_
  refine so_extract rfl rfl rfl ?_
  refine so_assign (v := (.v v102)) rfl ?_
  refine so_assign (v := (.v (.bool y104))) rfl ?_
  refine so_nil ?_
  refine fi_seq ?_
  refine fi_seq ?_
  refine fi_region ?_
  refine so_move (v := (.v (.bool y104))) rfl ?_
  refine so_un rfl au_not ?_
  refine so_move (v := (.v (.bool (!y104)))) rfl ?_
  replace h := ofT h; rcases h with ⟨c106, h⟩ | ⟨c106, h⟩
  · refine so_gyes rfl (not_f c106) ?_
    refine so_move (v := (.v v102)) rfl ?_
    refine so_gyes rfl (not_f c106) ?_
    refine sv_len (hs.shows 0 rfl) (fun _ => rfl) (by decide) rfl F93.ti57 ?_
    refine so_gyes rfl (not_f c106) ?_
    refine so_bin rfl rfl ab_gtr ?_
    refine so_pick_f (v := (.v (.bool (decide ((64 : Int) < (y101.length : Int)))))) rfl (not_f c106) rfl ?_
    refine so_nil ?_
    replace h := ofP h; rcases h with ⟨c107, h⟩ | ⟨c107, h⟩
    · refine fi_true rfl (decide_eq_true c107) ?_
      refine fi_seq ?_
      refine fi_region ?_
      refine so_assign (v := (.v .nilsl)) rfl ?_
      refine so_assign (v := (.v (.bool false))) rfl ?_
      refine so_nil ?_
      exact by_ret rfl ⟨_, _, h, _, rfl, (Sep.nil (Sep.del 0 hs) 1)⟩
    · refine fi_false rfl (decide_eq_false c107) ?_
      refine fi_skip ?_
      refine fi_seq ?_
      refine fi_region ?_
      refine so_move (v := (.v v102)) rfl ?_
      refine so_assign (v := (.v v102)) rfl ?_
      refine so_assign (v := (.v (.bool true))) rfl ?_
      refine so_nil ?_
      exact by_ret rfl ⟨_, _, h, _, rfl, hs⟩
  · refine so_gno rfl (not_t c106) ?_
    refine so_gno rfl (not_t c106) ?_
    refine so_gno rfl (not_t c106) ?_
    refine so_pick_t (v := (.v (.bool true))) rfl (not_t c106) rfl ?_
    refine so_nil ?_
    refine fi_true rfl rfl ?_
    refine fi_seq ?_
    refine fi_region ?_
    refine so_assign (v := (.v .nilsl)) rfl ?_
    refine so_assign (v := (.v (.bool false))) rfl ?_
    refine so_nil ?_
    exact by_ret rfl ⟨_, _, h, _, rfl, (Sep.nil (Sep.del 0 hs) 1)⟩

end Go.Proofs.YtmbkjkcolmoioaaGreatDoor.G

namespace Go.Proofs.YtmbkjkcolmoioaaGreatDoor.G
open Go Go.Ab Go.Proofs Go.Proofs.YtmbkjkcolmoioaaGreatDoor
set_option maxRecDepth 100000
set_option linter.unusedVariables false
set_option linter.unusedSimpArgs false
set_option maxHeartbeats 1000000
attribute [local irreducible] wops wopf Go.Ab.Fin
theorem F36.ag2 : tagg Tryz.prog 2 = some false := by kernel_rfl
theorem F36.ti57 : (telem Tryz.prog 57).isSome = true := by kernel_rfl
theorem F36.tl57 : (telem Tryz.prog 57).bind (tsz Tryz.prog) = some 1 := by kernel_rfl
theorem impl_readPair_ok {fr : List Pc} {H : Heap} (a0 : List UInt8) (hs : Sep H (fr)) (gt2 : ∀ H, Sep H fr → HasTab 2 F.tab2 H) (gt3 : ∀ H, Sep H fr → HasTab 3 F.tab3 H) (gt4 : ∀ H, Sep H fr → HasTab 4 F.tab4 H) (gt6 : ∀ H, Sep H fr → HasTab 6 F.tab6 H) (K : Int → Int → Bool → Prop) (h : impl_readPair.wp a0 K) : OkQ Tryz.prog 36 [(.v (.str (pk a0)))] H (fun r H2 => ∃ (y0 : Int) (y1 : Int) (y2 : Bool), K y0 y1 y2 ∧ r = (.t [(.v (.int .i64 y0)), (.v (.int .i64 y1)), (.v (.bool y2))]) ∧ Sep H2 (fr)) := by
  unfold impl_readPair.wp at h
  refine of_body Tryz.f36 F.hm Tryz.func36 rfl Tryz.call36 (by kernel_rfl) (by simp) ?_
  refine fi_seq ?_
  refine fi_region ?_
  refine so_assign (v := (.v (.int .i64 (0 : Int)))) rfl ?_
  refine so_assign (v := (.v (.int .i64 (0 : Int)))) rfl ?_
  refine so_assign (v := (.v (.bool false))) rfl ?_
  refine so_nil ?_
  refine fi_seq ?_
  refine fi_region ?_
  refine so_move (v := (.v (.str (pk a0)))) rfl ?_
  refine sv_call (impl_ReadList_ok a0 hs (fun _ hs => gt2 _ hs) (fun _ hs => gt3 _ hs) (fun _ hs => gt4 _ hs) (fun _ hs => gt6 _ hs) _ h) rfl rfl nofun ?_
  clear h hs
  rintro _ H105 ⟨y101, y104, h, v102, rfl, hs⟩
  refine so_move (v := (.t [(.v v102), (.v (.bool y104))])) rfl ?_
  refine so_extract rfl rfl rfl ?_
  refine so_extract rfl rfl rfl ?_
  refine so_assign (v := (.v v102)) rfl ?_
  refine so_assign (v := (.v (.bool y104))) rfl ?_
  refine so_nil ?_
  refine fi_seq ?_
  refine fi_seq ?_
  refine fi_region ?_
  refine so_move (v := (.v (.bool y104))) rfl ?_
  refine so_un rfl au_not ?_
  refine so_move (v := (.v (.bool (!y104)))) rfl ?_
  replace h := ofT h; rcases h with ⟨c106, h⟩ | ⟨c106, h⟩
  · refine so_gyes rfl (not_f c106) ?_
    refine so_move (v := (.v v102)) rfl ?_
    refine so_gyes rfl (not_f c106) ?_
    refine sv_len (hs.shows 0 rfl) (fun _ => rfl) (by decide) rfl F36.ti57 ?_
    refine so_gyes rfl (not_f c106) ?_
    refine so_bin rfl rfl ab_neq ?_
    refine so_pick_f (v := (.v (.bool (!(decide ((y101.length : Int) = (2 : Int))))))) rfl (not_f c106) rfl ?_
    refine so_nil ?_
    replace h := ofP h; rcases h with ⟨c107, h⟩ | ⟨c107, h⟩
    · refine fi_false rfl (not_f (decide_eq_true c107)) ?_
      refine fi_skip ?_
      refine fi_seq ?_
      refine fi_region ?_
      refine so_move (v := (.v v102)) rfl ?_
      obtain ⟨c108, h⟩ := h
      refine sv_idx (hs.shows 0 rfl) c108 (fun _ => rfl) (by decide) rfl rfl F36.tl57 ?_
      refine sv_cell (hs.shows 0 rfl) c108 (0 : Int) 0 (fun x => (AV.int .i64 x)) (fun _ => rfl) (fun _ => rfl) rfl F36.ag2 ?_
      refine so_move (v := (.v v102)) rfl ?_
      obtain ⟨c109, h⟩ := h
      refine sv_idx (hs.shows 0 rfl) c109 (fun _ => rfl) (by decide) rfl rfl F36.tl57 ?_
      refine sv_cell (hs.shows 0 rfl) c109 (0 : Int) 0 (fun x => (AV.int .i64 x)) (fun _ => rfl) (fun _ => rfl) rfl F36.ag2 ?_
      refine so_assign (v := (.v (.int .i64 (y101.getD ((0 : Int)).toNat (0 : Int))))) rfl ?_
      refine so_assign (v := (.v (.int .i64 (y101.getD ((1 : Int)).toNat (0 : Int))))) rfl ?_
      refine so_assign (v := (.v (.bool true))) rfl ?_
      refine so_nil ?_
      exact by_ret rfl ⟨_, _, _, h, rfl, (Sep.del 0 hs)⟩
    · refine fi_true rfl (not_t (decide_eq_false c107)) ?_
      refine fi_seq ?_
      refine fi_region ?_
      refine so_assign (v := (.v (.int .i64 (0 : Int)))) rfl ?_
      refine so_assign (v := (.v (.int .i64 (0 : Int)))) rfl ?_
      refine so_assign (v := (.v (.bool false))) rfl ?_
      refine so_nil ?_
      exact by_ret rfl ⟨_, _, _, h, rfl, (Sep.del 0 hs)⟩
  · refine so_gno rfl (not_t c106) ?_
    refine so_gno rfl (not_t c106) ?_
    refine so_gno rfl (not_t c106) ?_
    refine so_pick_t (v := (.v (.bool true))) rfl (not_t c106) rfl ?_
    refine so_nil ?_
    refine fi_true rfl rfl ?_
    refine fi_seq ?_
    refine fi_region ?_
    refine so_assign (v := (.v (.int .i64 (0 : Int)))) rfl ?_
    refine so_assign (v := (.v (.int .i64 (0 : Int)))) rfl ?_
    refine so_assign (v := (.v (.bool false))) rfl ?_
    refine so_nil ?_
    exact by_ret rfl ⟨_, _, _, h, rfl, (Sep.del 0 hs)⟩
theorem impl_readPair_okS {fr : List Pc} {H : Heap} (a0 : List UInt8) (hs : Sep H fr) (gt2 : ∀ H, Sep H fr → HasTab 2 F.tab2 H) (gt3 : ∀ H, Sep H fr → HasTab 3 F.tab3 H) (gt4 : ∀ H, Sep H fr → HasTab 4 F.tab4 H) (gt6 : ∀ H, Sep H fr → HasTab 6 F.tab6 H) (K : Int → Int → Bool → Prop) (h : impl_readPair.wp a0 K) : OkQ Tryz.prog 36 [(.v (.str (pk a0)))] H (fun r H2 => ∃ (y0 : Int) (y1 : Int) (y2 : Bool), K y0 y1 y2 ∧ r = (.t [(.v (.int .i64 y0)), (.v (.int .i64 y1)), (.v (.bool y2))]) ∧ H = H2) := by
  obtain ⟨r, H2, h1, y0, y1, y2, hK, hr, hsep⟩ := impl_readPair_ok (fr := came H) (H := H) a0 (came_sep H) (came_tab (gt2 H hs)) (came_tab (gt3 H hs)) (came_tab (gt4 H hs)) (came_tab (gt6 H hs)) K h
  have hk : H.n ≤ H2.n ∧ ∀ i, i < H.n → H2.f i = H.f i := hsep.1.2.1
  exact ⟨r, H, h1.forget hk.1 hk.2 (by subst hr; rfl), y0, y1, y2, hK, hr, rfl⟩

end Go.Proofs.YtmbkjkcolmoioaaGreatDoor.G

namespace Go.Proofs.YtmbkjkcolmoioaaGreatDoor.G
open Go Go.Ab Go.Proofs Go.Proofs.YtmbkjkcolmoioaaGreatDoor
set_option maxRecDepth 100000
set_option linter.unusedVariables false
set_option linter.unusedSimpArgs false
set_option maxHeartbeats 1000000
attribute [local irreducible] wops wopf Go.Ab.Fin
theorem F101.it2 : tint Tryz.prog 2 = some .i64 := by kernel_rfl
theorem F101.us179 : (Tryz.prog.underlying 179).isSome = true := by kernel_rfl
theorem impl_BitsOf_ok {fr : List Pc} {H : Heap} (a0 : Nat) (hs : Sep H (fr))  (K : Int → Prop) (h : impl_BitsOf.wp a0 K) : OkQ Tryz.prog 101 [(.v (.flt .f32 a0))] H (fun r H2 => ∃ (y0 : Int), K y0 ∧ r = (.v (.int .i64 y0)) ∧ H = H2) := by
  unfold impl_BitsOf.wp at h
  refine of_body Tryz.f101 F.hm Tryz.func101 rfl Tryz.call101 (by kernel_rfl) (by simp) ?_
  refine fi_seq ?_
  refine fi_region ?_
  refine so_assign (v := (.v (.int .i64 (0 : Int)))) rfl ?_
  refine so_nil ?_
  refine fi_seq ?_
  refine fi_seq ?_
  refine fi_region ?_
  refine so_move (v := (.v (.flt .f32 a0))) rfl ?_
  refine so_move (v := (.v (.flt .f32 a0))) rfl ?_
  refine so_bin rfl rfl ab_fneq ?_
  refine so_nil ?_
  replace h := ofT h; rcases h with ⟨c101, h⟩ | ⟨c101, h⟩
  · refine fi_true rfl c101 ?_
    refine fi_seq ?_
    refine fi_region ?_
    refine so_assign (v := (.v (.int .i64 (2143289344 : Int)))) rfl ?_
    refine so_nil ?_
    exact by_ret rfl ⟨_, h, rfl, rfl⟩
  · refine fi_false rfl c101 ?_
    refine fi_skip ?_
    refine fi_seq ?_
    refine fi_region ?_
    refine so_move (v := (.v (.flt .f32 a0))) rfl ?_
    refine sv_callS (math_Float32bits_ok a0 hs  _ h) (fun _ _ ⟨_, _, _, e⟩ => e) rfl rfl ?_
    clear h
    rintro _ _ ⟨y102, h, rfl, rfl⟩
    refine sv_ii rfl F101.us179 F101.it2 ?_
    refine so_assign (v := (.v (.int .i64 (IntKind.i64.wrap y102)))) rfl ?_
    refine so_nil ?_
    exact by_ret rfl ⟨_, h, rfl, rfl⟩

end Go.Proofs.YtmbkjkcolmoioaaGreatDoor.G

namespace Go.Proofs.YtmbkjkcolmoioaaGreatDoor.G
open Go Go.Ab Go.Proofs Go.Proofs.YtmbkjkcolmoioaaGreatDoor
set_option maxRecDepth 100000
set_option linter.unusedVariables false
set_option linter.unusedSimpArgs false
set_option maxHeartbeats 1000000
attribute [local irreducible] wops wopf Go.Ab.Fin
theorem strings_Repeat_ok {fr : List Pc} {H : Heap} (a0 : List UInt8) (a1 : Int) (hs : Sep H fr) (K : List UInt8 → Prop) (h : strings_Repeat.wp a0 a1 K) : OkQ Tryz.prog 102 [.v (.str (pk a0)), .v (.int .i64 a1)] H (fun r H2 => ∃ (y0 : List UInt8), K y0 ∧ r = (.v (.str (pk y0))) ∧ H = H2) := by
  obtain ⟨c, rfl⟩ : ∃ c : Nat, a1 = (c : Int) := ⟨a1.toNat, by have := h.1.1; omega⟩
  exact ⟨.v (.str (pk (Lib.repeatL a0 c))), _, ok_lib2 [.string (pk a0), .int .i64 (c : Int)] (.string (pk (Lib.repeatL a0 c))) Tryz.call102 (args_si _ _ _) (fun β => rfl) (fun w => Any.strings_Repeat Tryz.lays105 Tryz.Builder_Extra_105 (pk a0) c w (by have := h.1.2.1; omega) (by rw [pk_size]; have := h.1.2.2; rw [Int.toNat_natCast] at this; exact Nat.le_trans this (by decide))), _, h.2, rfl, rfl⟩

end Go.Proofs.YtmbkjkcolmoioaaGreatDoor.G

namespace Go.Proofs.YtmbkjkcolmoioaaGreatDoor.G
open Go Go.Ab Go.Proofs Go.Proofs.YtmbkjkcolmoioaaGreatDoor
set_option maxRecDepth 100000
set_option linter.unusedVariables false
set_option linter.unusedSimpArgs false
set_option maxHeartbeats 1000000
attribute [local irreducible] wops wopf Go.Ab.Fin
theorem F44.sr9 : tstr Tryz.prog 9 = true := by kernel_rfl
theorem impl_hexOf_ok {fr : List Pc} {H : Heap} (a0 : Nat) (hs : Sep H (fr)) (gt2 : ∀ H, Sep H fr → HasTab 2 F.tab2 H) (gt6 : ∀ H, Sep H fr → HasTab 6 F.tab6 H) (K : (List UInt8) → Prop) (h : impl_hexOf.wp a0 K) : OkQ Tryz.prog 44 [(.v (.flt .f32 a0))] H (fun r H2 => ∃ (y0 : List UInt8), K y0 ∧ r = (.v (.str (pk y0))) ∧ H = H2) := by
  unfold impl_hexOf.wp at h
  refine of_body Tryz.f44 F.hm Tryz.func44 rfl Tryz.call44 (by kernel_rfl) (by simp) ?_
  refine fi_seq ?_
  refine fi_region ?_
  refine so_assign (v := (.v (.str (pk ([] : List UInt8))))) rfl ?_
  refine so_nil ?_
  refine fi_seq ?_
  refine fi_region ?_
  refine so_move (v := (.v (.flt .f32 a0))) rfl ?_
  refine sv_callS (impl_BitsOf_ok a0 hs  _ h) (fun _ _ ⟨_, _, _, e⟩ => e) rfl rfl ?_
  clear h
  rintro _ _ ⟨y101, h, rfl, rfl⟩
  refine sv_callS (strconv_FormatInt_ok y101 (16 : Int) hs (fun _ hs => gt2 _ hs) (fun _ hs => gt6 _ hs) _ h) (fun _ _ ⟨_, _, _, e⟩ => e) rfl rfl ?_
  clear h
  rintro _ _ ⟨y103, h, rfl, rfl⟩
  refine so_assign (v := (.v (.str (pk y103)))) rfl ?_
  refine so_nil ?_
  refine fi_seq ?_
  refine fi_region ?_
  refine so_move (v := (.v (.str (pk y103)))) rfl ?_
  refine so_slen rfl F44.sr9 ?_
  refine so_bin rfl rfl ab_sub ?_
  refine sv_callS (strings_Repeat_ok ([48] : List UInt8) (IntKind.i64.wrap ((8 : Int) - (y103.length : Int))) hs  _ h) (fun _ _ ⟨_, _, _, e⟩ => e) rfl rfl ?_
  clear h
  rintro _ _ ⟨y105, h, rfl, rfl⟩
  refine so_move (v := (.v (.str (pk y103)))) rfl ?_
  obtain ⟨c107, h⟩ := h
  refine so_bin rfl rfl (ab_sadd c107) ?_
  refine so_assign (v := (.v (.str (pk (y105 ++ y103))))) rfl ?_
  refine so_nil ?_
  exact by_ret rfl ⟨_, h, rfl, rfl⟩

end Go.Proofs.YtmbkjkcolmoioaaGreatDoor.G

namespace Go.Proofs.YtmbkjkcolmoioaaGreatDoor.G
open Go Go.Ab Go.Proofs Go.Proofs.YtmbkjkcolmoioaaGreatDoor
set_option maxRecDepth 100000
set_option linter.unusedVariables false
set_option linter.unusedSimpArgs false
set_option maxHeartbeats 1000000
attribute [local irreducible] wops wopf Go.Ab.Fin
theorem strings_Join_ok {fr : List Pc} {H : Heap} (v0 : AV) (l0 : List (List UInt8)) (a1 : List UInt8) (hs : Sep H fr) (g0 : ∀ H, Sep H fr → Shows H v0 1 (enc eStr l0)) (K : List UInt8 → Prop) (h : strings_Join.wp l0 a1 K) : OkQ Tryz.prog 103 [.v v0, .v (.str (pk a1))] H (fun r H2 => ∃ (y0 : List UInt8), K y0 ∧ r = (.v (.str (pk y0))) ∧ H = H2) :=
  ⟨_, _, ok_join Tryz.call103 (fun a c sep w => Any.strings_Join_none Tryz.lays156 Tryz.Builder_Extra_156 a c sep w) (fun bk o c xs sep w h1 h2 h3 h4 h5 => Any.strings_Join Tryz.lays156 Tryz.Builder_Extra_156 bk o c xs sep w h1 h2 h3 h4 h5) (g0 H hs) h.1, _, h.2, rfl, rfl⟩

end Go.Proofs.YtmbkjkcolmoioaaGreatDoor.G

namespace Go.Proofs.YtmbkjkcolmoioaaGreatDoor.G
open Go Go.Ab Go.Proofs Go.Proofs.YtmbkjkcolmoioaaGreatDoor
set_option maxRecDepth 100000
set_option linter.unusedVariables false
set_option linter.unusedSimpArgs false
set_option maxHeartbeats 1000000
attribute [local irreducible] wops wopf Go.Ab.Fin
theorem F45.ti83 : (telem Tryz.prog 83).isSome = true := by kernel_rfl
theorem impl_joined_ok {fr : List Pc} {H : Heap} (v0 : AV) (l0 : List (List UInt8)) (hs : Sep H (fr)) (g0 : ∀ H, Sep H fr → Shows H v0 1 (enc eStr l0)) (K : (List UInt8) → Prop) (h : impl_joined.wp l0 K) : OkQ Tryz.prog 45 [(.v v0)] H (fun r H2 => ∃ (y0 : List UInt8), K y0 ∧ r = (.v (.str (pk y0))) ∧ H = H2) := by
  unfold impl_joined.wp at h
  refine of_body Tryz.f45 F.hm Tryz.func45 rfl Tryz.call45 (by kernel_rfl) (by simp) ?_
  refine fi_seq ?_
  refine fi_region ?_
  refine so_assign (v := (.v (.str (pk ([] : List UInt8))))) rfl ?_
  refine so_nil ?_
  refine fi_seq ?_
  refine fi_seq ?_
  refine fi_region ?_
  refine so_move (v := (.v v0)) rfl ?_
  refine sv_len (g0 _ hs) (fun _ => rfl) (by decide) rfl F45.ti83 ?_
  refine so_bin rfl rfl ab_eql ?_
  refine so_nil ?_
  replace h := ofP h; rcases h with ⟨c101, h⟩ | ⟨c101, h⟩
  · refine fi_true rfl (decide_eq_true c101) ?_
    refine fi_seq ?_
    refine fi_region ?_
    refine so_assign (v := (.v (.str (pk ([110, 111, 110, 101] : List UInt8))))) rfl ?_
    refine so_nil ?_
    exact by_ret rfl ⟨_, h, rfl, rfl⟩
  · refine fi_false rfl (decide_eq_false c101) ?_
    refine fi_skip ?_
    refine fi_seq ?_
    refine fi_region ?_
    refine so_move (v := (.v v0)) rfl ?_
    refine sv_callS (strings_Join_ok v0 l0 ([44] : List UInt8) hs (fun _ hs => (g0 _ hs)) _ h) (fun _ _ ⟨_, _, _, e⟩ => e) rfl rfl ?_
    clear h
    rintro _ _ ⟨y102, h, rfl, rfl⟩
    refine so_assign (v := (.v (.str (pk y102)))) rfl ?_
    refine so_nil ?_
    exact by_ret rfl ⟨_, h, rfl, rfl⟩

end Go.Proofs.YtmbkjkcolmoioaaGreatDoor.G

namespace Go.Proofs.YtmbkjkcolmoioaaGreatDoor.G
open Go Go.Ab Go.Proofs Go.Proofs.YtmbkjkcolmoioaaGreatDoor
set_option maxRecDepth 100000
set_option linter.unusedVariables false
set_option linter.unusedSimpArgs false
set_option maxHeartbeats 1000000
attribute [local irreducible] wops wopf Go.Ab.Fin
theorem F12.ag32 : tagg Tryz.prog 32 = some false := by kernel_rfl
theorem F12.sz9 : tsz Tryz.prog 9 = some 1 := by kernel_rfl
theorem F12.ta83_83 : tapp Tryz.prog 83 83 = some (1, 16) := by kernel_rfl
theorem F12.te83 : telem Tryz.prog 83 = some 9 := by kernel_rfl
theorem F12.ti22 : (telem Tryz.prog 22).isSome = true := by kernel_rfl
theorem F12.tl22 : (telem Tryz.prog 22).bind (tsz Tryz.prog) = some 1 := by kernel_rfl
theorem F12.ze9 : tzero Tryz.prog 9 = some [(.str (pk ([] : List UInt8)))] := by kernel_rfl
theorem impl_NumbersText_ok {fr : List Pc} {H : Heap} (v0 : AV) (l0 : List (Nat)) (hs : Sep H (fr)) (g0 : ∀ H, Sep H fr → Shows H v0 1 (enc (eFlt .f32) l0)) (gt2 : ∀ H, Sep H fr → HasTab 2 F.tab2 H) (gt6 : ∀ H, Sep H fr → HasTab 6 F.tab6 H) (K : (List UInt8) → Bool → Prop) (h : impl_NumbersText.wp l0 K) : OkQ Tryz.prog 12 [(.v v0)] H (fun r H2 => ∃ (y0 : List UInt8) (y1 : Bool), K y0 y1 ∧ r = (.t [(.v (.str (pk y0))), (.v (.bool y1))]) ∧ Sep H2 (fr)) := by
  unfold impl_NumbersText.wp at h
  refine of_body Tryz.f12 F.hm Tryz.func12 rfl Tryz.call12 (by kernel_rfl) (by simp) ?_
  refine fi_seq ?_
  refine fi_region ?_
  refine so_assign (v := (.v (.str (pk ([] : List UInt8))))) rfl ?_
  refine so_assign (v := (.v (.bool false))) rfl ?_
  refine so_nil ?_
  refine fi_seq ?_
  refine fi_seq ?_
  refine fi_region ?_
  refine so_move (v := (.v v0)) rfl ?_
  refine sv_len (g0 _ hs) (fun _ => rfl) (by decide) rfl F12.ti22 ?_
  refine so_bin rfl rfl ab_gtr ?_
  refine so_nil ?_
  replace h := ofP h; rcases h with ⟨c101, h⟩ | ⟨c101, h⟩
  · refine fi_true rfl (decide_eq_true c101) ?_
    refine fi_seq ?_
    refine fi_region ?_
    refine so_assign (v := (.v (.str (pk ([] : List UInt8))))) rfl ?_
    refine so_assign (v := (.v (.bool false))) rfl ?_
    refine so_nil ?_
    exact by_ret rfl ⟨_, _, h, rfl, hs⟩
  · refine fi_false rfl (decide_eq_false c101) ?_
    refine fi_skip ?_
    refine fi_seq ?_
    refine fi_region ?_
    refine sv_bslice hs eStr ([] : List (List UInt8)) [] F12.te83 F12.sz9 F12.ze9 rfl rfl rfl rfl (fun _ => rfl) rfl (by decide) nofun (fun v102 H103 nv102 hs => ?_)
    refine so_assign (v := (.v v102)) rfl ?_
    refine so_nil ?_
    refine fi_seq ?_
    refine fi_seq ?_
    refine fi_region ?_
    refine so_move (v := (.v v0)) rfl ?_
    refine sv_len (g0 _ hs.tl) (fun _ => rfl) (by decide) rfl F12.ti22 ?_
    refine so_move (v := (.v (.int .i64 (0 : Int)))) rfl ?_
    refine so_nil ?_
    refine fi_block ?_
    refine fi_loop ?_
    refine fi_at [(4, (.v v102)), (11, (.v v0)), (12, (.v (.int .i64 (l0.length : Int)))), (13, (.v (.int .i64 (0 : Int))))] ⟨rfl, rfl, rfl, rfl, trivial⟩ ?_
    refine h (fun (texts122 : List (List UInt8)) (x124 : Int) => ∀ (s : Nat → TV) (H : Heap) (v123 : AV) (nv123 : v123 ≠ .nilsl), Sep H (Pc.osl v123 1 (enc eStr texts122) :: fr) → Fin _ _ (updL s [(4, (.v v123)), (11, (.v v0)), (12, (.v (.int .i64 (l0.length : Int)))), (13, (.v (.int .i64 x124)))]) H _) ?_ _ _ _ nv102 hs
    intro texts122 x124 h s137 H138 v123 nv123 hs
    refine fi_inLoop ?_
    refine fi_seq ?_
    refine fi_region ?_
    refine so_bin rfl rfl ab_lss ?_
    refine so_nil ?_
    refine fi_seq ?_
    replace h := ofP h; rcases h with ⟨c125, h⟩ | ⟨c125, h⟩
    · refine fi_true rfl (decide_eq_true c125) ?_
      refine fi_skip ?_
      refine fi_seq ?_
      refine fi_block ?_
      refine fi_seq ?_
      refine fi_region ?_
      obtain ⟨c126, h⟩ := h
      refine sv_idx (g0 _ hs.tl) c126 (fun _ => rfl) (by decide) rfl rfl F12.tl22 ?_
      refine sv_cell (g0 _ hs.tl) c126 (0 : Nat) 0 (fun x => (AV.flt .f32 x)) (fun _ => rfl) (fun _ => rfl) rfl F12.ag32 ?_
      refine so_assign (v := (.v (.flt .f32 (l0.getD (x124).toNat (0 : Nat))))) rfl ?_
      refine so_nil ?_
      refine fi_region ?_
      refine so_move (v := (.v v123)) rfl ?_
      refine so_move (v := (.v (.flt .f32 (l0.getD (x124).toNat (0 : Nat))))) rfl ?_
      refine sv_callS (impl_hexOf_ok (l0.getD (x124).toNat (0 : Nat)) hs (fun _ hs => gt2 _ hs.tl) (fun _ hs => gt6 _ hs.tl) _ h) (fun _ _ ⟨_, _, _, e⟩ => e) rfl rfl ?_
      clear h
      rintro _ _ ⟨y127, h, rfl, rfl⟩
      refine sv_bslice hs eStr ([y127] : List (List UInt8)) [[(.str (pk y127))]] F12.te83 F12.sz9 F12.ze9 rfl rfl rfl rfl (fun _ => rfl) rfl (by decide) nofun (fun v129 H130 nv129 hs => ?_)
      obtain ⟨c134, h⟩ := h
      refine sv_app hs 1 rfl (hs.shows 0 rfl) (fun _ => rfl) (by decide) F12.ta83_83 (by decide) c134 rfl rfl nofun (fun v132 H133 kv132 hs => ?_)
      replace hs := hs.del 0
      have nv132 := kv132 nv123
      refine so_assign (v := (.v v132)) rfl ?_
      refine so_nil ?_
      refine fi_inBlock ?_
      refine fi_region ?_
      refine so_bin rfl rfl ab_add ?_
      refine so_move (v := (.v (.int .i64 (IntKind.i64.wrap (x124 + (1 : Int)))))) rfl ?_
      refine so_nil ?_
      exact fi_at [(4, (.v v132)), (11, (.v v0)), (12, (.v (.int .i64 (l0.length : Int)))), (13, (.v (.int .i64 (IntKind.i64.wrap (x124 + (1 : Int))))))] ⟨rfl, rfl, rfl, rfl, trivial⟩ (h _ _ _ nv132 hs)
    · refine fi_false rfl (decide_eq_false c125) ?_
      refine fi_exit rfl ?_
      refine fi_seq ?_
      refine fi_region ?_
      refine so_move (v := (.v v123)) rfl ?_
      refine sv_callS (impl_joined_ok v123 texts122 hs (fun _ hs => (hs.shows 0 rfl)) _ h) (fun _ _ ⟨_, _, _, e⟩ => e) rfl rfl ?_
      clear h
      rintro _ _ ⟨y135, h, rfl, rfl⟩
      refine so_assign (v := (.v (.str (pk y135)))) rfl ?_
      refine so_assign (v := (.v (.bool true))) rfl ?_
      refine so_nil ?_
      exact by_ret rfl ⟨_, _, h, rfl, (Sep.del 0 hs)⟩
theorem impl_NumbersText_okS {fr : List Pc} {H : Heap} (v0 : AV) (l0 : List (Nat)) (hs : Sep H fr) (g0 : ∀ H, Sep H fr → Shows H v0 1 (enc (eFlt .f32) l0)) (gt2 : ∀ H, Sep H fr → HasTab 2 F.tab2 H) (gt6 : ∀ H, Sep H fr → HasTab 6 F.tab6 H) (K : (List UInt8) → Bool → Prop) (h : impl_NumbersText.wp l0 K) : OkQ Tryz.prog 12 [(.v v0)] H (fun r H2 => ∃ (y0 : List UInt8) (y1 : Bool), K y0 y1 ∧ r = (.t [(.v (.str (pk y0))), (.v (.bool y1))]) ∧ H = H2) := by
  obtain ⟨r, H2, h1, y0, y1, hK, hr, hsep⟩ := impl_NumbersText_ok (fr := came H) (H := H) v0 l0 (came_sep H) (came_shows (g0 H hs)) (came_tab (gt2 H hs)) (came_tab (gt6 H hs)) K h
  have hk : H.n ≤ H2.n ∧ ∀ i, i < H.n → H2.f i = H.f i := hsep.1.2.1
  exact ⟨r, H, h1.forget hk.1 hk.2 (by subst hr; rfl), y0, y1, hK, hr, rfl⟩

end Go.Proofs.YtmbkjkcolmoioaaGreatDoor.G

namespace Go.Proofs.YtmbkjkcolmoioaaGreatDoor.G
open Go Go.Ab Go.Proofs Go.Proofs.YtmbkjkcolmoioaaGreatDoor
set_option maxRecDepth 100000
set_option linter.unusedVariables false
set_option linter.unusedSimpArgs false
set_option maxHeartbeats 1000000
attribute [local irreducible] wops wopf Go.Ab.Fin
theorem internal_strconv_lower_ok {fr : List Pc} {H : Heap} (a0 : Int) (hs : Sep H (fr))  (K : Int → Prop) (h : internal_strconv_lower.wp a0 K) : OkQ Tryz.prog 222 [(.v (.int .u8 a0))] H (fun r H2 => ∃ (y0 : Int), K y0 ∧ r = (.v (.int .u8 y0)) ∧ H = H2) := by
  unfold internal_strconv_lower.wp at h
  refine of_body Tryz.f222 F.hm Tryz.func222 rfl Tryz.call222 (by kernel_rfl) (by simp) ?_
  refine fi_seq ?_
  refine fi_region ?_
  refine so_assign (v := (.v (.int .u8 (0 : Int)))) rfl ?_
  refine so_nil ?_
  refine fi_seq ?_
  refine fi_region ?_
  refine so_move (v := (.v (.int .u8 a0))) rfl ?_
  refine so_bin rfl rfl ab_or ?_
  refine so_assign (v := (.v (.int .u8 (ibits .or .u8 a0 (32 : Int))))) rfl ?_
  refine so_nil ?_
  exact by_ret rfl ⟨_, h, rfl, rfl⟩

end Go.Proofs.YtmbkjkcolmoioaaGreatDoor.G

namespace Go.Proofs.YtmbkjkcolmoioaaGreatDoor.G
open Go Go.Ab Go.Proofs Go.Proofs.YtmbkjkcolmoioaaGreatDoor
set_option maxRecDepth 100000
set_option linter.unusedVariables false
set_option linter.unusedSimpArgs false
set_option maxHeartbeats 1000000
attribute [local irreducible] wops wopf Go.Ab.Fin
theorem internal_strconv_underscoreOK_ok {fr : List Pc} {H : Heap} (a0 : List UInt8) (hs : Sep H (fr))  (K : Bool → Prop) (h : internal_strconv_underscoreOK.wp a0 K) : OkQ Tryz.prog 223 [(.v (.str (pk a0)))] H (fun r H2 => ∃ (y0 : Bool), K y0 ∧ r = (.v (.bool y0)) ∧ Sep H2 (fr)) := by
  unfold internal_strconv_underscoreOK.wp at h
  refine of_body Tryz.f223 F.hm Tryz.func223 rfl Tryz.call223 (by kernel_rfl) (by simp) ?_
  exact h.elim

end Go.Proofs.YtmbkjkcolmoioaaGreatDoor.G

