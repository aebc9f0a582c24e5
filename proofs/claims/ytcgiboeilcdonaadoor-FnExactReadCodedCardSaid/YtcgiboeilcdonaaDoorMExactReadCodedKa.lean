/-
  The model ends so. Printed by a program of the session; nothing here is trusted.
-/
import Derived.Test.YtcgiboeilcdonaaDoorProg
import Derived.KernelRfl
import Derived.Test.YtcgiboeilcdonaaDoorMExactReadCodedWa
import Derived.Test.YtcgiboeilcdonaaDoorShelf
namespace Go.Proofs.YtcgiboeilcdonaaDoor.F
open Go Go.Ab Go.Proofs
set_option maxRecDepth 100000
set_option linter.unusedVariables false
set_option linter.unusedSimpArgs false
set_option maxHeartbeats 1000000
theorem hm : Tryd.prog.follows .mixedOrders = true := by kernel_rfl
def tab4 : Obj → Prop := showsTab Tryd.prog "internal/strconv.uint64pow10" .u64 Lib.pow10Tab 4
def tab8 : Obj → Prop := showsTab Tryd.prog "math/bits.deBruijn64tab" .u8 (Lib.deBruijn64tab.map Int.ofNat) 8
def tab6 : Obj → Prop := holdsErr 6
def tab5 : Obj → Prop := holdsErr 5
end Go.Proofs.YtcgiboeilcdonaaDoor.F

namespace Go.Proofs.YtcgiboeilcdonaaDoor.G
open Go Go.Ab Go.Proofs Go.Proofs.YtcgiboeilcdonaaDoor
set_option maxRecDepth 100000
set_option linter.unusedVariables false
set_option linter.unusedSimpArgs false
set_option maxHeartbeats 1000000
attribute [local irreducible] wops wopf Go.Ab.Fin
theorem F13.ag4 : tagg Tryd.prog 4 = some false := by kernel_rfl
theorem F13.tb4 : tbool Tryd.prog 4 = true := by kernel_rfl
theorem F13.ti22 : (telem Tryd.prog 22).isSome = true := by kernel_rfl
theorem F13.tl22 : (telem Tryd.prog 22).bind (tsz Tryd.prog) = some 1 := by kernel_rfl
theorem laws_eqBoolS_ok {fr : List Pc} {H : Heap} (v0 : AV) (l0 : List (Bool)) (v1 : AV) (l1 : List (Bool)) (hs : Sep H (fr)) (g0 : ∀ H, Sep H fr → Shows H v0 1 (enc eBool l0)) (g1 : ∀ H, Sep H fr → Shows H v1 1 (enc eBool l1)) (K : Bool → Prop) (h : laws_eqBoolS.wp l0 l1 K) : OkQ Tryd.prog 13 [(.v v0), (.v v1)] H (fun r H2 => ∃ (y0 : Bool), K y0 ∧ r = (.v (.bool y0)) ∧ H = H2) := by
  unfold laws_eqBoolS.wp at h
  refine of_body Tryd.f13 F.hm Tryd.func13 rfl Tryd.call13 (by kernel_rfl) (by simp) ?_
  refine fi_seq ?_
  refine fi_region ?_
  refine so_assign (v := (.v (.bool false))) rfl ?_
  refine so_nil ?_
  refine fi_seq ?_
  refine fi_seq ?_
  refine fi_region ?_
  refine so_move (v := (.v v0)) rfl ?_
  refine sv_len (g0 _ hs) (fun _ => rfl) (by decide) rfl F13.ti22 ?_
  refine so_move (v := (.v v1)) rfl ?_
  refine sv_len (g1 _ hs) (fun _ => rfl) (by decide) rfl F13.ti22 ?_
  refine so_bin rfl rfl ab_neq ?_
  refine so_nil ?_
  replace h := ofP h; rcases h with ⟨c101, h⟩ | ⟨c101, h⟩
  · refine fi_false rfl (not_f (decide_eq_true c101)) ?_
    refine fi_skip ?_
    refine fi_seq ?_
    refine fi_seq ?_
    refine fi_region ?_
    refine so_assign (v := (.v (.int .i64 (0 : Int)))) rfl ?_
    refine so_nil ?_
    refine fi_block ?_
    refine fi_loop ?_
    refine fi_at [(0, (.v v0)), (1, (.v v1)), (5, (.v (.int .i64 (0 : Int))))] ⟨rfl, rfl, rfl, trivial⟩ ?_
    refine h (fun (i103 : Int) => ∀ (s : Nat → TV), Fin _ _ (updL s [(0, (.v v0)), (1, (.v v1)), (5, (.v (.int .i64 i103)))]) _ _) ?_ _
    intro i103 h s108
    refine fi_inLoop ?_
    refine fi_seq ?_
    refine fi_seq ?_
    refine fi_region ?_
    refine so_move (v := (.v (.int .i64 i103))) rfl ?_
    refine so_move (v := (.v v0)) rfl ?_
    refine sv_len (g0 _ hs) (fun _ => rfl) (by decide) rfl F13.ti22 ?_
    refine so_bin rfl rfl ab_lss ?_
    refine so_nil ?_
    replace h := ofP h; rcases h with ⟨c104, h⟩ | ⟨c104, h⟩
    · refine fi_true rfl (decide_eq_true c104) ?_
      refine fi_skip ?_
      refine fi_seq ?_
      refine fi_block ?_
      refine fi_seq ?_
      refine fi_region ?_
      refine so_move (v := (.v v0)) rfl ?_
      refine so_move (v := (.v (.int .i64 i103))) rfl ?_
      obtain ⟨c105, h⟩ := h
      refine sv_idx (g0 _ hs) c105 (fun _ => rfl) (by decide) rfl rfl F13.tl22 ?_
      refine sv_cell (g0 _ hs) c105 false 0 (fun x => (AV.bool x)) (fun _ => rfl) (fun _ => rfl) rfl F13.ag4 ?_
      refine so_move (v := (.v v1)) rfl ?_
      refine so_move (v := (.v (.int .i64 i103))) rfl ?_
      obtain ⟨c106, h⟩ := h
      refine sv_idx (g1 _ hs) c106 (fun _ => rfl) (by decide) rfl rfl F13.tl22 ?_
      refine sv_cell (g1 _ hs) c106 false 0 (fun x => (AV.bool x)) (fun _ => rfl) (fun _ => rfl) rfl F13.ag4 ?_
      refine so_bin rfl rfl (ab_bneq F13.tb4) ?_
      refine so_nil ?_
      replace h := ofT h; rcases h with ⟨c107, h⟩ | ⟨c107, h⟩
      · refine fi_false rfl (not_f c107) ?_
        refine fi_skip ?_
        refine fi_inBlock ?_
        refine fi_region ?_
        refine so_move (v := (.v (.int .i64 i103))) rfl ?_
        refine so_bin rfl rfl ab_add ?_
        refine so_assign (v := (.v (.int .i64 (IntKind.i64.wrap (i103 + (1 : Int)))))) rfl ?_
        refine so_nil ?_
        exact fi_at [(0, (.v v0)), (1, (.v v1)), (5, (.v (.int .i64 (IntKind.i64.wrap (i103 + (1 : Int))))))] ⟨rfl, rfl, rfl, trivial⟩ (h _)
      · refine fi_true rfl (not_t c107) ?_
        refine fi_seq ?_
        refine fi_region ?_
        refine so_assign (v := (.v (.bool false))) rfl ?_
        refine so_nil ?_
        exact by_ret rfl ⟨_, h, rfl, rfl⟩
    · refine fi_false rfl (decide_eq_false c104) ?_
      refine fi_exit rfl ?_
      refine fi_seq ?_
      refine fi_region ?_
      refine so_assign (v := (.v (.bool true))) rfl ?_
      refine so_nil ?_
      exact by_ret rfl ⟨_, h, rfl, rfl⟩
  · refine fi_true rfl (not_t (decide_eq_false c101)) ?_
    refine fi_seq ?_
    refine fi_region ?_
    refine so_assign (v := (.v (.bool false))) rfl ?_
    refine so_nil ?_
    exact by_ret rfl ⟨_, h, rfl, rfl⟩

end Go.Proofs.YtcgiboeilcdonaaDoor.G

namespace Go.Proofs.YtcgiboeilcdonaaDoor.G
open Go Go.Ab Go.Proofs Go.Proofs.YtcgiboeilcdonaaDoor
set_option maxRecDepth 100000
set_option linter.unusedVariables false
set_option linter.unusedSimpArgs false
set_option maxHeartbeats 1000000
attribute [local irreducible] wops wopf Go.Ab.Fin
theorem F29.ag2 : tagg Tryd.prog 2 = some false := by kernel_rfl
theorem F29.ag22 : tagg Tryd.prog 22 = some false := by kernel_rfl
theorem F29.fd41_0 : tfield Tryd.prog 41 0 = some (0, 1, false) := by kernel_rfl
theorem F29.fd41_1 : tfield Tryd.prog 41 1 = some (1, 1, false) := by kernel_rfl
theorem F29.fd41_2 : tfield Tryd.prog 41 2 = some (2, 1, false) := by kernel_rfl
theorem F29.inf41 : (Tryd.prog.info? 41).isSome = true := by kernel_rfl
theorem laws_eqCoded_ok {fr : List Pc} {H : Heap} (a0 : Int) (a1 : Int) (v2 : AV) (l2 : List (Bool)) (a3 : Int) (a4 : Int) (v5 : AV) (l5 : List (Bool)) (hs : Sep H (fr)) (g2 : ∀ H, Sep H fr → Shows H v2 1 (enc eBool l2)) (g5 : ∀ H, Sep H fr → Shows H v5 1 (enc eBool l5)) (K : Bool → Prop) (h : laws_eqCoded.wp a0 a1 l2 a3 a4 l5 K) : OkQ Tryd.prog 29 [(.g [(.int .i64 a0), (.int .i64 a1), v2]), (.g [(.int .i64 a3), (.int .i64 a4), v5])] H (fun r H2 => ∃ (y0 : Bool), K y0 ∧ r = (.v (.bool y0)) ∧ Sep H2 (fr)) := by
  unfold laws_eqCoded.wp at h
  refine of_body Tryd.f29 F.hm Tryd.func29 rfl Tryd.call29 (by kernel_rfl) (by simp) ?_
  refine fi_seq ?_
  refine fi_region ?_
  refine sv_box hs rfl (c := [(.int .i64 a0), (.int .i64 a1), v2]) rfl F29.inf41 (stc rfl (stc rfl (stc (g2 _ hs).stor stn))) nofun (fun id101 H102 hs => ?_)
  refine sv_box hs rfl (c := [(.int .i64 a3), (.int .i64 a4), v5]) rfl F29.inf41 (stc rfl (stc rfl (stc (g5 _ hs.tl).stor stn))) nofun (fun id104 H105 hs => ?_)
  refine so_assign (v := (.v (.bool false))) rfl ?_
  refine so_nil ?_
  refine fi_seq ?_
  refine fi_seq ?_
  refine fi_region ?_
  refine so_fieldAddr rfl F29.fd41_0 ?_
  refine sv_ld hs 1 rfl rfl rfl F29.ag2 ?_
  refine so_fieldAddr rfl F29.fd41_0 ?_
  refine sv_ld hs 0 rfl rfl rfl F29.ag2 ?_
  refine so_bin rfl rfl ab_neq ?_
  refine so_nil ?_
  replace h := ofP h; rcases h with ⟨c107, h⟩ | ⟨c107, h⟩
  · refine fi_false rfl (not_f (decide_eq_true c107)) ?_
    refine fi_skip ?_
    refine fi_seq ?_
    refine fi_seq ?_
    refine fi_region ?_
    refine so_fieldAddr rfl F29.fd41_1 ?_
    refine sv_ld hs 1 rfl rfl rfl F29.ag2 ?_
    refine so_fieldAddr rfl F29.fd41_1 ?_
    refine sv_ld hs 0 rfl rfl rfl F29.ag2 ?_
    refine so_bin rfl rfl ab_neq ?_
    refine so_nil ?_
    replace h := ofP h; rcases h with ⟨c108, h⟩ | ⟨c108, h⟩
    · refine fi_false rfl (not_f (decide_eq_true c108)) ?_
      refine fi_skip ?_
      refine fi_seq ?_
      refine fi_seq ?_
      refine fi_region ?_
      refine so_fieldAddr rfl F29.fd41_2 ?_
      refine sv_ld hs 1 rfl rfl rfl F29.ag22 ?_
      refine so_fieldAddr rfl F29.fd41_2 ?_
      refine sv_ld hs 0 rfl rfl rfl F29.ag22 ?_
      refine sv_callS (laws_eqBoolS_ok v2 l2 v5 l5 hs (fun _ hs => (g2 _ hs.tl.tl)) (fun _ hs => (g5 _ hs.tl.tl)) _ h) (fun _ _ ⟨_, _, _, e⟩ => e) rfl rfl ?_
      clear h
      rintro _ _ ⟨y109, h, rfl, rfl⟩
      refine so_un rfl au_not ?_
      refine so_nil ?_
      replace h := ofT h; rcases h with ⟨c111, h⟩ | ⟨c111, h⟩
      · refine fi_false rfl (not_f c111) ?_
        refine fi_skip ?_
        refine fi_seq ?_
        refine fi_region ?_
        refine so_assign (v := (.v (.bool true))) rfl ?_
        refine so_nil ?_
        exact by_ret rfl ⟨_, h, rfl, (Sep.del 0 (Sep.del 0 hs))⟩
      · refine fi_true rfl (not_t c111) ?_
        refine fi_seq ?_
        refine fi_region ?_
        refine so_assign (v := (.v (.bool false))) rfl ?_
        refine so_nil ?_
        exact by_ret rfl ⟨_, h, rfl, (Sep.del 0 (Sep.del 0 hs))⟩
    · refine fi_true rfl (not_t (decide_eq_false c108)) ?_
      refine fi_seq ?_
      refine fi_region ?_
      refine so_assign (v := (.v (.bool false))) rfl ?_
      refine so_nil ?_
      exact by_ret rfl ⟨_, h, rfl, (Sep.del 0 (Sep.del 0 hs))⟩
  · refine fi_true rfl (not_t (decide_eq_false c107)) ?_
    refine fi_seq ?_
    refine fi_region ?_
    refine so_assign (v := (.v (.bool false))) rfl ?_
    refine so_nil ?_
    exact by_ret rfl ⟨_, h, rfl, (Sep.del 0 (Sep.del 0 hs))⟩
theorem laws_eqCoded_okS {fr : List Pc} {H : Heap} (a0 : Int) (a1 : Int) (v2 : AV) (l2 : List (Bool)) (a3 : Int) (a4 : Int) (v5 : AV) (l5 : List (Bool)) (hs : Sep H fr) (g2 : ∀ H, Sep H fr → Shows H v2 1 (enc eBool l2)) (g5 : ∀ H, Sep H fr → Shows H v5 1 (enc eBool l5)) (K : Bool → Prop) (h : laws_eqCoded.wp a0 a1 l2 a3 a4 l5 K) : OkQ Tryd.prog 29 [(.g [(.int .i64 a0), (.int .i64 a1), v2]), (.g [(.int .i64 a3), (.int .i64 a4), v5])] H (fun r H2 => ∃ (y0 : Bool), K y0 ∧ r = (.v (.bool y0)) ∧ H = H2) := by
  obtain ⟨r, H2, h1, y0, hK, hr, hsep⟩ := laws_eqCoded_ok (fr := came H) (H := H) a0 a1 v2 l2 a3 a4 v5 l5 (came_sep H) (came_shows (g2 H hs)) (came_shows (g5 H hs)) K h
  have hk : H.n ≤ H2.n ∧ ∀ i, i < H.n → H2.f i = H.f i := hsep.1.2.1
  exact ⟨r, H, h1.forget hk.1 hk.2 (by subst hr; rfl), y0, hK, hr, rfl⟩

end Go.Proofs.YtcgiboeilcdonaaDoor.G

namespace Go.Proofs.YtcgiboeilcdonaaDoor.G
open Go Go.Ab Go.Proofs Go.Proofs.YtcgiboeilcdonaaDoor
set_option maxRecDepth 100000
set_option linter.unusedVariables false
set_option linter.unusedSimpArgs false
set_option maxHeartbeats 1000000
attribute [local irreducible] wops wopf Go.Ab.Fin
theorem F106.sr9 : tstr Tryd.prog 9 = true := by kernel_rfl
theorem F106.sz9 : tsz Tryd.prog 9 = some 1 := by kernel_rfl
theorem F106.ta28_28 : tapp Tryd.prog 28 28 = some (1, 16) := by kernel_rfl
theorem F106.te28 : telem Tryd.prog 28 = some 9 := by kernel_rfl
theorem F106.ze9 : tzero Tryd.prog 9 = some [(.str (pk ([] : List UInt8)))] := by kernel_rfl
theorem spec_l01Cut_ok {fr : List Pc} {H : Heap} (a0 : List UInt8) (a1 : Int) (hs : Sep H (fr))  (K : (List (List UInt8)) → Prop) (h : spec_l01Cut.wp a0 a1 K) : OkQ Tryd.prog 106 [(.v (.str (pk a0))), (.v (.int .u8 a1))] H (fun r H2 => ∃ (y0 : List (List UInt8)), K y0 ∧ ∃ (w0_ : AV), r = (.v w0_) ∧ Sep H2 (Pc.osl w0_ 1 (enc eStr y0) :: fr)) := by
  unfold spec_l01Cut.wp at h
  refine of_body Tryd.f106 F.hm Tryd.func106 rfl Tryd.call106 (by kernel_rfl) (by simp) ?_
  refine fi_seq ?_
  refine fi_region ?_
  refine so_assign (v := (.v .nilsl)) rfl ?_
  refine so_nil ?_
  refine fi_seq ?_
  refine fi_region ?_
  refine sv_bslice hs eStr ([] : List (List UInt8)) [] F106.te28 F106.sz9 F106.ze9 rfl rfl rfl rfl (fun _ => rfl) rfl (by decide) nofun (fun v101 H102 nv101 hs => ?_)
  refine so_assign (v := (.v v101)) rfl ?_
  refine so_nil ?_
  refine fi_seq ?_
  refine fi_region ?_
  refine so_assign (v := (.v (.int .i64 (0 : Int)))) rfl ?_
  refine so_nil ?_
  refine fi_seq ?_
  refine fi_seq ?_
  refine fi_region ?_
  refine so_assign (v := (.v (.int .i64 (0 : Int)))) rfl ?_
  refine so_nil ?_
  refine fi_block ?_
  refine fi_loop ?_
  refine fi_at [(0, (.v (.str (pk a0)))), (1, (.v (.int .u8 a1))), (5, (.v v101)), (6, (.v (.int .i64 (0 : Int)))), (7, (.v (.int .i64 (0 : Int))))] ⟨rfl, rfl, rfl, rfl, rfl, trivial⟩ ?_
  refine h (fun (out128 : List (List UInt8)) (fromq130 : Int) (i131 : Int) => ∀ (s : Nat → TV) (H : Heap) (v129 : AV) (nv129 : v129 ≠ .nilsl), Sep H (Pc.osl v129 1 (enc eStr out128) :: fr) → Fin _ _ (updL s [(0, (.v (.str (pk a0)))), (1, (.v (.int .u8 a1))), (5, (.v v129)), (6, (.v (.int .i64 fromq130))), (7, (.v (.int .i64 i131)))]) H _) ?_ _ _ _ nv101 hs
  intro out128 fromq130 i131 h s150 H151 v129 nv129 hs
  refine fi_inLoop ?_
  refine fi_seq ?_
  refine fi_seq ?_
  refine fi_region ?_
  refine so_move (v := (.v (.int .i64 i131))) rfl ?_
  refine so_move (v := (.v (.str (pk a0)))) rfl ?_
  refine so_slen rfl F106.sr9 ?_
  refine so_bin rfl rfl ab_leq ?_
  refine so_nil ?_
  replace h := ofP h; rcases h with ⟨c132, h⟩ | ⟨c132, h⟩
  · refine fi_true rfl (decide_eq_true c132) ?_
    refine fi_skip ?_
    refine fi_seq ?_
    refine fi_block ?_
    refine fi_seq ?_
    refine fi_region ?_
    refine so_move (v := (.v (.int .i64 i131))) rfl ?_
    refine so_move (v := (.v (.str (pk a0)))) rfl ?_
    refine so_slen rfl F106.sr9 ?_
    refine so_bin rfl rfl ab_eql ?_
    refine so_move (v := (.v (.bool (decide (i131 = (a0.length : Int)))))) rfl ?_
    replace h := ofP h; rcases h with ⟨c133, h⟩ | ⟨c133, h⟩
    · refine so_gno rfl (decide_eq_true c133) ?_
      refine so_gno rfl (decide_eq_true c133) ?_
      refine so_gno rfl (decide_eq_true c133) ?_
      refine so_gno rfl (decide_eq_true c133) ?_
      refine so_gno rfl (decide_eq_true c133) ?_
      refine so_pick_t (v := (.v (.bool true))) rfl (decide_eq_true c133) rfl ?_
      refine so_nil ?_
      refine fi_true rfl rfl ?_
      refine fi_seq ?_
      refine fi_region ?_
      refine so_move (v := (.v v129)) rfl ?_
      refine so_move (v := (.v (.str (pk a0)))) rfl ?_
      refine so_move (v := (.v (.int .i64 fromq130))) rfl ?_
      refine so_move (v := (.v (.int .i64 i131))) rfl ?_
      obtain ⟨c134, h⟩ := h
      refine so_sslice rfl rfl rfl F106.sr9 rfl rfl c134 ?_
      refine sv_bslice hs eStr ([((a0.drop (fromq130).toNat).take ((i131).toNat - (fromq130).toNat))] : List (List UInt8)) [[(.str (pk ((a0.drop (fromq130).toNat).take ((i131).toNat - (fromq130).toNat))))]] F106.te28 F106.sz9 F106.ze9 rfl rfl rfl rfl (fun _ => rfl) rfl (by decide) nofun (fun v135 H136 nv135 hs => ?_)
      obtain ⟨c140, h⟩ := h
      refine sv_app hs 1 rfl (hs.shows 0 rfl) (fun _ => rfl) (by decide) F106.ta28_28 (by decide) c140 rfl rfl nofun (fun v138 H139 kv138 hs => ?_)
      replace hs := hs.del 0
      have nv138 := kv138 nv129
      refine so_assign (v := (.v v138)) rfl ?_
      refine so_nil ?_
      refine fi_region ?_
      refine so_move (v := (.v (.int .i64 i131))) rfl ?_
      refine so_bin rfl rfl ab_add ?_
      refine so_assign (v := (.v (.int .i64 (IntKind.i64.wrap (i131 + (1 : Int)))))) rfl ?_
      refine so_nil ?_
      refine fi_inBlock ?_
      refine fi_region ?_
      refine so_move (v := (.v (.int .i64 i131))) rfl ?_
      refine so_bin rfl rfl ab_add ?_
      refine so_assign (v := (.v (.int .i64 (IntKind.i64.wrap (i131 + (1 : Int)))))) rfl ?_
      refine so_nil ?_
      exact fi_at [(0, (.v (.str (pk a0)))), (1, (.v (.int .u8 a1))), (5, (.v v138)), (6, (.v (.int .i64 (IntKind.i64.wrap (i131 + (1 : Int)))))), (7, (.v (.int .i64 (IntKind.i64.wrap (i131 + (1 : Int))))))] ⟨rfl, rfl, rfl, rfl, rfl, trivial⟩ (h _ _ _ nv138 hs)
    · refine so_gyes rfl (decide_eq_false c133) ?_
      refine so_move (v := (.v (.str (pk a0)))) rfl ?_
      refine so_gyes rfl (decide_eq_false c133) ?_
      refine so_move (v := (.v (.int .i64 i131))) rfl ?_
      refine so_gyes rfl (decide_eq_false c133) ?_
      obtain ⟨c141, h⟩ := h
      refine so_index rfl rfl F106.sr9 c141 ?_
      refine so_gyes rfl (decide_eq_false c133) ?_
      refine so_move (v := (.v (.int .u8 a1))) rfl ?_
      refine so_gyes rfl (decide_eq_false c133) ?_
      refine so_bin rfl rfl ab_eql ?_
      refine so_pick_f (v := (.v (.bool (decide ((bt a0 i131) = a1))))) rfl (decide_eq_false c133) rfl ?_
      refine so_nil ?_
      replace h := ofP h; rcases h with ⟨c142, h⟩ | ⟨c142, h⟩
      · refine fi_true rfl (decide_eq_true c142) ?_
        refine fi_seq ?_
        refine fi_region ?_
        refine so_move (v := (.v v129)) rfl ?_
        refine so_move (v := (.v (.str (pk a0)))) rfl ?_
        refine so_move (v := (.v (.int .i64 fromq130))) rfl ?_
        refine so_move (v := (.v (.int .i64 i131))) rfl ?_
        obtain ⟨c143, h⟩ := h
        refine so_sslice rfl rfl rfl F106.sr9 rfl rfl c143 ?_
        refine sv_bslice hs eStr ([((a0.drop (fromq130).toNat).take ((i131).toNat - (fromq130).toNat))] : List (List UInt8)) [[(.str (pk ((a0.drop (fromq130).toNat).take ((i131).toNat - (fromq130).toNat))))]] F106.te28 F106.sz9 F106.ze9 rfl rfl rfl rfl (fun _ => rfl) rfl (by decide) nofun (fun v144 H145 nv144 hs => ?_)
        obtain ⟨c149, h⟩ := h
        refine sv_app hs 1 rfl (hs.shows 0 rfl) (fun _ => rfl) (by decide) F106.ta28_28 (by decide) c149 rfl rfl nofun (fun v147 H148 kv147 hs => ?_)
        replace hs := hs.del 0
        have nv147 := kv147 nv129
        refine so_assign (v := (.v v147)) rfl ?_
        refine so_nil ?_
        refine fi_region ?_
        refine so_move (v := (.v (.int .i64 i131))) rfl ?_
        refine so_bin rfl rfl ab_add ?_
        refine so_assign (v := (.v (.int .i64 (IntKind.i64.wrap (i131 + (1 : Int)))))) rfl ?_
        refine so_nil ?_
        refine fi_inBlock ?_
        refine fi_region ?_
        refine so_move (v := (.v (.int .i64 i131))) rfl ?_
        refine so_bin rfl rfl ab_add ?_
        refine so_assign (v := (.v (.int .i64 (IntKind.i64.wrap (i131 + (1 : Int)))))) rfl ?_
        refine so_nil ?_
        exact fi_at [(0, (.v (.str (pk a0)))), (1, (.v (.int .u8 a1))), (5, (.v v147)), (6, (.v (.int .i64 (IntKind.i64.wrap (i131 + (1 : Int)))))), (7, (.v (.int .i64 (IntKind.i64.wrap (i131 + (1 : Int))))))] ⟨rfl, rfl, rfl, rfl, rfl, trivial⟩ (h _ _ _ nv147 hs)
      · refine fi_false rfl (decide_eq_false c142) ?_
        refine fi_skip ?_
        refine fi_inBlock ?_
        refine fi_region ?_
        refine so_move (v := (.v (.int .i64 i131))) rfl ?_
        refine so_bin rfl rfl ab_add ?_
        refine so_assign (v := (.v (.int .i64 (IntKind.i64.wrap (i131 + (1 : Int)))))) rfl ?_
        refine so_nil ?_
        exact fi_at [(0, (.v (.str (pk a0)))), (1, (.v (.int .u8 a1))), (5, (.v v129)), (6, (.v (.int .i64 fromq130))), (7, (.v (.int .i64 (IntKind.i64.wrap (i131 + (1 : Int))))))] ⟨rfl, rfl, rfl, rfl, rfl, trivial⟩ (h _ _ _ nv129 hs)
  · refine fi_false rfl (decide_eq_false c132) ?_
    refine fi_exit rfl ?_
    refine fi_seq ?_
    refine fi_region ?_
    refine so_move (v := (.v v129)) rfl ?_
    refine so_assign (v := (.v v129)) rfl ?_
    refine so_nil ?_
    exact by_ret rfl ⟨_, h, _, rfl, hs⟩

end Go.Proofs.YtcgiboeilcdonaaDoor.G

namespace Go.Proofs.YtcgiboeilcdonaaDoor.G
open Go Go.Ab Go.Proofs Go.Proofs.YtcgiboeilcdonaaDoor
set_option maxRecDepth 100000
set_option linter.unusedVariables false
set_option linter.unusedSimpArgs false
set_option maxHeartbeats 1000000
attribute [local irreducible] wops wopf Go.Ab.Fin
theorem spec_l00In_ok {fr : List Pc} {H : Heap} (a0 : Int) (a1 : Int) (a2 : Int) (hs : Sep H (fr))  (K : Bool → Prop) (h : spec_l00In.wp a0 a1 a2 K) : OkQ Tryd.prog 101 [(.v (.int .i64 a0)), (.v (.int .i64 a1)), (.v (.int .i64 a2))] H (fun r H2 => ∃ (y0 : Bool), K y0 ∧ r = (.v (.bool y0)) ∧ H = H2) := by
  unfold spec_l00In.wp at h
  refine of_body Tryd.f101 F.hm Tryd.func101 rfl Tryd.call101 (by kernel_rfl) (by simp) ?_
  refine fi_seq ?_
  refine fi_region ?_
  refine so_assign (v := (.v (.bool false))) rfl ?_
  refine so_nil ?_
  refine fi_seq ?_
  refine fi_region ?_
  refine so_move (v := (.v (.int .i64 a0))) rfl ?_
  refine so_move (v := (.v (.int .i64 a1))) rfl ?_
  refine so_bin rfl rfl ab_geq ?_
  refine so_move (v := (.v (.bool (decide (a1 ≤ a0))))) rfl ?_
  replace h := ofP h; rcases h with ⟨c101, h⟩ | ⟨c101, h⟩
  · refine so_gyes rfl (decide_eq_true c101) ?_
    refine so_move (v := (.v (.int .i64 a0))) rfl ?_
    refine so_gyes rfl (decide_eq_true c101) ?_
    refine so_move (v := (.v (.int .i64 a2))) rfl ?_
    refine so_gyes rfl (decide_eq_true c101) ?_
    refine so_bin rfl rfl ab_leq ?_
    refine so_pick_t (v := (.v (.bool (decide (a0 ≤ a2))))) rfl (decide_eq_true c101) rfl ?_
    refine so_assign (v := (.v (.bool (decide (a0 ≤ a2))))) rfl ?_
    refine so_nil ?_
    exact by_ret rfl ⟨_, h, rfl, rfl⟩
  · refine so_gno rfl (decide_eq_false c101) ?_
    refine so_gno rfl (decide_eq_false c101) ?_
    refine so_gno rfl (decide_eq_false c101) ?_
    refine so_pick_f (v := (.v (.bool false))) rfl (decide_eq_false c101) rfl ?_
    refine so_assign (v := (.v (.bool false))) rfl ?_
    refine so_nil ?_
    exact by_ret rfl ⟨_, h, rfl, rfl⟩

end Go.Proofs.YtcgiboeilcdonaaDoor.G

namespace Go.Proofs.YtcgiboeilcdonaaDoor.G
open Go Go.Ab Go.Proofs Go.Proofs.YtcgiboeilcdonaaDoor
set_option maxRecDepth 100000
set_option linter.unusedVariables false
set_option linter.unusedSimpArgs false
set_option maxHeartbeats 1000000
attribute [local irreducible] wops wopf Go.Ab.Fin
theorem F94.it5 : tint Tryd.prog 5 = some .u8 := by kernel_rfl
theorem F94.sr9 : tstr Tryd.prog 9 = true := by kernel_rfl
theorem F94.sz5 : tsz Tryd.prog 5 = some 1 := by kernel_rfl
theorem F94.ta72_72 : tapp Tryd.prog 72 72 = some (1, 1) := by kernel_rfl
theorem F94.te72 : telem Tryd.prog 72 = some 5 := by kernel_rfl
theorem F94.ti72 : (telem Tryd.prog 72).isSome = true := by kernel_rfl
theorem F94.us2 : (Tryd.prog.underlying 2).isSome = true := by kernel_rfl
theorem F94.us72 : (Tryd.prog.underlying 72).isSome = true := by kernel_rfl
theorem F94.ze5 : tzero Tryd.prog 5 = some [(.int .u8 (0 : Int))] := by kernel_rfl
theorem spec_l01Dec_ok {fr : List Pc} {H : Heap} (a0 : Int) (hs : Sep H (fr))  (K : (List UInt8) → Prop) (h : spec_l01Dec.wp a0 K) : OkQ Tryd.prog 94 [(.v (.int .i64 a0))] H (fun r H2 => ∃ (y0 : List UInt8), K y0 ∧ r = (.v (.str (pk y0))) ∧ Sep H2 (fr)) := by
  unfold spec_l01Dec.wp at h
  refine of_body Tryd.f94 F.hm Tryd.func94 rfl Tryd.call94 (by kernel_rfl) (by simp) ?_
  refine fi_seq ?_
  refine fi_region ?_
  refine so_assign (v := (.v (.str (pk ([] : List UInt8))))) rfl ?_
  refine so_nil ?_
  refine fi_seq ?_
  refine fi_region ?_
  refine sv_bslice hs (eInt .u8) ([] : List (Int)) [] F94.te72 F94.sz5 F94.ze5 rfl rfl rfl rfl (fun _ => rfl) rfl (by decide) nofun (fun v101 H102 nv101 hs => ?_)
  refine so_assign (v := (.v v101)) rfl ?_
  refine so_nil ?_
  refine fi_seq ?_
  refine fi_region ?_
  refine so_move (v := (.v (.int .i64 a0))) rfl ?_
  refine so_assign (v := (.v (.int .i64 a0))) rfl ?_
  refine so_nil ?_
  refine fi_seq ?_
  refine fi_block ?_
  refine fi_loop ?_
  refine fi_at [(0, (.v (.int .i64 a0))), (3, (.v v101)), (4, (.v (.int .i64 a0)))] ⟨rfl, rfl, rfl, trivial⟩ ?_
  refine h (fun (out105 : List (Int)) (rest107 : Int) => ∀ (s : Nat → TV) (H : Heap) (v106 : AV) (nv106 : v106 ≠ .nilsl), Sep H (Pc.osl v106 1 (enc (eInt .u8) out105) :: fr) → Fin _ _ (updL s [(0, (.v (.int .i64 a0))), (3, (.v v106)), (4, (.v (.int .i64 rest107)))]) H _) ?_ _ _ _ nv101 hs
  intro out105 rest107 h s143 H144 v106 nv106 hs
  refine fi_inLoop ?_
  refine fi_seq ?_
  refine fi_seq ?_
  refine fi_region ?_
  refine so_move (v := (.v v106)) rfl ?_
  refine sv_len (hs.shows 0 rfl) (fun _ => rfl) (by decide) rfl F94.ti72 ?_
  refine so_bin rfl rfl ab_eql ?_
  refine so_move (v := (.v (.bool (decide ((out105.length : Int) = (0 : Int)))))) rfl ?_
  replace h := ofP h; rcases h with ⟨c108, h⟩ | ⟨c108, h⟩
  · refine so_gno rfl (decide_eq_true c108) ?_
    refine so_gno rfl (decide_eq_true c108) ?_
    refine so_pick_t (v := (.v (.bool true))) rfl (decide_eq_true c108) rfl ?_
    refine so_nil ?_
    refine fi_true rfl rfl ?_
    refine fi_skip ?_
    refine fi_block ?_
    refine fi_seq ?_
    refine fi_region ?_
    refine so_move (v := (.v (.int .i64 rest107))) rfl ?_
    refine so_bin rfl rfl (ab_rem (by decide)) ?_
    refine so_assign (v := (.v (.int .i64 (Int.tmod rest107 (10 : Int))))) rfl ?_
    refine so_nil ?_
    refine fi_seq ?_
    refine fi_seq ?_
    refine fi_region ?_
    refine so_move (v := (.v (.int .i64 (Int.tmod rest107 (10 : Int))))) rfl ?_
    refine so_bin rfl rfl ab_lss ?_
    refine so_nil ?_
    replace h := ofP h; rcases h with ⟨c109, h⟩ | ⟨c109, h⟩
    · refine fi_true rfl (decide_eq_true c109) ?_
      refine fi_region ?_
      refine so_move (v := (.v (.int .i64 (Int.tmod rest107 (10 : Int))))) rfl ?_
      refine so_un rfl au_neg ?_
      refine so_assign (v := (.v (.int .i64 (IntKind.i64.wrap (0 - (Int.tmod rest107 (10 : Int))))))) rfl ?_
      refine so_nil ?_
      refine fi_seq ?_
      refine fi_region ?_
      refine so_move (v := (.v (.int .i64 (IntKind.i64.wrap (0 - (Int.tmod rest107 (10 : Int))))))) rfl ?_
      refine so_bin rfl rfl ab_add ?_
      refine sv_ii rfl F94.us2 F94.it5 ?_
      refine sv_bslice hs (eInt .u8) ([(IntKind.u8.wrap (IntKind.i64.wrap ((48 : Int) + (IntKind.i64.wrap (0 - (Int.tmod rest107 (10 : Int)))))))] : List (Int)) [[(.int .u8 (IntKind.u8.wrap (IntKind.i64.wrap ((48 : Int) + (IntKind.i64.wrap (0 - (Int.tmod rest107 (10 : Int))))))))]] F94.te72 F94.sz5 F94.ze5 rfl rfl rfl rfl (fun _ => rfl) rfl (by decide) nofun (fun v110 H111 nv110 hs => ?_)
      refine so_move (v := (.v v106)) rfl ?_
      obtain ⟨c115, h⟩ := h
      refine sv_app hs 0 rfl (hs.shows 1 rfl) (fun _ => rfl) (by decide) F94.ta72_72 (by decide) c115 rfl rfl nofun (fun v113 H114 kv113 hs => ?_)
      have nv113 := kv113 nv110
      refine so_assign (v := (.v v113)) rfl ?_
      refine so_nil ?_
      refine fi_region ?_
      refine so_move (v := (.v (.int .i64 rest107))) rfl ?_
      refine so_bin rfl rfl (ab_quo (by decide)) ?_
      refine so_assign (v := (.v (.int .i64 (IntKind.i64.wrap (Int.tdiv rest107 (10 : Int)))))) rfl ?_
      refine so_nil ?_
      refine fi_inBlock ?_
      exact fi_at [(0, (.v (.int .i64 a0))), (3, (.v v113)), (4, (.v (.int .i64 (IntKind.i64.wrap (Int.tdiv rest107 (10 : Int))))))] ⟨rfl, rfl, rfl, trivial⟩ (h _ _ _ nv113 (Sep.del 1 hs))
    · refine fi_false rfl (decide_eq_false c109) ?_
      refine fi_skip ?_
      refine fi_seq ?_
      refine fi_region ?_
      refine so_move (v := (.v (.int .i64 (Int.tmod rest107 (10 : Int))))) rfl ?_
      refine so_bin rfl rfl ab_add ?_
      refine sv_ii rfl F94.us2 F94.it5 ?_
      refine sv_bslice hs (eInt .u8) ([(IntKind.u8.wrap (IntKind.i64.wrap ((48 : Int) + (Int.tmod rest107 (10 : Int)))))] : List (Int)) [[(.int .u8 (IntKind.u8.wrap (IntKind.i64.wrap ((48 : Int) + (Int.tmod rest107 (10 : Int))))))]] F94.te72 F94.sz5 F94.ze5 rfl rfl rfl rfl (fun _ => rfl) rfl (by decide) nofun (fun v116 H117 nv116 hs => ?_)
      refine so_move (v := (.v v106)) rfl ?_
      obtain ⟨c121, h⟩ := h
      refine sv_app hs 0 rfl (hs.shows 1 rfl) (fun _ => rfl) (by decide) F94.ta72_72 (by decide) c121 rfl rfl nofun (fun v119 H120 kv119 hs => ?_)
      have nv119 := kv119 nv116
      refine so_assign (v := (.v v119)) rfl ?_
      refine so_nil ?_
      refine fi_region ?_
      refine so_move (v := (.v (.int .i64 rest107))) rfl ?_
      refine so_bin rfl rfl (ab_quo (by decide)) ?_
      refine so_assign (v := (.v (.int .i64 (IntKind.i64.wrap (Int.tdiv rest107 (10 : Int)))))) rfl ?_
      refine so_nil ?_
      refine fi_inBlock ?_
      exact fi_at [(0, (.v (.int .i64 a0))), (3, (.v v119)), (4, (.v (.int .i64 (IntKind.i64.wrap (Int.tdiv rest107 (10 : Int))))))] ⟨rfl, rfl, rfl, trivial⟩ (h _ _ _ nv119 (Sep.del 1 hs))
  · refine so_gyes rfl (decide_eq_false c108) ?_
    refine so_move (v := (.v (.int .i64 rest107))) rfl ?_
    refine so_gyes rfl (decide_eq_false c108) ?_
    refine so_bin rfl rfl ab_neq ?_
    refine so_pick_f (v := (.v (.bool (!(decide (rest107 = (0 : Int))))))) rfl (decide_eq_false c108) rfl ?_
    refine so_nil ?_
    replace h := ofP h; rcases h with ⟨c122, h⟩ | ⟨c122, h⟩
    · refine fi_false rfl (not_f (decide_eq_true c122)) ?_
      refine fi_exit rfl ?_
      refine fi_seq ?_
      refine fi_seq ?_
      refine fi_region ?_
      refine so_move (v := (.v (.int .i64 a0))) rfl ?_
      refine so_bin rfl rfl ab_lss ?_
      refine so_nil ?_
      replace h := ofP h; rcases h with ⟨c123, h⟩ | ⟨c123, h⟩
      · refine fi_true rfl (decide_eq_true c123) ?_
        refine fi_region ?_
        refine sv_bslice hs (eInt .u8) ([(45 : Int)] : List (Int)) [[(.int .u8 (45 : Int))]] F94.te72 F94.sz5 F94.ze5 rfl rfl rfl rfl (fun _ => rfl) rfl (by decide) nofun (fun v124 H125 nv124 hs => ?_)
        refine so_move (v := (.v v106)) rfl ?_
        obtain ⟨c129, h⟩ := h
        refine sv_app hs 0 rfl (hs.shows 1 rfl) (fun _ => rfl) (by decide) F94.ta72_72 (by decide) c129 rfl rfl nofun (fun v127 H128 kv127 hs => ?_)
        have nv127 := kv127 nv124
        refine so_assign (v := (.v v127)) rfl ?_
        refine so_nil ?_
        refine fi_seq ?_
        refine fi_region ?_
        refine so_move (v := (.v v127)) rfl ?_
        refine sv_bs (hs.shows 0 rfl) nv127 rfl F94.te72 F94.it5 F94.sr9 ?_
        refine so_assign (v := (.v (.str (pk (byts (([(45 : Int)] : List (Int)) ++ out105)))))) rfl ?_
        refine so_nil ?_
        exact by_ret rfl ⟨_, h, rfl, (Sep.del 0 (Sep.del 0 hs))⟩
      · refine fi_false rfl (decide_eq_false c123) ?_
        refine fi_skip ?_
        refine fi_seq ?_
        refine fi_region ?_
        refine so_move (v := (.v v106)) rfl ?_
        refine sv_bs (hs.shows 0 rfl) nv106 rfl F94.te72 F94.it5 F94.sr9 ?_
        refine so_assign (v := (.v (.str (pk (byts out105))))) rfl ?_
        refine so_nil ?_
        exact by_ret rfl ⟨_, h, rfl, (Sep.del 0 hs)⟩
    · refine fi_true rfl (not_t (decide_eq_false c122)) ?_
      refine fi_skip ?_
      refine fi_block ?_
      refine fi_seq ?_
      refine fi_region ?_
      refine so_move (v := (.v (.int .i64 rest107))) rfl ?_
      refine so_bin rfl rfl (ab_rem (by decide)) ?_
      refine so_assign (v := (.v (.int .i64 (Int.tmod rest107 (10 : Int))))) rfl ?_
      refine so_nil ?_
      refine fi_seq ?_
      refine fi_seq ?_
      refine fi_region ?_
      refine so_move (v := (.v (.int .i64 (Int.tmod rest107 (10 : Int))))) rfl ?_
      refine so_bin rfl rfl ab_lss ?_
      refine so_nil ?_
      replace h := ofP h; rcases h with ⟨c130, h⟩ | ⟨c130, h⟩
      · refine fi_true rfl (decide_eq_true c130) ?_
        refine fi_region ?_
        refine so_move (v := (.v (.int .i64 (Int.tmod rest107 (10 : Int))))) rfl ?_
        refine so_un rfl au_neg ?_
        refine so_assign (v := (.v (.int .i64 (IntKind.i64.wrap (0 - (Int.tmod rest107 (10 : Int))))))) rfl ?_
        refine so_nil ?_
        refine fi_seq ?_
        refine fi_region ?_
        refine so_move (v := (.v (.int .i64 (IntKind.i64.wrap (0 - (Int.tmod rest107 (10 : Int))))))) rfl ?_
        refine so_bin rfl rfl ab_add ?_
        refine sv_ii rfl F94.us2 F94.it5 ?_
        refine sv_bslice hs (eInt .u8) ([(IntKind.u8.wrap (IntKind.i64.wrap ((48 : Int) + (IntKind.i64.wrap (0 - (Int.tmod rest107 (10 : Int)))))))] : List (Int)) [[(.int .u8 (IntKind.u8.wrap (IntKind.i64.wrap ((48 : Int) + (IntKind.i64.wrap (0 - (Int.tmod rest107 (10 : Int))))))))]] F94.te72 F94.sz5 F94.ze5 rfl rfl rfl rfl (fun _ => rfl) rfl (by decide) nofun (fun v131 H132 nv131 hs => ?_)
        refine so_move (v := (.v v106)) rfl ?_
        obtain ⟨c136, h⟩ := h
        refine sv_app hs 0 rfl (hs.shows 1 rfl) (fun _ => rfl) (by decide) F94.ta72_72 (by decide) c136 rfl rfl nofun (fun v134 H135 kv134 hs => ?_)
        have nv134 := kv134 nv131
        refine so_assign (v := (.v v134)) rfl ?_
        refine so_nil ?_
        refine fi_region ?_
        refine so_move (v := (.v (.int .i64 rest107))) rfl ?_
        refine so_bin rfl rfl (ab_quo (by decide)) ?_
        refine so_assign (v := (.v (.int .i64 (IntKind.i64.wrap (Int.tdiv rest107 (10 : Int)))))) rfl ?_
        refine so_nil ?_
        refine fi_inBlock ?_
        exact fi_at [(0, (.v (.int .i64 a0))), (3, (.v v134)), (4, (.v (.int .i64 (IntKind.i64.wrap (Int.tdiv rest107 (10 : Int))))))] ⟨rfl, rfl, rfl, trivial⟩ (h _ _ _ nv134 (Sep.del 1 hs))
      · refine fi_false rfl (decide_eq_false c130) ?_
        refine fi_skip ?_
        refine fi_seq ?_
        refine fi_region ?_
        refine so_move (v := (.v (.int .i64 (Int.tmod rest107 (10 : Int))))) rfl ?_
        refine so_bin rfl rfl ab_add ?_
        refine sv_ii rfl F94.us2 F94.it5 ?_
        refine sv_bslice hs (eInt .u8) ([(IntKind.u8.wrap (IntKind.i64.wrap ((48 : Int) + (Int.tmod rest107 (10 : Int)))))] : List (Int)) [[(.int .u8 (IntKind.u8.wrap (IntKind.i64.wrap ((48 : Int) + (Int.tmod rest107 (10 : Int))))))]] F94.te72 F94.sz5 F94.ze5 rfl rfl rfl rfl (fun _ => rfl) rfl (by decide) nofun (fun v137 H138 nv137 hs => ?_)
        refine so_move (v := (.v v106)) rfl ?_
        obtain ⟨c142, h⟩ := h
        refine sv_app hs 0 rfl (hs.shows 1 rfl) (fun _ => rfl) (by decide) F94.ta72_72 (by decide) c142 rfl rfl nofun (fun v140 H141 kv140 hs => ?_)
        have nv140 := kv140 nv137
        refine so_assign (v := (.v v140)) rfl ?_
        refine so_nil ?_
        refine fi_region ?_
        refine so_move (v := (.v (.int .i64 rest107))) rfl ?_
        refine so_bin rfl rfl (ab_quo (by decide)) ?_
        refine so_assign (v := (.v (.int .i64 (IntKind.i64.wrap (Int.tdiv rest107 (10 : Int)))))) rfl ?_
        refine so_nil ?_
        refine fi_inBlock ?_
        exact fi_at [(0, (.v (.int .i64 a0))), (3, (.v v140)), (4, (.v (.int .i64 (IntKind.i64.wrap (Int.tdiv rest107 (10 : Int))))))] ⟨rfl, rfl, rfl, trivial⟩ (h _ _ _ nv140 (Sep.del 1 hs))
theorem spec_l01Dec_okS {fr : List Pc} {H : Heap} (a0 : Int) (hs : Sep H fr)  (K : (List UInt8) → Prop) (h : spec_l01Dec.wp a0 K) : OkQ Tryd.prog 94 [(.v (.int .i64 a0))] H (fun r H2 => ∃ (y0 : List UInt8), K y0 ∧ r = (.v (.str (pk y0))) ∧ H = H2) := by
  obtain ⟨r, H2, h1, y0, hK, hr, hsep⟩ := spec_l01Dec_ok (fr := came H) (H := H) a0 (came_sep H)  K h
  have hk : H.n ≤ H2.n ∧ ∀ i, i < H.n → H2.f i = H.f i := hsep.1.2.1
  exact ⟨r, H, h1.forget hk.1 hk.2 (by subst hr; rfl), y0, hK, hr, rfl⟩

end Go.Proofs.YtcgiboeilcdonaaDoor.G

namespace Go.Proofs.YtcgiboeilcdonaaDoor.G
open Go Go.Ab Go.Proofs Go.Proofs.YtcgiboeilcdonaaDoor
set_option maxRecDepth 100000
set_option linter.unusedVariables false
set_option linter.unusedSimpArgs false
set_option maxHeartbeats 1000000
attribute [local irreducible] wops wopf Go.Ab.Fin
theorem F131.it2 : tint Tryd.prog 2 = some .i64 := by kernel_rfl
theorem F131.sr9 : tstr Tryd.prog 9 = true := by kernel_rfl
theorem F131.us5 : (Tryd.prog.underlying 5).isSome = true := by kernel_rfl
theorem spec_l01Value_ok {fr : List Pc} {H : Heap} (a0 : List UInt8) (hs : Sep H (fr))  (K : Int → Bool → Prop) (h : spec_l01Value.wp a0 K) : OkQ Tryd.prog 131 [(.v (.str (pk a0)))] H (fun r H2 => ∃ (y0 : Int) (y1 : Bool), K y0 y1 ∧ r = (.t [(.v (.int .i64 y0)), (.v (.bool y1))]) ∧ H = H2) := by
  unfold spec_l01Value.wp at h
  refine of_body Tryd.f131 F.hm Tryd.func131 rfl Tryd.call131 (by kernel_rfl) (by simp) ?_
  refine fi_seq ?_
  refine fi_region ?_
  refine so_assign (v := (.v (.int .i64 (0 : Int)))) rfl ?_
  refine so_assign (v := (.v (.bool false))) rfl ?_
  refine so_nil ?_
  refine fi_seq ?_
  refine fi_seq ?_
  refine fi_region ?_
  refine so_move (v := (.v (.str (pk a0)))) rfl ?_
  refine so_slen rfl F131.sr9 ?_
  refine so_bin rfl rfl ab_lss ?_
  refine so_move (v := (.v (.bool (decide ((a0.length : Int) < (1 : Int)))))) rfl ?_
  replace h := ofP h; rcases h with ⟨c101, h⟩ | ⟨c101, h⟩
  · refine so_gno rfl (decide_eq_true c101) ?_
    refine so_gno rfl (decide_eq_true c101) ?_
    refine so_gno rfl (decide_eq_true c101) ?_
    refine so_pick_t (v := (.v (.bool true))) rfl (decide_eq_true c101) rfl ?_
    refine so_nil ?_
    refine fi_true rfl rfl ?_
    refine fi_seq ?_
    refine fi_region ?_
    refine so_assign (v := (.v (.int .i64 (0 : Int)))) rfl ?_
    refine so_assign (v := (.v (.bool false))) rfl ?_
    refine so_nil ?_
    exact by_ret rfl ⟨_, _, h, rfl, rfl⟩
  · refine so_gyes rfl (decide_eq_false c101) ?_
    refine so_move (v := (.v (.str (pk a0)))) rfl ?_
    refine so_gyes rfl (decide_eq_false c101) ?_
    refine so_slen rfl F131.sr9 ?_
    refine so_gyes rfl (decide_eq_false c101) ?_
    refine so_bin rfl rfl ab_gtr ?_
    refine so_pick_f (v := (.v (.bool (decide ((17 : Int) < (a0.length : Int)))))) rfl (decide_eq_false c101) rfl ?_
    refine so_nil ?_
    replace h := ofP h; rcases h with ⟨c102, h⟩ | ⟨c102, h⟩
    · refine fi_true rfl (decide_eq_true c102) ?_
      refine fi_seq ?_
      refine fi_region ?_
      refine so_assign (v := (.v (.int .i64 (0 : Int)))) rfl ?_
      refine so_assign (v := (.v (.bool false))) rfl ?_
      refine so_nil ?_
      exact by_ret rfl ⟨_, _, h, rfl, rfl⟩
    · refine fi_false rfl (decide_eq_false c102) ?_
      refine fi_skip ?_
      refine fi_seq ?_
      refine fi_region ?_
      refine so_assign (v := (.v (.int .i64 (0 : Int)))) rfl ?_
      refine so_nil ?_
      refine fi_seq ?_
      refine fi_seq ?_
      refine fi_region ?_
      refine so_assign (v := (.v (.int .i64 (0 : Int)))) rfl ?_
      refine so_nil ?_
      refine fi_block ?_
      refine fi_loop ?_
      refine fi_at [(0, (.v (.str (pk a0)))), (4, (.v (.int .i64 (0 : Int)))), (5, (.v (.int .i64 (0 : Int))))] ⟨rfl, rfl, rfl, trivial⟩ ?_
      refine h (fun (n104 : Int) (i105 : Int) => ∀ (s : Nat → TV), Fin _ _ (updL s [(0, (.v (.str (pk a0)))), (4, (.v (.int .i64 n104))), (5, (.v (.int .i64 i105)))]) _ _) ?_ _
      intro n104 i105 h s124
      refine fi_inLoop ?_
      refine fi_seq ?_
      refine fi_seq ?_
      refine fi_region ?_
      refine so_move (v := (.v (.int .i64 i105))) rfl ?_
      refine so_move (v := (.v (.str (pk a0)))) rfl ?_
      refine so_slen rfl F131.sr9 ?_
      refine so_bin rfl rfl ab_lss ?_
      refine so_nil ?_
      replace h := ofP h; rcases h with ⟨c106, h⟩ | ⟨c106, h⟩
      · refine fi_true rfl (decide_eq_true c106) ?_
        refine fi_skip ?_
        refine fi_seq ?_
        refine fi_block ?_
        refine fi_seq ?_
        refine fi_region ?_
        refine so_move (v := (.v (.str (pk a0)))) rfl ?_
        refine so_move (v := (.v (.int .i64 i105))) rfl ?_
        obtain ⟨c107, h⟩ := h
        refine so_index rfl rfl F131.sr9 c107 ?_
        refine so_bin rfl rfl ab_geq ?_
        refine so_move (v := (.v (.bool (decide ((48 : Int) ≤ (bt a0 i105)))))) rfl ?_
        replace h := ofP h; rcases h with ⟨c108, h⟩ | ⟨c108, h⟩
        · refine so_gyes rfl (decide_eq_true c108) ?_
          refine so_move (v := (.v (.str (pk a0)))) rfl ?_
          refine so_gyes rfl (decide_eq_true c108) ?_
          refine so_move (v := (.v (.int .i64 i105))) rfl ?_
          refine so_gyes rfl (decide_eq_true c108) ?_
          refine so_index rfl rfl F131.sr9 c107 ?_
          refine so_gyes rfl (decide_eq_true c108) ?_
          refine so_bin rfl rfl ab_leq ?_
          refine so_pick_t (v := (.v (.bool (decide ((bt a0 i105) ≤ (57 : Int)))))) rfl (decide_eq_true c108) rfl ?_
          refine so_nil ?_
          replace h := ofP h; rcases h with ⟨c109, h⟩ | ⟨c109, h⟩
          · refine fi_true rfl (decide_eq_true c109) ?_
            refine fi_region ?_
            refine so_move (v := (.v (.int .i64 n104))) rfl ?_
            refine so_bin rfl rfl ab_mul ?_
            refine so_move (v := (.v (.str (pk a0)))) rfl ?_
            refine so_move (v := (.v (.int .i64 i105))) rfl ?_
            refine so_index rfl rfl F131.sr9 c107 ?_
            refine so_bin rfl rfl ab_sub ?_
            refine sv_ii rfl F131.us5 F131.it2 ?_
            refine so_bin rfl rfl ab_add ?_
            refine so_assign (v := (.v (.int .i64 (IntKind.i64.wrap ((IntKind.i64.wrap ((10 : Int) * n104)) + (IntKind.i64.wrap (IntKind.u8.wrap ((bt a0 i105) - (48 : Int))))))))) rfl ?_
            refine so_nil ?_
            refine fi_inBlock ?_
            refine fi_region ?_
            refine so_move (v := (.v (.int .i64 i105))) rfl ?_
            refine so_bin rfl rfl ab_add ?_
            refine so_assign (v := (.v (.int .i64 (IntKind.i64.wrap (i105 + (1 : Int)))))) rfl ?_
            refine so_nil ?_
            exact fi_at [(0, (.v (.str (pk a0)))), (4, (.v (.int .i64 (IntKind.i64.wrap ((IntKind.i64.wrap ((10 : Int) * n104)) + (IntKind.i64.wrap (IntKind.u8.wrap ((bt a0 i105) - (48 : Int))))))))), (5, (.v (.int .i64 (IntKind.i64.wrap (i105 + (1 : Int))))))] ⟨rfl, rfl, rfl, trivial⟩ (h _)
          · refine fi_false rfl (decide_eq_false c109) ?_
            refine fi_skip ?_
            refine fi_inBlock ?_
            refine fi_region ?_
            refine so_move (v := (.v (.int .i64 i105))) rfl ?_
            refine so_bin rfl rfl ab_add ?_
            refine so_assign (v := (.v (.int .i64 (IntKind.i64.wrap (i105 + (1 : Int)))))) rfl ?_
            refine so_nil ?_
            exact fi_at [(0, (.v (.str (pk a0)))), (4, (.v (.int .i64 n104))), (5, (.v (.int .i64 (IntKind.i64.wrap (i105 + (1 : Int))))))] ⟨rfl, rfl, rfl, trivial⟩ (h _)
        · refine so_gno rfl (decide_eq_false c108) ?_
          refine so_gno rfl (decide_eq_false c108) ?_
          refine so_gno rfl (decide_eq_false c108) ?_
          refine so_gno rfl (decide_eq_false c108) ?_
          refine so_pick_f (v := (.v (.bool false))) rfl (decide_eq_false c108) rfl ?_
          refine so_nil ?_
          refine fi_false rfl rfl ?_
          refine fi_skip ?_
          refine fi_inBlock ?_
          refine fi_region ?_
          refine so_move (v := (.v (.int .i64 i105))) rfl ?_
          refine so_bin rfl rfl ab_add ?_
          refine so_assign (v := (.v (.int .i64 (IntKind.i64.wrap (i105 + (1 : Int)))))) rfl ?_
          refine so_nil ?_
          exact fi_at [(0, (.v (.str (pk a0)))), (4, (.v (.int .i64 n104))), (5, (.v (.int .i64 (IntKind.i64.wrap (i105 + (1 : Int))))))] ⟨rfl, rfl, rfl, trivial⟩ (h _)
      · refine fi_false rfl (decide_eq_false c106) ?_
        refine fi_exit rfl ?_
        refine fi_seq ?_
        refine fi_seq ?_
        refine fi_region ?_
        refine so_move (v := (.v (.str (pk a0)))) rfl ?_
        obtain ⟨c110, h⟩ := h
        refine so_index rfl rfl F131.sr9 c110 ?_
        refine so_bin rfl rfl ab_eql ?_
        refine so_nil ?_
        replace h := ofP h; rcases h with ⟨c111, h⟩ | ⟨c111, h⟩
        · refine fi_true rfl (decide_eq_true c111) ?_
          refine fi_region ?_
          refine so_move (v := (.v (.int .i64 n104))) rfl ?_
          refine so_un rfl au_neg ?_
          refine so_assign (v := (.v (.int .i64 (IntKind.i64.wrap (0 - n104))))) rfl ?_
          refine so_nil ?_
          refine fi_seq ?_
          refine fi_seq ?_
          refine fi_region ?_
          refine so_move (v := (.v (.int .i64 (IntKind.i64.wrap (0 - n104))))) rfl ?_
          refine sv_callS (spec_l00In_ok (IntKind.i64.wrap (0 - n104)) (-1000000000000000 : Int) (1000000000000000 : Int) hs  _ h) (fun _ _ ⟨_, _, _, e⟩ => e) rfl rfl ?_
          clear h
          rintro _ _ ⟨y112, h, rfl, rfl⟩
          refine so_un rfl au_not ?_
          refine so_move (v := (.v (.bool (!y112)))) rfl ?_
          replace h := ofT h; rcases h with ⟨c114, h⟩ | ⟨c114, h⟩
          · refine so_gyes rfl (not_f c114) ?_
            refine so_move (v := (.v (.int .i64 (IntKind.i64.wrap (0 - n104))))) rfl ?_
            refine so_gyes rfl (not_f c114) ?_
            refine sv_callS (spec_l01Dec_okS (IntKind.i64.wrap (0 - n104)) hs  _ h) (fun _ _ ⟨_, _, _, e⟩ => e) rfl rfl ?_
            clear h
            rintro _ _ ⟨y115, h, rfl, rfl⟩
            refine so_gyes rfl (not_f c114) ?_
            refine so_move (v := (.v (.str (pk a0)))) rfl ?_
            refine so_gyes rfl (not_f c114) ?_
            refine so_bin rfl rfl ab_sneq ?_
            refine so_pick_f (v := (.v (.bool (!(decide (y115 = a0)))))) rfl (not_f c114) rfl ?_
            refine so_nil ?_
            replace h := ofP h; rcases h with ⟨c117, h⟩ | ⟨c117, h⟩
            · refine fi_false rfl (not_f (decide_eq_true c117)) ?_
              refine fi_skip ?_
              refine fi_seq ?_
              refine fi_region ?_
              refine so_move (v := (.v (.int .i64 (IntKind.i64.wrap (0 - n104))))) rfl ?_
              refine so_assign (v := (.v (.int .i64 (IntKind.i64.wrap (0 - n104))))) rfl ?_
              refine so_assign (v := (.v (.bool true))) rfl ?_
              refine so_nil ?_
              exact by_ret rfl ⟨_, _, h, rfl, rfl⟩
            · refine fi_true rfl (not_t (decide_eq_false c117)) ?_
              refine fi_seq ?_
              refine fi_region ?_
              refine so_assign (v := (.v (.int .i64 (0 : Int)))) rfl ?_
              refine so_assign (v := (.v (.bool false))) rfl ?_
              refine so_nil ?_
              exact by_ret rfl ⟨_, _, h, rfl, rfl⟩
          · refine so_gno rfl (not_t c114) ?_
            refine so_gno rfl (not_t c114) ?_
            refine so_gno rfl (not_t c114) ?_
            refine so_gno rfl (not_t c114) ?_
            refine so_pick_t (v := (.v (.bool true))) rfl (not_t c114) rfl ?_
            refine so_nil ?_
            refine fi_true rfl rfl ?_
            refine fi_seq ?_
            refine fi_region ?_
            refine so_assign (v := (.v (.int .i64 (0 : Int)))) rfl ?_
            refine so_assign (v := (.v (.bool false))) rfl ?_
            refine so_nil ?_
            exact by_ret rfl ⟨_, _, h, rfl, rfl⟩
        · refine fi_false rfl (decide_eq_false c111) ?_
          refine fi_skip ?_
          refine fi_seq ?_
          refine fi_seq ?_
          refine fi_region ?_
          refine so_move (v := (.v (.int .i64 n104))) rfl ?_
          refine sv_callS (spec_l00In_ok n104 (-1000000000000000 : Int) (1000000000000000 : Int) hs  _ h) (fun _ _ ⟨_, _, _, e⟩ => e) rfl rfl ?_
          clear h
          rintro _ _ ⟨y118, h, rfl, rfl⟩
          refine so_un rfl au_not ?_
          refine so_move (v := (.v (.bool (!y118)))) rfl ?_
          replace h := ofT h; rcases h with ⟨c120, h⟩ | ⟨c120, h⟩
          · refine so_gyes rfl (not_f c120) ?_
            refine so_move (v := (.v (.int .i64 n104))) rfl ?_
            refine so_gyes rfl (not_f c120) ?_
            refine sv_callS (spec_l01Dec_okS n104 hs  _ h) (fun _ _ ⟨_, _, _, e⟩ => e) rfl rfl ?_
            clear h
            rintro _ _ ⟨y121, h, rfl, rfl⟩
            refine so_gyes rfl (not_f c120) ?_
            refine so_move (v := (.v (.str (pk a0)))) rfl ?_
            refine so_gyes rfl (not_f c120) ?_
            refine so_bin rfl rfl ab_sneq ?_
            refine so_pick_f (v := (.v (.bool (!(decide (y121 = a0)))))) rfl (not_f c120) rfl ?_
            refine so_nil ?_
            replace h := ofP h; rcases h with ⟨c123, h⟩ | ⟨c123, h⟩
            · refine fi_false rfl (not_f (decide_eq_true c123)) ?_
              refine fi_skip ?_
              refine fi_seq ?_
              refine fi_region ?_
              refine so_move (v := (.v (.int .i64 n104))) rfl ?_
              refine so_assign (v := (.v (.int .i64 n104))) rfl ?_
              refine so_assign (v := (.v (.bool true))) rfl ?_
              refine so_nil ?_
              exact by_ret rfl ⟨_, _, h, rfl, rfl⟩
            · refine fi_true rfl (not_t (decide_eq_false c123)) ?_
              refine fi_seq ?_
              refine fi_region ?_
              refine so_assign (v := (.v (.int .i64 (0 : Int)))) rfl ?_
              refine so_assign (v := (.v (.bool false))) rfl ?_
              refine so_nil ?_
              exact by_ret rfl ⟨_, _, h, rfl, rfl⟩
          · refine so_gno rfl (not_t c120) ?_
            refine so_gno rfl (not_t c120) ?_
            refine so_gno rfl (not_t c120) ?_
            refine so_gno rfl (not_t c120) ?_
            refine so_pick_t (v := (.v (.bool true))) rfl (not_t c120) rfl ?_
            refine so_nil ?_
            refine fi_true rfl rfl ?_
            refine fi_seq ?_
            refine fi_region ?_
            refine so_assign (v := (.v (.int .i64 (0 : Int)))) rfl ?_
            refine so_assign (v := (.v (.bool false))) rfl ?_
            refine so_nil ?_
            exact by_ret rfl ⟨_, _, h, rfl, rfl⟩

end Go.Proofs.YtcgiboeilcdonaaDoor.G

namespace Go.Proofs.YtcgiboeilcdonaaDoor.G
open Go Go.Ab Go.Proofs Go.Proofs.YtcgiboeilcdonaaDoor
set_option maxRecDepth 100000
set_option linter.unusedVariables false
set_option linter.unusedSimpArgs false
set_option maxHeartbeats 1000000
attribute [local irreducible] wops wopf Go.Ab.Fin
theorem F107.ag9 : tagg Tryd.prog 9 = some false := by kernel_rfl
theorem F107.sz2 : tsz Tryd.prog 2 = some 1 := by kernel_rfl
theorem F107.ta96_96 : tapp Tryd.prog 96 96 = some (1, 8) := by kernel_rfl
theorem F107.te96 : telem Tryd.prog 96 = some 2 := by kernel_rfl
theorem F107.ti28 : (telem Tryd.prog 28).isSome = true := by kernel_rfl
theorem F107.tl28 : (telem Tryd.prog 28).bind (tsz Tryd.prog) = some 1 := by kernel_rfl
theorem F107.ze2 : tzero Tryd.prog 2 = some [(.int .i64 (0 : Int))] := by kernel_rfl
theorem spec_l01Numbers_ok {fr : List Pc} {H : Heap} (a0 : List UInt8) (hs : Sep H (fr))  (K : (List (Int)) → Bool → Prop) (h : spec_l01Numbers.wp a0 K) : OkQ Tryd.prog 107 [(.v (.str (pk a0)))] H (fun r H2 => ∃ (y0 : List (Int)) (y1 : Bool), K y0 y1 ∧ ∃ (w0_ : AV), r = (.t [(.v w0_), (.v (.bool y1))]) ∧ Sep H2 (Pc.osl w0_ 1 (enc (eInt .i64) y0) :: fr)) := by
  unfold spec_l01Numbers.wp at h
  refine of_body Tryd.f107 F.hm Tryd.func107 rfl Tryd.call107 (by kernel_rfl) (by simp) ?_
  refine fi_seq ?_
  refine fi_region ?_
  refine so_assign (v := (.v .nilsl)) rfl ?_
  refine so_assign (v := (.v (.bool false))) rfl ?_
  refine so_nil ?_
  refine fi_seq ?_
  refine fi_region ?_
  refine sv_bslice hs (eInt .i64) ([] : List (Int)) [] F107.te96 F107.sz2 F107.ze2 rfl rfl rfl rfl (fun _ => rfl) rfl (by decide) nofun (fun v101 H102 nv101 hs => ?_)
  refine so_assign (v := (.v v101)) rfl ?_
  refine so_nil ?_
  refine fi_seq ?_
  refine fi_seq ?_
  refine fi_region ?_
  refine so_move (v := (.v (.str (pk a0)))) rfl ?_
  refine so_bin rfl rfl ab_seql ?_
  refine so_nil ?_
  replace h := ofP h; rcases h with ⟨c104, h⟩ | ⟨c104, h⟩
  · refine fi_true rfl (decide_eq_true c104) ?_
    refine fi_seq ?_
    refine fi_region ?_
    refine so_move (v := (.v v101)) rfl ?_
    refine so_assign (v := (.v v101)) rfl ?_
    refine so_assign (v := (.v (.bool true))) rfl ?_
    refine so_nil ?_
    exact by_ret rfl ⟨_, _, h, _, rfl, hs⟩
  · refine fi_false rfl (decide_eq_false c104) ?_
    refine fi_skip ?_
    refine fi_seq ?_
    refine fi_region ?_
    refine so_move (v := (.v (.str (pk a0)))) rfl ?_
    refine sv_call (spec_l01Cut_ok a0 (44 : Int) hs  _ h) rfl rfl nofun ?_
    clear h hs
    rintro _ H108 ⟨y105, h, v106, rfl, hs⟩
    refine so_assign (v := (.v v106)) rfl ?_
    refine so_nil ?_
    refine fi_seq ?_
    refine fi_seq ?_
    refine fi_region ?_
    refine so_move (v := (.v v106)) rfl ?_
    refine sv_len (hs.shows 0 rfl) (fun _ => rfl) (by decide) rfl F107.ti28 ?_
    refine so_bin rfl rfl ab_gtr ?_
    refine so_nil ?_
    replace h := ofP h; rcases h with ⟨c109, h⟩ | ⟨c109, h⟩
    · refine fi_true rfl (decide_eq_true c109) ?_
      refine fi_seq ?_
      refine fi_region ?_
      refine so_assign (v := (.v .nilsl)) rfl ?_
      refine so_assign (v := (.v (.bool false))) rfl ?_
      refine so_nil ?_
      exact by_ret rfl ⟨_, _, h, _, rfl, (Sep.nil (Sep.del 0 (Sep.del 0 hs)) 1)⟩
    · refine fi_false rfl (decide_eq_false c109) ?_
      refine fi_skip ?_
      refine fi_seq ?_
      refine fi_seq ?_
      refine fi_region ?_
      refine so_assign (v := (.v (.int .i64 (0 : Int)))) rfl ?_
      refine so_nil ?_
      refine fi_block ?_
      refine fi_loop ?_
      refine fi_at [(4, (.v v101)), (5, (.v v106)), (6, (.v (.int .i64 (0 : Int))))] ⟨rfl, rfl, rfl, trivial⟩ ?_
      refine h (fun (out127 : List (Int)) (i129 : Int) => ∀ (s : Nat → TV) (H : Heap) (v128 : AV) (nv128 : v128 ≠ .nilsl), Sep H (Pc.osl v106 1 (enc eStr y105) :: Pc.osl v128 1 (enc (eInt .i64) out127) :: fr) → Fin _ _ (updL s [(4, (.v v128)), (5, (.v v106)), (6, (.v (.int .i64 i129)))]) H _) ?_ _ _ _ nv101 hs
      intro out127 i129 h s142 H143 v128 nv128 hs
      refine fi_inLoop ?_
      refine fi_seq ?_
      refine fi_seq ?_
      refine fi_region ?_
      refine so_move (v := (.v (.int .i64 i129))) rfl ?_
      refine so_move (v := (.v v106)) rfl ?_
      refine sv_len (hs.shows 0 rfl) (fun _ => rfl) (by decide) rfl F107.ti28 ?_
      refine so_bin rfl rfl ab_lss ?_
      refine so_nil ?_
      replace h := ofP h; rcases h with ⟨c130, h⟩ | ⟨c130, h⟩
      · refine fi_true rfl (decide_eq_true c130) ?_
        refine fi_skip ?_
        refine fi_seq ?_
        refine fi_block ?_
        refine fi_seq ?_
        refine fi_region ?_
        refine so_move (v := (.v v106)) rfl ?_
        refine so_move (v := (.v (.int .i64 i129))) rfl ?_
        obtain ⟨c131, h⟩ := h
        refine sv_idx (hs.shows 0 rfl) c131 (fun _ => rfl) (by decide) rfl rfl F107.tl28 ?_
        refine sv_cell (hs.shows 0 rfl) c131 ([] : List UInt8) 0 (fun x => (AV.str (pk x))) (fun _ => rfl) (fun _ => rfl) rfl F107.ag9 ?_
        refine sv_callS (spec_l01Value_ok (y105.getD (i129).toNat ([] : List UInt8)) hs  _ h) (fun _ _ ⟨_, _, _, _, e⟩ => e) rfl rfl ?_
        clear h
        rintro _ _ ⟨y132, y133, h, rfl, rfl⟩
        refine so_move (v := (.t [(.v (.int .i64 y132)), (.v (.bool y133))])) rfl ?_
        refine so_extract rfl rfl rfl ?_
        refine so_extract rfl rfl rfl ?_
        refine so_assign (v := (.v (.int .i64 y132))) rfl ?_
        refine so_assign (v := (.v (.bool y133))) rfl ?_
        refine so_nil ?_
        refine fi_seq ?_
        refine fi_seq ?_
        refine fi_region ?_
        refine so_move (v := (.v (.bool y133))) rfl ?_
        refine so_un rfl au_not ?_
        refine so_nil ?_
        replace h := ofT h; rcases h with ⟨c135, h⟩ | ⟨c135, h⟩
        · refine fi_false rfl (not_f c135) ?_
          refine fi_skip ?_
          refine fi_region ?_
          refine so_move (v := (.v v128)) rfl ?_
          refine so_move (v := (.v (.int .i64 y132))) rfl ?_
          refine sv_bslice hs (eInt .i64) ([y132] : List (Int)) [[(.int .i64 y132)]] F107.te96 F107.sz2 F107.ze2 rfl rfl rfl rfl (fun _ => rfl) rfl (by decide) nofun (fun v136 H137 nv136 hs => ?_)
          obtain ⟨c141, h⟩ := h
          refine sv_app hs 2 rfl (hs.shows 0 rfl) (fun _ => rfl) (by decide) F107.ta96_96 (by decide) c141 rfl rfl nofun (fun v139 H140 kv139 hs => ?_)
          replace hs := hs.del 0
          have nv139 := kv139 nv128
          refine so_assign (v := (.v v139)) rfl ?_
          refine so_nil ?_
          refine fi_inBlock ?_
          refine fi_region ?_
          refine so_move (v := (.v (.int .i64 i129))) rfl ?_
          refine so_bin rfl rfl ab_add ?_
          refine so_assign (v := (.v (.int .i64 (IntKind.i64.wrap (i129 + (1 : Int)))))) rfl ?_
          refine so_nil ?_
          exact fi_at [(4, (.v v139)), (5, (.v v106)), (6, (.v (.int .i64 (IntKind.i64.wrap (i129 + (1 : Int))))))] ⟨rfl, rfl, rfl, trivial⟩ (h _ _ _ nv139 hs)
        · refine fi_true rfl (not_t c135) ?_
          refine fi_seq ?_
          refine fi_region ?_
          refine so_assign (v := (.v .nilsl)) rfl ?_
          refine so_assign (v := (.v (.bool false))) rfl ?_
          refine so_nil ?_
          exact by_ret rfl ⟨_, _, h, _, rfl, (Sep.nil (Sep.del 0 (Sep.del 0 hs)) 1)⟩
      · refine fi_false rfl (decide_eq_false c130) ?_
        refine fi_exit rfl ?_
        refine fi_seq ?_
        refine fi_region ?_
        refine so_move (v := (.v v128)) rfl ?_
        refine so_assign (v := (.v v128)) rfl ?_
        refine so_assign (v := (.v (.bool true))) rfl ?_
        refine so_nil ?_
        exact by_ret rfl ⟨_, _, h, _, rfl, (Sep.del 0 hs)⟩

end Go.Proofs.YtcgiboeilcdonaaDoor.G

namespace Go.Proofs.YtcgiboeilcdonaaDoor.G
open Go Go.Ab Go.Proofs Go.Proofs.YtcgiboeilcdonaaDoor
set_option maxRecDepth 100000
set_option linter.unusedVariables false
set_option linter.unusedSimpArgs false
set_option maxHeartbeats 1000000
attribute [local irreducible] wops wopf Go.Ab.Fin
theorem F48.sr9 : tstr Tryd.prog 9 = true := by kernel_rfl
theorem F48.sz4 : tsz Tryd.prog 4 = some 1 := by kernel_rfl
theorem F48.ta22_22 : tapp Tryd.prog 22 22 = some (1, 1) := by kernel_rfl
theorem F48.te22 : telem Tryd.prog 22 = some 4 := by kernel_rfl
theorem F48.ze4 : tzero Tryd.prog 4 = some [(.bool false)] := by kernel_rfl
theorem spec_l06Read_ok {fr : List Pc} {H : Heap} (a0 : List UInt8) (hs : Sep H (fr))  (K : (List (Bool)) → Bool → Prop) (h : spec_l06Read.wp a0 K) : OkQ Tryd.prog 48 [(.v (.str (pk a0)))] H (fun r H2 => ∃ (y0 : List (Bool)) (y1 : Bool), K y0 y1 ∧ ∃ (w0_ : AV), r = (.t [(.v w0_), (.v (.bool y1))]) ∧ Sep H2 (Pc.osl w0_ 1 (enc eBool y0) :: fr)) := by
  unfold spec_l06Read.wp at h
  refine of_body Tryd.f48 F.hm Tryd.func48 rfl Tryd.call48 (by kernel_rfl) (by simp) ?_
  refine fi_seq ?_
  refine fi_region ?_
  refine so_assign (v := (.v .nilsl)) rfl ?_
  refine so_assign (v := (.v (.bool false))) rfl ?_
  refine so_nil ?_
  refine fi_seq ?_
  refine fi_region ?_
  refine sv_bslice hs eBool ([] : List (Bool)) [] F48.te22 F48.sz4 F48.ze4 rfl rfl rfl rfl (fun _ => rfl) rfl (by decide) nofun (fun v101 H102 nv101 hs => ?_)
  refine so_assign (v := (.v v101)) rfl ?_
  refine so_nil ?_
  refine fi_seq ?_
  refine fi_seq ?_
  refine fi_region ?_
  refine so_assign (v := (.v (.int .i64 (0 : Int)))) rfl ?_
  refine so_nil ?_
  refine fi_block ?_
  refine fi_loop ?_
  refine fi_at [(0, (.v (.str (pk a0)))), (4, (.v v101)), (5, (.v (.int .i64 (0 : Int))))] ⟨rfl, rfl, rfl, trivial⟩ ?_
  refine h (fun (out128 : List (Bool)) (i130 : Int) => ∀ (s : Nat → TV) (H : Heap) (v129 : AV) (nv129 : v129 ≠ .nilsl), Sep H (Pc.osl v129 1 (enc eBool out128) :: fr) → Fin _ _ (updL s [(0, (.v (.str (pk a0)))), (4, (.v v129)), (5, (.v (.int .i64 i130)))]) H _) ?_ _ _ _ nv101 hs
  intro out128 i130 h s150 H151 v129 nv129 hs
  refine fi_inLoop ?_
  refine fi_seq ?_
  refine fi_seq ?_
  refine fi_region ?_
  refine so_move (v := (.v (.int .i64 i130))) rfl ?_
  refine so_move (v := (.v (.str (pk a0)))) rfl ?_
  refine so_slen rfl F48.sr9 ?_
  refine so_bin rfl rfl ab_lss ?_
  refine so_move (v := (.v (.bool (decide (i130 < (a0.length : Int)))))) rfl ?_
  replace h := ofP h; rcases h with ⟨c131, h⟩ | ⟨c131, h⟩
  · refine so_gyes rfl (decide_eq_true c131) ?_
    refine so_move (v := (.v (.str (pk a0)))) rfl ?_
    refine so_gyes rfl (decide_eq_true c131) ?_
    refine so_slen rfl F48.sr9 ?_
    refine so_gyes rfl (decide_eq_true c131) ?_
    refine so_bin rfl rfl ab_leq ?_
    refine so_pick_t (v := (.v (.bool (decide ((a0.length : Int) ≤ (32768 : Int)))))) rfl (decide_eq_true c131) rfl ?_
    refine so_nil ?_
    replace h := ofP h; rcases h with ⟨c132, h⟩ | ⟨c132, h⟩
    · refine fi_true rfl (decide_eq_true c132) ?_
      refine fi_skip ?_
      refine fi_seq ?_
      refine fi_block ?_
      refine fi_seq ?_
      refine fi_seq ?_
      refine fi_region ?_
      refine so_move (v := (.v (.str (pk a0)))) rfl ?_
      refine so_move (v := (.v (.int .i64 i130))) rfl ?_
      obtain ⟨c133, h⟩ := h
      refine so_index rfl rfl F48.sr9 c133 ?_
      refine so_bin rfl rfl ab_neq ?_
      refine so_move (v := (.v (.bool (!(decide ((bt a0 i130) = (48 : Int))))))) rfl ?_
      replace h := ofP h; rcases h with ⟨c134, h⟩ | ⟨c134, h⟩
      · refine so_gno rfl (not_f (decide_eq_true c134)) ?_
        refine so_gno rfl (not_f (decide_eq_true c134)) ?_
        refine so_gno rfl (not_f (decide_eq_true c134)) ?_
        refine so_gno rfl (not_f (decide_eq_true c134)) ?_
        refine so_pick_f (v := (.v (.bool false))) rfl (not_f (decide_eq_true c134)) rfl ?_
        refine so_nil ?_
        refine fi_false rfl rfl ?_
        refine fi_skip ?_
        refine fi_region ?_
        refine so_move (v := (.v v129)) rfl ?_
        refine so_move (v := (.v (.str (pk a0)))) rfl ?_
        refine so_move (v := (.v (.int .i64 i130))) rfl ?_
        refine so_index rfl rfl F48.sr9 c133 ?_
        refine so_bin rfl rfl ab_eql ?_
        refine sv_bslice hs eBool ([(decide ((bt a0 i130) = (49 : Int)))] : List (Bool)) [[(.bool (decide ((bt a0 i130) = (49 : Int))))]] F48.te22 F48.sz4 F48.ze4 rfl rfl rfl rfl (fun _ => rfl) rfl (by decide) nofun (fun v135 H136 nv135 hs => ?_)
        obtain ⟨c140, h⟩ := h
        refine sv_app hs 1 rfl (hs.shows 0 rfl) (fun _ => rfl) (by decide) F48.ta22_22 (by decide) c140 rfl rfl nofun (fun v138 H139 kv138 hs => ?_)
        replace hs := hs.del 0
        have nv138 := kv138 nv129
        refine so_assign (v := (.v v138)) rfl ?_
        refine so_nil ?_
        refine fi_inBlock ?_
        refine fi_region ?_
        refine so_move (v := (.v (.int .i64 i130))) rfl ?_
        refine so_bin rfl rfl ab_add ?_
        refine so_assign (v := (.v (.int .i64 (IntKind.i64.wrap (i130 + (1 : Int)))))) rfl ?_
        refine so_nil ?_
        exact fi_at [(0, (.v (.str (pk a0)))), (4, (.v v138)), (5, (.v (.int .i64 (IntKind.i64.wrap (i130 + (1 : Int))))))] ⟨rfl, rfl, rfl, trivial⟩ (h _ _ _ nv138 hs)
      · refine so_gyes rfl (not_t (decide_eq_false c134)) ?_
        refine so_move (v := (.v (.str (pk a0)))) rfl ?_
        refine so_gyes rfl (not_t (decide_eq_false c134)) ?_
        refine so_move (v := (.v (.int .i64 i130))) rfl ?_
        refine so_gyes rfl (not_t (decide_eq_false c134)) ?_
        refine so_index rfl rfl F48.sr9 c133 ?_
        refine so_gyes rfl (not_t (decide_eq_false c134)) ?_
        refine so_bin rfl rfl ab_neq ?_
        refine so_pick_t (v := (.v (.bool (!(decide ((bt a0 i130) = (49 : Int))))))) rfl (not_t (decide_eq_false c134)) rfl ?_
        refine so_nil ?_
        replace h := ofP h; rcases h with ⟨c141, h⟩ | ⟨c141, h⟩
        · refine fi_false rfl (not_f (decide_eq_true c141)) ?_
          refine fi_skip ?_
          refine fi_region ?_
          refine so_move (v := (.v v129)) rfl ?_
          refine so_move (v := (.v (.str (pk a0)))) rfl ?_
          refine so_move (v := (.v (.int .i64 i130))) rfl ?_
          refine so_index rfl rfl F48.sr9 c133 ?_
          refine so_bin rfl rfl ab_eql ?_
          refine sv_bslice hs eBool ([(decide ((bt a0 i130) = (49 : Int)))] : List (Bool)) [[(.bool (decide ((bt a0 i130) = (49 : Int))))]] F48.te22 F48.sz4 F48.ze4 rfl rfl rfl rfl (fun _ => rfl) rfl (by decide) nofun (fun v142 H143 nv142 hs => ?_)
          obtain ⟨c147, h⟩ := h
          refine sv_app hs 1 rfl (hs.shows 0 rfl) (fun _ => rfl) (by decide) F48.ta22_22 (by decide) c147 rfl rfl nofun (fun v145 H146 kv145 hs => ?_)
          replace hs := hs.del 0
          have nv145 := kv145 nv129
          refine so_assign (v := (.v v145)) rfl ?_
          refine so_nil ?_
          refine fi_inBlock ?_
          refine fi_region ?_
          refine so_move (v := (.v (.int .i64 i130))) rfl ?_
          refine so_bin rfl rfl ab_add ?_
          refine so_assign (v := (.v (.int .i64 (IntKind.i64.wrap (i130 + (1 : Int)))))) rfl ?_
          refine so_nil ?_
          exact fi_at [(0, (.v (.str (pk a0)))), (4, (.v v145)), (5, (.v (.int .i64 (IntKind.i64.wrap (i130 + (1 : Int))))))] ⟨rfl, rfl, rfl, trivial⟩ (h _ _ _ nv145 hs)
        · refine fi_true rfl (not_t (decide_eq_false c141)) ?_
          refine fi_seq ?_
          refine fi_region ?_
          refine so_assign (v := (.v .nilsl)) rfl ?_
          refine so_assign (v := (.v (.bool false))) rfl ?_
          refine so_nil ?_
          exact by_ret rfl ⟨_, _, h, _, rfl, (Sep.nil (Sep.del 0 hs) 1)⟩
    · refine fi_false rfl (decide_eq_false c132) ?_
      refine fi_exit rfl ?_
      refine fi_seq ?_
      refine fi_seq ?_
      refine fi_region ?_
      refine so_move (v := (.v (.str (pk a0)))) rfl ?_
      refine so_slen rfl F48.sr9 ?_
      refine so_bin rfl rfl ab_gtr ?_
      refine so_nil ?_
      replace h := ofP h; rcases h with ⟨c148, h⟩ | ⟨c148, h⟩
      · refine fi_true rfl (decide_eq_true c148) ?_
        refine fi_seq ?_
        refine fi_region ?_
        refine so_assign (v := (.v .nilsl)) rfl ?_
        refine so_assign (v := (.v (.bool false))) rfl ?_
        refine so_nil ?_
        exact by_ret rfl ⟨_, _, h, _, rfl, (Sep.nil (Sep.del 0 hs) 1)⟩
      · refine fi_false rfl (decide_eq_false c148) ?_
        refine fi_skip ?_
        refine fi_seq ?_
        refine fi_region ?_
        refine so_move (v := (.v v129)) rfl ?_
        refine so_assign (v := (.v v129)) rfl ?_
        refine so_assign (v := (.v (.bool true))) rfl ?_
        refine so_nil ?_
        exact by_ret rfl ⟨_, _, h, _, rfl, hs⟩
  · refine so_gno rfl (decide_eq_false c131) ?_
    refine so_gno rfl (decide_eq_false c131) ?_
    refine so_gno rfl (decide_eq_false c131) ?_
    refine so_pick_f (v := (.v (.bool false))) rfl (decide_eq_false c131) rfl ?_
    refine so_nil ?_
    refine fi_false rfl rfl ?_
    refine fi_exit rfl ?_
    refine fi_seq ?_
    refine fi_seq ?_
    refine fi_region ?_
    refine so_move (v := (.v (.str (pk a0)))) rfl ?_
    refine so_slen rfl F48.sr9 ?_
    refine so_bin rfl rfl ab_gtr ?_
    refine so_nil ?_
    replace h := ofP h; rcases h with ⟨c149, h⟩ | ⟨c149, h⟩
    · refine fi_true rfl (decide_eq_true c149) ?_
      refine fi_seq ?_
      refine fi_region ?_
      refine so_assign (v := (.v .nilsl)) rfl ?_
      refine so_assign (v := (.v (.bool false))) rfl ?_
      refine so_nil ?_
      exact by_ret rfl ⟨_, _, h, _, rfl, (Sep.nil (Sep.del 0 hs) 1)⟩
    · refine fi_false rfl (decide_eq_false c149) ?_
      refine fi_skip ?_
      refine fi_seq ?_
      refine fi_region ?_
      refine so_move (v := (.v v129)) rfl ?_
      refine so_assign (v := (.v v129)) rfl ?_
      refine so_assign (v := (.v (.bool true))) rfl ?_
      refine so_nil ?_
      exact by_ret rfl ⟨_, _, h, _, rfl, hs⟩

end Go.Proofs.YtcgiboeilcdonaaDoor.G

namespace Go.Proofs.YtcgiboeilcdonaaDoor.G
open Go Go.Ab Go.Proofs Go.Proofs.YtcgiboeilcdonaaDoor
set_option maxRecDepth 100000
set_option linter.unusedVariables false
set_option linter.unusedSimpArgs false
set_option maxHeartbeats 1000000
attribute [local irreducible] wops wopf Go.Ab.Fin
theorem F61.ag2 : tagg Tryd.prog 2 = some false := by kernel_rfl
theorem F61.ag22 : tagg Tryd.prog 22 = some false := by kernel_rfl
theorem F61.fd41_0 : tfield Tryd.prog 41 0 = some (0, 1, false) := by kernel_rfl
theorem F61.fd41_1 : tfield Tryd.prog 41 1 = some (1, 1, false) := by kernel_rfl
theorem F61.fd41_2 : tfield Tryd.prog 41 2 = some (2, 1, false) := by kernel_rfl
theorem F61.ti22 : (telem Tryd.prog 22).isSome = true := by kernel_rfl
theorem spec_l06Is_ok {fr : List Pc} {H : Heap} (i0 o0 : Nat) (a0 : Int) (a1 : Int) (v2 : AV) (l2 : List (Bool)) (hs : Sep H (fr)) (g2 : ∀ H, Sep H fr → Shows H v2 1 (enc eBool l2)) (q0 : ∀ H, Sep H fr → PtAt H i0 o0 [(.int .i64 a0), (.int .i64 a1), v2]) (K : Bool → Prop) (h : spec_l06Is.wp a0 a1 l2 K) : OkQ Tryd.prog 61 [(.v (.ptr i0 o0))] H (fun r H2 => ∃ (y0 : Bool), K y0 ∧ r = (.v (.bool y0)) ∧ H = H2) := by
  unfold spec_l06Is.wp at h
  refine of_body Tryd.f61 F.hm Tryd.func61 rfl Tryd.call61 (by kernel_rfl) (by simp) ?_
  refine fi_seq ?_
  refine fi_region ?_
  refine so_assign (v := (.v (.bool false))) rfl ?_
  refine so_nil ?_
  refine fi_seq ?_
  refine fi_region ?_
  refine so_move (v := (.v (.ptr i0 o0))) rfl ?_
  refine so_nilCheck rfl ?_
  refine so_fieldAddr rfl F61.fd41_0 ?_
  refine su_ld (q0 _ hs) 0 rfl rfl F61.ag2 ?_
  refine sv_callS (spec_l00In_ok a0 (1 : Int) (128 : Int) hs  _ h) (fun _ _ ⟨_, _, _, e⟩ => e) rfl rfl ?_
  clear h
  rintro _ _ ⟨y101, h, rfl, rfl⟩
  refine so_move (v := (.v (.bool y101))) rfl ?_
  replace h := ofT h; rcases h with ⟨c103, h⟩ | ⟨c103, h⟩
  · refine so_gyes rfl c103 ?_
    refine so_move (v := (.v (.ptr i0 o0))) rfl ?_
    refine so_gyes rfl c103 ?_
    refine so_nilCheck rfl ?_
    refine so_gyes rfl c103 ?_
    refine so_fieldAddr rfl F61.fd41_1 ?_
    refine so_gyes rfl c103 ?_
    refine su_ld (q0 _ hs) 1 rfl rfl F61.ag2 ?_
    refine so_gyes rfl c103 ?_
    refine sv_callS (spec_l00In_ok a1 (0 : Int) (24 : Int) hs  _ h) (fun _ _ ⟨_, _, _, e⟩ => e) rfl rfl ?_
    clear h
    rintro _ _ ⟨y104, h, rfl, rfl⟩
    refine so_pick_t (v := (.v (.bool y104))) rfl c103 rfl ?_
    refine so_move (v := (.v (.bool y104))) rfl ?_
    replace h := ofT h; rcases h with ⟨c106, h⟩ | ⟨c106, h⟩
    · refine so_gyes rfl c106 ?_
      refine so_move (v := (.v (.ptr i0 o0))) rfl ?_
      refine so_gyes rfl c106 ?_
      refine so_nilCheck rfl ?_
      refine so_gyes rfl c106 ?_
      refine so_fieldAddr rfl F61.fd41_2 ?_
      refine so_gyes rfl c106 ?_
      refine su_ld (q0 _ hs) 2 rfl rfl F61.ag22 ?_
      refine so_gyes rfl c106 ?_
      refine sv_len (g2 _ hs) (fun _ => rfl) (by decide) rfl F61.ti22 ?_
      refine so_gyes rfl c106 ?_
      refine so_bin rfl rfl ab_leq ?_
      refine so_pick_t (v := (.v (.bool (decide ((l2.length : Int) ≤ (32768 : Int)))))) rfl c106 rfl ?_
      refine so_assign (v := (.v (.bool (decide ((l2.length : Int) ≤ (32768 : Int)))))) rfl ?_
      refine so_nil ?_
      exact by_ret rfl ⟨_, h, rfl, rfl⟩
    · refine so_gno rfl c106 ?_
      refine so_gno rfl c106 ?_
      refine so_gno rfl c106 ?_
      refine so_gno rfl c106 ?_
      refine so_gno rfl c106 ?_
      refine so_gno rfl c106 ?_
      refine so_pick_f (v := (.v (.bool false))) rfl c106 rfl ?_
      refine so_assign (v := (.v (.bool false))) rfl ?_
      refine so_nil ?_
      exact by_ret rfl ⟨_, h, rfl, rfl⟩
  · refine so_gno rfl c103 ?_
    refine so_gno rfl c103 ?_
    refine so_gno rfl c103 ?_
    refine so_gno rfl c103 ?_
    refine so_gno rfl c103 ?_
    refine so_pick_f (v := (.v (.bool false))) rfl c103 rfl ?_
    refine so_move (v := (.v (.bool false))) rfl ?_
    refine so_gno rfl rfl ?_
    refine so_gno rfl rfl ?_
    refine so_gno rfl rfl ?_
    refine so_gno rfl rfl ?_
    refine so_gno rfl rfl ?_
    refine so_gno rfl rfl ?_
    refine so_pick_f (v := (.v (.bool false))) rfl rfl rfl ?_
    refine so_assign (v := (.v (.bool false))) rfl ?_
    refine so_nil ?_
    exact by_ret rfl ⟨_, h, rfl, rfl⟩

end Go.Proofs.YtcgiboeilcdonaaDoor.G

namespace Go.Proofs.YtcgiboeilcdonaaDoor.G
open Go Go.Ab Go.Proofs Go.Proofs.YtcgiboeilcdonaaDoor
set_option maxRecDepth 100000
set_option linter.unusedVariables false
set_option linter.unusedSimpArgs false
set_option maxHeartbeats 1000000
attribute [local irreducible] wops wopf Go.Ab.Fin
theorem F67.ag2 : tagg Tryd.prog 2 = some false := by kernel_rfl
theorem F67.ag41 : tagg Tryd.prog 41 = some true := by kernel_rfl
theorem F67.ag9 : tagg Tryd.prog 9 = some false := by kernel_rfl
theorem F67.bp41 : bplan Tryd.prog 41 = some ([(.int .i64 (0 : Int)), (.int .i64 (0 : Int)), .nilsl], [(0, 1), (1, 1), (2, 1)]) := by kernel_rfl
theorem F67.sz41 : tsz Tryd.prog 41 = some 3 := by kernel_rfl
theorem F67.ti28 : (telem Tryd.prog 28).isSome = true := by kernel_rfl
theorem F67.ti96 : (telem Tryd.prog 96).isSome = true := by kernel_rfl
theorem F67.tl28 : (telem Tryd.prog 28).bind (tsz Tryd.prog) = some 1 := by kernel_rfl
theorem F67.tl96 : (telem Tryd.prog 96).bind (tsz Tryd.prog) = some 1 := by kernel_rfl
theorem F67.ze41 : tzero Tryd.prog 41 = some [(.int .i64 (0 : Int)), (.int .i64 (0 : Int)), .nilsl] := by kernel_rfl
theorem spec_l08ReadCoded_ok {fr : List Pc} {H : Heap} (a0 : List UInt8) (hs : Sep H (fr))  (K : Int → Int → (List (Bool)) → Bool → Prop) (h : spec_l08ReadCoded.wp a0 K) : OkQ Tryd.prog 67 [(.v (.str (pk a0)))] H (fun r H2 => ∃ (y0 : Int) (y1 : Int) (y2 : List (Bool)) (y3 : Bool), K y0 y1 y2 y3 ∧ ∃ (w0_ : AV), r = (.t [(.g [(.int .i64 y0), (.int .i64 y1), w0_]), (.v (.bool y3))]) ∧ Sep H2 (Pc.osl w0_ 1 (enc eBool y2) :: fr)) := by
  unfold spec_l08ReadCoded.wp at h
  refine of_body Tryd.f67 F.hm Tryd.func67 rfl Tryd.call67 (by kernel_rfl) (by simp) ?_
  refine fi_seq ?_
  refine fi_region ?_
  refine sv_alloc hs F67.ze41 rfl nofun (fun id101 H102 hs => ?_)
  refine so_assign (v := (.v (.bool false))) rfl ?_
  refine so_nil ?_
  refine fi_seq ?_
  refine fi_region ?_
  refine so_move (v := (.v (.str (pk a0)))) rfl ?_
  refine sv_call (spec_l01Cut_ok a0 (59 : Int) hs  _ h) rfl rfl nofun ?_
  clear h hs
  rintro _ H107 ⟨y104, h, v105, rfl, hs⟩
  refine so_assign (v := (.v v105)) rfl ?_
  refine so_nil ?_
  refine fi_seq ?_
  refine fi_seq ?_
  refine fi_region ?_
  refine so_move (v := (.v v105)) rfl ?_
  refine sv_len (hs.shows 0 rfl) (fun _ => rfl) (by decide) rfl F67.ti28 ?_
  refine so_bin rfl rfl ab_neq ?_
  refine so_nil ?_
  replace h := ofP h; rcases h with ⟨c108, h⟩ | ⟨c108, h⟩
  · refine fi_false rfl (not_f (decide_eq_true c108)) ?_
    refine fi_skip ?_
    refine fi_seq ?_
    refine fi_region ?_
    refine so_move (v := (.v v105)) rfl ?_
    obtain ⟨c109, h⟩ := h
    refine sv_idx (hs.shows 0 rfl) c109 (fun _ => rfl) (by decide) rfl rfl F67.tl28 ?_
    refine sv_cell (hs.shows 0 rfl) c109 ([] : List UInt8) 0 (fun x => (AV.str (pk x))) (fun _ => rfl) (fun _ => rfl) rfl F67.ag9 ?_
    refine sv_call (spec_l01Numbers_ok (y104.getD ((0 : Int)).toNat ([] : List UInt8)) hs  _ h) rfl rfl nofun ?_
    clear h hs
    rintro _ H114 ⟨y110, y113, h, v111, rfl, hs⟩
    refine so_move (v := (.t [(.v v111), (.v (.bool y113))])) rfl ?_
    refine so_extract rfl rfl rfl ?_
    refine so_extract rfl rfl rfl ?_
    refine so_assign (v := (.v v111)) rfl ?_
    refine so_assign (v := (.v (.bool y113))) rfl ?_
    refine so_nil ?_
    refine fi_seq ?_
    refine fi_region ?_
    refine so_move (v := (.v v105)) rfl ?_
    obtain ⟨c115, h⟩ := h
    refine sv_idx (hs.shows 1 rfl) c115 (fun _ => rfl) (by decide) rfl rfl F67.tl28 ?_
    refine sv_cell (hs.shows 1 rfl) c115 ([] : List UInt8) 0 (fun x => (AV.str (pk x))) (fun _ => rfl) (fun _ => rfl) rfl F67.ag9 ?_
    refine sv_call (spec_l06Read_ok (y104.getD ((1 : Int)).toNat ([] : List UInt8)) hs  _ h) rfl rfl nofun ?_
    clear h hs
    rintro _ H120 ⟨y116, y119, h, v117, rfl, hs⟩
    refine so_move (v := (.t [(.v v117), (.v (.bool y119))])) rfl ?_
    refine so_extract rfl rfl rfl ?_
    refine so_extract rfl rfl rfl ?_
    refine so_assign (v := (.v v117)) rfl ?_
    refine so_assign (v := (.v (.bool y119))) rfl ?_
    refine so_nil ?_
    refine fi_seq ?_
    refine fi_seq ?_
    refine fi_region ?_
    refine so_move (v := (.v (.bool y113))) rfl ?_
    refine so_un rfl au_not ?_
    refine so_move (v := (.v (.bool (!y113)))) rfl ?_
    replace h := ofT h; rcases h with ⟨c121, h⟩ | ⟨c121, h⟩
    · refine so_gyes rfl (not_f c121) ?_
      refine so_move (v := (.v (.bool y119))) rfl ?_
      refine so_gyes rfl (not_f c121) ?_
      refine so_un rfl au_not ?_
      refine so_pick_f (v := (.v (.bool (!y119)))) rfl (not_f c121) rfl ?_
      refine so_move (v := (.v (.bool (!y119)))) rfl ?_
      replace h := ofT h; rcases h with ⟨c122, h⟩ | ⟨c122, h⟩
      · refine so_gyes rfl (not_f c122) ?_
        refine so_move (v := (.v v111)) rfl ?_
        refine so_gyes rfl (not_f c122) ?_
        refine sv_len (hs.shows 1 rfl) (fun _ => rfl) (by decide) rfl F67.ti96 ?_
        refine so_gyes rfl (not_f c122) ?_
        refine so_bin rfl rfl ab_neq ?_
        refine so_pick_f (v := (.v (.bool (!(decide ((y110.length : Int) = (2 : Int))))))) rfl (not_f c122) rfl ?_
        refine so_nil ?_
        replace h := ofP h; rcases h with ⟨c123, h⟩ | ⟨c123, h⟩
        · refine fi_false rfl (not_f (decide_eq_true c123)) ?_
          refine fi_skip ?_
          refine fi_seq ?_
          refine fi_free [1, 2, 4, 5] ?_
          refine wf_pure rfl (by kernel_rfl) ?_
          refine so_move (v := (.v v111)) rfl ?_
          refine so_end ?_
          obtain ⟨c124, h⟩ := h
          refine wf_free (.v (.ptr v111.id0 (v111.of0 + ((0 : Int)).toNat * 1))) rfl (by kernel_rfl) (stepr (i := 0) rfl (by refine sv_idx (hs.shows 1 rfl) c124 (fun _ => rfl) (by decide) rfl rfl F67.tl96 ?_; exact so_end ⟨rfl, rfl⟩)) fan ?_
          refine wf_free (.v (.int .i64 (y110.getD ((0 : Int)).toNat (0 : Int)))) rfl (by kernel_rfl) (stepr (i := 0) rfl (by refine sv_cell (hs.shows 1 rfl) c124 (0 : Int) 0 (fun x => (AV.int .i64 x)) (fun _ => rfl) (fun _ => rfl) rfl F67.ag2 ?_; exact so_end ⟨rfl, rfl⟩)) fan ?_
          refine wf_pure rfl (by kernel_rfl) ?_
          refine so_move (v := (.v v111)) rfl ?_
          refine so_end ?_
          obtain ⟨c125, h⟩ := h
          refine wf_free (.v (.ptr v111.id0 (v111.of0 + ((1 : Int)).toNat * 1))) rfl (by kernel_rfl) (stepr (i := 0) rfl (by refine sv_idx (hs.shows 1 rfl) c125 (fun _ => rfl) (by decide) rfl rfl F67.tl96 ?_; exact so_end ⟨rfl, rfl⟩)) fan ?_
          refine wf_free (.v (.int .i64 (y110.getD ((1 : Int)).toNat (0 : Int)))) rfl (by kernel_rfl) (stepr (i := 0) rfl (by refine sv_cell (hs.shows 1 rfl) c125 (0 : Int) 0 (fun x => (AV.int .i64 x)) (fun _ => rfl) (fun _ => rfl) rfl F67.ag2 ?_; exact so_end ⟨rfl, rfl⟩)) fan ?_
          refine wf_pure rfl (by kernel_rfl) ?_
          refine so_move (v := (.v v117)) rfl ?_
          refine so_end ?_
          refine wf_pure rfl (by kernel_rfl) ?_
          refine so_build F67.bp41 (cps := [(0, [(.int .i64 (y110.getD ((0 : Int)).toNat (0 : Int)))]), (1, [(.int .i64 (y110.getD ((1 : Int)).toNat (0 : Int)))]), (2, [v117])]) rfl (fac (stc rfl stn) (fac (stc rfl stn) (fac (stc (hs.shows 0 rfl).stor stn) fan))) rfl ?_
          refine so_end ?_
          have hs0_ := hs
          refine wf_chg (by kernel_rfl) ?_
          refine sv_alloc hs F67.ze41 rfl nofun (fun id126 H127 hs => ?_)
          refine so_end ⟨(fac (.inr (stepr (i := 0) rfl (by refine sv_cell (hs.shows 2 rfl) c125 (0 : Int) 0 (fun x => (AV.int .i64 x)) (fun _ => rfl) (fun _ => rfl) rfl F67.ag2 ?_; exact so_end ⟨rfl, rfl⟩))) (fac (.inr (stepr (i := 0) rfl (by refine sv_idx (hs.shows 2 rfl) c125 (fun _ => rfl) (by decide) rfl rfl F67.tl96 ?_; exact so_end ⟨rfl, rfl⟩))) (fac (.inr (stepr (i := 0) rfl (by refine sv_cell (hs.shows 2 rfl) c124 (0 : Int) 0 (fun x => (AV.int .i64 x)) (fun _ => rfl) (fun _ => rfl) rfl F67.ag2 ?_; exact so_end ⟨rfl, rfl⟩))) (fac (.inr (stepr (i := 0) rfl (by refine sv_idx (hs.shows 2 rfl) c124 (fun _ => rfl) (by decide) rfl rfl F67.tl96 ?_; exact so_end ⟨rfl, rfl⟩))) fan)))), ?_⟩
          have hs1_ := hs
          refine wf_chg (by kernel_rfl) ?_
          refine sv_st hs 0 rfl rfl rfl (c := [(.int .i64 (y110.getD ((0 : Int)).toNat (0 : Int))), (.int .i64 (y110.getD ((1 : Int)).toNat (0 : Int))), v117]) rfl F67.sz41 rfl (stc rfl (stc rfl (stc (hs.shows 1 rfl).stor stn))) (leb rfl) (cs' := [(.int .i64 (y110.getD ((0 : Int)).toNat (0 : Int))), (.int .i64 (y110.getD ((1 : Int)).toNat (0 : Int))), v117]) rfl nofun (fun H129 hs => ?_)
          refine so_end ⟨(fac (.inl ⟨9, by kernel_rfl⟩) (fac (.inl ⟨9, by kernel_rfl⟩) (fac (.inl ⟨9, by kernel_rfl⟩) (fac (.inl ⟨9, by kernel_rfl⟩) fan)))), ?_⟩
          refine wf_nil ?_
          refine fi_seq ?_
          refine fi_seq ?_
          refine fi_region ?_
          refine sv_callS (spec_l06Is_ok id126 0 (y110.getD ((0 : Int)).toNat (0 : Int)) (y110.getD ((1 : Int)).toNat (0 : Int)) v117 y116 hs (fun _ hs => (hs.shows 1 rfl)) (fun _ hs => (hs.ptat 0 rfl)) _ h) (fun _ _ ⟨_, _, _, e⟩ => e) rfl rfl ?_
          clear h
          rintro _ _ ⟨y130, h, rfl, rfl⟩
          refine so_un rfl au_not ?_
          refine so_nil ?_
          replace h := ofT h; rcases h with ⟨c132, h⟩ | ⟨c132, h⟩
          · refine fi_false rfl (not_f c132) ?_
            refine fi_skip ?_
            refine fi_seq ?_
            refine fi_region ?_
            refine sv_lds hs 0 rfl rfl (leb rfl) rfl F67.ag41 F67.sz41 ?_
            refine sv_st hs 4 rfl rfl rfl (c := [(.int .i64 (y110.getD ((0 : Int)).toNat (0 : Int))), (.int .i64 (y110.getD ((1 : Int)).toNat (0 : Int))), v117]) rfl F67.sz41 rfl (stc rfl (stc rfl (stc (hs.shows 1 rfl).stor stn))) (leb rfl) (cs' := [(.int .i64 (y110.getD ((0 : Int)).toNat (0 : Int))), (.int .i64 (y110.getD ((1 : Int)).toNat (0 : Int))), v117]) rfl nofun (fun H133 hs => ?_)
            refine so_assign (v := (.v (.bool true))) rfl ?_
            refine so_nil ?_
            exact by_ret (res_mk (ar_cells rfl F67.ag41 F67.sz41 (hs.lds 4 rfl (leb rfl) rfl) (ar_tmp rfl ar_nil)) rfl) ⟨_, _, _, _, h, _, rfl, (Sep.del 1 (Sep.del 1 (Sep.del 1 (Sep.del 0 hs))))⟩
          · refine fi_true rfl (not_t c132) ?_
            refine fi_seq ?_
            refine fi_region ?_
            refine so_build F67.bp41 (cps := []) rfl fan rfl ?_
            refine sv_st hs 4 rfl rfl rfl (c := [(.int .i64 (0 : Int)), (.int .i64 (0 : Int)), .nilsl]) rfl F67.sz41 rfl (stc rfl (stc rfl (stc rfl stn))) (leb rfl) (cs' := [(.int .i64 (0 : Int)), (.int .i64 (0 : Int)), .nilsl]) rfl nofun (fun H134 hs => ?_)
            refine so_assign (v := (.v (.bool false))) rfl ?_
            refine so_nil ?_
            exact by_ret (res_mk (ar_cells rfl F67.ag41 F67.sz41 (hs.lds 4 rfl (leb rfl) rfl) (ar_tmp rfl ar_nil)) rfl) ⟨_, _, _, _, h, _, rfl, (Sep.nil (Sep.dropn 5 hs) 1)⟩
        · refine fi_true rfl (not_t (decide_eq_false c123)) ?_
          refine fi_seq ?_
          refine fi_region ?_
          refine so_build F67.bp41 (cps := []) rfl fan rfl ?_
          refine sv_st hs 3 rfl rfl rfl (c := [(.int .i64 (0 : Int)), (.int .i64 (0 : Int)), .nilsl]) rfl F67.sz41 rfl (stc rfl (stc rfl (stc rfl stn))) (leb rfl) (cs' := [(.int .i64 (0 : Int)), (.int .i64 (0 : Int)), .nilsl]) rfl nofun (fun H135 hs => ?_)
          refine so_assign (v := (.v (.bool false))) rfl ?_
          refine so_nil ?_
          exact by_ret (res_mk (ar_cells rfl F67.ag41 F67.sz41 (hs.lds 3 rfl (leb rfl) rfl) (ar_tmp rfl ar_nil)) rfl) ⟨_, _, _, _, h, _, rfl, (Sep.nil (Sep.dropn 4 hs) 1)⟩
      · refine so_gno rfl (not_t c122) ?_
        refine so_gno rfl (not_t c122) ?_
        refine so_gno rfl (not_t c122) ?_
        refine so_pick_t (v := (.v (.bool true))) rfl (not_t c122) rfl ?_
        refine so_nil ?_
        refine fi_true rfl rfl ?_
        refine fi_seq ?_
        refine fi_region ?_
        refine so_build F67.bp41 (cps := []) rfl fan rfl ?_
        refine sv_st hs 3 rfl rfl rfl (c := [(.int .i64 (0 : Int)), (.int .i64 (0 : Int)), .nilsl]) rfl F67.sz41 rfl (stc rfl (stc rfl (stc rfl stn))) (leb rfl) (cs' := [(.int .i64 (0 : Int)), (.int .i64 (0 : Int)), .nilsl]) rfl nofun (fun H136 hs => ?_)
        refine so_assign (v := (.v (.bool false))) rfl ?_
        refine so_nil ?_
        exact by_ret (res_mk (ar_cells rfl F67.ag41 F67.sz41 (hs.lds 3 rfl (leb rfl) rfl) (ar_tmp rfl ar_nil)) rfl) ⟨_, _, _, _, h, _, rfl, (Sep.nil (Sep.dropn 4 hs) 1)⟩
    · refine so_gno rfl (not_t c121) ?_
      refine so_gno rfl (not_t c121) ?_
      refine so_pick_t (v := (.v (.bool true))) rfl (not_t c121) rfl ?_
      refine so_move (v := (.v (.bool true))) rfl ?_
      refine so_gno rfl rfl ?_
      refine so_gno rfl rfl ?_
      refine so_gno rfl rfl ?_
      refine so_pick_t (v := (.v (.bool true))) rfl rfl rfl ?_
      refine so_nil ?_
      refine fi_true rfl rfl ?_
      refine fi_seq ?_
      refine fi_region ?_
      refine so_build F67.bp41 (cps := []) rfl fan rfl ?_
      refine sv_st hs 3 rfl rfl rfl (c := [(.int .i64 (0 : Int)), (.int .i64 (0 : Int)), .nilsl]) rfl F67.sz41 rfl (stc rfl (stc rfl (stc rfl stn))) (leb rfl) (cs' := [(.int .i64 (0 : Int)), (.int .i64 (0 : Int)), .nilsl]) rfl nofun (fun H137 hs => ?_)
      refine so_assign (v := (.v (.bool false))) rfl ?_
      refine so_nil ?_
      exact by_ret (res_mk (ar_cells rfl F67.ag41 F67.sz41 (hs.lds 3 rfl (leb rfl) rfl) (ar_tmp rfl ar_nil)) rfl) ⟨_, _, _, _, h, _, rfl, (Sep.nil (Sep.dropn 4 hs) 1)⟩
  · refine fi_true rfl (not_t (decide_eq_false c108)) ?_
    refine fi_seq ?_
    refine fi_region ?_
    refine so_build F67.bp41 (cps := []) rfl fan rfl ?_
    refine sv_st hs 1 rfl rfl rfl (c := [(.int .i64 (0 : Int)), (.int .i64 (0 : Int)), .nilsl]) rfl F67.sz41 rfl (stc rfl (stc rfl (stc rfl stn))) (leb rfl) (cs' := [(.int .i64 (0 : Int)), (.int .i64 (0 : Int)), .nilsl]) rfl nofun (fun H138 hs => ?_)
    refine so_assign (v := (.v (.bool false))) rfl ?_
    refine so_nil ?_
    exact by_ret (res_mk (ar_cells rfl F67.ag41 F67.sz41 (hs.lds 1 rfl (leb rfl) rfl) (ar_tmp rfl ar_nil)) rfl) ⟨_, _, _, _, h, _, rfl, (Sep.nil (Sep.del 0 (Sep.del 0 hs)) 1)⟩

end Go.Proofs.YtcgiboeilcdonaaDoor.G

namespace Go.Proofs.YtcgiboeilcdonaaDoor.G
open Go Go.Ab Go.Proofs Go.Proofs.YtcgiboeilcdonaaDoor
set_option maxRecDepth 100000
set_option linter.unusedVariables false
set_option linter.unusedSimpArgs false
set_option maxHeartbeats 1000000
attribute [local irreducible] wops wopf Go.Ab.Fin
theorem F30.ag41 : tagg Tryd.prog 41 = some true := by kernel_rfl
theorem F30.sz41 : tsz Tryd.prog 41 = some 3 := by kernel_rfl
theorem F30.ze41 : tzero Tryd.prog 41 = some [(.int .i64 (0 : Int)), (.int .i64 (0 : Int)), .nilsl] := by kernel_rfl
theorem spec_ReadCoded_ok {fr : List Pc} {H : Heap} (a0 : List UInt8) (hs : Sep H (fr))  (K : Int → Int → (List (Bool)) → Bool → Prop) (h : spec_ReadCoded.wp a0 K) : OkQ Tryd.prog 30 [(.v (.str (pk a0)))] H (fun r H2 => ∃ (y0 : Int) (y1 : Int) (y2 : List (Bool)) (y3 : Bool), K y0 y1 y2 y3 ∧ ∃ (w0_ : AV), r = (.t [(.g [(.int .i64 y0), (.int .i64 y1), w0_]), (.v (.bool y3))]) ∧ Sep H2 (Pc.osl w0_ 1 (enc eBool y2) :: fr)) := by
  unfold spec_ReadCoded.wp at h
  refine of_body Tryd.f30 F.hm Tryd.func30 rfl Tryd.call30 (by kernel_rfl) (by simp) ?_
  refine fi_seq ?_
  refine fi_region ?_
  refine sv_alloc hs F30.ze41 rfl nofun (fun id101 H102 hs => ?_)
  refine so_assign (v := (.v (.bool false))) rfl ?_
  refine so_nil ?_
  refine fi_seq ?_
  refine fi_region ?_
  refine so_move (v := (.v (.str (pk a0)))) rfl ?_
  refine sv_call (spec_l08ReadCoded_ok a0 hs  _ h) rfl rfl nofun ?_
  clear h hs
  rintro _ H110 ⟨y104, y105, y106, y109, h, v107, rfl, hs⟩
  refine so_extract rfl rfl rfl ?_
  refine so_extract rfl rfl rfl ?_
  refine sv_st hs 1 rfl rfl rfl (c := [(.int .i64 y104), (.int .i64 y105), v107]) rfl F30.sz41 rfl (stc rfl (stc rfl (stc (hs.shows 0 rfl).stor stn))) (leb rfl) (cs' := [(.int .i64 y104), (.int .i64 y105), v107]) rfl nofun (fun H111 hs => ?_)
  refine so_assign (v := (.v (.bool y109))) rfl ?_
  refine so_nil ?_
  exact by_ret (res_mk (ar_cells rfl F30.ag41 F30.sz41 (hs.lds 1 rfl (leb rfl) rfl) (ar_tmp rfl ar_nil)) rfl) ⟨_, _, _, _, h, _, rfl, (Sep.del 1 hs)⟩

end Go.Proofs.YtcgiboeilcdonaaDoor.G

namespace Go.Proofs.YtcgiboeilcdonaaDoor.G
open Go Go.Ab Go.Proofs Go.Proofs.YtcgiboeilcdonaaDoor
set_option maxRecDepth 100000
set_option linter.unusedVariables false
set_option linter.unusedSimpArgs false
set_option maxHeartbeats 1000000
attribute [local irreducible] wops wopf Go.Ab.Fin
theorem strings_Trim_ok {fr : List Pc} {H : Heap} (a0 : List UInt8) (a1 : List UInt8) (hs : Sep H fr) (K : List UInt8 → Prop) (h : strings_Trim.wp a0 a1 K) : OkQ Tryd.prog 49 [.v (.str (pk a0)), .v (.str (pk a1))] H (fun r H2 => ∃ (y0 : List UInt8), K y0 ∧ r = (.v (.str (pk y0))) ∧ H = H2) :=
  ⟨.v (.str (pk (Lib.trimS a0 a1))), _, ok_lib2 [.string (pk a0), .string (pk a1)] (.string (pk (Lib.trimS a0 a1))) Tryd.call49 (args_ss _ _) (fun β => rfl) (fun w => Any.strings_Trim_laid Tryd.lays160 (by kernel_rfl) (pk a0) (pk a1) w (by rw [pk_size]; have := h.1.1; omega) (by rw [pk_size]; have := h.1.2.1; omega) (ascii_of_all h.1.2.2)), _, h.2, rfl, rfl⟩

end Go.Proofs.YtcgiboeilcdonaaDoor.G

namespace Go.Proofs.YtcgiboeilcdonaaDoor.G
open Go Go.Ab Go.Proofs Go.Proofs.YtcgiboeilcdonaaDoor
set_option maxRecDepth 100000
set_option linter.unusedVariables false
set_option linter.unusedSimpArgs false
set_option maxHeartbeats 1000000
attribute [local irreducible] wops wopf Go.Ab.Fin
theorem F12.sr9 : tstr Tryd.prog 9 = true := by kernel_rfl
theorem F12.sz4 : tsz Tryd.prog 4 = some 1 := by kernel_rfl
theorem F12.ta22_22 : tapp Tryd.prog 22 22 = some (1, 1) := by kernel_rfl
theorem F12.te22 : telem Tryd.prog 22 = some 4 := by kernel_rfl
theorem F12.ze4 : tzero Tryd.prog 4 = some [(.bool false)] := by kernel_rfl
theorem impl_ReadBits_ok {fr : List Pc} {H : Heap} (a0 : List UInt8) (hs : Sep H (fr))  (K : (List (Bool)) → Bool → Prop) (h : impl_ReadBits.wp a0 K) : OkQ Tryd.prog 12 [(.v (.str (pk a0)))] H (fun r H2 => ∃ (y0 : List (Bool)) (y1 : Bool), K y0 y1 ∧ ∃ (w0_ : AV), r = (.t [(.v w0_), (.v (.bool y1))]) ∧ Sep H2 (Pc.osl w0_ 1 (enc eBool y0) :: fr)) := by
  unfold impl_ReadBits.wp at h
  refine of_body Tryd.f12 F.hm Tryd.func12 rfl Tryd.call12 (by kernel_rfl) (by simp) ?_
  refine fi_seq ?_
  refine fi_region ?_
  refine so_assign (v := (.v .nilsl)) rfl ?_
  refine so_assign (v := (.v (.bool false))) rfl ?_
  refine so_nil ?_
  refine fi_seq ?_
  refine fi_seq ?_
  refine fi_region ?_
  refine so_move (v := (.v (.str (pk a0)))) rfl ?_
  refine so_slen rfl F12.sr9 ?_
  refine so_bin rfl rfl ab_gtr ?_
  refine so_move (v := (.v (.bool (decide ((32768 : Int) < (a0.length : Int)))))) rfl ?_
  replace h := ofP h; rcases h with ⟨c101, h⟩ | ⟨c101, h⟩
  · refine so_gno rfl (decide_eq_true c101) ?_
    refine so_gno rfl (decide_eq_true c101) ?_
    refine so_gno rfl (decide_eq_true c101) ?_
    refine so_pick_t (v := (.v (.bool true))) rfl (decide_eq_true c101) rfl ?_
    refine so_nil ?_
    refine fi_true rfl rfl ?_
    refine fi_seq ?_
    refine fi_region ?_
    refine so_assign (v := (.v .nilsl)) rfl ?_
    refine so_assign (v := (.v (.bool false))) rfl ?_
    refine so_nil ?_
    exact by_ret rfl ⟨_, _, h, _, rfl, (Sep.nil hs 1)⟩
  · refine so_gyes rfl (decide_eq_false c101) ?_
    refine so_move (v := (.v (.str (pk a0)))) rfl ?_
    refine so_gyes rfl (decide_eq_false c101) ?_
    refine sv_callS (strings_Trim_ok a0 ([48, 49] : List UInt8) hs  _ h) (fun _ _ ⟨_, _, _, e⟩ => e) rfl rfl ?_
    clear h
    rintro _ _ ⟨y102, h, rfl, rfl⟩
    refine so_gyes rfl (decide_eq_false c101) ?_
    refine so_bin rfl rfl ab_sneq ?_
    refine so_pick_f (v := (.v (.bool (!(decide (y102 = ([] : List UInt8))))))) rfl (decide_eq_false c101) rfl ?_
    refine so_nil ?_
    replace h := ofP h; rcases h with ⟨c104, h⟩ | ⟨c104, h⟩
    · refine fi_false rfl (not_f (decide_eq_true c104)) ?_
      refine fi_skip ?_
      refine fi_seq ?_
      refine fi_region ?_
      refine sv_bslice hs eBool ([] : List (Bool)) [] F12.te22 F12.sz4 F12.ze4 rfl rfl rfl rfl (fun _ => rfl) rfl (by decide) nofun (fun v105 H106 nv105 hs => ?_)
      refine so_assign (v := (.v v105)) rfl ?_
      refine so_nil ?_
      refine fi_seq ?_
      refine fi_seq ?_
      refine fi_region ?_
      refine so_move (v := (.v (.str (pk a0)))) rfl ?_
      refine so_slen rfl F12.sr9 ?_
      refine so_move (v := (.v (.int .i64 (0 : Int)))) rfl ?_
      refine so_nil ?_
      refine fi_block ?_
      refine fi_loop ?_
      refine fi_at [(0, (.v (.str (pk a0)))), (4, (.v v105)), (16, (.v (.int .i64 (a0.length : Int)))), (17, (.v (.int .i64 (0 : Int))))] ⟨rfl, rfl, rfl, rfl, trivial⟩ ?_
      refine h (fun (out121 : List (Bool)) (x123 : Int) => ∀ (s : Nat → TV) (H : Heap) (v122 : AV) (nv122 : v122 ≠ .nilsl), Sep H (Pc.osl v122 1 (enc eBool out121) :: fr) → Fin _ _ (updL s [(0, (.v (.str (pk a0)))), (4, (.v v122)), (16, (.v (.int .i64 (a0.length : Int)))), (17, (.v (.int .i64 x123)))]) H _) ?_ _ _ _ nv105 hs
      intro out121 x123 h s132 H133 v122 nv122 hs
      refine fi_inLoop ?_
      refine fi_seq ?_
      refine fi_region ?_
      refine so_bin rfl rfl ab_lss ?_
      refine so_nil ?_
      refine fi_seq ?_
      replace h := ofP h; rcases h with ⟨c124, h⟩ | ⟨c124, h⟩
      · refine fi_true rfl (decide_eq_true c124) ?_
        refine fi_skip ?_
        refine fi_seq ?_
        refine fi_block ?_
        refine fi_seq ?_
        refine fi_region ?_
        refine so_move (v := (.v (.int .i64 x123))) rfl ?_
        refine so_assign (v := (.v (.int .i64 x123))) rfl ?_
        refine so_nil ?_
        refine fi_region ?_
        refine so_move (v := (.v v122)) rfl ?_
        refine so_move (v := (.v (.str (pk a0)))) rfl ?_
        refine so_move (v := (.v (.int .i64 x123))) rfl ?_
        obtain ⟨c125, h⟩ := h
        refine so_index rfl rfl F12.sr9 c125 ?_
        refine so_bin rfl rfl ab_eql ?_
        refine sv_bslice hs eBool ([(decide ((bt a0 x123) = (49 : Int)))] : List (Bool)) [[(.bool (decide ((bt a0 x123) = (49 : Int))))]] F12.te22 F12.sz4 F12.ze4 rfl rfl rfl rfl (fun _ => rfl) rfl (by decide) nofun (fun v126 H127 nv126 hs => ?_)
        obtain ⟨c131, h⟩ := h
        refine sv_app hs 1 rfl (hs.shows 0 rfl) (fun _ => rfl) (by decide) F12.ta22_22 (by decide) c131 rfl rfl nofun (fun v129 H130 kv129 hs => ?_)
        replace hs := hs.del 0
        have nv129 := kv129 nv122
        refine so_assign (v := (.v v129)) rfl ?_
        refine so_nil ?_
        refine fi_inBlock ?_
        refine fi_region ?_
        refine so_bin rfl rfl ab_add ?_
        refine so_move (v := (.v (.int .i64 (IntKind.i64.wrap (x123 + (1 : Int)))))) rfl ?_
        refine so_nil ?_
        exact fi_at [(0, (.v (.str (pk a0)))), (4, (.v v129)), (16, (.v (.int .i64 (a0.length : Int)))), (17, (.v (.int .i64 (IntKind.i64.wrap (x123 + (1 : Int))))))] ⟨rfl, rfl, rfl, rfl, trivial⟩ (h _ _ _ nv129 hs)
      · refine fi_false rfl (decide_eq_false c124) ?_
        refine fi_exit rfl ?_
        refine fi_seq ?_
        refine fi_region ?_
        refine so_move (v := (.v v122)) rfl ?_
        refine so_assign (v := (.v v122)) rfl ?_
        refine so_assign (v := (.v (.bool true))) rfl ?_
        refine so_nil ?_
        exact by_ret rfl ⟨_, _, h, _, rfl, hs⟩
    · refine fi_true rfl (not_t (decide_eq_false c104)) ?_
      refine fi_seq ?_
      refine fi_region ?_
      refine so_assign (v := (.v .nilsl)) rfl ?_
      refine so_assign (v := (.v (.bool false))) rfl ?_
      refine so_nil ?_
      exact by_ret rfl ⟨_, _, h, _, rfl, (Sep.nil hs 1)⟩

end Go.Proofs.YtcgiboeilcdonaaDoor.G

namespace Go.Proofs.YtcgiboeilcdonaaDoor.G
open Go Go.Ab Go.Proofs Go.Proofs.YtcgiboeilcdonaaDoor
set_option maxRecDepth 100000
set_option linter.unusedVariables false
set_option linter.unusedSimpArgs false
set_option maxHeartbeats 1000000
attribute [local irreducible] wops wopf Go.Ab.Fin
theorem impl_within_ok {fr : List Pc} {H : Heap} (a0 : Int) (a1 : Int) (a2 : Int) (hs : Sep H (fr))  (K : Bool → Prop) (h : impl_within.wp a0 a1 a2 K) : OkQ Tryd.prog 96 [(.v (.int .i64 a0)), (.v (.int .i64 a1)), (.v (.int .i64 a2))] H (fun r H2 => ∃ (y0 : Bool), K y0 ∧ r = (.v (.bool y0)) ∧ H = H2) := by
  unfold impl_within.wp at h
  refine of_body Tryd.f96 F.hm Tryd.func96 rfl Tryd.call96 (by kernel_rfl) (by simp) ?_
  refine fi_seq ?_
  refine fi_region ?_
  refine so_assign (v := (.v (.bool false))) rfl ?_
  refine so_nil ?_
  refine fi_seq ?_
  refine fi_region ?_
  refine so_move (v := (.v (.int .i64 a0))) rfl ?_
  refine so_move (v := (.v (.int .i64 a1))) rfl ?_
  refine so_bin rfl rfl ab_geq ?_
  refine so_move (v := (.v (.bool (decide (a1 ≤ a0))))) rfl ?_
  replace h := ofP h; rcases h with ⟨c101, h⟩ | ⟨c101, h⟩
  · refine so_gyes rfl (decide_eq_true c101) ?_
    refine so_move (v := (.v (.int .i64 a0))) rfl ?_
    refine so_gyes rfl (decide_eq_true c101) ?_
    refine so_move (v := (.v (.int .i64 a2))) rfl ?_
    refine so_gyes rfl (decide_eq_true c101) ?_
    refine so_bin rfl rfl ab_leq ?_
    refine so_pick_t (v := (.v (.bool (decide (a0 ≤ a2))))) rfl (decide_eq_true c101) rfl ?_
    refine so_assign (v := (.v (.bool (decide (a0 ≤ a2))))) rfl ?_
    refine so_nil ?_
    exact by_ret rfl ⟨_, h, rfl, rfl⟩
  · refine so_gno rfl (decide_eq_false c101) ?_
    refine so_gno rfl (decide_eq_false c101) ?_
    refine so_gno rfl (decide_eq_false c101) ?_
    refine so_pick_f (v := (.v (.bool false))) rfl (decide_eq_false c101) rfl ?_
    refine so_assign (v := (.v (.bool false))) rfl ?_
    refine so_nil ?_
    exact by_ret rfl ⟨_, h, rfl, rfl⟩

end Go.Proofs.YtcgiboeilcdonaaDoor.G

namespace Go.Proofs.YtcgiboeilcdonaaDoor.G
open Go Go.Ab Go.Proofs Go.Proofs.YtcgiboeilcdonaaDoor
set_option maxRecDepth 100000
set_option linter.unusedVariables false
set_option linter.unusedSimpArgs false
set_option maxHeartbeats 1000000
attribute [local irreducible] wops wopf Go.Ab.Fin
theorem F64.ag2 : tagg Tryd.prog 2 = some false := by kernel_rfl
theorem F64.ag22 : tagg Tryd.prog 22 = some false := by kernel_rfl
theorem F64.fd41_0 : tfield Tryd.prog 41 0 = some (0, 1, false) := by kernel_rfl
theorem F64.fd41_1 : tfield Tryd.prog 41 1 = some (1, 1, false) := by kernel_rfl
theorem F64.fd41_2 : tfield Tryd.prog 41 2 = some (2, 1, false) := by kernel_rfl
theorem F64.inf41 : (Tryd.prog.info? 41).isSome = true := by kernel_rfl
theorem F64.ti22 : (telem Tryd.prog 22).isSome = true := by kernel_rfl
theorem impl_ValidCoded_ok {fr : List Pc} {H : Heap} (a0 : Int) (a1 : Int) (v2 : AV) (l2 : List (Bool)) (hs : Sep H (fr)) (g2 : ∀ H, Sep H fr → Shows H v2 1 (enc eBool l2)) (K : Bool → Prop) (h : impl_ValidCoded.wp a0 a1 l2 K) : OkQ Tryd.prog 64 [(.g [(.int .i64 a0), (.int .i64 a1), v2])] H (fun r H2 => ∃ (y0 : Bool), K y0 ∧ r = (.v (.bool y0)) ∧ Sep H2 (fr)) := by
  unfold impl_ValidCoded.wp at h
  refine of_body Tryd.f64 F.hm Tryd.func64 rfl Tryd.call64 (by kernel_rfl) (by simp) ?_
  refine fi_seq ?_
  refine fi_region ?_
  refine sv_box hs rfl (c := [(.int .i64 a0), (.int .i64 a1), v2]) rfl F64.inf41 (stc rfl (stc rfl (stc (g2 _ hs).stor stn))) nofun (fun id101 H102 hs => ?_)
  refine so_assign (v := (.v (.bool false))) rfl ?_
  refine so_nil ?_
  refine fi_seq ?_
  refine fi_region ?_
  refine so_fieldAddr rfl F64.fd41_0 ?_
  refine sv_ld hs 0 rfl rfl rfl F64.ag2 ?_
  refine sv_callS (impl_within_ok a0 (1 : Int) (128 : Int) hs  _ h) (fun _ _ ⟨_, _, _, e⟩ => e) rfl rfl ?_
  clear h
  rintro _ _ ⟨y104, h, rfl, rfl⟩
  refine so_move (v := (.v (.bool y104))) rfl ?_
  replace h := ofT h; rcases h with ⟨c106, h⟩ | ⟨c106, h⟩
  · refine so_gyes rfl c106 ?_
    refine so_fieldAddr rfl F64.fd41_1 ?_
    refine so_gyes rfl c106 ?_
    refine sv_ld hs 0 rfl rfl rfl F64.ag2 ?_
    refine so_gyes rfl c106 ?_
    refine sv_callS (impl_within_ok a1 (0 : Int) (24 : Int) hs  _ h) (fun _ _ ⟨_, _, _, e⟩ => e) rfl rfl ?_
    clear h
    rintro _ _ ⟨y107, h, rfl, rfl⟩
    refine so_pick_t (v := (.v (.bool y107))) rfl c106 rfl ?_
    refine so_move (v := (.v (.bool y107))) rfl ?_
    replace h := ofT h; rcases h with ⟨c109, h⟩ | ⟨c109, h⟩
    · refine so_gyes rfl c109 ?_
      refine so_fieldAddr rfl F64.fd41_2 ?_
      refine so_gyes rfl c109 ?_
      refine sv_ld hs 0 rfl rfl rfl F64.ag22 ?_
      refine so_gyes rfl c109 ?_
      refine sv_len (g2 _ hs.tl) (fun _ => rfl) (by decide) rfl F64.ti22 ?_
      refine so_gyes rfl c109 ?_
      refine so_bin rfl rfl ab_leq ?_
      refine so_pick_t (v := (.v (.bool (decide ((l2.length : Int) ≤ (32768 : Int)))))) rfl c109 rfl ?_
      refine so_assign (v := (.v (.bool (decide ((l2.length : Int) ≤ (32768 : Int)))))) rfl ?_
      refine so_nil ?_
      exact by_ret rfl ⟨_, h, rfl, (Sep.del 0 hs)⟩
    · refine so_gno rfl c109 ?_
      refine so_gno rfl c109 ?_
      refine so_gno rfl c109 ?_
      refine so_gno rfl c109 ?_
      refine so_pick_f (v := (.v (.bool false))) rfl c109 rfl ?_
      refine so_assign (v := (.v (.bool false))) rfl ?_
      refine so_nil ?_
      exact by_ret rfl ⟨_, h, rfl, (Sep.del 0 hs)⟩
  · refine so_gno rfl c106 ?_
    refine so_gno rfl c106 ?_
    refine so_gno rfl c106 ?_
    refine so_pick_f (v := (.v (.bool false))) rfl c106 rfl ?_
    refine so_move (v := (.v (.bool false))) rfl ?_
    refine so_gno rfl rfl ?_
    refine so_gno rfl rfl ?_
    refine so_gno rfl rfl ?_
    refine so_gno rfl rfl ?_
    refine so_pick_f (v := (.v (.bool false))) rfl rfl rfl ?_
    refine so_assign (v := (.v (.bool false))) rfl ?_
    refine so_nil ?_
    exact by_ret rfl ⟨_, h, rfl, (Sep.del 0 hs)⟩
theorem impl_ValidCoded_okS {fr : List Pc} {H : Heap} (a0 : Int) (a1 : Int) (v2 : AV) (l2 : List (Bool)) (hs : Sep H fr) (g2 : ∀ H, Sep H fr → Shows H v2 1 (enc eBool l2)) (K : Bool → Prop) (h : impl_ValidCoded.wp a0 a1 l2 K) : OkQ Tryd.prog 64 [(.g [(.int .i64 a0), (.int .i64 a1), v2])] H (fun r H2 => ∃ (y0 : Bool), K y0 ∧ r = (.v (.bool y0)) ∧ H = H2) := by
  obtain ⟨r, H2, h1, y0, hK, hr, hsep⟩ := impl_ValidCoded_ok (fr := came H) (H := H) a0 a1 v2 l2 (came_sep H) (came_shows (g2 H hs)) K h
  have hk : H.n ≤ H2.n ∧ ∀ i, i < H.n → H2.f i = H.f i := hsep.1.2.1
  exact ⟨r, H, h1.forget hk.1 hk.2 (by subst hr; rfl), y0, hK, hr, rfl⟩

end Go.Proofs.YtcgiboeilcdonaaDoor.G

namespace Go.Proofs.YtcgiboeilcdonaaDoor.G
open Go Go.Ab Go.Proofs Go.Proofs.YtcgiboeilcdonaaDoor
set_option maxRecDepth 100000
set_option linter.unusedVariables false
set_option linter.unusedSimpArgs false
set_option maxHeartbeats 1000000
attribute [local irreducible] wops wopf Go.Ab.Fin
theorem internal_stringslite_Index_ok {fr : List Pc} {H : Heap} (a0 : List UInt8) (a1 : List UInt8) (hs : Sep H fr) (K : Int → Prop) (h : internal_stringslite_Index.wp a0 a1 K) : OkQ Tryd.prog 126 [.v (.str (pk a0)), .v (.str (pk a1))] H (fun r H2 => ∃ (y0 : Int), K y0 ∧ r = (.v (.int .i64 y0)) ∧ H = H2) := by
  obtain ⟨c, rfl, h⟩ := h
  exact ⟨.v (.int .i64 (Lib.indexByte a0 c)), _, ok_lib [.string (pk a0), .string (pk [c])] (.int .i64 (Lib.indexByte a0 c)) Tryd.call126 (args_ss _ _) (fun β => rfl) (fun w => Any.stringslite_Index_one Tryd.lays219 (pk a0) c w), _, h, rfl, rfl⟩

end Go.Proofs.YtcgiboeilcdonaaDoor.G

namespace Go.Proofs.YtcgiboeilcdonaaDoor.G
open Go Go.Ab Go.Proofs Go.Proofs.YtcgiboeilcdonaaDoor
set_option maxRecDepth 100000
set_option linter.unusedVariables false
set_option linter.unusedSimpArgs false
set_option maxHeartbeats 1000000
attribute [local irreducible] wops wopf Go.Ab.Fin
theorem F108.sr9 : tstr Tryd.prog 9 = true := by kernel_rfl
theorem internal_stringslite_Cut_ok {fr : List Pc} {H : Heap} (a0 : List UInt8) (a1 : List UInt8) (hs : Sep H (fr))  (K : (List UInt8) → (List UInt8) → Bool → Prop) (h : internal_stringslite_Cut.wp a0 a1 K) : OkQ Tryd.prog 108 [(.v (.str (pk a0))), (.v (.str (pk a1)))] H (fun r H2 => ∃ (y0 : List UInt8) (y1 : List UInt8) (y2 : Bool), K y0 y1 y2 ∧ r = (.t [(.v (.str (pk y0))), (.v (.str (pk y1))), (.v (.bool y2))]) ∧ H = H2) := by
  unfold internal_stringslite_Cut.wp at h
  refine of_body Tryd.f108 F.hm Tryd.func108 rfl Tryd.call108 (by kernel_rfl) (by simp) ?_
  refine fi_seq ?_
  refine fi_region ?_
  refine so_assign (v := (.v (.str (pk ([] : List UInt8))))) rfl ?_
  refine so_assign (v := (.v (.str (pk ([] : List UInt8))))) rfl ?_
  refine so_assign (v := (.v (.bool false))) rfl ?_
  refine so_nil ?_
  refine fi_seq ?_
  refine fi_seq ?_
  refine fi_region ?_
  refine so_move (v := (.v (.str (pk a0)))) rfl ?_
  refine so_move (v := (.v (.str (pk a1)))) rfl ?_
  refine sv_callS (internal_stringslite_Index_ok a0 a1 hs  _ h) (fun _ _ ⟨_, _, _, e⟩ => e) rfl rfl ?_
  clear h
  rintro _ _ ⟨y101, h, rfl, rfl⟩
  refine so_assign (v := (.v (.int .i64 y101))) rfl ?_
  refine so_nil ?_
  refine fi_seq ?_
  refine fi_region ?_
  refine so_move (v := (.v (.int .i64 y101))) rfl ?_
  refine so_bin rfl rfl ab_geq ?_
  refine so_nil ?_
  replace h := ofP h; rcases h with ⟨c103, h⟩ | ⟨c103, h⟩
  · refine fi_true rfl (decide_eq_true c103) ?_
    refine fi_seq ?_
    refine fi_region ?_
    refine so_move (v := (.v (.str (pk a0)))) rfl ?_
    refine so_move (v := (.v (.int .i64 y101))) rfl ?_
    obtain ⟨c104, h⟩ := h
    refine so_sslice rfl rfl rfl F108.sr9 rfl rfl c104 ?_
    refine so_move (v := (.v (.str (pk a0)))) rfl ?_
    refine so_move (v := (.v (.int .i64 y101))) rfl ?_
    refine so_move (v := (.v (.str (pk a1)))) rfl ?_
    refine so_slen rfl F108.sr9 ?_
    refine so_bin rfl rfl ab_add ?_
    obtain ⟨c105, h⟩ := h
    refine so_sslice rfl rfl rfl F108.sr9 rfl rfl c105 ?_
    refine so_assign (v := (.v (.str (pk ((a0.drop ((0 : Int)).toNat).take ((y101).toNat - ((0 : Int)).toNat)))))) rfl ?_
    refine so_assign (v := (.v (.str (pk ((a0.drop ((IntKind.i64.wrap (y101 + (a1.length : Int)))).toNat).take (((a0.length : Int)).toNat - ((IntKind.i64.wrap (y101 + (a1.length : Int)))).toNat)))))) rfl ?_
    refine so_assign (v := (.v (.bool true))) rfl ?_
    refine so_nil ?_
    exact by_ret rfl ⟨_, _, _, h, rfl, rfl⟩
  · refine fi_false rfl (decide_eq_false c103) ?_
    refine fi_skip ?_
    refine fi_seq ?_
    refine fi_region ?_
    refine so_move (v := (.v (.str (pk a0)))) rfl ?_
    refine so_assign (v := (.v (.str (pk a0)))) rfl ?_
    refine so_assign (v := (.v (.str (pk ([] : List UInt8))))) rfl ?_
    refine so_assign (v := (.v (.bool false))) rfl ?_
    refine so_nil ?_
    exact by_ret rfl ⟨_, _, _, h, rfl, rfl⟩

end Go.Proofs.YtcgiboeilcdonaaDoor.G

namespace Go.Proofs.YtcgiboeilcdonaaDoor.G
open Go Go.Ab Go.Proofs Go.Proofs.YtcgiboeilcdonaaDoor
set_option maxRecDepth 100000
set_option linter.unusedVariables false
set_option linter.unusedSimpArgs false
set_option maxHeartbeats 1000000
attribute [local irreducible] wops wopf Go.Ab.Fin
theorem strings_Cut_ok {fr : List Pc} {H : Heap} (a0 : List UInt8) (a1 : List UInt8) (hs : Sep H (fr))  (K : (List UInt8) → (List UInt8) → Bool → Prop) (h : strings_Cut.wp a0 a1 K) : OkQ Tryd.prog 68 [(.v (.str (pk a0))), (.v (.str (pk a1)))] H (fun r H2 => ∃ (y0 : List UInt8) (y1 : List UInt8) (y2 : Bool), K y0 y1 y2 ∧ r = (.t [(.v (.str (pk y0))), (.v (.str (pk y1))), (.v (.bool y2))]) ∧ H = H2) := by
  unfold strings_Cut.wp at h
  refine of_body Tryd.f68 F.hm Tryd.func68 rfl Tryd.call68 (by kernel_rfl) (by simp) ?_
  refine fi_seq ?_
  refine fi_region ?_
  refine so_assign (v := (.v (.str (pk ([] : List UInt8))))) rfl ?_
  refine so_assign (v := (.v (.str (pk ([] : List UInt8))))) rfl ?_
  refine so_assign (v := (.v (.bool false))) rfl ?_
  refine so_nil ?_
  refine fi_seq ?_
  refine fi_region ?_
  refine so_move (v := (.v (.str (pk a0)))) rfl ?_
  refine so_move (v := (.v (.str (pk a1)))) rfl ?_
  refine sv_callS (internal_stringslite_Cut_ok a0 a1 hs  _ h) (fun _ _ ⟨_, _, _, _, _, e⟩ => e) rfl rfl ?_
  clear h
  rintro _ _ ⟨y101, y102, y103, h, rfl, rfl⟩
  refine so_extract rfl rfl rfl ?_
  refine so_extract rfl rfl rfl ?_
  refine so_extract rfl rfl rfl ?_
  refine so_assign (v := (.v (.str (pk y101)))) rfl ?_
  refine so_assign (v := (.v (.str (pk y102)))) rfl ?_
  refine so_assign (v := (.v (.bool y103))) rfl ?_
  refine so_nil ?_
  exact by_ret rfl ⟨_, _, _, h, rfl, rfl⟩

end Go.Proofs.YtcgiboeilcdonaaDoor.G

namespace Go.Proofs.YtcgiboeilcdonaaDoor.G
open Go Go.Ab Go.Proofs Go.Proofs.YtcgiboeilcdonaaDoor
set_option maxRecDepth 100000
set_option linter.unusedVariables false
set_option linter.unusedSimpArgs false
set_option maxHeartbeats 1000000
attribute [local irreducible] wops wopf Go.Ab.Fin
theorem strings_explode_ok {fr : List Pc} {H : Heap} (a0 : List UInt8) (a1 : Int) (hs : Sep H (fr))  (K : (List (List UInt8)) → Prop) (h : strings_explode.wp a0 a1 K) : OkQ Tryd.prog 175 [(.v (.str (pk a0))), (.v (.int .i64 a1))] H (fun r H2 => ∃ (y0 : List (List UInt8)), K y0 ∧ ∃ (w0_ : AV), r = (.v w0_) ∧ Sep H2 (Pc.osl w0_ 1 (enc eStr y0) :: fr)) := by
  unfold strings_explode.wp at h
  refine of_body Tryd.f175 F.hm Tryd.func175 rfl Tryd.call175 (by kernel_rfl) (by simp) ?_
  exact h.elim

end Go.Proofs.YtcgiboeilcdonaaDoor.G

namespace Go.Proofs.YtcgiboeilcdonaaDoor.G
open Go Go.Ab Go.Proofs Go.Proofs.YtcgiboeilcdonaaDoor
set_option maxRecDepth 100000
set_option linter.unusedVariables false
set_option linter.unusedSimpArgs false
set_option maxHeartbeats 1000000
attribute [local irreducible] wops wopf Go.Ab.Fin
theorem strings_Count_ok {fr : List Pc} {H : Heap} (a0 : List UInt8) (a1 : List UInt8) (hs : Sep H fr) (K : Int → Prop) (h : strings_Count.wp a0 a1 K) : OkQ Tryd.prog 176 [.v (.str (pk a0)), .v (.str (pk a1))] H (fun r H2 => ∃ (y0 : Int), K y0 ∧ r = (.v (.int .i64 y0)) ∧ H = H2) := by
  obtain ⟨c, rfl, h⟩ := h
  exact ⟨.v (.int .i64 ((Lib.countByte a0 c : Nat) : Int)), _, ok_lib [.string (pk a0), .string (pk [c])] (.int .i64 ((Lib.countByte a0 c : Nat) : Int)) Tryd.call176 (args_ss _ _) (fun β => rfl) (fun w => Any.strings_Count_one Tryd.lays138 (pk a0) c w), _, h, rfl, rfl⟩

end Go.Proofs.YtcgiboeilcdonaaDoor.G

namespace Go.Proofs.YtcgiboeilcdonaaDoor.G
open Go Go.Ab Go.Proofs Go.Proofs.YtcgiboeilcdonaaDoor
set_option maxRecDepth 100000
set_option linter.unusedVariables false
set_option linter.unusedSimpArgs false
set_option maxHeartbeats 1000000
attribute [local irreducible] wops wopf Go.Ab.Fin
theorem strings_Index_ok {fr : List Pc} {H : Heap} (a0 : List UInt8) (a1 : List UInt8) (hs : Sep H fr) (K : Int → Prop) (h : strings_Index.wp a0 a1 K) : OkQ Tryd.prog 95 [.v (.str (pk a0)), .v (.str (pk a1))] H (fun r H2 => ∃ (y0 : Int), K y0 ∧ r = (.v (.int .i64 y0)) ∧ H = H2) := by
  obtain ⟨c, rfl, h⟩ := h
  exact ⟨.v (.int .i64 (Lib.indexByte a0 c)), _, ok_lib [.string (pk a0), .string (pk [c])] (.int .i64 (Lib.indexByte a0 c)) Tryd.call95 (args_ss _ _) (fun β => rfl) (fun w => Any.strings_Index_one Tryd.lays143 (pk a0) c w), _, h, rfl, rfl⟩

end Go.Proofs.YtcgiboeilcdonaaDoor.G

namespace Go.Proofs.YtcgiboeilcdonaaDoor.G
open Go Go.Ab Go.Proofs Go.Proofs.YtcgiboeilcdonaaDoor
set_option maxRecDepth 100000
set_option linter.unusedVariables false
set_option linter.unusedSimpArgs false
set_option maxHeartbeats 1000000
attribute [local irreducible] wops wopf Go.Ab.Fin
theorem F160.by9 : tbytes Tryd.prog 9 = some 16 := by kernel_rfl
theorem F160.sr9 : tstr Tryd.prog 9 = true := by kernel_rfl
theorem F160.sz9 : tsz Tryd.prog 9 = some 1 := by kernel_rfl
theorem F160.te28 : telem Tryd.prog 28 = some 9 := by kernel_rfl
theorem F160.tl28 : (telem Tryd.prog 28).bind (tsz Tryd.prog) = some 1 := by kernel_rfl
theorem F160.ze9 : tzero Tryd.prog 9 = some [(.str (pk ([] : List UInt8)))] := by kernel_rfl
theorem strings_genSplit_ok {fr : List Pc} {H : Heap} (a0 : List UInt8) (a1 : List UInt8) (a2 : Int) (a3 : Int) (hs : Sep H (fr))  (K : (List (List UInt8)) → Prop) (h : strings_genSplit.wp a0 a1 a2 a3 K) : OkQ Tryd.prog 160 [(.v (.str (pk a0))), (.v (.str (pk a1))), (.v (.int .i64 a2)), (.v (.int .i64 a3))] H (fun r H2 => ∃ (y0 : List (List UInt8)), K y0 ∧ ∃ (w0_ : AV), r = (.v w0_) ∧ Sep H2 (rdp w0_ 1 (enc eStr y0) :: fr)) := by
  unfold strings_genSplit.wp at h
  refine of_body Tryd.f160 F.hm Tryd.func160 rfl Tryd.call160 (by kernel_rfl) (by simp) ?_
  refine fi_seq ?_
  refine fi_region ?_
  refine so_assign (v := (.v .nilsl)) rfl ?_
  refine so_nil ?_
  refine fi_seq ?_
  refine fi_seq ?_
  refine fi_region ?_
  refine so_move (v := (.v (.int .i64 a3))) rfl ?_
  refine so_bin rfl rfl ab_eql ?_
  refine so_nil ?_
  replace h := ofP h; rcases h with ⟨c101, h⟩ | ⟨c101, h⟩
  · refine fi_true rfl (decide_eq_true c101) ?_
    refine fi_seq ?_
    refine fi_region ?_
    refine so_assign (v := (.v .nilsl)) rfl ?_
    refine so_nil ?_
    exact by_ret rfl ⟨_, h, _, rfl, (Sep.tord (Sep.nil hs 1) (.inl ⟨rfl, rfl⟩) (fun _ h => h))⟩
  · refine fi_false rfl (decide_eq_false c101) ?_
    refine fi_skip ?_
    refine fi_seq ?_
    refine fi_seq ?_
    refine fi_region ?_
    refine so_move (v := (.v (.str (pk a1)))) rfl ?_
    refine so_bin rfl rfl ab_seql ?_
    refine so_nil ?_
    replace h := ofP h; rcases h with ⟨c102, h⟩ | ⟨c102, h⟩
    · refine fi_true rfl (decide_eq_true c102) ?_
      refine fi_seq ?_
      refine fi_region ?_
      refine so_move (v := (.v (.str (pk a0)))) rfl ?_
      refine so_move (v := (.v (.int .i64 a3))) rfl ?_
      refine sv_call (strings_explode_ok a0 a3 hs  _ h) rfl rfl nofun ?_
      clear h hs
      rintro _ H106 ⟨y103, h, v104, rfl, hs⟩
      refine so_assign (v := (.v v104)) rfl ?_
      refine so_nil ?_
      exact by_ret rfl ⟨_, h, _, rfl, (Sep.tord hs (hs.shows 0 rfl) (fun _ h => h))⟩
    · refine fi_false rfl (decide_eq_false c102) ?_
      refine fi_skip ?_
      refine fi_seq ?_
      refine fi_seq ?_
      refine fi_region ?_
      refine so_move (v := (.v (.int .i64 a3))) rfl ?_
      refine so_bin rfl rfl ab_lss ?_
      refine so_nil ?_
      replace h := ofP h; rcases h with ⟨c107, h⟩ | ⟨c107, h⟩
      · refine fi_true rfl (decide_eq_true c107) ?_
        refine fi_region ?_
        refine so_move (v := (.v (.str (pk a0)))) rfl ?_
        refine so_move (v := (.v (.str (pk a1)))) rfl ?_
        refine sv_callS (strings_Count_ok a0 a1 hs  _ h) (fun _ _ ⟨_, _, _, e⟩ => e) rfl rfl ?_
        clear h
        rintro _ _ ⟨y108, h, rfl, rfl⟩
        refine so_bin rfl rfl ab_add ?_
        refine so_assign (v := (.v (.int .i64 (IntKind.i64.wrap (y108 + (1 : Int)))))) rfl ?_
        refine so_nil ?_
        refine fi_seq ?_
        refine fi_region ?_
        refine so_move (v := (.v (.int .i64 (IntKind.i64.wrap (y108 + (1 : Int)))))) rfl ?_
        refine so_move (v := (.v (.str (pk a0)))) rfl ?_
        refine so_slen rfl F160.sr9 ?_
        refine so_bin rfl rfl ab_add ?_
        refine sv_min rfl rfl ?_
        refine so_assign (v := (.v (.int .i64 (mnI (IntKind.i64.wrap (y108 + (1 : Int))) (IntKind.i64.wrap ((a0.length : Int) + (1 : Int))))))) rfl ?_
        refine so_nil ?_
        refine fi_seq ?_
        refine fi_region ?_
        refine so_move (v := (.v (.int .i64 (mnI (IntKind.i64.wrap (y108 + (1 : Int))) (IntKind.i64.wrap ((a0.length : Int) + (1 : Int))))))) rfl ?_
        obtain ⟨c110, h⟩ := h
        refine sv_make hs eStr ([] : List UInt8) c110 (fun _ => rfl) rfl rfl F160.te28 F160.sz9 F160.by9 F160.ze9 rfl rfl nofun (fun v111 H112 nv111 hs => ?_)
        refine so_assign (v := (.v v111)) rfl ?_
        refine so_nil ?_
        refine fi_seq ?_
        refine fi_region ?_
        refine so_move (v := (.v (.int .i64 (mnI (IntKind.i64.wrap (y108 + (1 : Int))) (IntKind.i64.wrap ((a0.length : Int) + (1 : Int))))))) rfl ?_
        refine so_bin rfl rfl ab_sub ?_
        refine so_assign (v := (.v (.int .i64 (IntKind.i64.wrap ((mnI (IntKind.i64.wrap (y108 + (1 : Int))) (IntKind.i64.wrap ((a0.length : Int) + (1 : Int)))) - (1 : Int)))))) rfl ?_
        refine so_nil ?_
        refine fi_seq ?_
        refine fi_region ?_
        refine so_assign (v := (.v (.int .i64 (0 : Int)))) rfl ?_
        refine so_nil ?_
        refine fi_seq ?_
        refine fi_block ?_
        refine fi_loop ?_
        refine fi_at [(0, (.v (.str (pk a0)))), (1, (.v (.str (pk a1)))), (2, (.v (.int .i64 a2))), (3, (.v (.int .i64 (IntKind.i64.wrap ((mnI (IntKind.i64.wrap (y108 + (1 : Int))) (IntKind.i64.wrap ((a0.length : Int) + (1 : Int)))) - (1 : Int)))))), (9, (.v v111)), (10, (.v (.int .i64 (0 : Int))))] ⟨rfl, rfl, rfl, rfl, rfl, rfl, trivial⟩ ?_
        refine h (fun (a132 : List (List UInt8)) (sq133 : List UInt8) (i134 : Int) => ∀ (s : Nat → TV) (H : Heap), Sep H (Pc.osl v111 1 (enc eStr a132) :: fr) → Fin _ _ (updL s [(0, (.v (.str (pk sq133)))), (1, (.v (.str (pk a1)))), (2, (.v (.int .i64 a2))), (3, (.v (.int .i64 (IntKind.i64.wrap ((mnI (IntKind.i64.wrap (y108 + (1 : Int))) (IntKind.i64.wrap ((a0.length : Int) + (1 : Int)))) - (1 : Int)))))), (9, (.v v111)), (10, (.v (.int .i64 i134)))]) H _) ?_ _ _ hs
        intro a132 sq133 i134 h s149 H150 hs
        refine fi_inLoop ?_
        refine fi_seq ?_
        refine fi_seq ?_
        refine fi_region ?_
        refine so_move (v := (.v (.int .i64 i134))) rfl ?_
        refine so_move (v := (.v (.int .i64 (IntKind.i64.wrap ((mnI (IntKind.i64.wrap (y108 + (1 : Int))) (IntKind.i64.wrap ((a0.length : Int) + (1 : Int)))) - (1 : Int)))))) rfl ?_
        refine so_bin rfl rfl ab_lss ?_
        refine so_nil ?_
        replace h := ofP h; rcases h with ⟨c135, h⟩ | ⟨c135, h⟩
        · refine fi_true rfl (decide_eq_true c135) ?_
          refine fi_skip ?_
          refine fi_block ?_
          refine fi_seq ?_
          refine fi_region ?_
          refine so_move (v := (.v (.str (pk sq133)))) rfl ?_
          refine so_move (v := (.v (.str (pk a1)))) rfl ?_
          refine sv_callS (strings_Index_ok sq133 a1 hs  _ h) (fun _ _ ⟨_, _, _, e⟩ => e) rfl rfl ?_
          clear h
          rintro _ _ ⟨y136, h, rfl, rfl⟩
          refine so_assign (v := (.v (.int .i64 y136))) rfl ?_
          refine so_nil ?_
          refine fi_seq ?_
          refine fi_seq ?_
          refine fi_region ?_
          refine so_move (v := (.v (.int .i64 y136))) rfl ?_
          refine so_bin rfl rfl ab_lss ?_
          refine so_nil ?_
          replace h := ofP h; rcases h with ⟨c138, h⟩ | ⟨c138, h⟩
          · refine fi_true rfl (decide_eq_true c138) ?_
            refine fi_exit rfl ?_
            refine fi_seq ?_
            refine fi_region ?_
            refine so_move (v := (.v v111)) rfl ?_
            refine so_move (v := (.v (.int .i64 i134))) rfl ?_
            refine so_move (v := (.v (.str (pk sq133)))) rfl ?_
            obtain ⟨c139, h⟩ := h
            refine sv_idx (hs.shows 0 rfl) c139 (fun _ => rfl) (by decide) rfl rfl F160.tl28 ?_
            refine sv_set hs 0 rfl c139 sq133 (fun _ => rfl) (by decide) rfl rfl rfl rfl F160.sz9 nofun (fun H140 hs => ?_)
            refine so_nil ?_
            refine fi_seq ?_
            refine fi_region ?_
            refine so_move (v := (.v v111)) rfl ?_
            refine so_move (v := (.v (.int .i64 i134))) rfl ?_
            refine so_bin rfl rfl ab_add ?_
            obtain ⟨c141, h⟩ := h
            refine sv_slice (hs.shows 0 rfl) c141 (fun _ => rfl) (by decide) rfl rfl rfl rfl rfl F160.tl28 ?_
            refine so_assign (v := (.v (v111.cut 1 ((0 : Int)).toNat ((IntKind.i64.wrap (i134 + (1 : Int)))).toNat))) rfl ?_
            refine so_nil ?_
            exact by_ret rfl ⟨_, h, _, rfl, (Sep.tord hs (Shows.cut (e := eStr) (n := 1) (fun _ => rfl) (hs.shows 0 rfl) (by decide) (cutok c141)) (cut_row _ _ _ _))⟩
          · refine fi_false rfl (decide_eq_false c138) ?_
            refine fi_skip ?_
            refine fi_seq ?_
            refine fi_region ?_
            refine so_move (v := (.v v111)) rfl ?_
            refine so_move (v := (.v (.int .i64 i134))) rfl ?_
            refine so_move (v := (.v (.str (pk sq133)))) rfl ?_
            refine so_move (v := (.v (.int .i64 y136))) rfl ?_
            refine so_move (v := (.v (.int .i64 a2))) rfl ?_
            refine so_bin rfl rfl ab_add ?_
            obtain ⟨c142, h⟩ := h
            refine so_sslice rfl rfl rfl F160.sr9 rfl rfl c142 ?_
            obtain ⟨c143, h⟩ := h
            refine sv_idx (hs.shows 0 rfl) c143 (fun _ => rfl) (by decide) rfl rfl F160.tl28 ?_
            refine sv_set hs 0 rfl c143 ((sq133.drop ((0 : Int)).toNat).take (((IntKind.i64.wrap (y136 + a2))).toNat - ((0 : Int)).toNat)) (fun _ => rfl) (by decide) rfl rfl rfl rfl F160.sz9 nofun (fun H144 hs => ?_)
            refine so_nil ?_
            refine fi_seq ?_
            refine fi_region ?_
            refine so_move (v := (.v (.str (pk sq133)))) rfl ?_
            refine so_move (v := (.v (.int .i64 y136))) rfl ?_
            refine so_move (v := (.v (.str (pk a1)))) rfl ?_
            refine so_slen rfl F160.sr9 ?_
            refine so_bin rfl rfl ab_add ?_
            obtain ⟨c145, h⟩ := h
            refine so_sslice rfl rfl rfl F160.sr9 rfl rfl c145 ?_
            refine so_assign (v := (.v (.str (pk ((sq133.drop ((IntKind.i64.wrap (y136 + (a1.length : Int)))).toNat).take (((sq133.length : Int)).toNat - ((IntKind.i64.wrap (y136 + (a1.length : Int)))).toNat)))))) rfl ?_
            refine so_nil ?_
            refine fi_region ?_
            refine so_move (v := (.v (.int .i64 i134))) rfl ?_
            refine so_bin rfl rfl ab_add ?_
            refine so_assign (v := (.v (.int .i64 (IntKind.i64.wrap (i134 + (1 : Int)))))) rfl ?_
            refine so_nil ?_
            refine fi_inBlock ?_
            exact fi_at [(0, (.v (.str (pk ((sq133.drop ((IntKind.i64.wrap (y136 + (a1.length : Int)))).toNat).take (((sq133.length : Int)).toNat - ((IntKind.i64.wrap (y136 + (a1.length : Int)))).toNat)))))), (1, (.v (.str (pk a1)))), (2, (.v (.int .i64 a2))), (3, (.v (.int .i64 (IntKind.i64.wrap ((mnI (IntKind.i64.wrap (y108 + (1 : Int))) (IntKind.i64.wrap ((a0.length : Int) + (1 : Int)))) - (1 : Int)))))), (9, (.v v111)), (10, (.v (.int .i64 (IntKind.i64.wrap (i134 + (1 : Int))))))] ⟨rfl, rfl, rfl, rfl, rfl, rfl, trivial⟩ (h _ _  hs)
        · refine fi_false rfl (decide_eq_false c135) ?_
          refine fi_exit rfl ?_
          refine fi_seq ?_
          refine fi_region ?_
          refine so_move (v := (.v v111)) rfl ?_
          refine so_move (v := (.v (.int .i64 i134))) rfl ?_
          refine so_move (v := (.v (.str (pk sq133)))) rfl ?_
          obtain ⟨c146, h⟩ := h
          refine sv_idx (hs.shows 0 rfl) c146 (fun _ => rfl) (by decide) rfl rfl F160.tl28 ?_
          refine sv_set hs 0 rfl c146 sq133 (fun _ => rfl) (by decide) rfl rfl rfl rfl F160.sz9 nofun (fun H147 hs => ?_)
          refine so_nil ?_
          refine fi_seq ?_
          refine fi_region ?_
          refine so_move (v := (.v v111)) rfl ?_
          refine so_move (v := (.v (.int .i64 i134))) rfl ?_
          refine so_bin rfl rfl ab_add ?_
          obtain ⟨c148, h⟩ := h
          refine sv_slice (hs.shows 0 rfl) c148 (fun _ => rfl) (by decide) rfl rfl rfl rfl rfl F160.tl28 ?_
          refine so_assign (v := (.v (v111.cut 1 ((0 : Int)).toNat ((IntKind.i64.wrap (i134 + (1 : Int)))).toNat))) rfl ?_
          refine so_nil ?_
          exact by_ret rfl ⟨_, h, _, rfl, (Sep.tord hs (Shows.cut (e := eStr) (n := 1) (fun _ => rfl) (hs.shows 0 rfl) (by decide) (cutok c148)) (cut_row _ _ _ _))⟩
      · refine fi_false rfl (decide_eq_false c107) ?_
        refine fi_skip ?_
        refine fi_seq ?_
        refine fi_region ?_
        refine so_move (v := (.v (.int .i64 a3))) rfl ?_
        refine so_move (v := (.v (.str (pk a0)))) rfl ?_
        refine so_slen rfl F160.sr9 ?_
        refine so_bin rfl rfl ab_add ?_
        refine sv_min rfl rfl ?_
        refine so_assign (v := (.v (.int .i64 (mnI a3 (IntKind.i64.wrap ((a0.length : Int) + (1 : Int))))))) rfl ?_
        refine so_nil ?_
        refine fi_seq ?_
        refine fi_region ?_
        refine so_move (v := (.v (.int .i64 (mnI a3 (IntKind.i64.wrap ((a0.length : Int) + (1 : Int))))))) rfl ?_
        obtain ⟨c151, h⟩ := h
        refine sv_make hs eStr ([] : List UInt8) c151 (fun _ => rfl) rfl rfl F160.te28 F160.sz9 F160.by9 F160.ze9 rfl rfl nofun (fun v152 H153 nv152 hs => ?_)
        refine so_assign (v := (.v v152)) rfl ?_
        refine so_nil ?_
        refine fi_seq ?_
        refine fi_region ?_
        refine so_move (v := (.v (.int .i64 (mnI a3 (IntKind.i64.wrap ((a0.length : Int) + (1 : Int))))))) rfl ?_
        refine so_bin rfl rfl ab_sub ?_
        refine so_assign (v := (.v (.int .i64 (IntKind.i64.wrap ((mnI a3 (IntKind.i64.wrap ((a0.length : Int) + (1 : Int)))) - (1 : Int)))))) rfl ?_
        refine so_nil ?_
        refine fi_seq ?_
        refine fi_region ?_
        refine so_assign (v := (.v (.int .i64 (0 : Int)))) rfl ?_
        refine so_nil ?_
        refine fi_seq ?_
        refine fi_block ?_
        refine fi_loop ?_
        refine fi_at [(0, (.v (.str (pk a0)))), (1, (.v (.str (pk a1)))), (2, (.v (.int .i64 a2))), (3, (.v (.int .i64 (IntKind.i64.wrap ((mnI a3 (IntKind.i64.wrap ((a0.length : Int) + (1 : Int)))) - (1 : Int)))))), (9, (.v v152)), (10, (.v (.int .i64 (0 : Int))))] ⟨rfl, rfl, rfl, rfl, rfl, rfl, trivial⟩ ?_
        refine h (fun (a173 : List (List UInt8)) (sq174 : List UInt8) (i175 : Int) => ∀ (s : Nat → TV) (H : Heap), Sep H (Pc.osl v152 1 (enc eStr a173) :: fr) → Fin _ _ (updL s [(0, (.v (.str (pk sq174)))), (1, (.v (.str (pk a1)))), (2, (.v (.int .i64 a2))), (3, (.v (.int .i64 (IntKind.i64.wrap ((mnI a3 (IntKind.i64.wrap ((a0.length : Int) + (1 : Int)))) - (1 : Int)))))), (9, (.v v152)), (10, (.v (.int .i64 i175)))]) H _) ?_ _ _ hs
        intro a173 sq174 i175 h s190 H191 hs
        refine fi_inLoop ?_
        refine fi_seq ?_
        refine fi_seq ?_
        refine fi_region ?_
        refine so_move (v := (.v (.int .i64 i175))) rfl ?_
        refine so_move (v := (.v (.int .i64 (IntKind.i64.wrap ((mnI a3 (IntKind.i64.wrap ((a0.length : Int) + (1 : Int)))) - (1 : Int)))))) rfl ?_
        refine so_bin rfl rfl ab_lss ?_
        refine so_nil ?_
        replace h := ofP h; rcases h with ⟨c176, h⟩ | ⟨c176, h⟩
        · refine fi_true rfl (decide_eq_true c176) ?_
          refine fi_skip ?_
          refine fi_block ?_
          refine fi_seq ?_
          refine fi_region ?_
          refine so_move (v := (.v (.str (pk sq174)))) rfl ?_
          refine so_move (v := (.v (.str (pk a1)))) rfl ?_
          refine sv_callS (strings_Index_ok sq174 a1 hs  _ h) (fun _ _ ⟨_, _, _, e⟩ => e) rfl rfl ?_
          clear h
          rintro _ _ ⟨y177, h, rfl, rfl⟩
          refine so_assign (v := (.v (.int .i64 y177))) rfl ?_
          refine so_nil ?_
          refine fi_seq ?_
          refine fi_seq ?_
          refine fi_region ?_
          refine so_move (v := (.v (.int .i64 y177))) rfl ?_
          refine so_bin rfl rfl ab_lss ?_
          refine so_nil ?_
          replace h := ofP h; rcases h with ⟨c179, h⟩ | ⟨c179, h⟩
          · refine fi_true rfl (decide_eq_true c179) ?_
            refine fi_exit rfl ?_
            refine fi_seq ?_
            refine fi_region ?_
            refine so_move (v := (.v v152)) rfl ?_
            refine so_move (v := (.v (.int .i64 i175))) rfl ?_
            refine so_move (v := (.v (.str (pk sq174)))) rfl ?_
            obtain ⟨c180, h⟩ := h
            refine sv_idx (hs.shows 0 rfl) c180 (fun _ => rfl) (by decide) rfl rfl F160.tl28 ?_
            refine sv_set hs 0 rfl c180 sq174 (fun _ => rfl) (by decide) rfl rfl rfl rfl F160.sz9 nofun (fun H181 hs => ?_)
            refine so_nil ?_
            refine fi_seq ?_
            refine fi_region ?_
            refine so_move (v := (.v v152)) rfl ?_
            refine so_move (v := (.v (.int .i64 i175))) rfl ?_
            refine so_bin rfl rfl ab_add ?_
            obtain ⟨c182, h⟩ := h
            refine sv_slice (hs.shows 0 rfl) c182 (fun _ => rfl) (by decide) rfl rfl rfl rfl rfl F160.tl28 ?_
            refine so_assign (v := (.v (v152.cut 1 ((0 : Int)).toNat ((IntKind.i64.wrap (i175 + (1 : Int)))).toNat))) rfl ?_
            refine so_nil ?_
            exact by_ret rfl ⟨_, h, _, rfl, (Sep.tord hs (Shows.cut (e := eStr) (n := 1) (fun _ => rfl) (hs.shows 0 rfl) (by decide) (cutok c182)) (cut_row _ _ _ _))⟩
          · refine fi_false rfl (decide_eq_false c179) ?_
            refine fi_skip ?_
            refine fi_seq ?_
            refine fi_region ?_
            refine so_move (v := (.v v152)) rfl ?_
            refine so_move (v := (.v (.int .i64 i175))) rfl ?_
            refine so_move (v := (.v (.str (pk sq174)))) rfl ?_
            refine so_move (v := (.v (.int .i64 y177))) rfl ?_
            refine so_move (v := (.v (.int .i64 a2))) rfl ?_
            refine so_bin rfl rfl ab_add ?_
            obtain ⟨c183, h⟩ := h
            refine so_sslice rfl rfl rfl F160.sr9 rfl rfl c183 ?_
            obtain ⟨c184, h⟩ := h
            refine sv_idx (hs.shows 0 rfl) c184 (fun _ => rfl) (by decide) rfl rfl F160.tl28 ?_
            refine sv_set hs 0 rfl c184 ((sq174.drop ((0 : Int)).toNat).take (((IntKind.i64.wrap (y177 + a2))).toNat - ((0 : Int)).toNat)) (fun _ => rfl) (by decide) rfl rfl rfl rfl F160.sz9 nofun (fun H185 hs => ?_)
            refine so_nil ?_
            refine fi_seq ?_
            refine fi_region ?_
            refine so_move (v := (.v (.str (pk sq174)))) rfl ?_
            refine so_move (v := (.v (.int .i64 y177))) rfl ?_
            refine so_move (v := (.v (.str (pk a1)))) rfl ?_
            refine so_slen rfl F160.sr9 ?_
            refine so_bin rfl rfl ab_add ?_
            obtain ⟨c186, h⟩ := h
            refine so_sslice rfl rfl rfl F160.sr9 rfl rfl c186 ?_
            refine so_assign (v := (.v (.str (pk ((sq174.drop ((IntKind.i64.wrap (y177 + (a1.length : Int)))).toNat).take (((sq174.length : Int)).toNat - ((IntKind.i64.wrap (y177 + (a1.length : Int)))).toNat)))))) rfl ?_
            refine so_nil ?_
            refine fi_region ?_
            refine so_move (v := (.v (.int .i64 i175))) rfl ?_
            refine so_bin rfl rfl ab_add ?_
            refine so_assign (v := (.v (.int .i64 (IntKind.i64.wrap (i175 + (1 : Int)))))) rfl ?_
            refine so_nil ?_
            refine fi_inBlock ?_
            exact fi_at [(0, (.v (.str (pk ((sq174.drop ((IntKind.i64.wrap (y177 + (a1.length : Int)))).toNat).take (((sq174.length : Int)).toNat - ((IntKind.i64.wrap (y177 + (a1.length : Int)))).toNat)))))), (1, (.v (.str (pk a1)))), (2, (.v (.int .i64 a2))), (3, (.v (.int .i64 (IntKind.i64.wrap ((mnI a3 (IntKind.i64.wrap ((a0.length : Int) + (1 : Int)))) - (1 : Int)))))), (9, (.v v152)), (10, (.v (.int .i64 (IntKind.i64.wrap (i175 + (1 : Int))))))] ⟨rfl, rfl, rfl, rfl, rfl, rfl, trivial⟩ (h _ _  hs)
        · refine fi_false rfl (decide_eq_false c176) ?_
          refine fi_exit rfl ?_
          refine fi_seq ?_
          refine fi_region ?_
          refine so_move (v := (.v v152)) rfl ?_
          refine so_move (v := (.v (.int .i64 i175))) rfl ?_
          refine so_move (v := (.v (.str (pk sq174)))) rfl ?_
          obtain ⟨c187, h⟩ := h
          refine sv_idx (hs.shows 0 rfl) c187 (fun _ => rfl) (by decide) rfl rfl F160.tl28 ?_
          refine sv_set hs 0 rfl c187 sq174 (fun _ => rfl) (by decide) rfl rfl rfl rfl F160.sz9 nofun (fun H188 hs => ?_)
          refine so_nil ?_
          refine fi_seq ?_
          refine fi_region ?_
          refine so_move (v := (.v v152)) rfl ?_
          refine so_move (v := (.v (.int .i64 i175))) rfl ?_
          refine so_bin rfl rfl ab_add ?_
          obtain ⟨c189, h⟩ := h
          refine sv_slice (hs.shows 0 rfl) c189 (fun _ => rfl) (by decide) rfl rfl rfl rfl rfl F160.tl28 ?_
          refine so_assign (v := (.v (v152.cut 1 ((0 : Int)).toNat ((IntKind.i64.wrap (i175 + (1 : Int)))).toNat))) rfl ?_
          refine so_nil ?_
          exact by_ret rfl ⟨_, h, _, rfl, (Sep.tord hs (Shows.cut (e := eStr) (n := 1) (fun _ => rfl) (hs.shows 0 rfl) (by decide) (cutok c189)) (cut_row _ _ _ _))⟩

end Go.Proofs.YtcgiboeilcdonaaDoor.G

namespace Go.Proofs.YtcgiboeilcdonaaDoor.G
open Go Go.Ab Go.Proofs Go.Proofs.YtcgiboeilcdonaaDoor
set_option maxRecDepth 100000
set_option linter.unusedVariables false
set_option linter.unusedSimpArgs false
set_option maxHeartbeats 1000000
attribute [local irreducible] wops wopf Go.Ab.Fin
theorem strings_Split_ok {fr : List Pc} {H : Heap} (a0 : List UInt8) (a1 : List UInt8) (hs : Sep H (fr))  (K : (List (List UInt8)) → Prop) (h : strings_Split.wp a0 a1 K) : OkQ Tryd.prog 141 [(.v (.str (pk a0))), (.v (.str (pk a1)))] H (fun r H2 => ∃ (y0 : List (List UInt8)), K y0 ∧ ∃ (w0_ : AV), r = (.v w0_) ∧ Sep H2 (rdp w0_ 1 (enc eStr y0) :: fr)) := by
  unfold strings_Split.wp at h
  refine of_body Tryd.f141 F.hm Tryd.func141 rfl Tryd.call141 (by kernel_rfl) (by simp) ?_
  refine fi_seq ?_
  refine fi_region ?_
  refine so_assign (v := (.v .nilsl)) rfl ?_
  refine so_nil ?_
  refine fi_seq ?_
  refine fi_region ?_
  refine so_move (v := (.v (.str (pk a0)))) rfl ?_
  refine so_move (v := (.v (.str (pk a1)))) rfl ?_
  refine sv_call (strings_genSplit_ok a0 a1 (0 : Int) (-1 : Int) hs  _ h) rfl rfl nofun ?_
  clear h hs
  rintro _ H104 ⟨y101, h, v102, rfl, hs⟩
  refine so_assign (v := (.v v102)) rfl ?_
  refine so_nil ?_
  exact by_ret rfl ⟨_, h, _, rfl, hs⟩

end Go.Proofs.YtcgiboeilcdonaaDoor.G

namespace Go.Proofs.YtcgiboeilcdonaaDoor.G
open Go Go.Ab Go.Proofs Go.Proofs.YtcgiboeilcdonaaDoor
set_option maxRecDepth 100000
set_option linter.unusedVariables false
set_option linter.unusedSimpArgs false
set_option maxHeartbeats 1000000
attribute [local irreducible] wops wopf Go.Ab.Fin
theorem impl_pieces_ok {fr : List Pc} {H : Heap} (a0 : List UInt8) (hs : Sep H (fr))  (K : (List (List UInt8)) → Prop) (h : impl_pieces.wp a0 K) : OkQ Tryd.prog 120 [(.v (.str (pk a0)))] H (fun r H2 => ∃ (y0 : List (List UInt8)), K y0 ∧ ∃ (w0_ : AV), r = (.v w0_) ∧ Sep H2 (rdp w0_ 1 (enc eStr y0) :: fr)) := by
  unfold impl_pieces.wp at h
  refine of_body Tryd.f120 F.hm Tryd.func120 rfl Tryd.call120 (by kernel_rfl) (by simp) ?_
  refine fi_seq ?_
  refine fi_region ?_
  refine so_assign (v := (.v .nilsl)) rfl ?_
  refine so_nil ?_
  refine fi_seq ?_
  refine fi_seq ?_
  refine fi_region ?_
  refine so_move (v := (.v (.str (pk a0)))) rfl ?_
  refine so_bin rfl rfl ab_seql ?_
  refine so_nil ?_
  replace h := ofP h; rcases h with ⟨c101, h⟩ | ⟨c101, h⟩
  · refine fi_true rfl (decide_eq_true c101) ?_
    refine fi_seq ?_
    refine fi_region ?_
    refine so_assign (v := (.v .nilsl)) rfl ?_
    refine so_nil ?_
    exact by_ret rfl ⟨_, h, _, rfl, (Sep.tord (Sep.nil hs 1) (.inl ⟨rfl, rfl⟩) (fun _ h => h))⟩
  · refine fi_false rfl (decide_eq_false c101) ?_
    refine fi_skip ?_
    refine fi_seq ?_
    refine fi_region ?_
    refine so_move (v := (.v (.str (pk a0)))) rfl ?_
    refine sv_call (strings_Split_ok a0 ([44] : List UInt8) hs  _ h) rfl rfl nofun ?_
    clear h hs
    rintro _ H105 ⟨y102, h, v103, rfl, hs⟩
    refine so_assign (v := (.v v103)) rfl ?_
    refine so_nil ?_
    exact by_ret rfl ⟨_, h, _, rfl, hs⟩

end Go.Proofs.YtcgiboeilcdonaaDoor.G

namespace Go.Proofs.YtcgiboeilcdonaaDoor.G
open Go Go.Ab Go.Proofs Go.Proofs.YtcgiboeilcdonaaDoor
set_option maxRecDepth 100000
set_option linter.unusedVariables false
set_option linter.unusedSimpArgs false
set_option maxHeartbeats 1000000
attribute [local irreducible] wops wopf Go.Ab.Fin
theorem impl_isValue_ok {fr : List Pc} {H : Heap} (a0 : Int) (hs : Sep H (fr))  (K : Bool → Prop) (h : impl_isValue.wp a0 K) : OkQ Tryd.prog 130 [(.v (.int .i64 a0))] H (fun r H2 => ∃ (y0 : Bool), K y0 ∧ r = (.v (.bool y0)) ∧ H = H2) := by
  unfold impl_isValue.wp at h
  refine of_body Tryd.f130 F.hm Tryd.func130 rfl Tryd.call130 (by kernel_rfl) (by simp) ?_
  refine fi_seq ?_
  refine fi_region ?_
  refine so_assign (v := (.v (.bool false))) rfl ?_
  refine so_nil ?_
  refine fi_seq ?_
  refine fi_region ?_
  refine so_move (v := (.v (.int .i64 a0))) rfl ?_
  refine sv_callS (impl_within_ok a0 (-1000000000000000 : Int) (1000000000000000 : Int) hs  _ h) (fun _ _ ⟨_, _, _, e⟩ => e) rfl rfl ?_
  clear h
  rintro _ _ ⟨y101, h, rfl, rfl⟩
  refine so_assign (v := (.v (.bool y101))) rfl ?_
  refine so_nil ?_
  exact by_ret rfl ⟨_, h, rfl, rfl⟩

end Go.Proofs.YtcgiboeilcdonaaDoor.G

namespace Go.Proofs.YtcgiboeilcdonaaDoor.G
open Go Go.Ab Go.Proofs Go.Proofs.YtcgiboeilcdonaaDoor
set_option maxRecDepth 100000
set_option linter.unusedVariables false
set_option linter.unusedSimpArgs false
set_option maxHeartbeats 1000000
attribute [local irreducible] wops wopf Go.Ab.Fin
theorem strconv_ParseInt_ok {fr : List Pc} {H : Heap} (a0 : List UInt8) (a1 a2 : Int) (hs : Sep H fr) (gt5 : ∀ H, Sep H fr → HasTab 5 F.tab5 H) (gt6 : ∀ H, Sep H fr → HasTab 6 F.tab6 H) (K : Int → IfV → Prop) (h : strconv_ParseInt.wp a0 a1 a2 K) : OkQ Tryd.prog 170 [.v (.str (pk a0)), .v (.int .i64 a1), .v (.int .i64 a2)] H (fun r H2 => ∃ (y0 : Int) (y1 : IfV), K y0 y1 ∧ r = (.t [(.v (.int .i64 y0)), (.v (.ifc y1))]) ∧ H = H2) := by
  obtain ⟨⟨⟨rfl, rfl⟩, hl⟩, h⟩ := h
  have hl2 : (pk a0).size ≤ 281474976710656 := by rw [pk_size]; exact Nat.le_trans hl (by decide)
  cases hp : Lib.parseIntB 64 a0 with
  | ok v =>
    rw [hp] at h
    refine ⟨.t [.v (.int .i64 v), .v (.ifc .nil)], _, ok_libE Tryd.call170 (fun β w us hw ha => ?_), _, _, h, rfl, rfl⟩
    rw [args_sii _ _ _ _ _ β us ha]
    refine (Any.strconv_ParseInt_10_at64_ok Tryd.laysC174 (pk a0) (by omega) v hp w).mono fun e w' ⟨he, hw'⟩ => ⟨⟨_, he, fun β => tvr_num_err _ _ _ _ rfl⟩, ?_⟩
    rcases hw' with rfl | ⟨t, rfl⟩
    · exact Go.RowKit.Below.refl _ _
    · exact Lib.bytesWorld_below _ _ _
  | «syntax» =>
    rw [hp] at h
    refine ⟨.t [.v (.int .i64 0), .v (.ifc .other)], _, ok_libE Tryd.call170 (fun β w us hw ha => ?_), _, _, h, rfl, rfl⟩
    obtain ⟨o, ho1, ho2⟩ := (gt5 H hs).heap hw
    obtain ⟨ev, hv, hev⟩ := ho2 w ho1
    rw [args_sii _ _ _ _ _ β us ha]
    exact (Any.strconv_ParseInt_10_at64_syntax Tryd.laysC174 (pk a0) hl2 hp ev w hv hev).mono fun e w' ⟨N, he, _, _, hb⟩ => ⟨⟨_, he, fun β => tvr_num_err _ _ _ _ ⟨_, _, rfl⟩⟩, hb⟩
  | range =>
    rw [hp] at h
    refine ⟨.t [.v (.int .i64 (Lib.intSat 64 a0)), .v (.ifc .other)], _, ok_libE Tryd.call170 (fun β w us hw ha => ?_), _, _, h, rfl, rfl⟩
    obtain ⟨o, ho1, ho2⟩ := (gt6 H hs).heap hw
    obtain ⟨ev, hv, hev⟩ := ho2 w ho1
    rw [args_sii _ _ _ _ _ β us ha]
    exact (Any.strconv_ParseInt_10_at64_range Tryd.laysC174 (pk a0) hl2 hp ev w hv hev).mono fun e w' ⟨N, he, _, _, hb⟩ => ⟨⟨_, he, fun β => tvr_num_err _ _ _ _ ⟨_, _, rfl⟩⟩, hb⟩

end Go.Proofs.YtcgiboeilcdonaaDoor.G

namespace Go.Proofs.YtcgiboeilcdonaaDoor.G
open Go Go.Ab Go.Proofs Go.Proofs.YtcgiboeilcdonaaDoor
set_option maxRecDepth 100000
set_option linter.unusedVariables false
set_option linter.unusedSimpArgs false
set_option maxHeartbeats 1000000
attribute [local irreducible] wops wopf Go.Ab.Fin
theorem F150.sr9 : tstr Tryd.prog 9 = true := by kernel_rfl
theorem internal_strconv_small_ok {fr : List Pc} {H : Heap} (a0 : Int) (hs : Sep H (fr))  (K : (List UInt8) → Prop) (h : internal_strconv_small.wp a0 K) : OkQ Tryd.prog 150 [(.v (.int .i64 a0))] H (fun r H2 => ∃ (y0 : List UInt8), K y0 ∧ r = (.v (.str (pk y0))) ∧ H = H2) := by
  unfold internal_strconv_small.wp at h
  refine of_body Tryd.f150 F.hm Tryd.func150 rfl Tryd.call150 (by kernel_rfl) (by simp) ?_
  refine fi_seq ?_
  refine fi_region ?_
  refine so_assign (v := (.v (.str (pk ([] : List UInt8))))) rfl ?_
  refine so_nil ?_
  refine fi_seq ?_
  refine fi_seq ?_
  refine fi_region ?_
  refine so_move (v := (.v (.int .i64 a0))) rfl ?_
  refine so_bin rfl rfl ab_lss ?_
  refine so_nil ?_
  replace h := ofP h; rcases h with ⟨c101, h⟩ | ⟨c101, h⟩
  · refine fi_true rfl (decide_eq_true c101) ?_
    refine fi_seq ?_
    refine fi_region ?_
    refine so_move (v := (.v (.int .i64 a0))) rfl ?_
    refine so_move (v := (.v (.int .i64 a0))) rfl ?_
    refine so_bin rfl rfl ab_add ?_
    obtain ⟨c102, h⟩ := h
    refine so_sslice rfl rfl rfl F150.sr9 rfl rfl c102 ?_
    refine so_assign (v := (.v (.str (pk ((([48, 49, 50, 51, 52, 53, 54, 55, 56, 57, 97, 98, 99, 100, 101, 102, 103, 104, 105, 106, 107, 108, 109, 110, 111, 112, 113, 114, 115, 116, 117, 118, 119, 120, 121, 122] : List UInt8).drop (a0).toNat).take (((IntKind.i64.wrap (a0 + (1 : Int)))).toNat - (a0).toNat)))))) rfl ?_
    refine so_nil ?_
    exact by_ret rfl ⟨_, h, rfl, rfl⟩
  · refine fi_false rfl (decide_eq_false c101) ?_
    refine fi_skip ?_
    refine fi_seq ?_
    refine fi_region ?_
    refine so_move (v := (.v (.int .i64 a0))) rfl ?_
    refine so_bin rfl rfl ab_mul ?_
    refine so_move (v := (.v (.int .i64 a0))) rfl ?_
    refine so_bin rfl rfl ab_mul ?_
    refine so_bin rfl rfl ab_add ?_
    obtain ⟨c103, h⟩ := h
    refine so_sslice rfl rfl rfl F150.sr9 rfl rfl c103 ?_
    refine so_assign (v := (.v (.str (pk ((([48, 48, 48, 49, 48, 50, 48, 51, 48, 52, 48, 53, 48, 54, 48, 55, 48, 56, 48, 57, 49, 48, 49, 49, 49, 50, 49, 51, 49, 52, 49, 53, 49, 54, 49, 55, 49, 56, 49, 57, 50, 48, 50, 49, 50, 50, 50, 51, 50, 52, 50, 53, 50, 54, 50, 55, 50, 56, 50, 57, 51, 48, 51, 49, 51, 50, 51, 51, 51, 52, 51, 53, 51, 54, 51, 55, 51, 56, 51, 57, 52, 48, 52, 49, 52, 50, 52, 51, 52, 52, 52, 53, 52, 54, 52, 55, 52, 56, 52, 57, 53, 48, 53, 49, 53, 50, 53, 51, 53, 52, 53, 53, 53, 54, 53, 55, 53, 56, 53, 57, 54, 48, 54, 49, 54, 50, 54, 51, 54, 52, 54, 53, 54, 54, 54, 55, 54, 56, 54, 57, 55, 48, 55, 49, 55, 50, 55, 51, 55, 52, 55, 53, 55, 54, 55, 55, 55, 56, 55, 57, 56, 48, 56, 49, 56, 50, 56, 51, 56, 52, 56, 53, 56, 54, 56, 55, 56, 56, 56, 57, 57, 48, 57, 49, 57, 50, 57, 51, 57, 52, 57, 53, 57, 54, 57, 55, 57, 56, 57, 57] : List UInt8).drop ((IntKind.i64.wrap (a0 * (2 : Int)))).toNat).take (((IntKind.i64.wrap ((IntKind.i64.wrap (a0 * (2 : Int))) + (2 : Int)))).toNat - ((IntKind.i64.wrap (a0 * (2 : Int)))).toNat)))))) rfl ?_
    refine so_nil ?_
    exact by_ret rfl ⟨_, h, rfl, rfl⟩

end Go.Proofs.YtcgiboeilcdonaaDoor.G

namespace Go.Proofs.YtcgiboeilcdonaaDoor.G
open Go Go.Ab Go.Proofs Go.Proofs.YtcgiboeilcdonaaDoor
set_option maxRecDepth 100000
set_option linter.unusedVariables false
set_option linter.unusedSimpArgs false
set_option maxHeartbeats 1000000
attribute [local irreducible] wops wopf Go.Ab.Fin
theorem internal_strconv_isPowerOfTwo_ok {fr : List Pc} {H : Heap} (a0 : Int) (hs : Sep H (fr))  (K : Bool → Prop) (h : internal_strconv_isPowerOfTwo.wp a0 K) : OkQ Tryd.prog 168 [(.v (.int .i64 a0))] H (fun r H2 => ∃ (y0 : Bool), K y0 ∧ r = (.v (.bool y0)) ∧ H = H2) := by
  unfold internal_strconv_isPowerOfTwo.wp at h
  refine of_body Tryd.f168 F.hm Tryd.func168 rfl Tryd.call168 (by kernel_rfl) (by simp) ?_
  refine fi_seq ?_
  refine fi_region ?_
  refine so_assign (v := (.v (.bool false))) rfl ?_
  refine so_nil ?_
  refine fi_seq ?_
  refine fi_region ?_
  refine so_move (v := (.v (.int .i64 a0))) rfl ?_
  refine so_move (v := (.v (.int .i64 a0))) rfl ?_
  refine so_bin rfl rfl ab_sub ?_
  refine so_bin rfl rfl ab_and ?_
  refine so_bin rfl rfl ab_eql ?_
  refine so_assign (v := (.v (.bool (decide ((ibits .and .i64 a0 (IntKind.i64.wrap (a0 - (1 : Int)))) = (0 : Int)))))) rfl ?_
  refine so_nil ?_
  exact by_ret rfl ⟨_, h, rfl, rfl⟩

end Go.Proofs.YtcgiboeilcdonaaDoor.G

namespace Go.Proofs.YtcgiboeilcdonaaDoor.G
open Go Go.Ab Go.Proofs Go.Proofs.YtcgiboeilcdonaaDoor
set_option maxRecDepth 100000
set_option linter.unusedVariables false
set_option linter.unusedSimpArgs false
set_option maxHeartbeats 1000000
attribute [local irreducible] wops wopf Go.Ab.Fin
theorem math_bits_TrailingZeros_ok {fr : List Pc} {H : Heap} (a0 : Int) (hs : Sep H fr) (gt8 : ∀ H, Sep H fr → HasTab 8 F.tab8 H) (K : Int → Prop) (h : math_bits_TrailingZeros.wp a0 K) : OkQ Tryd.prog 169 [.v (.int .u64 a0)] H (fun r H2 => ∃ (y0 : Int), K y0 ∧ r = (.v (.int .i64 y0)) ∧ H = H2) := by
  obtain ⟨x, rfl⟩ : ∃ x : Nat, a0 = (x : Int) := ⟨a0.toNat, by have := h.1.1; omega⟩
  exact ⟨.v (.int .i64 ((Lib.ctz 64 x : Nat) : Int)), _, ok_libB (.int .i64 ((Lib.ctz 64 x : Nat) : Int)) Tryd.call169 (fun β => rfl) (fun β w us hw ha => by
    obtain ⟨o, ho1, ho2⟩ := (gt8 H hs).heap hw
    rw [args_i _ _ β us ha]
    exact (Any7.bits_TrailingZeros Tryd.lays727 x (by have := h.1.2; omega) w (fun _ => tab_bytes (by kernel_rfl) ho2 ho1)).mono fun e w' ⟨he, hw'⟩ => ⟨he, hw' ▸ Go.RowKit.Below.refl _ _⟩), _, h.2, rfl, rfl⟩

end Go.Proofs.YtcgiboeilcdonaaDoor.G

namespace Go.Proofs.YtcgiboeilcdonaaDoor.G
open Go Go.Ab Go.Proofs Go.Proofs.YtcgiboeilcdonaaDoor
set_option maxRecDepth 100000
set_option linter.unusedVariables false
set_option linter.unusedSimpArgs false
set_option maxHeartbeats 1000000
attribute [local irreducible] wops wopf Go.Ab.Fin
theorem F153.ar191 : tarr Tryd.prog 191 = some (65, 5) := by kernel_rfl
theorem F153.it163 : tint Tryd.prog 163 = some .u64 := by kernel_rfl
theorem F153.it170 : tint Tryd.prog 170 = some .u64 := by kernel_rfl
theorem F153.it5 : tint Tryd.prog 5 = some .u8 := by kernel_rfl
theorem F153.sr9 : tstr Tryd.prog 9 = true := by kernel_rfl
theorem F153.sz5 : tsz Tryd.prog 5 = some 1 := by kernel_rfl
theorem F153.te72 : telem Tryd.prog 72 = some 5 := by kernel_rfl
theorem F153.us3 : (Tryd.prog.underlying 3).isSome = true := by kernel_rfl
theorem F153.us72 : (Tryd.prog.underlying 72).isSome = true := by kernel_rfl
theorem F153.za191 : tzero Tryd.prog 191 = some (List.replicate 65 (.int .u8 (0 : Int))) := by kernel_rfl
theorem internal_strconv_formatBits_ok {fr : List Pc} {H : Heap} (v0 : AV) (l0 : List (Int)) (a1 : Int) (a2 : Int) (a3 : Bool) (a4 : Bool) (hs : Sep H (fr)) (g0 : ∀ H, Sep H fr → Shows H v0 1 (enc (eInt .u8) l0)) (gt8 : ∀ H, Sep H fr → HasTab 8 F.tab8 H) (K : (List (Int)) → (List UInt8) → Prop) (h : internal_strconv_formatBits.wp l0 a1 a2 a3 a4 K) : OkQ Tryd.prog 153 [(.v v0), (.v (.int .u64 a1)), (.v (.int .i64 a2)), (.v (.bool a3)), (.v (.bool a4))] H (fun r H2 => ∃ (y0 : List (Int)) (y1 : List UInt8), K y0 y1 ∧ ∃ (w0_ : AV), r = (.t [(.v w0_), (.v (.str (pk y1)))]) ∧ Sep H2 (Pc.osl w0_ 1 (enc (eInt .u8) y0) :: fr)) := by
  unfold internal_strconv_formatBits.wp at h
  refine of_body Tryd.f153 F.hm Tryd.func153 rfl Tryd.call153 (by kernel_rfl) (by simp) ?_
  refine fi_seq ?_
  refine fi_region ?_
  refine so_assign (v := (.v .nilsl)) rfl ?_
  refine so_assign (v := (.v (.str (pk ([] : List UInt8))))) rfl ?_
  refine so_nil ?_
  refine fi_seq ?_
  refine fi_seq ?_
  refine fi_region ?_
  refine so_move (v := (.v (.int .i64 a2))) rfl ?_
  refine so_bin rfl rfl ab_lss ?_
  refine so_move (v := (.v (.bool (decide (a2 < (2 : Int)))))) rfl ?_
  replace h := ofP h; rcases h with ⟨c101, h⟩ | ⟨c101, h⟩
  · refine so_gno rfl (decide_eq_true c101) ?_
    refine so_gno rfl (decide_eq_true c101) ?_
    refine so_pick_t (v := (.v (.bool true))) rfl (decide_eq_true c101) rfl ?_
    refine so_move (v := (.v (.bool true))) rfl ?_
    refine so_gno rfl rfl ?_
    refine so_gno rfl rfl ?_
    refine so_pick_t (v := (.v (.bool true))) rfl rfl rfl ?_
    refine so_nil ?_
    refine fi_true rfl rfl ?_
    refine fi_region ?_
    exact h.elim
  · refine so_gyes rfl (decide_eq_false c101) ?_
    refine so_move (v := (.v (.int .i64 a2))) rfl ?_
    refine so_gyes rfl (decide_eq_false c101) ?_
    refine so_bin rfl rfl ab_eql ?_
    refine so_pick_f (v := (.v (.bool (decide (a2 = (10 : Int)))))) rfl (decide_eq_false c101) rfl ?_
    refine so_move (v := (.v (.bool (decide (a2 = (10 : Int)))))) rfl ?_
    replace h := ofP h; rcases h with ⟨c102, h⟩ | ⟨c102, h⟩
    · refine so_gno rfl (decide_eq_true c102) ?_
      refine so_gno rfl (decide_eq_true c102) ?_
      refine so_pick_t (v := (.v (.bool true))) rfl (decide_eq_true c102) rfl ?_
      refine so_nil ?_
      refine fi_true rfl rfl ?_
      refine fi_region ?_
      exact h.elim
    · refine so_gyes rfl (decide_eq_false c102) ?_
      refine so_move (v := (.v (.int .i64 a2))) rfl ?_
      refine so_gyes rfl (decide_eq_false c102) ?_
      refine so_bin rfl rfl ab_gtr ?_
      refine so_pick_f (v := (.v (.bool (decide ((36 : Int) < a2))))) rfl (decide_eq_false c102) rfl ?_
      refine so_nil ?_
      replace h := ofP h; rcases h with ⟨c103, h⟩ | ⟨c103, h⟩
      · refine fi_true rfl (decide_eq_true c103) ?_
        refine fi_region ?_
        exact h.elim
      · refine fi_false rfl (decide_eq_false c103) ?_
        refine fi_skip ?_
        refine fi_seq ?_
        refine fi_region ?_
        refine sv_allocA hs 65 (eInt .u8) (0 : Int) (fun _ => rfl) F153.za191 (by rfl) (by rfl) nofun (fun v104 H105 nv104 av104 hs => ?_)
        refine so_nil ?_
        refine fi_seq ?_
        refine fi_region ?_
        refine so_assign (v := (.v (.int .i64 (65 : Int)))) rfl ?_
        refine so_nil ?_
        refine fi_seq ?_
        refine fi_seq ?_
        refine fi_region ?_
        refine so_move (v := (.v (.bool a3))) rfl ?_
        refine so_nil ?_
        replace h := ofT h; rcases h with ⟨c107, h⟩ | ⟨c107, h⟩
        · refine fi_true rfl c107 ?_
          refine fi_region ?_
          refine so_move (v := (.v (.int .u64 a1))) rfl ?_
          refine so_un rfl au_neg ?_
          refine so_assign (v := (.v (.int .u64 (IntKind.u64.wrap (0 - a1))))) rfl ?_
          refine so_nil ?_
          refine fi_seq ?_
          refine fi_seq ?_
          refine fi_region ?_
          refine so_move (v := (.v (.int .i64 a2))) rfl ?_
          refine sv_callS (internal_strconv_isPowerOfTwo_ok a2 hs  _ h) (fun _ _ ⟨_, _, _, e⟩ => e) rfl rfl ?_
          clear h
          rintro _ _ ⟨y108, h, rfl, rfl⟩
          refine so_nil ?_
          replace h := ofT h; rcases h with ⟨c110, h⟩ | ⟨c110, h⟩
          · refine fi_true rfl c110 ?_
            refine fi_seq ?_
            refine fi_region ?_
            refine so_move (v := (.v (.int .i64 a2))) rfl ?_
            refine sv_ii rfl F153.us3 F153.it170 ?_
            refine sv_callS (math_bits_TrailingZeros_ok (IntKind.u64.wrap a2) hs (fun _ hs => gt8 _ hs.tl) _ h) (fun _ _ ⟨_, _, _, e⟩ => e) rfl rfl ?_
            clear h
            rintro _ _ ⟨y111, h, rfl, rfl⟩
            refine sv_ii rfl F153.us3 F153.it170 ?_
            refine so_assign (v := (.v (.int .u64 (IntKind.u64.wrap y111)))) rfl ?_
            refine so_nil ?_
            refine fi_seq ?_
            refine fi_region ?_
            refine so_move (v := (.v (.int .i64 a2))) rfl ?_
            refine sv_ii rfl F153.us3 F153.it163 ?_
            refine so_assign (v := (.v (.int .u64 (IntKind.u64.wrap a2)))) rfl ?_
            refine so_nil ?_
            refine fi_seq ?_
            refine fi_region ?_
            refine so_move (v := (.v (.int .i64 a2))) rfl ?_
            refine sv_ii rfl F153.us3 F153.it170 ?_
            refine so_bin rfl rfl ab_sub ?_
            refine so_assign (v := (.v (.int .u64 (IntKind.u64.wrap ((IntKind.u64.wrap a2) - (1 : Int)))))) rfl ?_
            refine so_nil ?_
            refine fi_seq ?_
            refine fi_block ?_
            refine fi_loop ?_
            refine fi_at [(0, (.v v0)), (1, (.v (.int .u64 (IntKind.u64.wrap (0 - a1))))), (3, (.v (.bool a3))), (4, (.v (.bool a4))), (10, (.v .nilsl)), (11, (.v (.str (pk ([] : List UInt8))))), (12, (.v (.ptr v104.id0 0))), (13, (.v (.int .i64 (65 : Int)))), (14, (.v (.int .u64 (IntKind.u64.wrap y111)))), (15, (.v (.int .u64 (IntKind.u64.wrap a2)))), (16, (.v (.int .u64 (IntKind.u64.wrap ((IntKind.u64.wrap a2) - (1 : Int))))))] ⟨rfl, rfl, rfl, rfl, rfl, rfl, rfl, rfl, rfl, rfl, rfl, trivial⟩ ?_
            refine h (fun (l130 : List (Int)) (u131 : Int) (i132 : Int) => ∀ (s : Nat → TV) (H : Heap), Sep H (Pc.osl v104 1 (enc (eInt .u8) l130) :: fr) → Fin _ _ (updL s [(0, (.v v0)), (1, (.v (.int .u64 u131))), (3, (.v (.bool a3))), (4, (.v (.bool a4))), (10, (.v .nilsl)), (11, (.v (.str (pk ([] : List UInt8))))), (12, (.v (.ptr v104.id0 0))), (13, (.v (.int .i64 i132))), (14, (.v (.int .u64 (IntKind.u64.wrap y111)))), (15, (.v (.int .u64 (IntKind.u64.wrap a2)))), (16, (.v (.int .u64 (IntKind.u64.wrap ((IntKind.u64.wrap a2) - (1 : Int))))))]) H _) ?_ _ _ hs
            intro l130 u131 i132 h s146 H147 hs
            refine fi_inLoop ?_
            refine fi_seq ?_
            refine fi_seq ?_
            refine fi_region ?_
            refine so_move (v := (.v (.int .u64 u131))) rfl ?_
            refine so_move (v := (.v (.int .u64 (IntKind.u64.wrap a2)))) rfl ?_
            refine so_bin rfl rfl ab_geq ?_
            refine so_nil ?_
            replace h := ofP h; rcases h with ⟨c133, h⟩ | ⟨c133, h⟩
            · refine fi_true rfl (decide_eq_true c133) ?_
              refine fi_skip ?_
              refine fi_block ?_
              refine fi_seq ?_
              refine fi_region ?_
              refine so_move (v := (.v (.int .i64 i132))) rfl ?_
              refine so_bin rfl rfl ab_sub ?_
              refine so_assign (v := (.v (.int .i64 (IntKind.i64.wrap (i132 - (1 : Int)))))) rfl ?_
              refine so_nil ?_
              refine fi_seq ?_
              refine fi_region ?_
              refine so_move (v := (.v (.int .i64 (IntKind.i64.wrap (i132 - (1 : Int)))))) rfl ?_
              refine so_move (v := (.v (.int .u64 u131))) rfl ?_
              refine so_move (v := (.v (.int .u64 (IntKind.u64.wrap ((IntKind.u64.wrap a2) - (1 : Int)))))) rfl ?_
              refine so_bin rfl rfl ab_and ?_
              obtain ⟨c134, h⟩ := h
              refine so_index rfl rfl F153.sr9 c134 ?_
              obtain ⟨c135, h⟩ := h
              refine sv_idxA hs 0 rfl av104 c135 (fun _ => rfl) (by decide) rfl rfl F153.ar191 F153.sz5 ?_
              refine sv_set hs 0 rfl c135 (bt ([48, 49, 50, 51, 52, 53, 54, 55, 56, 57, 97, 98, 99, 100, 101, 102, 103, 104, 105, 106, 107, 108, 109, 110, 111, 112, 113, 114, 115, 116, 117, 118, 119, 120, 121, 122] : List UInt8) (ibits .and .u64 u131 (IntKind.u64.wrap ((IntKind.u64.wrap a2) - (1 : Int))))) (fun _ => rfl) (by decide) rfl rfl rfl rfl F153.sz5 nofun (fun H136 hs => ?_)
              refine so_nil ?_
              refine fi_region ?_
              refine so_move (v := (.v (.int .u64 u131))) rfl ?_
              refine so_move (v := (.v (.int .u64 (IntKind.u64.wrap y111)))) rfl ?_
              obtain ⟨c137, h⟩ := h
              refine so_bin rfl rfl (ab_shr c137) ?_
              refine so_assign (v := (.v (.int .u64 (Int.fdiv u131 (2 ^ (min ((IntKind.u64.wrap y111)).toNat IntKind.u64.bits)))))) rfl ?_
              refine so_nil ?_
              refine fi_inBlock ?_
              exact fi_at [(0, (.v v0)), (1, (.v (.int .u64 (Int.fdiv u131 (2 ^ (min ((IntKind.u64.wrap y111)).toNat IntKind.u64.bits)))))), (3, (.v (.bool a3))), (4, (.v (.bool a4))), (10, (.v .nilsl)), (11, (.v (.str (pk ([] : List UInt8))))), (12, (.v (.ptr v104.id0 0))), (13, (.v (.int .i64 (IntKind.i64.wrap (i132 - (1 : Int)))))), (14, (.v (.int .u64 (IntKind.u64.wrap y111)))), (15, (.v (.int .u64 (IntKind.u64.wrap a2)))), (16, (.v (.int .u64 (IntKind.u64.wrap ((IntKind.u64.wrap a2) - (1 : Int))))))] ⟨rfl, rfl, rfl, rfl, rfl, rfl, rfl, rfl, rfl, rfl, rfl, trivial⟩ (h _ _  hs)
            · refine fi_false rfl (decide_eq_false c133) ?_
              refine fi_exit rfl ?_
              refine fi_seq ?_
              refine fi_region ?_
              refine so_move (v := (.v (.int .i64 i132))) rfl ?_
              refine so_bin rfl rfl ab_sub ?_
              refine so_assign (v := (.v (.int .i64 (IntKind.i64.wrap (i132 - (1 : Int)))))) rfl ?_
              refine so_nil ?_
              refine fi_region ?_
              refine so_move (v := (.v (.int .i64 (IntKind.i64.wrap (i132 - (1 : Int)))))) rfl ?_
              refine so_move (v := (.v (.int .u64 u131))) rfl ?_
              obtain ⟨c138, h⟩ := h
              refine so_index rfl rfl F153.sr9 c138 ?_
              obtain ⟨c139, h⟩ := h
              refine sv_idxA hs 0 rfl av104 c139 (fun _ => rfl) (by decide) rfl rfl F153.ar191 F153.sz5 ?_
              refine sv_set hs 0 rfl c139 (bt ([48, 49, 50, 51, 52, 53, 54, 55, 56, 57, 97, 98, 99, 100, 101, 102, 103, 104, 105, 106, 107, 108, 109, 110, 111, 112, 113, 114, 115, 116, 117, 118, 119, 120, 121, 122] : List UInt8) u131) (fun _ => rfl) (by decide) rfl rfl rfl rfl F153.sz5 nofun (fun H140 hs => ?_)
              refine so_nil ?_
              refine fi_seq ?_
              refine fi_seq ?_
              refine fi_region ?_
              refine so_move (v := (.v (.bool a3))) rfl ?_
              refine so_nil ?_
              refine fi_true rfl c107 ?_
              refine fi_seq ?_
              refine fi_region ?_
              refine so_move (v := (.v (.int .i64 (IntKind.i64.wrap (i132 - (1 : Int)))))) rfl ?_
              refine so_bin rfl rfl ab_sub ?_
              refine so_assign (v := (.v (.int .i64 (IntKind.i64.wrap ((IntKind.i64.wrap (i132 - (1 : Int))) - (1 : Int)))))) rfl ?_
              refine so_nil ?_
              refine fi_region ?_
              refine so_move (v := (.v (.int .i64 (IntKind.i64.wrap ((IntKind.i64.wrap (i132 - (1 : Int))) - (1 : Int)))))) rfl ?_
              obtain ⟨c141, h⟩ := h
              refine sv_idxA hs 0 rfl av104 c141 (fun _ => rfl) (by decide) rfl rfl F153.ar191 F153.sz5 ?_
              refine sv_set hs 0 rfl c141 (45 : Int) (fun _ => rfl) (by decide) rfl rfl rfl rfl F153.sz5 nofun (fun H142 hs => ?_)
              refine so_nil ?_
              refine fi_seq ?_
              refine fi_seq ?_
              refine fi_region ?_
              refine so_move (v := (.v (.bool a4))) rfl ?_
              refine so_nil ?_
              replace h := ofT h; rcases h with ⟨c143, h⟩ | ⟨c143, h⟩
              · exact h.elim
              · refine fi_false rfl c143 ?_
                refine fi_skip ?_
                refine fi_seq ?_
                refine fi_region ?_
                refine so_move (v := (.v (.int .i64 (IntKind.i64.wrap ((IntKind.i64.wrap (i132 - (1 : Int))) - (1 : Int)))))) rfl ?_
                obtain ⟨c145, h⟩ := h
                refine sv_sliceA hs 0 rfl av104 c145 (fun _ => rfl) (by decide) rfl rfl rfl rfl rfl F153.ar191 F153.sz5 ?_
                refine sv_bs (Shows.cut (e := (eInt .u8)) (n := 1) (fun _ => rfl) (hs.shows 0 rfl) (by decide) (cutok c145)) (cut_nn nv104) rfl F153.te72 F153.it5 F153.sr9 ?_
                refine so_assign (v := (.v (.str (pk (byts ((((l130.set ((IntKind.i64.wrap (i132 - (1 : Int)))).toNat (bt ([48, 49, 50, 51, 52, 53, 54, 55, 56, 57, 97, 98, 99, 100, 101, 102, 103, 104, 105, 106, 107, 108, 109, 110, 111, 112, 113, 114, 115, 116, 117, 118, 119, 120, 121, 122] : List UInt8) u131)).set ((IntKind.i64.wrap ((IntKind.i64.wrap (i132 - (1 : Int))) - (1 : Int)))).toNat (45 : Int)).drop ((IntKind.i64.wrap ((IntKind.i64.wrap (i132 - (1 : Int))) - (1 : Int)))).toNat).take (((((l130.set ((IntKind.i64.wrap (i132 - (1 : Int)))).toNat (bt ([48, 49, 50, 51, 52, 53, 54, 55, 56, 57, 97, 98, 99, 100, 101, 102, 103, 104, 105, 106, 107, 108, 109, 110, 111, 112, 113, 114, 115, 116, 117, 118, 119, 120, 121, 122] : List UInt8) u131)).set ((IntKind.i64.wrap ((IntKind.i64.wrap (i132 - (1 : Int))) - (1 : Int)))).toNat (45 : Int)).length : Int)).toNat - ((IntKind.i64.wrap ((IntKind.i64.wrap (i132 - (1 : Int))) - (1 : Int)))).toNat))))))) rfl ?_
                refine so_nil ?_
                exact by_ret rfl ⟨_, _, h, _, rfl, (Sep.nil (Sep.del 0 hs) 1)⟩
          · refine fi_false rfl c110 ?_
            refine fi_seq ?_
            refine fi_region ?_
            refine so_move (v := (.v (.int .i64 a2))) rfl ?_
            refine sv_ii rfl F153.us3 F153.it163 ?_
            refine so_assign (v := (.v (.int .u64 (IntKind.u64.wrap a2)))) rfl ?_
            refine so_nil ?_
            refine fi_seq ?_
            refine fi_block ?_
            refine fi_loop ?_
            refine fi_at [(0, (.v v0)), (1, (.v (.int .u64 (IntKind.u64.wrap (0 - a1))))), (3, (.v (.bool a3))), (4, (.v (.bool a4))), (10, (.v .nilsl)), (11, (.v (.str (pk ([] : List UInt8))))), (12, (.v (.ptr v104.id0 0))), (13, (.v (.int .i64 (65 : Int)))), (17, (.v (.int .u64 (IntKind.u64.wrap a2))))] ⟨rfl, rfl, rfl, rfl, rfl, rfl, rfl, rfl, rfl, trivial⟩ ?_
            refine h (fun (l165 : List (Int)) (u166 : Int) (i167 : Int) => ∀ (s : Nat → TV) (H : Heap), Sep H (Pc.osl v104 1 (enc (eInt .u8) l165) :: fr) → Fin _ _ (updL s [(0, (.v v0)), (1, (.v (.int .u64 u166))), (3, (.v (.bool a3))), (4, (.v (.bool a4))), (10, (.v .nilsl)), (11, (.v (.str (pk ([] : List UInt8))))), (12, (.v (.ptr v104.id0 0))), (13, (.v (.int .i64 i167))), (17, (.v (.int .u64 (IntKind.u64.wrap a2))))]) H _) ?_ _ _ hs
            intro l165 u166 i167 h s181 H182 hs
            refine fi_inLoop ?_
            refine fi_seq ?_
            refine fi_seq ?_
            refine fi_region ?_
            refine so_move (v := (.v (.int .u64 u166))) rfl ?_
            refine so_move (v := (.v (.int .u64 (IntKind.u64.wrap a2)))) rfl ?_
            refine so_bin rfl rfl ab_geq ?_
            refine so_nil ?_
            replace h := ofP h; rcases h with ⟨c168, h⟩ | ⟨c168, h⟩
            · refine fi_true rfl (decide_eq_true c168) ?_
              refine fi_skip ?_
              refine fi_block ?_
              refine fi_seq ?_
              refine fi_region ?_
              refine so_move (v := (.v (.int .i64 i167))) rfl ?_
              refine so_bin rfl rfl ab_sub ?_
              refine so_assign (v := (.v (.int .i64 (IntKind.i64.wrap (i167 - (1 : Int)))))) rfl ?_
              refine so_nil ?_
              refine fi_seq ?_
              refine fi_region ?_
              refine so_move (v := (.v (.int .u64 u166))) rfl ?_
              refine so_move (v := (.v (.int .u64 (IntKind.u64.wrap a2)))) rfl ?_
              obtain ⟨c169, h⟩ := h
              refine so_bin rfl rfl (ab_quo c169) ?_
              refine so_assign (v := (.v (.int .u64 (IntKind.u64.wrap (Int.tdiv u166 (IntKind.u64.wrap a2)))))) rfl ?_
              refine so_nil ?_
              refine fi_seq ?_
              refine fi_region ?_
              refine so_move (v := (.v (.int .i64 (IntKind.i64.wrap (i167 - (1 : Int)))))) rfl ?_
              refine so_move (v := (.v (.int .u64 u166))) rfl ?_
              refine so_move (v := (.v (.int .u64 (IntKind.u64.wrap (Int.tdiv u166 (IntKind.u64.wrap a2)))))) rfl ?_
              refine so_move (v := (.v (.int .u64 (IntKind.u64.wrap a2)))) rfl ?_
              refine so_bin rfl rfl ab_mul ?_
              refine so_bin rfl rfl ab_sub ?_
              obtain ⟨c170, h⟩ := h
              refine so_index rfl rfl F153.sr9 c170 ?_
              obtain ⟨c171, h⟩ := h
              refine sv_idxA hs 0 rfl av104 c171 (fun _ => rfl) (by decide) rfl rfl F153.ar191 F153.sz5 ?_
              refine sv_set hs 0 rfl c171 (bt ([48, 49, 50, 51, 52, 53, 54, 55, 56, 57, 97, 98, 99, 100, 101, 102, 103, 104, 105, 106, 107, 108, 109, 110, 111, 112, 113, 114, 115, 116, 117, 118, 119, 120, 121, 122] : List UInt8) (IntKind.u64.wrap (u166 - (IntKind.u64.wrap ((IntKind.u64.wrap (Int.tdiv u166 (IntKind.u64.wrap a2))) * (IntKind.u64.wrap a2)))))) (fun _ => rfl) (by decide) rfl rfl rfl rfl F153.sz5 nofun (fun H172 hs => ?_)
              refine so_nil ?_
              refine fi_region ?_
              refine so_move (v := (.v (.int .u64 (IntKind.u64.wrap (Int.tdiv u166 (IntKind.u64.wrap a2)))))) rfl ?_
              refine so_assign (v := (.v (.int .u64 (IntKind.u64.wrap (Int.tdiv u166 (IntKind.u64.wrap a2)))))) rfl ?_
              refine so_nil ?_
              refine fi_inBlock ?_
              exact fi_at [(0, (.v v0)), (1, (.v (.int .u64 (IntKind.u64.wrap (Int.tdiv u166 (IntKind.u64.wrap a2)))))), (3, (.v (.bool a3))), (4, (.v (.bool a4))), (10, (.v .nilsl)), (11, (.v (.str (pk ([] : List UInt8))))), (12, (.v (.ptr v104.id0 0))), (13, (.v (.int .i64 (IntKind.i64.wrap (i167 - (1 : Int)))))), (17, (.v (.int .u64 (IntKind.u64.wrap a2))))] ⟨rfl, rfl, rfl, rfl, rfl, rfl, rfl, rfl, rfl, trivial⟩ (h _ _  hs)
            · refine fi_false rfl (decide_eq_false c168) ?_
              refine fi_exit rfl ?_
              refine fi_seq ?_
              refine fi_region ?_
              refine so_move (v := (.v (.int .i64 i167))) rfl ?_
              refine so_bin rfl rfl ab_sub ?_
              refine so_assign (v := (.v (.int .i64 (IntKind.i64.wrap (i167 - (1 : Int)))))) rfl ?_
              refine so_nil ?_
              refine fi_region ?_
              refine so_move (v := (.v (.int .i64 (IntKind.i64.wrap (i167 - (1 : Int)))))) rfl ?_
              refine so_move (v := (.v (.int .u64 u166))) rfl ?_
              obtain ⟨c173, h⟩ := h
              refine so_index rfl rfl F153.sr9 c173 ?_
              obtain ⟨c174, h⟩ := h
              refine sv_idxA hs 0 rfl av104 c174 (fun _ => rfl) (by decide) rfl rfl F153.ar191 F153.sz5 ?_
              refine sv_set hs 0 rfl c174 (bt ([48, 49, 50, 51, 52, 53, 54, 55, 56, 57, 97, 98, 99, 100, 101, 102, 103, 104, 105, 106, 107, 108, 109, 110, 111, 112, 113, 114, 115, 116, 117, 118, 119, 120, 121, 122] : List UInt8) u166) (fun _ => rfl) (by decide) rfl rfl rfl rfl F153.sz5 nofun (fun H175 hs => ?_)
              refine so_nil ?_
              refine fi_seq ?_
              refine fi_seq ?_
              refine fi_region ?_
              refine so_move (v := (.v (.bool a3))) rfl ?_
              refine so_nil ?_
              refine fi_true rfl c107 ?_
              refine fi_seq ?_
              refine fi_region ?_
              refine so_move (v := (.v (.int .i64 (IntKind.i64.wrap (i167 - (1 : Int)))))) rfl ?_
              refine so_bin rfl rfl ab_sub ?_
              refine so_assign (v := (.v (.int .i64 (IntKind.i64.wrap ((IntKind.i64.wrap (i167 - (1 : Int))) - (1 : Int)))))) rfl ?_
              refine so_nil ?_
              refine fi_region ?_
              refine so_move (v := (.v (.int .i64 (IntKind.i64.wrap ((IntKind.i64.wrap (i167 - (1 : Int))) - (1 : Int)))))) rfl ?_
              obtain ⟨c176, h⟩ := h
              refine sv_idxA hs 0 rfl av104 c176 (fun _ => rfl) (by decide) rfl rfl F153.ar191 F153.sz5 ?_
              refine sv_set hs 0 rfl c176 (45 : Int) (fun _ => rfl) (by decide) rfl rfl rfl rfl F153.sz5 nofun (fun H177 hs => ?_)
              refine so_nil ?_
              refine fi_seq ?_
              refine fi_seq ?_
              refine fi_region ?_
              refine so_move (v := (.v (.bool a4))) rfl ?_
              refine so_nil ?_
              replace h := ofT h; rcases h with ⟨c178, h⟩ | ⟨c178, h⟩
              · exact h.elim
              · refine fi_false rfl c178 ?_
                refine fi_skip ?_
                refine fi_seq ?_
                refine fi_region ?_
                refine so_move (v := (.v (.int .i64 (IntKind.i64.wrap ((IntKind.i64.wrap (i167 - (1 : Int))) - (1 : Int)))))) rfl ?_
                obtain ⟨c180, h⟩ := h
                refine sv_sliceA hs 0 rfl av104 c180 (fun _ => rfl) (by decide) rfl rfl rfl rfl rfl F153.ar191 F153.sz5 ?_
                refine sv_bs (Shows.cut (e := (eInt .u8)) (n := 1) (fun _ => rfl) (hs.shows 0 rfl) (by decide) (cutok c180)) (cut_nn nv104) rfl F153.te72 F153.it5 F153.sr9 ?_
                refine so_assign (v := (.v (.str (pk (byts ((((l165.set ((IntKind.i64.wrap (i167 - (1 : Int)))).toNat (bt ([48, 49, 50, 51, 52, 53, 54, 55, 56, 57, 97, 98, 99, 100, 101, 102, 103, 104, 105, 106, 107, 108, 109, 110, 111, 112, 113, 114, 115, 116, 117, 118, 119, 120, 121, 122] : List UInt8) u166)).set ((IntKind.i64.wrap ((IntKind.i64.wrap (i167 - (1 : Int))) - (1 : Int)))).toNat (45 : Int)).drop ((IntKind.i64.wrap ((IntKind.i64.wrap (i167 - (1 : Int))) - (1 : Int)))).toNat).take (((((l165.set ((IntKind.i64.wrap (i167 - (1 : Int)))).toNat (bt ([48, 49, 50, 51, 52, 53, 54, 55, 56, 57, 97, 98, 99, 100, 101, 102, 103, 104, 105, 106, 107, 108, 109, 110, 111, 112, 113, 114, 115, 116, 117, 118, 119, 120, 121, 122] : List UInt8) u166)).set ((IntKind.i64.wrap ((IntKind.i64.wrap (i167 - (1 : Int))) - (1 : Int)))).toNat (45 : Int)).length : Int)).toNat - ((IntKind.i64.wrap ((IntKind.i64.wrap (i167 - (1 : Int))) - (1 : Int)))).toNat))))))) rfl ?_
                refine so_nil ?_
                exact by_ret rfl ⟨_, _, h, _, rfl, (Sep.nil (Sep.del 0 hs) 1)⟩
        · refine fi_false rfl c107 ?_
          refine fi_skip ?_
          refine fi_seq ?_
          refine fi_seq ?_
          refine fi_region ?_
          refine so_move (v := (.v (.int .i64 a2))) rfl ?_
          refine sv_callS (internal_strconv_isPowerOfTwo_ok a2 hs  _ h) (fun _ _ ⟨_, _, _, e⟩ => e) rfl rfl ?_
          clear h
          rintro _ _ ⟨y183, h, rfl, rfl⟩
          refine so_nil ?_
          replace h := ofT h; rcases h with ⟨c185, h⟩ | ⟨c185, h⟩
          · refine fi_true rfl c185 ?_
            refine fi_seq ?_
            refine fi_region ?_
            refine so_move (v := (.v (.int .i64 a2))) rfl ?_
            refine sv_ii rfl F153.us3 F153.it170 ?_
            refine sv_callS (math_bits_TrailingZeros_ok (IntKind.u64.wrap a2) hs (fun _ hs => gt8 _ hs.tl) _ h) (fun _ _ ⟨_, _, _, e⟩ => e) rfl rfl ?_
            clear h
            rintro _ _ ⟨y186, h, rfl, rfl⟩
            refine sv_ii rfl F153.us3 F153.it170 ?_
            refine so_assign (v := (.v (.int .u64 (IntKind.u64.wrap y186)))) rfl ?_
            refine so_nil ?_
            refine fi_seq ?_
            refine fi_region ?_
            refine so_move (v := (.v (.int .i64 a2))) rfl ?_
            refine sv_ii rfl F153.us3 F153.it163 ?_
            refine so_assign (v := (.v (.int .u64 (IntKind.u64.wrap a2)))) rfl ?_
            refine so_nil ?_
            refine fi_seq ?_
            refine fi_region ?_
            refine so_move (v := (.v (.int .i64 a2))) rfl ?_
            refine sv_ii rfl F153.us3 F153.it170 ?_
            refine so_bin rfl rfl ab_sub ?_
            refine so_assign (v := (.v (.int .u64 (IntKind.u64.wrap ((IntKind.u64.wrap a2) - (1 : Int)))))) rfl ?_
            refine so_nil ?_
            refine fi_seq ?_
            refine fi_block ?_
            refine fi_loop ?_
            refine fi_at [(0, (.v v0)), (1, (.v (.int .u64 a1))), (3, (.v (.bool a3))), (4, (.v (.bool a4))), (10, (.v .nilsl)), (11, (.v (.str (pk ([] : List UInt8))))), (12, (.v (.ptr v104.id0 0))), (13, (.v (.int .i64 (65 : Int)))), (14, (.v (.int .u64 (IntKind.u64.wrap y186)))), (15, (.v (.int .u64 (IntKind.u64.wrap a2)))), (16, (.v (.int .u64 (IntKind.u64.wrap ((IntKind.u64.wrap a2) - (1 : Int))))))] ⟨rfl, rfl, rfl, rfl, rfl, rfl, rfl, rfl, rfl, rfl, rfl, trivial⟩ ?_
            refine h (fun (l203 : List (Int)) (u204 : Int) (i205 : Int) => ∀ (s : Nat → TV) (H : Heap), Sep H (Pc.osl v104 1 (enc (eInt .u8) l203) :: fr) → Fin _ _ (updL s [(0, (.v v0)), (1, (.v (.int .u64 u204))), (3, (.v (.bool a3))), (4, (.v (.bool a4))), (10, (.v .nilsl)), (11, (.v (.str (pk ([] : List UInt8))))), (12, (.v (.ptr v104.id0 0))), (13, (.v (.int .i64 i205))), (14, (.v (.int .u64 (IntKind.u64.wrap y186)))), (15, (.v (.int .u64 (IntKind.u64.wrap a2)))), (16, (.v (.int .u64 (IntKind.u64.wrap ((IntKind.u64.wrap a2) - (1 : Int))))))]) H _) ?_ _ _ hs
            intro l203 u204 i205 h s217 H218 hs
            refine fi_inLoop ?_
            refine fi_seq ?_
            refine fi_seq ?_
            refine fi_region ?_
            refine so_move (v := (.v (.int .u64 u204))) rfl ?_
            refine so_move (v := (.v (.int .u64 (IntKind.u64.wrap a2)))) rfl ?_
            refine so_bin rfl rfl ab_geq ?_
            refine so_nil ?_
            replace h := ofP h; rcases h with ⟨c206, h⟩ | ⟨c206, h⟩
            · refine fi_true rfl (decide_eq_true c206) ?_
              refine fi_skip ?_
              refine fi_block ?_
              refine fi_seq ?_
              refine fi_region ?_
              refine so_move (v := (.v (.int .i64 i205))) rfl ?_
              refine so_bin rfl rfl ab_sub ?_
              refine so_assign (v := (.v (.int .i64 (IntKind.i64.wrap (i205 - (1 : Int)))))) rfl ?_
              refine so_nil ?_
              refine fi_seq ?_
              refine fi_region ?_
              refine so_move (v := (.v (.int .i64 (IntKind.i64.wrap (i205 - (1 : Int)))))) rfl ?_
              refine so_move (v := (.v (.int .u64 u204))) rfl ?_
              refine so_move (v := (.v (.int .u64 (IntKind.u64.wrap ((IntKind.u64.wrap a2) - (1 : Int)))))) rfl ?_
              refine so_bin rfl rfl ab_and ?_
              obtain ⟨c207, h⟩ := h
              refine so_index rfl rfl F153.sr9 c207 ?_
              obtain ⟨c208, h⟩ := h
              refine sv_idxA hs 0 rfl av104 c208 (fun _ => rfl) (by decide) rfl rfl F153.ar191 F153.sz5 ?_
              refine sv_set hs 0 rfl c208 (bt ([48, 49, 50, 51, 52, 53, 54, 55, 56, 57, 97, 98, 99, 100, 101, 102, 103, 104, 105, 106, 107, 108, 109, 110, 111, 112, 113, 114, 115, 116, 117, 118, 119, 120, 121, 122] : List UInt8) (ibits .and .u64 u204 (IntKind.u64.wrap ((IntKind.u64.wrap a2) - (1 : Int))))) (fun _ => rfl) (by decide) rfl rfl rfl rfl F153.sz5 nofun (fun H209 hs => ?_)
              refine so_nil ?_
              refine fi_region ?_
              refine so_move (v := (.v (.int .u64 u204))) rfl ?_
              refine so_move (v := (.v (.int .u64 (IntKind.u64.wrap y186)))) rfl ?_
              obtain ⟨c210, h⟩ := h
              refine so_bin rfl rfl (ab_shr c210) ?_
              refine so_assign (v := (.v (.int .u64 (Int.fdiv u204 (2 ^ (min ((IntKind.u64.wrap y186)).toNat IntKind.u64.bits)))))) rfl ?_
              refine so_nil ?_
              refine fi_inBlock ?_
              exact fi_at [(0, (.v v0)), (1, (.v (.int .u64 (Int.fdiv u204 (2 ^ (min ((IntKind.u64.wrap y186)).toNat IntKind.u64.bits)))))), (3, (.v (.bool a3))), (4, (.v (.bool a4))), (10, (.v .nilsl)), (11, (.v (.str (pk ([] : List UInt8))))), (12, (.v (.ptr v104.id0 0))), (13, (.v (.int .i64 (IntKind.i64.wrap (i205 - (1 : Int)))))), (14, (.v (.int .u64 (IntKind.u64.wrap y186)))), (15, (.v (.int .u64 (IntKind.u64.wrap a2)))), (16, (.v (.int .u64 (IntKind.u64.wrap ((IntKind.u64.wrap a2) - (1 : Int))))))] ⟨rfl, rfl, rfl, rfl, rfl, rfl, rfl, rfl, rfl, rfl, rfl, trivial⟩ (h _ _  hs)
            · refine fi_false rfl (decide_eq_false c206) ?_
              refine fi_exit rfl ?_
              refine fi_seq ?_
              refine fi_region ?_
              refine so_move (v := (.v (.int .i64 i205))) rfl ?_
              refine so_bin rfl rfl ab_sub ?_
              refine so_assign (v := (.v (.int .i64 (IntKind.i64.wrap (i205 - (1 : Int)))))) rfl ?_
              refine so_nil ?_
              refine fi_region ?_
              refine so_move (v := (.v (.int .i64 (IntKind.i64.wrap (i205 - (1 : Int)))))) rfl ?_
              refine so_move (v := (.v (.int .u64 u204))) rfl ?_
              obtain ⟨c211, h⟩ := h
              refine so_index rfl rfl F153.sr9 c211 ?_
              obtain ⟨c212, h⟩ := h
              refine sv_idxA hs 0 rfl av104 c212 (fun _ => rfl) (by decide) rfl rfl F153.ar191 F153.sz5 ?_
              refine sv_set hs 0 rfl c212 (bt ([48, 49, 50, 51, 52, 53, 54, 55, 56, 57, 97, 98, 99, 100, 101, 102, 103, 104, 105, 106, 107, 108, 109, 110, 111, 112, 113, 114, 115, 116, 117, 118, 119, 120, 121, 122] : List UInt8) u204) (fun _ => rfl) (by decide) rfl rfl rfl rfl F153.sz5 nofun (fun H213 hs => ?_)
              refine so_nil ?_
              refine fi_seq ?_
              refine fi_seq ?_
              refine fi_region ?_
              refine so_move (v := (.v (.bool a3))) rfl ?_
              refine so_nil ?_
              refine fi_false rfl c107 ?_
              refine fi_skip ?_
              refine fi_seq ?_
              refine fi_seq ?_
              refine fi_region ?_
              refine so_move (v := (.v (.bool a4))) rfl ?_
              refine so_nil ?_
              replace h := ofT h; rcases h with ⟨c214, h⟩ | ⟨c214, h⟩
              · exact h.elim
              · refine fi_false rfl c214 ?_
                refine fi_skip ?_
                refine fi_seq ?_
                refine fi_region ?_
                refine so_move (v := (.v (.int .i64 (IntKind.i64.wrap (i205 - (1 : Int)))))) rfl ?_
                obtain ⟨c216, h⟩ := h
                refine sv_sliceA hs 0 rfl av104 c216 (fun _ => rfl) (by decide) rfl rfl rfl rfl rfl F153.ar191 F153.sz5 ?_
                refine sv_bs (Shows.cut (e := (eInt .u8)) (n := 1) (fun _ => rfl) (hs.shows 0 rfl) (by decide) (cutok c216)) (cut_nn nv104) rfl F153.te72 F153.it5 F153.sr9 ?_
                refine so_assign (v := (.v (.str (pk (byts (((l203.set ((IntKind.i64.wrap (i205 - (1 : Int)))).toNat (bt ([48, 49, 50, 51, 52, 53, 54, 55, 56, 57, 97, 98, 99, 100, 101, 102, 103, 104, 105, 106, 107, 108, 109, 110, 111, 112, 113, 114, 115, 116, 117, 118, 119, 120, 121, 122] : List UInt8) u204)).drop ((IntKind.i64.wrap (i205 - (1 : Int)))).toNat).take ((((l203.set ((IntKind.i64.wrap (i205 - (1 : Int)))).toNat (bt ([48, 49, 50, 51, 52, 53, 54, 55, 56, 57, 97, 98, 99, 100, 101, 102, 103, 104, 105, 106, 107, 108, 109, 110, 111, 112, 113, 114, 115, 116, 117, 118, 119, 120, 121, 122] : List UInt8) u204)).length : Int)).toNat - ((IntKind.i64.wrap (i205 - (1 : Int)))).toNat))))))) rfl ?_
                refine so_nil ?_
                exact by_ret rfl ⟨_, _, h, _, rfl, (Sep.nil (Sep.del 0 hs) 1)⟩
          · refine fi_false rfl c185 ?_
            refine fi_seq ?_
            refine fi_region ?_
            refine so_move (v := (.v (.int .i64 a2))) rfl ?_
            refine sv_ii rfl F153.us3 F153.it163 ?_
            refine so_assign (v := (.v (.int .u64 (IntKind.u64.wrap a2)))) rfl ?_
            refine so_nil ?_
            refine fi_seq ?_
            refine fi_block ?_
            refine fi_loop ?_
            refine fi_at [(0, (.v v0)), (1, (.v (.int .u64 a1))), (3, (.v (.bool a3))), (4, (.v (.bool a4))), (10, (.v .nilsl)), (11, (.v (.str (pk ([] : List UInt8))))), (12, (.v (.ptr v104.id0 0))), (13, (.v (.int .i64 (65 : Int)))), (17, (.v (.int .u64 (IntKind.u64.wrap a2))))] ⟨rfl, rfl, rfl, rfl, rfl, rfl, rfl, rfl, rfl, trivial⟩ ?_
            refine h (fun (l234 : List (Int)) (u235 : Int) (i236 : Int) => ∀ (s : Nat → TV) (H : Heap), Sep H (Pc.osl v104 1 (enc (eInt .u8) l234) :: fr) → Fin _ _ (updL s [(0, (.v v0)), (1, (.v (.int .u64 u235))), (3, (.v (.bool a3))), (4, (.v (.bool a4))), (10, (.v .nilsl)), (11, (.v (.str (pk ([] : List UInt8))))), (12, (.v (.ptr v104.id0 0))), (13, (.v (.int .i64 i236))), (17, (.v (.int .u64 (IntKind.u64.wrap a2))))]) H _) ?_ _ _ hs
            intro l234 u235 i236 h s248 H249 hs
            refine fi_inLoop ?_
            refine fi_seq ?_
            refine fi_seq ?_
            refine fi_region ?_
            refine so_move (v := (.v (.int .u64 u235))) rfl ?_
            refine so_move (v := (.v (.int .u64 (IntKind.u64.wrap a2)))) rfl ?_
            refine so_bin rfl rfl ab_geq ?_
            refine so_nil ?_
            replace h := ofP h; rcases h with ⟨c237, h⟩ | ⟨c237, h⟩
            · refine fi_true rfl (decide_eq_true c237) ?_
              refine fi_skip ?_
              refine fi_block ?_
              refine fi_seq ?_
              refine fi_region ?_
              refine so_move (v := (.v (.int .i64 i236))) rfl ?_
              refine so_bin rfl rfl ab_sub ?_
              refine so_assign (v := (.v (.int .i64 (IntKind.i64.wrap (i236 - (1 : Int)))))) rfl ?_
              refine so_nil ?_
              refine fi_seq ?_
              refine fi_region ?_
              refine so_move (v := (.v (.int .u64 u235))) rfl ?_
              refine so_move (v := (.v (.int .u64 (IntKind.u64.wrap a2)))) rfl ?_
              obtain ⟨c238, h⟩ := h
              refine so_bin rfl rfl (ab_quo c238) ?_
              refine so_assign (v := (.v (.int .u64 (IntKind.u64.wrap (Int.tdiv u235 (IntKind.u64.wrap a2)))))) rfl ?_
              refine so_nil ?_
              refine fi_seq ?_
              refine fi_region ?_
              refine so_move (v := (.v (.int .i64 (IntKind.i64.wrap (i236 - (1 : Int)))))) rfl ?_
              refine so_move (v := (.v (.int .u64 u235))) rfl ?_
              refine so_move (v := (.v (.int .u64 (IntKind.u64.wrap (Int.tdiv u235 (IntKind.u64.wrap a2)))))) rfl ?_
              refine so_move (v := (.v (.int .u64 (IntKind.u64.wrap a2)))) rfl ?_
              refine so_bin rfl rfl ab_mul ?_
              refine so_bin rfl rfl ab_sub ?_
              obtain ⟨c239, h⟩ := h
              refine so_index rfl rfl F153.sr9 c239 ?_
              obtain ⟨c240, h⟩ := h
              refine sv_idxA hs 0 rfl av104 c240 (fun _ => rfl) (by decide) rfl rfl F153.ar191 F153.sz5 ?_
              refine sv_set hs 0 rfl c240 (bt ([48, 49, 50, 51, 52, 53, 54, 55, 56, 57, 97, 98, 99, 100, 101, 102, 103, 104, 105, 106, 107, 108, 109, 110, 111, 112, 113, 114, 115, 116, 117, 118, 119, 120, 121, 122] : List UInt8) (IntKind.u64.wrap (u235 - (IntKind.u64.wrap ((IntKind.u64.wrap (Int.tdiv u235 (IntKind.u64.wrap a2))) * (IntKind.u64.wrap a2)))))) (fun _ => rfl) (by decide) rfl rfl rfl rfl F153.sz5 nofun (fun H241 hs => ?_)
              refine so_nil ?_
              refine fi_region ?_
              refine so_move (v := (.v (.int .u64 (IntKind.u64.wrap (Int.tdiv u235 (IntKind.u64.wrap a2)))))) rfl ?_
              refine so_assign (v := (.v (.int .u64 (IntKind.u64.wrap (Int.tdiv u235 (IntKind.u64.wrap a2)))))) rfl ?_
              refine so_nil ?_
              refine fi_inBlock ?_
              exact fi_at [(0, (.v v0)), (1, (.v (.int .u64 (IntKind.u64.wrap (Int.tdiv u235 (IntKind.u64.wrap a2)))))), (3, (.v (.bool a3))), (4, (.v (.bool a4))), (10, (.v .nilsl)), (11, (.v (.str (pk ([] : List UInt8))))), (12, (.v (.ptr v104.id0 0))), (13, (.v (.int .i64 (IntKind.i64.wrap (i236 - (1 : Int)))))), (17, (.v (.int .u64 (IntKind.u64.wrap a2))))] ⟨rfl, rfl, rfl, rfl, rfl, rfl, rfl, rfl, rfl, trivial⟩ (h _ _  hs)
            · refine fi_false rfl (decide_eq_false c237) ?_
              refine fi_exit rfl ?_
              refine fi_seq ?_
              refine fi_region ?_
              refine so_move (v := (.v (.int .i64 i236))) rfl ?_
              refine so_bin rfl rfl ab_sub ?_
              refine so_assign (v := (.v (.int .i64 (IntKind.i64.wrap (i236 - (1 : Int)))))) rfl ?_
              refine so_nil ?_
              refine fi_region ?_
              refine so_move (v := (.v (.int .i64 (IntKind.i64.wrap (i236 - (1 : Int)))))) rfl ?_
              refine so_move (v := (.v (.int .u64 u235))) rfl ?_
              obtain ⟨c242, h⟩ := h
              refine so_index rfl rfl F153.sr9 c242 ?_
              obtain ⟨c243, h⟩ := h
              refine sv_idxA hs 0 rfl av104 c243 (fun _ => rfl) (by decide) rfl rfl F153.ar191 F153.sz5 ?_
              refine sv_set hs 0 rfl c243 (bt ([48, 49, 50, 51, 52, 53, 54, 55, 56, 57, 97, 98, 99, 100, 101, 102, 103, 104, 105, 106, 107, 108, 109, 110, 111, 112, 113, 114, 115, 116, 117, 118, 119, 120, 121, 122] : List UInt8) u235) (fun _ => rfl) (by decide) rfl rfl rfl rfl F153.sz5 nofun (fun H244 hs => ?_)
              refine so_nil ?_
              refine fi_seq ?_
              refine fi_seq ?_
              refine fi_region ?_
              refine so_move (v := (.v (.bool a3))) rfl ?_
              refine so_nil ?_
              refine fi_false rfl c107 ?_
              refine fi_skip ?_
              refine fi_seq ?_
              refine fi_seq ?_
              refine fi_region ?_
              refine so_move (v := (.v (.bool a4))) rfl ?_
              refine so_nil ?_
              replace h := ofT h; rcases h with ⟨c245, h⟩ | ⟨c245, h⟩
              · exact h.elim
              · refine fi_false rfl c245 ?_
                refine fi_skip ?_
                refine fi_seq ?_
                refine fi_region ?_
                refine so_move (v := (.v (.int .i64 (IntKind.i64.wrap (i236 - (1 : Int)))))) rfl ?_
                obtain ⟨c247, h⟩ := h
                refine sv_sliceA hs 0 rfl av104 c247 (fun _ => rfl) (by decide) rfl rfl rfl rfl rfl F153.ar191 F153.sz5 ?_
                refine sv_bs (Shows.cut (e := (eInt .u8)) (n := 1) (fun _ => rfl) (hs.shows 0 rfl) (by decide) (cutok c247)) (cut_nn nv104) rfl F153.te72 F153.it5 F153.sr9 ?_
                refine so_assign (v := (.v (.str (pk (byts (((l234.set ((IntKind.i64.wrap (i236 - (1 : Int)))).toNat (bt ([48, 49, 50, 51, 52, 53, 54, 55, 56, 57, 97, 98, 99, 100, 101, 102, 103, 104, 105, 106, 107, 108, 109, 110, 111, 112, 113, 114, 115, 116, 117, 118, 119, 120, 121, 122] : List UInt8) u235)).drop ((IntKind.i64.wrap (i236 - (1 : Int)))).toNat).take ((((l234.set ((IntKind.i64.wrap (i236 - (1 : Int)))).toNat (bt ([48, 49, 50, 51, 52, 53, 54, 55, 56, 57, 97, 98, 99, 100, 101, 102, 103, 104, 105, 106, 107, 108, 109, 110, 111, 112, 113, 114, 115, 116, 117, 118, 119, 120, 121, 122] : List UInt8) u235)).length : Int)).toNat - ((IntKind.i64.wrap (i236 - (1 : Int)))).toNat))))))) rfl ?_
                refine so_nil ?_
                exact by_ret rfl ⟨_, _, h, _, rfl, (Sep.nil (Sep.del 0 hs) 1)⟩

end Go.Proofs.YtcgiboeilcdonaaDoor.G

namespace Go.Proofs.YtcgiboeilcdonaaDoor.G
open Go Go.Ab Go.Proofs Go.Proofs.YtcgiboeilcdonaaDoor
set_option maxRecDepth 100000
set_option linter.unusedVariables false
set_option linter.unusedSimpArgs false
set_option maxHeartbeats 1000000
attribute [local irreducible] wops wopf Go.Ab.Fin
theorem F128.it163 : tint Tryd.prog 163 = some .u64 := by kernel_rfl
theorem F128.us2 : (Tryd.prog.underlying 2).isSome = true := by kernel_rfl
theorem F128.za171 : tzero Tryd.prog 171 = some (List.replicate 24 (.int .u8 (0 : Int))) := by kernel_rfl
theorem internal_strconv_FormatIntW_ok {fr : List Pc} {H : Heap} (a0 : Int) (a1 : Int) (hs : Sep H (fr)) (gt8 : ∀ H, Sep H fr → HasTab 8 F.tab8 H) (K : (List UInt8) → Prop) (h : internal_strconv_FormatIntW.wp a0 a1 K) : OkQ Tryd.prog 128 [(.v (.int .i64 a0)), (.v (.int .i64 a1))] H (fun r H2 => ∃ (y0 : List UInt8), K y0 ∧ r = (.v (.str (pk y0))) ∧ Sep H2 (fr)) := by
  unfold internal_strconv_FormatIntW.wp at h
  refine of_body Tryd.f128 F.hm Tryd.func128 rfl Tryd.call128 (by kernel_rfl) (by simp) ?_
  refine fi_seq ?_
  refine fi_region ?_
  refine so_assign (v := (.v (.str (pk ([] : List UInt8))))) rfl ?_
  refine so_nil ?_
  refine fi_seq ?_
  refine fi_seq ?_
  refine fi_region ?_
  refine so_move (v := (.v (.int .i64 a1))) rfl ?_
  refine so_bin rfl rfl ab_eql ?_
  refine so_nil ?_
  replace h := ofP h; rcases h with ⟨c101, h⟩ | ⟨c101, h⟩
  · refine fi_true rfl (decide_eq_true c101) ?_
    refine fi_seq ?_
    refine fi_seq ?_
    refine fi_region ?_
    refine so_move (v := (.v (.int .i64 a0))) rfl ?_
    refine so_bin rfl rfl ab_leq ?_
    refine so_move (v := (.v (.bool (decide ((0 : Int) ≤ a0))))) rfl ?_
    replace h := ofP h; rcases h with ⟨c102, h⟩ | ⟨c102, h⟩
    · refine so_gyes rfl (decide_eq_true c102) ?_
      refine so_move (v := (.v (.int .i64 a0))) rfl ?_
      refine so_gyes rfl (decide_eq_true c102) ?_
      refine so_bin rfl rfl ab_lss ?_
      refine so_pick_t (v := (.v (.bool (decide (a0 < (100 : Int)))))) rfl (decide_eq_true c102) rfl ?_
      refine so_nil ?_
      replace h := ofP h; rcases h with ⟨c103, h⟩ | ⟨c103, h⟩
      · refine fi_true rfl (decide_eq_true c103) ?_
        refine fi_seq ?_
        refine fi_region ?_
        refine so_move (v := (.v (.int .i64 a0))) rfl ?_
        refine sv_callS (internal_strconv_small_ok a0 hs  _ h) (fun _ _ ⟨_, _, _, e⟩ => e) rfl rfl ?_
        clear h
        rintro _ _ ⟨y104, h, rfl, rfl⟩
        refine so_assign (v := (.v (.str (pk y104)))) rfl ?_
        refine so_nil ?_
        exact by_ret rfl ⟨_, h, rfl, hs⟩
      · refine fi_false rfl (decide_eq_false c103) ?_
        refine fi_skip ?_
        refine fi_seq ?_
        refine fi_region ?_
        refine sv_allocA hs 24 (eInt .u8) (0 : Int) (fun _ => rfl) F128.za171 (by rfl) (by rfl) nofun (fun v106 H107 nv106 av106 hs => ?_)
        refine so_nil ?_
        refine fi_seq ?_
        refine fi_region ?_
        refine so_move (v := (.v (.int .i64 a0))) rfl ?_
        refine sv_ii rfl F128.us2 F128.it163 ?_
        refine so_assign (v := (.v (.int .u64 (IntKind.u64.wrap a0)))) rfl ?_
        refine so_nil ?_
        refine fi_seq ?_
        refine fi_seq ?_
        refine fi_region ?_
        refine so_move (v := (.v (.int .i64 a0))) rfl ?_
        refine so_bin rfl rfl ab_lss ?_
        refine so_nil ?_
        replace h := ofP h; rcases h with ⟨c109, h⟩ | ⟨c109, h⟩
        · exact h.elim
        · exact h.elim
    · refine so_gno rfl (decide_eq_false c102) ?_
      refine so_gno rfl (decide_eq_false c102) ?_
      refine so_pick_f (v := (.v (.bool false))) rfl (decide_eq_false c102) rfl ?_
      refine so_nil ?_
      refine fi_false rfl rfl ?_
      refine fi_skip ?_
      refine fi_seq ?_
      refine fi_region ?_
      refine sv_allocA hs 24 (eInt .u8) (0 : Int) (fun _ => rfl) F128.za171 (by rfl) (by rfl) nofun (fun v110 H111 nv110 av110 hs => ?_)
      refine so_nil ?_
      refine fi_seq ?_
      refine fi_region ?_
      refine so_move (v := (.v (.int .i64 a0))) rfl ?_
      refine sv_ii rfl F128.us2 F128.it163 ?_
      refine so_assign (v := (.v (.int .u64 (IntKind.u64.wrap a0)))) rfl ?_
      refine so_nil ?_
      refine fi_seq ?_
      refine fi_seq ?_
      refine fi_region ?_
      refine so_move (v := (.v (.int .i64 a0))) rfl ?_
      refine so_bin rfl rfl ab_lss ?_
      refine so_nil ?_
      replace h := ofP h; rcases h with ⟨c113, h⟩ | ⟨c113, h⟩
      · exact h.elim
      · exact h.elim
  · refine fi_false rfl (decide_eq_false c101) ?_
    refine fi_skip ?_
    refine fi_seq ?_
    refine fi_region ?_
    refine so_move (v := (.v (.int .i64 a0))) rfl ?_
    refine sv_ii rfl F128.us2 F128.it163 ?_
    refine so_move (v := (.v (.int .i64 a1))) rfl ?_
    refine so_move (v := (.v (.int .i64 a0))) rfl ?_
    refine so_bin rfl rfl ab_lss ?_
    refine sv_call (internal_strconv_formatBits_ok .nilsl ([] : List (Int)) (IntKind.u64.wrap a0) a1 (decide (a0 < (0 : Int))) false hs (fun _ hs => (.inl ⟨rfl, rfl⟩ : Shows _ .nilsl 1 (enc (eInt .u8) []))) (fun _ hs => gt8 _ hs) _ h) rfl rfl nofun ?_
    clear h hs
    rintro _ H118 ⟨y114, y117, h, v115, rfl, hs⟩
    refine so_move (v := (.t [(.v v115), (.v (.str (pk y117)))])) rfl ?_
    refine so_extract rfl rfl rfl ?_
    refine so_extract rfl rfl rfl ?_
    refine so_assign (v := (.v v115)) rfl ?_
    refine so_assign (v := (.v (.str (pk y117)))) rfl ?_
    refine so_nil ?_
    refine fi_seq ?_
    refine fi_region ?_
    refine so_move (v := (.v (.str (pk y117)))) rfl ?_
    refine so_assign (v := (.v (.str (pk y117)))) rfl ?_
    refine so_nil ?_
    exact by_ret rfl ⟨_, h, rfl, (Sep.del 0 hs)⟩
theorem internal_strconv_FormatIntW_okS {fr : List Pc} {H : Heap} (a0 : Int) (a1 : Int) (hs : Sep H fr) (gt8 : ∀ H, Sep H fr → HasTab 8 F.tab8 H) (K : (List UInt8) → Prop) (h : internal_strconv_FormatIntW.wp a0 a1 K) : OkQ Tryd.prog 128 [(.v (.int .i64 a0)), (.v (.int .i64 a1))] H (fun r H2 => ∃ (y0 : List UInt8), K y0 ∧ r = (.v (.str (pk y0))) ∧ H = H2) := by
  obtain ⟨r, H2, h1, y0, hK, hr, hsep⟩ := internal_strconv_FormatIntW_ok (fr := came H) (H := H) a0 a1 (came_sep H) (came_tab (gt8 H hs)) K h
  have hk : H.n ≤ H2.n ∧ ∀ i, i < H.n → H2.f i = H.f i := hsep.1.2.1
  exact ⟨r, H, h1.forget hk.1 hk.2 (by subst hr; rfl), y0, hK, hr, rfl⟩
theorem internal_strconv_FormatIntH_ok {fr : List Pc} {H : Heap} (a0 : Int) (a1 : Int) (hs : Sep H fr) (gt4 : ∀ H, Sep H fr → HasTab 4 F.tab4 H) (K : List UInt8 → Prop) (h : internal_strconv_FormatIntH.wp a0 a1 K) : OkQ Tryd.prog 128 [.v (.int .i64 a0), .v (.int .i64 a1)] H (fun r H2 => ∃ (y0 : List UInt8), K y0 ∧ r = (.v (.str (pk y0))) ∧ H = H2) := by
  obtain ⟨rfl, h0, h⟩ := h
  exact ⟨.v (.str (pk (Lib.itoa a0))), _, ok_libG [.int .i64 a0, .int .i64 10] (.string (pk (Lib.itoa a0))) Tryd.call128 (args_ii _ _ _ _) (fun β => rfl) (fun β w hw => by
    obtain ⟨o, ho1, ho2⟩ := (gt4 H hs).heap hw
    exact Any.internal_strconv_FormatInt_10 Tryd.laysM246 a0 h0.1 h0.2 w (ho2 w ho1)), _, h, rfl, rfl⟩
theorem internal_strconv_FormatInt_ok {fr : List Pc} {H : Heap} (a0 : Int) (a1 : Int) (hs : Sep H fr) (gt4 : ∀ H, Sep H fr → HasTab 4 F.tab4 H) (gt8 : ∀ H, Sep H fr → HasTab 8 F.tab8 H) (K : List UInt8 → Prop) (h : internal_strconv_FormatInt.wp a0 a1 K) : OkQ Tryd.prog 128 [.v (.int .i64 a0), .v (.int .i64 a1)] H (fun r H2 => ∃ (y0 : List UInt8), K y0 ∧ r = (.v (.str (pk y0))) ∧ H = H2) := by
  rcases h with h | h
  · exact internal_strconv_FormatIntH_ok a0 a1 hs gt4 K h
  · exact internal_strconv_FormatIntW_okS a0 a1 hs gt8 K h

end Go.Proofs.YtcgiboeilcdonaaDoor.G

namespace Go.Proofs.YtcgiboeilcdonaaDoor.G
open Go Go.Ab Go.Proofs Go.Proofs.YtcgiboeilcdonaaDoor
set_option maxRecDepth 100000
set_option linter.unusedVariables false
set_option linter.unusedSimpArgs false
set_option maxHeartbeats 1000000
attribute [local irreducible] wops wopf Go.Ab.Fin
theorem strconv_FormatInt_ok {fr : List Pc} {H : Heap} (a0 : Int) (a1 : Int) (hs : Sep H (fr)) (gt4 : ∀ H, Sep H fr → HasTab 4 F.tab4 H) (gt8 : ∀ H, Sep H fr → HasTab 8 F.tab8 H) (K : (List UInt8) → Prop) (h : strconv_FormatInt.wp a0 a1 K) : OkQ Tryd.prog 98 [(.v (.int .i64 a0)), (.v (.int .i64 a1))] H (fun r H2 => ∃ (y0 : List UInt8), K y0 ∧ r = (.v (.str (pk y0))) ∧ H = H2) := by
  unfold strconv_FormatInt.wp at h
  refine of_body Tryd.f98 F.hm Tryd.func98 rfl Tryd.call98 (by kernel_rfl) (by simp) ?_
  refine fi_seq ?_
  refine fi_region ?_
  refine so_assign (v := (.v (.str (pk ([] : List UInt8))))) rfl ?_
  refine so_nil ?_
  refine fi_seq ?_
  refine fi_region ?_
  refine so_move (v := (.v (.int .i64 a0))) rfl ?_
  refine so_move (v := (.v (.int .i64 a1))) rfl ?_
  refine sv_callS (internal_strconv_FormatInt_ok a0 a1 hs (fun _ hs => gt4 _ hs) (fun _ hs => gt8 _ hs) _ h) (fun _ _ ⟨_, _, _, e⟩ => e) rfl rfl ?_
  clear h
  rintro _ _ ⟨y101, h, rfl, rfl⟩
  refine so_assign (v := (.v (.str (pk y101)))) rfl ?_
  refine so_nil ?_
  exact by_ret rfl ⟨_, h, rfl, rfl⟩

end Go.Proofs.YtcgiboeilcdonaaDoor.G

namespace Go.Proofs.YtcgiboeilcdonaaDoor.G
open Go Go.Ab Go.Proofs Go.Proofs.YtcgiboeilcdonaaDoor
set_option maxRecDepth 100000
set_option linter.unusedVariables false
set_option linter.unusedSimpArgs false
set_option maxHeartbeats 1000000
attribute [local irreducible] wops wopf Go.Ab.Fin
theorem impl_Decimal_ok {fr : List Pc} {H : Heap} (a0 : Int) (hs : Sep H (fr)) (gt4 : ∀ H, Sep H fr → HasTab 4 F.tab4 H) (gt8 : ∀ H, Sep H fr → HasTab 8 F.tab8 H) (K : (List UInt8) → Prop) (h : impl_Decimal.wp a0 K) : OkQ Tryd.prog 54 [(.v (.int .i64 a0))] H (fun r H2 => ∃ (y0 : List UInt8), K y0 ∧ r = (.v (.str (pk y0))) ∧ H = H2) := by
  unfold impl_Decimal.wp at h
  refine of_body Tryd.f54 F.hm Tryd.func54 rfl Tryd.call54 (by kernel_rfl) (by simp) ?_
  refine fi_seq ?_
  refine fi_region ?_
  refine so_assign (v := (.v (.str (pk ([] : List UInt8))))) rfl ?_
  refine so_nil ?_
  refine fi_seq ?_
  refine fi_region ?_
  refine so_move (v := (.v (.int .i64 a0))) rfl ?_
  refine sv_callS (strconv_FormatInt_ok a0 (10 : Int) hs (fun _ hs => gt4 _ hs) (fun _ hs => gt8 _ hs) _ h) (fun _ _ ⟨_, _, _, e⟩ => e) rfl rfl ?_
  clear h
  rintro _ _ ⟨y101, h, rfl, rfl⟩
  refine so_assign (v := (.v (.str (pk y101)))) rfl ?_
  refine so_nil ?_
  exact by_ret rfl ⟨_, h, rfl, rfl⟩

end Go.Proofs.YtcgiboeilcdonaaDoor.G

namespace Go.Proofs.YtcgiboeilcdonaaDoor.G
open Go Go.Ab Go.Proofs Go.Proofs.YtcgiboeilcdonaaDoor
set_option maxRecDepth 100000
set_option linter.unusedVariables false
set_option linter.unusedSimpArgs false
set_option maxHeartbeats 1000000
attribute [local irreducible] wops wopf Go.Ab.Fin
theorem F155.if79 : tif Tryd.prog 79 = true := by kernel_rfl
theorem impl_ReadDecimal_ok {fr : List Pc} {H : Heap} (a0 : List UInt8) (hs : Sep H (fr)) (gt4 : ∀ H, Sep H fr → HasTab 4 F.tab4 H) (gt5 : ∀ H, Sep H fr → HasTab 5 F.tab5 H) (gt6 : ∀ H, Sep H fr → HasTab 6 F.tab6 H) (gt8 : ∀ H, Sep H fr → HasTab 8 F.tab8 H) (K : Int → Bool → Prop) (h : impl_ReadDecimal.wp a0 K) : OkQ Tryd.prog 155 [(.v (.str (pk a0)))] H (fun r H2 => ∃ (y0 : Int) (y1 : Bool), K y0 y1 ∧ r = (.t [(.v (.int .i64 y0)), (.v (.bool y1))]) ∧ H = H2) := by
  unfold impl_ReadDecimal.wp at h
  refine of_body Tryd.f155 F.hm Tryd.func155 rfl Tryd.call155 (by kernel_rfl) (by simp) ?_
  refine fi_seq ?_
  refine fi_region ?_
  refine so_assign (v := (.v (.int .i64 (0 : Int)))) rfl ?_
  refine so_assign (v := (.v (.bool false))) rfl ?_
  refine so_nil ?_
  refine fi_seq ?_
  refine fi_region ?_
  refine so_move (v := (.v (.str (pk a0)))) rfl ?_
  refine sv_callS (strconv_ParseInt_ok a0 (10 : Int) (64 : Int) hs (fun _ hs => gt5 _ hs) (fun _ hs => gt6 _ hs) _ h) (fun _ _ ⟨_, _, _, _, e⟩ => e) rfl rfl ?_
  clear h
  rintro _ _ ⟨y101, y102, h, rfl, rfl⟩
  refine so_move (v := (.t [(.v (.int .i64 y101)), (.v (.ifc y102))])) rfl ?_
  refine so_extract rfl rfl rfl ?_
  refine so_extract rfl rfl rfl ?_
  refine so_assign (v := (.v (.int .i64 y101))) rfl ?_
  refine so_assign (v := (.v (.ifc y102))) rfl ?_
  refine so_nil ?_
  refine fi_seq ?_
  refine fi_seq ?_
  refine fi_region ?_
  refine so_move (v := (.v (.ifc y102))) rfl ?_
  refine so_ifc_ne rfl rfl F155.if79 ?_
  refine so_move (v := (.v (.bool (!(y102.isNil))))) rfl ?_
  replace h := ofT h; rcases h with ⟨c104, h⟩ | ⟨c104, h⟩
  · refine so_gyes rfl (not_f c104) ?_
    refine so_move (v := (.v (.int .i64 y101))) rfl ?_
    refine so_gyes rfl (not_f c104) ?_
    refine sv_callS (impl_isValue_ok y101 hs  _ h) (fun _ _ ⟨_, _, _, e⟩ => e) rfl rfl ?_
    clear h
    rintro _ _ ⟨y105, h, rfl, rfl⟩
    refine so_gyes rfl (not_f c104) ?_
    refine so_un rfl au_not ?_
    refine so_pick_f (v := (.v (.bool (!y105)))) rfl (not_f c104) rfl ?_
    refine so_move (v := (.v (.bool (!y105)))) rfl ?_
    replace h := ofT h; rcases h with ⟨c107, h⟩ | ⟨c107, h⟩
    · refine so_gyes rfl (not_f c107) ?_
      refine so_move (v := (.v (.int .i64 y101))) rfl ?_
      refine so_gyes rfl (not_f c107) ?_
      refine sv_callS (impl_Decimal_ok y101 hs (fun _ hs => gt4 _ hs) (fun _ hs => gt8 _ hs) _ h) (fun _ _ ⟨_, _, _, e⟩ => e) rfl rfl ?_
      clear h
      rintro _ _ ⟨y108, h, rfl, rfl⟩
      refine so_gyes rfl (not_f c107) ?_
      refine so_move (v := (.v (.str (pk a0)))) rfl ?_
      refine so_gyes rfl (not_f c107) ?_
      refine so_bin rfl rfl ab_sneq ?_
      refine so_pick_f (v := (.v (.bool (!(decide (y108 = a0)))))) rfl (not_f c107) rfl ?_
      refine so_nil ?_
      replace h := ofP h; rcases h with ⟨c110, h⟩ | ⟨c110, h⟩
      · refine fi_false rfl (not_f (decide_eq_true c110)) ?_
        refine fi_skip ?_
        refine fi_seq ?_
        refine fi_region ?_
        refine so_move (v := (.v (.int .i64 y101))) rfl ?_
        refine so_assign (v := (.v (.int .i64 y101))) rfl ?_
        refine so_assign (v := (.v (.bool true))) rfl ?_
        refine so_nil ?_
        exact by_ret rfl ⟨_, _, h, rfl, rfl⟩
      · refine fi_true rfl (not_t (decide_eq_false c110)) ?_
        refine fi_seq ?_
        refine fi_region ?_
        refine so_assign (v := (.v (.int .i64 (0 : Int)))) rfl ?_
        refine so_assign (v := (.v (.bool false))) rfl ?_
        refine so_nil ?_
        exact by_ret rfl ⟨_, _, h, rfl, rfl⟩
    · refine so_gno rfl (not_t c107) ?_
      refine so_gno rfl (not_t c107) ?_
      refine so_gno rfl (not_t c107) ?_
      refine so_gno rfl (not_t c107) ?_
      refine so_pick_t (v := (.v (.bool true))) rfl (not_t c107) rfl ?_
      refine so_nil ?_
      refine fi_true rfl rfl ?_
      refine fi_seq ?_
      refine fi_region ?_
      refine so_assign (v := (.v (.int .i64 (0 : Int)))) rfl ?_
      refine so_assign (v := (.v (.bool false))) rfl ?_
      refine so_nil ?_
      exact by_ret rfl ⟨_, _, h, rfl, rfl⟩
  · refine so_gno rfl (not_t c104) ?_
    refine so_gno rfl (not_t c104) ?_
    refine so_gno rfl (not_t c104) ?_
    refine so_pick_t (v := (.v (.bool true))) rfl (not_t c104) rfl ?_
    refine so_move (v := (.v (.bool true))) rfl ?_
    refine so_gno rfl rfl ?_
    refine so_gno rfl rfl ?_
    refine so_gno rfl rfl ?_
    refine so_gno rfl rfl ?_
    refine so_pick_t (v := (.v (.bool true))) rfl rfl rfl ?_
    refine so_nil ?_
    refine fi_true rfl rfl ?_
    refine fi_seq ?_
    refine fi_region ?_
    refine so_assign (v := (.v (.int .i64 (0 : Int)))) rfl ?_
    refine so_assign (v := (.v (.bool false))) rfl ?_
    refine so_nil ?_
    exact by_ret rfl ⟨_, _, h, rfl, rfl⟩

end Go.Proofs.YtcgiboeilcdonaaDoor.G

namespace Go.Proofs.YtcgiboeilcdonaaDoor.G
open Go Go.Ab Go.Proofs Go.Proofs.YtcgiboeilcdonaaDoor
set_option maxRecDepth 100000
set_option linter.unusedVariables false
set_option linter.unusedSimpArgs false
set_option maxHeartbeats 1000000
attribute [local irreducible] wops wopf Go.Ab.Fin
theorem F132.ag9 : tagg Tryd.prog 9 = some false := by kernel_rfl
theorem F132.sz2 : tsz Tryd.prog 2 = some 1 := by kernel_rfl
theorem F132.ta96_96 : tapp Tryd.prog 96 96 = some (1, 8) := by kernel_rfl
theorem F132.te96 : telem Tryd.prog 96 = some 2 := by kernel_rfl
theorem F132.ti28 : (telem Tryd.prog 28).isSome = true := by kernel_rfl
theorem F132.tl28 : (telem Tryd.prog 28).bind (tsz Tryd.prog) = some 1 := by kernel_rfl
theorem F132.ze2 : tzero Tryd.prog 2 = some [(.int .i64 (0 : Int))] := by kernel_rfl
theorem impl_readList_ok {fr : List Pc} {H : Heap} (a0 : List UInt8) (hs : Sep H (fr)) (gt4 : ∀ H, Sep H fr → HasTab 4 F.tab4 H) (gt5 : ∀ H, Sep H fr → HasTab 5 F.tab5 H) (gt6 : ∀ H, Sep H fr → HasTab 6 F.tab6 H) (gt8 : ∀ H, Sep H fr → HasTab 8 F.tab8 H) (K : (List (Int)) → Bool → Prop) (h : impl_readList.wp a0 K) : OkQ Tryd.prog 132 [(.v (.str (pk a0)))] H (fun r H2 => ∃ (y0 : List (Int)) (y1 : Bool), K y0 y1 ∧ ∃ (w0_ : AV), r = (.t [(.v w0_), (.v (.bool y1))]) ∧ Sep H2 (Pc.osl w0_ 1 (enc (eInt .i64) y0) :: fr)) := by
  unfold impl_readList.wp at h
  refine of_body Tryd.f132 F.hm Tryd.func132 rfl Tryd.call132 (by kernel_rfl) (by simp) ?_
  refine fi_seq ?_
  refine fi_region ?_
  refine so_assign (v := (.v .nilsl)) rfl ?_
  refine so_assign (v := (.v (.bool false))) rfl ?_
  refine so_nil ?_
  refine fi_seq ?_
  refine fi_region ?_
  refine sv_bslice hs (eInt .i64) ([] : List (Int)) [] F132.te96 F132.sz2 F132.ze2 rfl rfl rfl rfl (fun _ => rfl) rfl (by decide) nofun (fun v101 H102 nv101 hs => ?_)
  refine so_assign (v := (.v v101)) rfl ?_
  refine so_nil ?_
  refine fi_seq ?_
  refine fi_seq ?_
  refine fi_region ?_
  refine so_move (v := (.v (.str (pk a0)))) rfl ?_
  refine sv_call (impl_pieces_ok a0 hs  _ h) rfl rfl nofun ?_
  clear h hs
  rintro _ H107 ⟨y104, h, v105, rfl, hs⟩
  refine sv_len (hs.rshows 0 rfl) (fun _ => rfl) (by decide) rfl F132.ti28 ?_
  refine so_move (v := (.v (.int .i64 (0 : Int)))) rfl ?_
  refine so_nil ?_
  refine fi_block ?_
  refine fi_loop ?_
  refine fi_at [(4, (.v v101)), (11, (.v v105)), (12, (.v (.int .i64 (y104.length : Int)))), (13, (.v (.int .i64 (0 : Int))))] ⟨rfl, rfl, rfl, rfl, trivial⟩ ?_
  refine h (fun (out125 : List (Int)) (x127 : Int) => ∀ (s : Nat → TV) (H : Heap) (v126 : AV) (nv126 : v126 ≠ .nilsl), Sep H (rdp v105 1 (enc eStr y104) :: Pc.osl v126 1 (enc (eInt .i64) out125) :: fr) → Fin _ _ (updL s [(4, (.v v126)), (11, (.v v105)), (12, (.v (.int .i64 (y104.length : Int)))), (13, (.v (.int .i64 x127)))]) H _) ?_ _ _ _ nv101 hs
  intro out125 x127 h s140 H141 v126 nv126 hs
  refine fi_inLoop ?_
  refine fi_seq ?_
  refine fi_region ?_
  refine so_bin rfl rfl ab_lss ?_
  refine so_nil ?_
  refine fi_seq ?_
  replace h := ofP h; rcases h with ⟨c128, h⟩ | ⟨c128, h⟩
  · refine fi_true rfl (decide_eq_true c128) ?_
    refine fi_skip ?_
    refine fi_seq ?_
    refine fi_block ?_
    refine fi_seq ?_
    refine fi_region ?_
    obtain ⟨c129, h⟩ := h
    refine sv_idx (hs.rshows 0 rfl) c129 (fun _ => rfl) (by decide) rfl rfl F132.tl28 ?_
    refine sv_cell (hs.rshows 0 rfl) c129 ([] : List UInt8) 0 (fun x => (AV.str (pk x))) (fun _ => rfl) (fun _ => rfl) rfl F132.ag9 ?_
    refine so_assign (v := (.v (.str (pk (y104.getD (x127).toNat ([] : List UInt8)))))) rfl ?_
    refine so_nil ?_
    refine fi_seq ?_
    refine fi_region ?_
    refine so_move (v := (.v (.str (pk (y104.getD (x127).toNat ([] : List UInt8)))))) rfl ?_
    refine sv_callS (impl_ReadDecimal_ok (y104.getD (x127).toNat ([] : List UInt8)) hs (fun _ hs => gt4 _ hs.tl.tl) (fun _ hs => gt5 _ hs.tl.tl) (fun _ hs => gt6 _ hs.tl.tl) (fun _ hs => gt8 _ hs.tl.tl) _ h) (fun _ _ ⟨_, _, _, _, e⟩ => e) rfl rfl ?_
    clear h
    rintro _ _ ⟨y130, y131, h, rfl, rfl⟩
    refine so_move (v := (.t [(.v (.int .i64 y130)), (.v (.bool y131))])) rfl ?_
    refine so_extract rfl rfl rfl ?_
    refine so_extract rfl rfl rfl ?_
    refine so_assign (v := (.v (.int .i64 y130))) rfl ?_
    refine so_assign (v := (.v (.bool y131))) rfl ?_
    refine so_nil ?_
    refine fi_seq ?_
    refine fi_seq ?_
    refine fi_region ?_
    refine so_move (v := (.v (.bool y131))) rfl ?_
    refine so_un rfl au_not ?_
    refine so_nil ?_
    replace h := ofT h; rcases h with ⟨c133, h⟩ | ⟨c133, h⟩
    · refine fi_false rfl (not_f c133) ?_
      refine fi_skip ?_
      refine fi_region ?_
      refine so_move (v := (.v v126)) rfl ?_
      refine so_move (v := (.v (.int .i64 y130))) rfl ?_
      refine sv_bslice hs (eInt .i64) ([y130] : List (Int)) [[(.int .i64 y130)]] F132.te96 F132.sz2 F132.ze2 rfl rfl rfl rfl (fun _ => rfl) rfl (by decide) nofun (fun v134 H135 nv134 hs => ?_)
      obtain ⟨c139, h⟩ := h
      refine sv_app hs 2 rfl (hs.shows 0 rfl) (fun _ => rfl) (by decide) F132.ta96_96 (by decide) c139 rfl rfl nofun (fun v137 H138 kv137 hs => ?_)
      replace hs := hs.del 0
      have nv137 := kv137 nv126
      refine so_assign (v := (.v v137)) rfl ?_
      refine so_nil ?_
      refine fi_inBlock ?_
      refine fi_region ?_
      refine so_bin rfl rfl ab_add ?_
      refine so_move (v := (.v (.int .i64 (IntKind.i64.wrap (x127 + (1 : Int)))))) rfl ?_
      refine so_nil ?_
      exact fi_at [(4, (.v v137)), (11, (.v v105)), (12, (.v (.int .i64 (y104.length : Int)))), (13, (.v (.int .i64 (IntKind.i64.wrap (x127 + (1 : Int))))))] ⟨rfl, rfl, rfl, rfl, trivial⟩ (h _ _ _ nv137 hs)
    · refine fi_true rfl (not_t c133) ?_
      refine fi_seq ?_
      refine fi_region ?_
      refine so_assign (v := (.v .nilsl)) rfl ?_
      refine so_assign (v := (.v (.bool false))) rfl ?_
      refine so_nil ?_
      exact by_ret rfl ⟨_, _, h, _, rfl, (Sep.nil (Sep.del 0 (Sep.del 0 hs)) 1)⟩
  · refine fi_false rfl (decide_eq_false c128) ?_
    refine fi_exit rfl ?_
    refine fi_seq ?_
    refine fi_region ?_
    refine so_move (v := (.v v126)) rfl ?_
    refine so_assign (v := (.v v126)) rfl ?_
    refine so_assign (v := (.v (.bool true))) rfl ?_
    refine so_nil ?_
    exact by_ret rfl ⟨_, _, h, _, rfl, (Sep.del 0 hs)⟩

end Go.Proofs.YtcgiboeilcdonaaDoor.G

namespace Go.Proofs.YtcgiboeilcdonaaDoor.G
open Go Go.Ab Go.Proofs Go.Proofs.YtcgiboeilcdonaaDoor
set_option maxRecDepth 100000
set_option linter.unusedVariables false
set_option linter.unusedSimpArgs false
set_option maxHeartbeats 1000000
attribute [local irreducible] wops wopf Go.Ab.Fin
theorem F109.ti96 : (telem Tryd.prog 96).isSome = true := by kernel_rfl
theorem impl_ReadList_ok {fr : List Pc} {H : Heap} (a0 : List UInt8) (hs : Sep H (fr)) (gt4 : ∀ H, Sep H fr → HasTab 4 F.tab4 H) (gt5 : ∀ H, Sep H fr → HasTab 5 F.tab5 H) (gt6 : ∀ H, Sep H fr → HasTab 6 F.tab6 H) (gt8 : ∀ H, Sep H fr → HasTab 8 F.tab8 H) (K : (List (Int)) → Bool → Prop) (h : impl_ReadList.wp a0 K) : OkQ Tryd.prog 109 [(.v (.str (pk a0)))] H (fun r H2 => ∃ (y0 : List (Int)) (y1 : Bool), K y0 y1 ∧ ∃ (w0_ : AV), r = (.t [(.v w0_), (.v (.bool y1))]) ∧ Sep H2 (Pc.osl w0_ 1 (enc (eInt .i64) y0) :: fr)) := by
  unfold impl_ReadList.wp at h
  refine of_body Tryd.f109 F.hm Tryd.func109 rfl Tryd.call109 (by kernel_rfl) (by simp) ?_
  refine fi_seq ?_
  refine fi_region ?_
  refine so_assign (v := (.v .nilsl)) rfl ?_
  refine so_assign (v := (.v (.bool false))) rfl ?_
  refine so_nil ?_
  refine fi_seq ?_
  refine fi_region ?_
  refine so_move (v := (.v (.str (pk a0)))) rfl ?_
  refine sv_call (impl_readList_ok a0 hs (fun _ hs => gt4 _ hs) (fun _ hs => gt5 _ hs) (fun _ hs => gt6 _ hs) (fun _ hs => gt8 _ hs) _ h) rfl rfl nofun ?_
  clear h hs
  rintro _ H105 ⟨y101, y104, h, v102, rfl, hs⟩
  refine so_move (v := (.t [(.v v102), (.v (.bool y104))])) rfl ?_
  refine so_extract rfl rfl rfl ?_
  refine so_extract rfl rfl rfl ?_
  refine so_assign (v := (.v v102)) rfl ?_
  refine so_assign (v := (.v (.bool y104))) rfl ?_
  refine so_nil ?_
  refine fi_seq ?_
  refine fi_seq ?_
  refine fi_region ?_
  refine so_move (v := (.v (.bool y104))) rfl ?_
  refine so_un rfl au_not ?_
  refine so_move (v := (.v (.bool (!y104)))) rfl ?_
  replace h := ofT h; rcases h with ⟨c106, h⟩ | ⟨c106, h⟩
  · refine so_gyes rfl (not_f c106) ?_
    refine so_move (v := (.v v102)) rfl ?_
    refine so_gyes rfl (not_f c106) ?_
    refine sv_len (hs.shows 0 rfl) (fun _ => rfl) (by decide) rfl F109.ti96 ?_
    refine so_gyes rfl (not_f c106) ?_
    refine so_bin rfl rfl ab_gtr ?_
    refine so_pick_f (v := (.v (.bool (decide ((64 : Int) < (y101.length : Int)))))) rfl (not_f c106) rfl ?_
    refine so_nil ?_
    replace h := ofP h; rcases h with ⟨c107, h⟩ | ⟨c107, h⟩
    · refine fi_true rfl (decide_eq_true c107) ?_
      refine fi_seq ?_
      refine fi_region ?_
      refine so_assign (v := (.v .nilsl)) rfl ?_
      refine so_assign (v := (.v (.bool false))) rfl ?_
      refine so_nil ?_
      exact by_ret rfl ⟨_, _, h, _, rfl, (Sep.nil (Sep.del 0 hs) 1)⟩
    · refine fi_false rfl (decide_eq_false c107) ?_
      refine fi_skip ?_
      refine fi_seq ?_
      refine fi_region ?_
      refine so_move (v := (.v v102)) rfl ?_
      refine so_assign (v := (.v v102)) rfl ?_
      refine so_assign (v := (.v (.bool true))) rfl ?_
      refine so_nil ?_
      exact by_ret rfl ⟨_, _, h, _, rfl, hs⟩
  · refine so_gno rfl (not_t c106) ?_
    refine so_gno rfl (not_t c106) ?_
    refine so_gno rfl (not_t c106) ?_
    refine so_pick_t (v := (.v (.bool true))) rfl (not_t c106) rfl ?_
    refine so_nil ?_
    refine fi_true rfl rfl ?_
    refine fi_seq ?_
    refine fi_region ?_
    refine so_assign (v := (.v .nilsl)) rfl ?_
    refine so_assign (v := (.v (.bool false))) rfl ?_
    refine so_nil ?_
    exact by_ret rfl ⟨_, _, h, _, rfl, (Sep.nil (Sep.del 0 hs) 1)⟩

end Go.Proofs.YtcgiboeilcdonaaDoor.G

namespace Go.Proofs.YtcgiboeilcdonaaDoor.G
open Go Go.Ab Go.Proofs Go.Proofs.YtcgiboeilcdonaaDoor
set_option maxRecDepth 100000
set_option linter.unusedVariables false
set_option linter.unusedSimpArgs false
set_option maxHeartbeats 1000000
attribute [local irreducible] wops wopf Go.Ab.Fin
theorem F69.ag2 : tagg Tryd.prog 2 = some false := by kernel_rfl
theorem F69.ti96 : (telem Tryd.prog 96).isSome = true := by kernel_rfl
theorem F69.tl96 : (telem Tryd.prog 96).bind (tsz Tryd.prog) = some 1 := by kernel_rfl
theorem impl_readPair_ok {fr : List Pc} {H : Heap} (a0 : List UInt8) (hs : Sep H (fr)) (gt4 : ∀ H, Sep H fr → HasTab 4 F.tab4 H) (gt5 : ∀ H, Sep H fr → HasTab 5 F.tab5 H) (gt6 : ∀ H, Sep H fr → HasTab 6 F.tab6 H) (gt8 : ∀ H, Sep H fr → HasTab 8 F.tab8 H) (K : Int → Int → Bool → Prop) (h : impl_readPair.wp a0 K) : OkQ Tryd.prog 69 [(.v (.str (pk a0)))] H (fun r H2 => ∃ (y0 : Int) (y1 : Int) (y2 : Bool), K y0 y1 y2 ∧ r = (.t [(.v (.int .i64 y0)), (.v (.int .i64 y1)), (.v (.bool y2))]) ∧ Sep H2 (fr)) := by
  unfold impl_readPair.wp at h
  refine of_body Tryd.f69 F.hm Tryd.func69 rfl Tryd.call69 (by kernel_rfl) (by simp) ?_
  refine fi_seq ?_
  refine fi_region ?_
  refine so_assign (v := (.v (.int .i64 (0 : Int)))) rfl ?_
  refine so_assign (v := (.v (.int .i64 (0 : Int)))) rfl ?_
  refine so_assign (v := (.v (.bool false))) rfl ?_
  refine so_nil ?_
  refine fi_seq ?_
  refine fi_region ?_
  refine so_move (v := (.v (.str (pk a0)))) rfl ?_
  refine sv_call (impl_ReadList_ok a0 hs (fun _ hs => gt4 _ hs) (fun _ hs => gt5 _ hs) (fun _ hs => gt6 _ hs) (fun _ hs => gt8 _ hs) _ h) rfl rfl nofun ?_
  clear h hs
  rintro _ H105 ⟨y101, y104, h, v102, rfl, hs⟩
  refine so_move (v := (.t [(.v v102), (.v (.bool y104))])) rfl ?_
  refine so_extract rfl rfl rfl ?_
  refine so_extract rfl rfl rfl ?_
  refine so_assign (v := (.v v102)) rfl ?_
  refine so_assign (v := (.v (.bool y104))) rfl ?_
  refine so_nil ?_
  refine fi_seq ?_
  refine fi_seq ?_
  refine fi_region ?_
  refine so_move (v := (.v (.bool y104))) rfl ?_
  refine so_un rfl au_not ?_
  refine so_move (v := (.v (.bool (!y104)))) rfl ?_
  replace h := ofT h; rcases h with ⟨c106, h⟩ | ⟨c106, h⟩
  · refine so_gyes rfl (not_f c106) ?_
    refine so_move (v := (.v v102)) rfl ?_
    refine so_gyes rfl (not_f c106) ?_
    refine sv_len (hs.shows 0 rfl) (fun _ => rfl) (by decide) rfl F69.ti96 ?_
    refine so_gyes rfl (not_f c106) ?_
    refine so_bin rfl rfl ab_neq ?_
    refine so_pick_f (v := (.v (.bool (!(decide ((y101.length : Int) = (2 : Int))))))) rfl (not_f c106) rfl ?_
    refine so_nil ?_
    replace h := ofP h; rcases h with ⟨c107, h⟩ | ⟨c107, h⟩
    · refine fi_false rfl (not_f (decide_eq_true c107)) ?_
      refine fi_skip ?_
      refine fi_seq ?_
      refine fi_region ?_
      refine so_move (v := (.v v102)) rfl ?_
      obtain ⟨c108, h⟩ := h
      refine sv_idx (hs.shows 0 rfl) c108 (fun _ => rfl) (by decide) rfl rfl F69.tl96 ?_
      refine sv_cell (hs.shows 0 rfl) c108 (0 : Int) 0 (fun x => (AV.int .i64 x)) (fun _ => rfl) (fun _ => rfl) rfl F69.ag2 ?_
      refine so_move (v := (.v v102)) rfl ?_
      obtain ⟨c109, h⟩ := h
      refine sv_idx (hs.shows 0 rfl) c109 (fun _ => rfl) (by decide) rfl rfl F69.tl96 ?_
      refine sv_cell (hs.shows 0 rfl) c109 (0 : Int) 0 (fun x => (AV.int .i64 x)) (fun _ => rfl) (fun _ => rfl) rfl F69.ag2 ?_
      refine so_assign (v := (.v (.int .i64 (y101.getD ((0 : Int)).toNat (0 : Int))))) rfl ?_
      refine so_assign (v := (.v (.int .i64 (y101.getD ((1 : Int)).toNat (0 : Int))))) rfl ?_
      refine so_assign (v := (.v (.bool true))) rfl ?_
      refine so_nil ?_
      exact by_ret rfl ⟨_, _, _, h, rfl, (Sep.del 0 hs)⟩
    · refine fi_true rfl (not_t (decide_eq_false c107)) ?_
      refine fi_seq ?_
      refine fi_region ?_
      refine so_assign (v := (.v (.int .i64 (0 : Int)))) rfl ?_
      refine so_assign (v := (.v (.int .i64 (0 : Int)))) rfl ?_
      refine so_assign (v := (.v (.bool false))) rfl ?_
      refine so_nil ?_
      exact by_ret rfl ⟨_, _, _, h, rfl, (Sep.del 0 hs)⟩
  · refine so_gno rfl (not_t c106) ?_
    refine so_gno rfl (not_t c106) ?_
    refine so_gno rfl (not_t c106) ?_
    refine so_pick_t (v := (.v (.bool true))) rfl (not_t c106) rfl ?_
    refine so_nil ?_
    refine fi_true rfl rfl ?_
    refine fi_seq ?_
    refine fi_region ?_
    refine so_assign (v := (.v (.int .i64 (0 : Int)))) rfl ?_
    refine so_assign (v := (.v (.int .i64 (0 : Int)))) rfl ?_
    refine so_assign (v := (.v (.bool false))) rfl ?_
    refine so_nil ?_
    exact by_ret rfl ⟨_, _, _, h, rfl, (Sep.del 0 hs)⟩
theorem impl_readPair_okS {fr : List Pc} {H : Heap} (a0 : List UInt8) (hs : Sep H fr) (gt4 : ∀ H, Sep H fr → HasTab 4 F.tab4 H) (gt5 : ∀ H, Sep H fr → HasTab 5 F.tab5 H) (gt6 : ∀ H, Sep H fr → HasTab 6 F.tab6 H) (gt8 : ∀ H, Sep H fr → HasTab 8 F.tab8 H) (K : Int → Int → Bool → Prop) (h : impl_readPair.wp a0 K) : OkQ Tryd.prog 69 [(.v (.str (pk a0)))] H (fun r H2 => ∃ (y0 : Int) (y1 : Int) (y2 : Bool), K y0 y1 y2 ∧ r = (.t [(.v (.int .i64 y0)), (.v (.int .i64 y1)), (.v (.bool y2))]) ∧ H = H2) := by
  obtain ⟨r, H2, h1, y0, y1, y2, hK, hr, hsep⟩ := impl_readPair_ok (fr := came H) (H := H) a0 (came_sep H) (came_tab (gt4 H hs)) (came_tab (gt5 H hs)) (came_tab (gt6 H hs)) (came_tab (gt8 H hs)) K h
  have hk : H.n ≤ H2.n ∧ ∀ i, i < H.n → H2.f i = H.f i := hsep.1.2.1
  exact ⟨r, H, h1.forget hk.1 hk.2 (by subst hr; rfl), y0, y1, y2, hK, hr, rfl⟩

end Go.Proofs.YtcgiboeilcdonaaDoor.G

namespace Go.Proofs.YtcgiboeilcdonaaDoor.G
open Go Go.Ab Go.Proofs Go.Proofs.YtcgiboeilcdonaaDoor
set_option maxRecDepth 100000
set_option linter.unusedVariables false
set_option linter.unusedSimpArgs false
set_option maxHeartbeats 1000000
attribute [local irreducible] wops wopf Go.Ab.Fin
theorem F31.ag41 : tagg Tryd.prog 41 = some true := by kernel_rfl
theorem F31.bp41 : bplan Tryd.prog 41 = some ([(.int .i64 (0 : Int)), (.int .i64 (0 : Int)), .nilsl], [(0, 1), (1, 1), (2, 1)]) := by kernel_rfl
theorem F31.sz41 : tsz Tryd.prog 41 = some 3 := by kernel_rfl
theorem F31.ze41 : tzero Tryd.prog 41 = some [(.int .i64 (0 : Int)), (.int .i64 (0 : Int)), .nilsl] := by kernel_rfl
theorem impl_ReadCoded_ok {fr : List Pc} {H : Heap} (a0 : List UInt8) (hs : Sep H (fr)) (gt4 : ∀ H, Sep H fr → HasTab 4 F.tab4 H) (gt5 : ∀ H, Sep H fr → HasTab 5 F.tab5 H) (gt6 : ∀ H, Sep H fr → HasTab 6 F.tab6 H) (gt8 : ∀ H, Sep H fr → HasTab 8 F.tab8 H) (K : Int → Int → (List (Bool)) → Bool → Prop) (h : impl_ReadCoded.wp a0 K) : OkQ Tryd.prog 31 [(.v (.str (pk a0)))] H (fun r H2 => ∃ (y0 : Int) (y1 : Int) (y2 : List (Bool)) (y3 : Bool), K y0 y1 y2 y3 ∧ ∃ (w0_ : AV), r = (.t [(.g [(.int .i64 y0), (.int .i64 y1), w0_]), (.v (.bool y3))]) ∧ Sep H2 (Pc.osl w0_ 1 (enc eBool y2) :: fr)) := by
  unfold impl_ReadCoded.wp at h
  refine of_body Tryd.f31 F.hm Tryd.func31 rfl Tryd.call31 (by kernel_rfl) (by simp) ?_
  refine fi_seq ?_
  refine fi_region ?_
  refine sv_alloc hs F31.ze41 rfl nofun (fun id101 H102 hs => ?_)
  refine so_assign (v := (.v (.bool false))) rfl ?_
  refine so_nil ?_
  refine fi_seq ?_
  refine fi_region ?_
  refine so_move (v := (.v (.str (pk a0)))) rfl ?_
  refine sv_callS (strings_Cut_ok a0 ([59] : List UInt8) hs  _ h) (fun _ _ ⟨_, _, _, _, _, e⟩ => e) rfl rfl ?_
  clear h
  rintro _ _ ⟨y104, y105, y106, h, rfl, rfl⟩
  refine so_move (v := (.t [(.v (.str (pk y104))), (.v (.str (pk y105))), (.v (.bool y106))])) rfl ?_
  refine so_extract rfl rfl rfl ?_
  refine so_extract rfl rfl rfl ?_
  refine so_extract rfl rfl rfl ?_
  refine so_assign (v := (.v (.str (pk y104)))) rfl ?_
  refine so_assign (v := (.v (.str (pk y105)))) rfl ?_
  refine so_assign (v := (.v (.bool y106))) rfl ?_
  refine so_nil ?_
  refine fi_seq ?_
  refine fi_region ?_
  refine so_move (v := (.v (.str (pk y104)))) rfl ?_
  refine sv_callS (impl_readPair_okS y104 hs (fun _ hs => gt4 _ hs.tl) (fun _ hs => gt5 _ hs.tl) (fun _ hs => gt6 _ hs.tl) (fun _ hs => gt8 _ hs.tl) _ h) (fun _ _ ⟨_, _, _, _, _, e⟩ => e) rfl rfl ?_
  clear h
  rintro _ _ ⟨y108, y109, y110, h, rfl, rfl⟩
  refine so_move (v := (.t [(.v (.int .i64 y108)), (.v (.int .i64 y109)), (.v (.bool y110))])) rfl ?_
  refine so_extract rfl rfl rfl ?_
  refine so_extract rfl rfl rfl ?_
  refine so_extract rfl rfl rfl ?_
  refine so_assign (v := (.v (.int .i64 y108))) rfl ?_
  refine so_assign (v := (.v (.int .i64 y109))) rfl ?_
  refine so_assign (v := (.v (.bool y110))) rfl ?_
  refine so_nil ?_
  refine fi_seq ?_
  refine fi_region ?_
  refine so_move (v := (.v (.str (pk y105)))) rfl ?_
  refine sv_call (impl_ReadBits_ok y105 hs  _ h) rfl rfl nofun ?_
  clear h hs
  rintro _ H116 ⟨y112, y115, h, v113, rfl, hs⟩
  refine so_move (v := (.t [(.v v113), (.v (.bool y115))])) rfl ?_
  refine so_extract rfl rfl rfl ?_
  refine so_extract rfl rfl rfl ?_
  refine so_assign (v := (.v v113)) rfl ?_
  refine so_assign (v := (.v (.bool y115))) rfl ?_
  refine so_nil ?_
  refine fi_seq ?_
  refine fi_region ?_
  refine so_move (v := (.v (.int .i64 y108))) rfl ?_
  refine so_move (v := (.v (.int .i64 y109))) rfl ?_
  refine so_move (v := (.v v113)) rfl ?_
  refine so_build F31.bp41 (cps := [(0, [(.int .i64 y108)]), (1, [(.int .i64 y109)]), (2, [v113])]) rfl (fac (stc rfl stn) (fac (stc rfl stn) (fac (stc (hs.shows 0 rfl).stor stn) fan))) rfl ?_
  refine sv_alloc hs F31.ze41 rfl nofun (fun id117 H118 hs => ?_)
  refine sv_st hs 0 rfl rfl rfl (c := [(.int .i64 y108), (.int .i64 y109), v113]) rfl F31.sz41 rfl (stc rfl (stc rfl (stc (hs.shows 1 rfl).stor stn))) (leb rfl) (cs' := [(.int .i64 y108), (.int .i64 y109), v113]) rfl nofun (fun H120 hs => ?_)
  refine so_nil ?_
  refine fi_seq ?_
  refine fi_seq ?_
  refine fi_region ?_
  refine so_move (v := (.v (.bool y106))) rfl ?_
  refine so_un rfl au_not ?_
  refine so_move (v := (.v (.bool (!y106)))) rfl ?_
  replace h := ofT h; rcases h with ⟨c121, h⟩ | ⟨c121, h⟩
  · refine so_gyes rfl (not_f c121) ?_
    refine so_move (v := (.v (.bool y110))) rfl ?_
    refine so_gyes rfl (not_f c121) ?_
    refine so_un rfl au_not ?_
    refine so_pick_f (v := (.v (.bool (!y110)))) rfl (not_f c121) rfl ?_
    refine so_move (v := (.v (.bool (!y110)))) rfl ?_
    replace h := ofT h; rcases h with ⟨c122, h⟩ | ⟨c122, h⟩
    · refine so_gyes rfl (not_f c122) ?_
      refine so_move (v := (.v (.bool y115))) rfl ?_
      refine so_gyes rfl (not_f c122) ?_
      refine so_un rfl au_not ?_
      refine so_pick_f (v := (.v (.bool (!y115)))) rfl (not_f c122) rfl ?_
      refine so_move (v := (.v (.bool (!y115)))) rfl ?_
      replace h := ofT h; rcases h with ⟨c123, h⟩ | ⟨c123, h⟩
      · refine so_gyes rfl (not_f c123) ?_
        refine sv_lds hs 0 rfl rfl (leb rfl) rfl F31.ag41 F31.sz41 ?_
        refine so_gyes rfl (not_f c123) ?_
        refine sv_callS (impl_ValidCoded_okS y108 y109 v113 y112 hs (fun _ hs => (hs.shows 1 rfl)) _ h) (fun _ _ ⟨_, _, _, e⟩ => e) rfl rfl ?_
        clear h
        rintro _ _ ⟨y124, h, rfl, rfl⟩
        refine so_gyes rfl (not_f c123) ?_
        refine so_un rfl au_not ?_
        refine so_pick_f (v := (.v (.bool (!y124)))) rfl (not_f c123) rfl ?_
        refine so_nil ?_
        replace h := ofT h; rcases h with ⟨c126, h⟩ | ⟨c126, h⟩
        · refine fi_false rfl (not_f c126) ?_
          refine fi_skip ?_
          refine fi_seq ?_
          refine fi_region ?_
          refine sv_lds hs 0 rfl rfl (leb rfl) rfl F31.ag41 F31.sz41 ?_
          refine sv_st hs 2 rfl rfl rfl (c := [(.int .i64 y108), (.int .i64 y109), v113]) rfl F31.sz41 rfl (stc rfl (stc rfl (stc (hs.shows 1 rfl).stor stn))) (leb rfl) (cs' := [(.int .i64 y108), (.int .i64 y109), v113]) rfl nofun (fun H127 hs => ?_)
          refine so_assign (v := (.v (.bool true))) rfl ?_
          refine so_nil ?_
          exact by_ret (res_mk (ar_cells rfl F31.ag41 F31.sz41 (hs.lds 2 rfl (leb rfl) rfl) (ar_tmp rfl ar_nil)) rfl) ⟨_, _, _, _, h, _, rfl, (Sep.del 1 (Sep.del 0 hs))⟩
        · refine fi_true rfl (not_t c126) ?_
          refine fi_seq ?_
          refine fi_region ?_
          refine so_build F31.bp41 (cps := []) rfl fan rfl ?_
          refine sv_st hs 2 rfl rfl rfl (c := [(.int .i64 (0 : Int)), (.int .i64 (0 : Int)), .nilsl]) rfl F31.sz41 rfl (stc rfl (stc rfl (stc rfl stn))) (leb rfl) (cs' := [(.int .i64 (0 : Int)), (.int .i64 (0 : Int)), .nilsl]) rfl nofun (fun H128 hs => ?_)
          refine so_assign (v := (.v (.bool false))) rfl ?_
          refine so_nil ?_
          exact by_ret (res_mk (ar_cells rfl F31.ag41 F31.sz41 (hs.lds 2 rfl (leb rfl) rfl) (ar_tmp rfl ar_nil)) rfl) ⟨_, _, _, _, h, _, rfl, (Sep.nil (Sep.del 0 (Sep.del 0 (Sep.del 0 hs))) 1)⟩
      · refine so_gno rfl (not_t c123) ?_
        refine so_gno rfl (not_t c123) ?_
        refine so_gno rfl (not_t c123) ?_
        refine so_pick_t (v := (.v (.bool true))) rfl (not_t c123) rfl ?_
        refine so_nil ?_
        refine fi_true rfl rfl ?_
        refine fi_seq ?_
        refine fi_region ?_
        refine so_build F31.bp41 (cps := []) rfl fan rfl ?_
        refine sv_st hs 2 rfl rfl rfl (c := [(.int .i64 (0 : Int)), (.int .i64 (0 : Int)), .nilsl]) rfl F31.sz41 rfl (stc rfl (stc rfl (stc rfl stn))) (leb rfl) (cs' := [(.int .i64 (0 : Int)), (.int .i64 (0 : Int)), .nilsl]) rfl nofun (fun H129 hs => ?_)
        refine so_assign (v := (.v (.bool false))) rfl ?_
        refine so_nil ?_
        exact by_ret (res_mk (ar_cells rfl F31.ag41 F31.sz41 (hs.lds 2 rfl (leb rfl) rfl) (ar_tmp rfl ar_nil)) rfl) ⟨_, _, _, _, h, _, rfl, (Sep.nil (Sep.del 0 (Sep.del 0 (Sep.del 0 hs))) 1)⟩
    · refine so_gno rfl (not_t c122) ?_
      refine so_gno rfl (not_t c122) ?_
      refine so_pick_t (v := (.v (.bool true))) rfl (not_t c122) rfl ?_
      refine so_move (v := (.v (.bool true))) rfl ?_
      refine so_gno rfl rfl ?_
      refine so_gno rfl rfl ?_
      refine so_gno rfl rfl ?_
      refine so_pick_t (v := (.v (.bool true))) rfl rfl rfl ?_
      refine so_nil ?_
      refine fi_true rfl rfl ?_
      refine fi_seq ?_
      refine fi_region ?_
      refine so_build F31.bp41 (cps := []) rfl fan rfl ?_
      refine sv_st hs 2 rfl rfl rfl (c := [(.int .i64 (0 : Int)), (.int .i64 (0 : Int)), .nilsl]) rfl F31.sz41 rfl (stc rfl (stc rfl (stc rfl stn))) (leb rfl) (cs' := [(.int .i64 (0 : Int)), (.int .i64 (0 : Int)), .nilsl]) rfl nofun (fun H130 hs => ?_)
      refine so_assign (v := (.v (.bool false))) rfl ?_
      refine so_nil ?_
      exact by_ret (res_mk (ar_cells rfl F31.ag41 F31.sz41 (hs.lds 2 rfl (leb rfl) rfl) (ar_tmp rfl ar_nil)) rfl) ⟨_, _, _, _, h, _, rfl, (Sep.nil (Sep.del 0 (Sep.del 0 (Sep.del 0 hs))) 1)⟩
  · refine so_gno rfl (not_t c121) ?_
    refine so_gno rfl (not_t c121) ?_
    refine so_pick_t (v := (.v (.bool true))) rfl (not_t c121) rfl ?_
    refine so_move (v := (.v (.bool true))) rfl ?_
    refine so_gno rfl rfl ?_
    refine so_gno rfl rfl ?_
    refine so_pick_t (v := (.v (.bool true))) rfl rfl rfl ?_
    refine so_move (v := (.v (.bool true))) rfl ?_
    refine so_gno rfl rfl ?_
    refine so_gno rfl rfl ?_
    refine so_gno rfl rfl ?_
    refine so_pick_t (v := (.v (.bool true))) rfl rfl rfl ?_
    refine so_nil ?_
    refine fi_true rfl rfl ?_
    refine fi_seq ?_
    refine fi_region ?_
    refine so_build F31.bp41 (cps := []) rfl fan rfl ?_
    refine sv_st hs 2 rfl rfl rfl (c := [(.int .i64 (0 : Int)), (.int .i64 (0 : Int)), .nilsl]) rfl F31.sz41 rfl (stc rfl (stc rfl (stc rfl stn))) (leb rfl) (cs' := [(.int .i64 (0 : Int)), (.int .i64 (0 : Int)), .nilsl]) rfl nofun (fun H131 hs => ?_)
    refine so_assign (v := (.v (.bool false))) rfl ?_
    refine so_nil ?_
    exact by_ret (res_mk (ar_cells rfl F31.ag41 F31.sz41 (hs.lds 2 rfl (leb rfl) rfl) (ar_tmp rfl ar_nil)) rfl) ⟨_, _, _, _, h, _, rfl, (Sep.nil (Sep.del 0 (Sep.del 0 (Sep.del 0 hs))) 1)⟩

end Go.Proofs.YtcgiboeilcdonaaDoor.G

namespace Go.Proofs.YtcgiboeilcdonaaDoor.G
open Go Go.Ab Go.Proofs Go.Proofs.YtcgiboeilcdonaaDoor
set_option maxRecDepth 100000
set_option linter.unusedVariables false
set_option linter.unusedSimpArgs false
set_option maxHeartbeats 1000000
attribute [local irreducible] wops wopf Go.Ab.Fin
theorem F14.sz4 : tsz Tryd.prog 4 = some 1 := by kernel_rfl
theorem F14.ti22 : (telem Tryd.prog 22).isSome = true := by kernel_rfl
theorem F14.tl22 : (telem Tryd.prog 22).bind (tsz Tryd.prog) = some 1 := by kernel_rfl
theorem laws_markBoolS_ok {fr : List Pc} {H : Heap} (v0 : AV) (l0 : List (Bool)) (a1 : Int) (hs : Sep H (Pc.osl v0 1 (enc eBool l0) :: fr))  (K : Int → (List (Bool)) → Prop) (h : laws_markBoolS.wp l0 a1 K) : OkQ Tryd.prog 14 [(.v v0), (.v (.int .i64 a1))] H (fun r H2 => ∃ (y0 : Int) (y1 : List (Bool)), K y0 y1 ∧ r = (.v (.int .i64 y0)) ∧ Sep H2 (Pc.osl v0 1 (enc eBool y1) :: fr)) := by
  unfold laws_markBoolS.wp at h
  refine of_body Tryd.f14 F.hm Tryd.func14 rfl Tryd.call14 (by kernel_rfl) (by simp) ?_
  refine fi_seq ?_
  refine fi_region ?_
  refine so_assign (v := (.v (.int .i64 (0 : Int)))) rfl ?_
  refine so_nil ?_
  refine fi_seq ?_
  refine fi_seq ?_
  refine fi_region ?_
  refine so_assign (v := (.v (.int .i64 (0 : Int)))) rfl ?_
  refine so_nil ?_
  refine fi_block ?_
  refine fi_loop ?_
  refine fi_at [(0, (.v v0)), (1, (.v (.int .i64 a1))), (5, (.v (.int .i64 (0 : Int))))] ⟨rfl, rfl, rfl, trivial⟩ ?_
  refine h (fun (a109 : List (Bool)) (k110 : Int) (i111 : Int) => ∀ (s : Nat → TV) (H : Heap), Sep H (Pc.osl v0 1 (enc eBool a109) :: fr) → Fin _ _ (updL s [(0, (.v v0)), (1, (.v (.int .i64 k110))), (5, (.v (.int .i64 i111)))]) H _) ?_ _ _ hs
  intro a109 k110 i111 h s115 H116 hs
  refine fi_inLoop ?_
  refine fi_seq ?_
  refine fi_seq ?_
  refine fi_region ?_
  refine so_move (v := (.v (.int .i64 i111))) rfl ?_
  refine so_move (v := (.v v0)) rfl ?_
  refine sv_len (hs.shows 0 rfl) (fun _ => rfl) (by decide) rfl F14.ti22 ?_
  refine so_bin rfl rfl ab_lss ?_
  refine so_nil ?_
  replace h := ofP h; rcases h with ⟨c112, h⟩ | ⟨c112, h⟩
  · refine fi_true rfl (decide_eq_true c112) ?_
    refine fi_skip ?_
    refine fi_seq ?_
    refine fi_block ?_
    refine fi_seq ?_
    refine fi_region ?_
    refine so_move (v := (.v v0)) rfl ?_
    refine so_move (v := (.v (.int .i64 i111))) rfl ?_
    refine so_move (v := (.v (.int .i64 k110))) rfl ?_
    refine so_bin rfl rfl (ab_rem (by decide)) ?_
    refine so_bin rfl rfl ab_eql ?_
    obtain ⟨c113, h⟩ := h
    refine sv_idx (hs.shows 0 rfl) c113 (fun _ => rfl) (by decide) rfl rfl F14.tl22 ?_
    refine sv_set hs 0 rfl c113 (decide ((Int.tmod k110 (3 : Int)) = (0 : Int))) (fun _ => rfl) (by decide) rfl rfl rfl rfl F14.sz4 nofun (fun H114 hs => ?_)
    refine so_nil ?_
    refine fi_region ?_
    refine so_move (v := (.v (.int .i64 k110))) rfl ?_
    refine so_bin rfl rfl ab_add ?_
    refine so_assign (v := (.v (.int .i64 (IntKind.i64.wrap (k110 + (1 : Int)))))) rfl ?_
    refine so_nil ?_
    refine fi_inBlock ?_
    refine fi_region ?_
    refine so_move (v := (.v (.int .i64 i111))) rfl ?_
    refine so_bin rfl rfl ab_add ?_
    refine so_assign (v := (.v (.int .i64 (IntKind.i64.wrap (i111 + (1 : Int)))))) rfl ?_
    refine so_nil ?_
    exact fi_at [(0, (.v v0)), (1, (.v (.int .i64 (IntKind.i64.wrap (k110 + (1 : Int)))))), (5, (.v (.int .i64 (IntKind.i64.wrap (i111 + (1 : Int))))))] ⟨rfl, rfl, rfl, trivial⟩ (h _ _  hs)
  · refine fi_false rfl (decide_eq_false c112) ?_
    refine fi_exit rfl ?_
    refine fi_seq ?_
    refine fi_region ?_
    refine so_move (v := (.v (.int .i64 k110))) rfl ?_
    refine so_assign (v := (.v (.int .i64 k110))) rfl ?_
    refine so_nil ?_
    exact by_ret rfl ⟨_, _, h, rfl, hs⟩

end Go.Proofs.YtcgiboeilcdonaaDoor.G

namespace Go.Proofs.YtcgiboeilcdonaaDoor.G
open Go Go.Ab Go.Proofs Go.Proofs.YtcgiboeilcdonaaDoor
set_option maxRecDepth 100000
set_option linter.unusedVariables false
set_option linter.unusedSimpArgs false
set_option maxHeartbeats 1000000
attribute [local irreducible] wops wopf Go.Ab.Fin
theorem F32.ag22 : tagg Tryd.prog 22 = some false := by kernel_rfl
theorem F32.fd41_2 : tfield Tryd.prog 41 2 = some (2, 1, false) := by kernel_rfl
theorem F32.inf41 : (Tryd.prog.info? 41).isSome = true := by kernel_rfl
theorem laws_markCoded_ok {fr : List Pc} {H : Heap} (a0 : Int) (a1 : Int) (v2 : AV) (l2 : List (Bool)) (a3 : Int) (hs : Sep H (Pc.osl v2 1 (enc eBool l2) :: fr))  (K : Int → (List (Bool)) → Prop) (h : laws_markCoded.wp a0 a1 l2 a3 K) : OkQ Tryd.prog 32 [(.g [(.int .i64 a0), (.int .i64 a1), v2]), (.v (.int .i64 a3))] H (fun r H2 => ∃ (y0 : Int) (y1 : List (Bool)), K y0 y1 ∧ r = (.v (.int .i64 y0)) ∧ Sep H2 (Pc.osl v2 1 (enc eBool y1) :: fr)) := by
  unfold laws_markCoded.wp at h
  refine of_body Tryd.f32 F.hm Tryd.func32 rfl Tryd.call32 (by kernel_rfl) (by simp) ?_
  refine fi_seq ?_
  refine fi_region ?_
  refine sv_box hs rfl (c := [(.int .i64 a0), (.int .i64 a1), v2]) rfl F32.inf41 (stc rfl (stc rfl (stc (hs.shows 0 rfl).stor stn))) nofun (fun id102 H103 hs => ?_)
  refine so_assign (v := (.v (.int .i64 (0 : Int)))) rfl ?_
  refine so_nil ?_
  refine fi_seq ?_
  refine fi_region ?_
  refine so_fieldAddr rfl F32.fd41_2 ?_
  refine sv_ld hs 0 rfl rfl rfl F32.ag22 ?_
  refine so_move (v := (.v (.int .i64 a3))) rfl ?_
  replace hs := (Sep.front 1 hs rfl)
  refine sv_call (laws_markBoolS_ok v2 l2 a3 hs  _ h) rfl rfl nofun ?_
  clear h hs
  rintro _ H107 ⟨y105, y106, h, rfl, hs⟩
  refine so_assign (v := (.v (.int .i64 y105))) rfl ?_
  refine so_nil ?_
  refine fi_seq ?_
  refine fi_region ?_
  refine so_move (v := (.v (.int .i64 y105))) rfl ?_
  refine so_assign (v := (.v (.int .i64 y105))) rfl ?_
  refine so_nil ?_
  exact by_ret rfl ⟨_, _, h, rfl, (Sep.del 1 hs)⟩

end Go.Proofs.YtcgiboeilcdonaaDoor.G

namespace Go.Proofs.YtcgiboeilcdonaaDoor.G
open Go Go.Ab Go.Proofs Go.Proofs.YtcgiboeilcdonaaDoor
set_option maxRecDepth 100000
set_option linter.unusedVariables false
set_option linter.unusedSimpArgs false
set_option maxHeartbeats 1000000
attribute [local irreducible] wops wopf Go.Ab.Fin
theorem F15.ag4 : tagg Tryd.prog 4 = some false := by kernel_rfl
theorem F15.tb4 : tbool Tryd.prog 4 = true := by kernel_rfl
theorem F15.ti22 : (telem Tryd.prog 22).isSome = true := by kernel_rfl
theorem F15.tl22 : (telem Tryd.prog 22).bind (tsz Tryd.prog) = some 1 := by kernel_rfl
theorem laws_heldBoolS_ok {fr : List Pc} {H : Heap} (v0 : AV) (l0 : List (Bool)) (a1 : Int) (hs : Sep H (fr)) (g0 : ∀ H, Sep H fr → Shows H v0 1 (enc eBool l0)) (K : Int → Prop) (h : laws_heldBoolS.wp l0 a1 K) : OkQ Tryd.prog 15 [(.v v0), (.v (.int .i64 a1))] H (fun r H2 => ∃ (y0 : Int), K y0 ∧ r = (.v (.int .i64 y0)) ∧ H = H2) := by
  unfold laws_heldBoolS.wp at h
  refine of_body Tryd.f15 F.hm Tryd.func15 rfl Tryd.call15 (by kernel_rfl) (by simp) ?_
  refine fi_seq ?_
  refine fi_region ?_
  refine so_assign (v := (.v (.int .i64 (0 : Int)))) rfl ?_
  refine so_nil ?_
  refine fi_seq ?_
  refine fi_seq ?_
  refine fi_region ?_
  refine so_assign (v := (.v (.int .i64 (0 : Int)))) rfl ?_
  refine so_nil ?_
  refine fi_block ?_
  refine fi_loop ?_
  refine fi_at [(0, (.v v0)), (1, (.v (.int .i64 a1))), (5, (.v (.int .i64 (0 : Int))))] ⟨rfl, rfl, rfl, trivial⟩ ?_
  refine h (fun (k102 : Int) (i103 : Int) => ∀ (s : Nat → TV), Fin _ _ (updL s [(0, (.v v0)), (1, (.v (.int .i64 k102))), (5, (.v (.int .i64 i103)))]) _ _) ?_ _
  intro k102 i103 h s107
  refine fi_inLoop ?_
  refine fi_seq ?_
  refine fi_seq ?_
  refine fi_region ?_
  refine so_move (v := (.v (.int .i64 i103))) rfl ?_
  refine so_move (v := (.v v0)) rfl ?_
  refine sv_len (g0 _ hs) (fun _ => rfl) (by decide) rfl F15.ti22 ?_
  refine so_bin rfl rfl ab_lss ?_
  refine so_nil ?_
  replace h := ofP h; rcases h with ⟨c104, h⟩ | ⟨c104, h⟩
  · refine fi_true rfl (decide_eq_true c104) ?_
    refine fi_skip ?_
    refine fi_seq ?_
    refine fi_block ?_
    refine fi_seq ?_
    refine fi_seq ?_
    refine fi_region ?_
    refine so_move (v := (.v v0)) rfl ?_
    refine so_move (v := (.v (.int .i64 i103))) rfl ?_
    obtain ⟨c105, h⟩ := h
    refine sv_idx (g0 _ hs) c105 (fun _ => rfl) (by decide) rfl rfl F15.tl22 ?_
    refine sv_cell (g0 _ hs) c105 false 0 (fun x => (AV.bool x)) (fun _ => rfl) (fun _ => rfl) rfl F15.ag4 ?_
    refine so_move (v := (.v (.int .i64 k102))) rfl ?_
    refine so_bin rfl rfl (ab_rem (by decide)) ?_
    refine so_bin rfl rfl ab_eql ?_
    refine so_bin rfl rfl (ab_bneq F15.tb4) ?_
    refine so_nil ?_
    replace h := ofT h; rcases h with ⟨c106, h⟩ | ⟨c106, h⟩
    · refine fi_false rfl (not_f c106) ?_
      refine fi_skip ?_
      refine fi_region ?_
      refine so_move (v := (.v (.int .i64 k102))) rfl ?_
      refine so_bin rfl rfl ab_add ?_
      refine so_assign (v := (.v (.int .i64 (IntKind.i64.wrap (k102 + (1 : Int)))))) rfl ?_
      refine so_nil ?_
      refine fi_inBlock ?_
      refine fi_region ?_
      refine so_move (v := (.v (.int .i64 i103))) rfl ?_
      refine so_bin rfl rfl ab_add ?_
      refine so_assign (v := (.v (.int .i64 (IntKind.i64.wrap (i103 + (1 : Int)))))) rfl ?_
      refine so_nil ?_
      exact fi_at [(0, (.v v0)), (1, (.v (.int .i64 (IntKind.i64.wrap (k102 + (1 : Int)))))), (5, (.v (.int .i64 (IntKind.i64.wrap (i103 + (1 : Int))))))] ⟨rfl, rfl, rfl, trivial⟩ (h _)
    · refine fi_true rfl (not_t c106) ?_
      refine fi_seq ?_
      refine fi_region ?_
      refine so_assign (v := (.v (.int .i64 (-1 : Int)))) rfl ?_
      refine so_nil ?_
      exact by_ret rfl ⟨_, h, rfl, rfl⟩
  · refine fi_false rfl (decide_eq_false c104) ?_
    refine fi_exit rfl ?_
    refine fi_seq ?_
    refine fi_region ?_
    refine so_move (v := (.v (.int .i64 k102))) rfl ?_
    refine so_assign (v := (.v (.int .i64 k102))) rfl ?_
    refine so_nil ?_
    exact by_ret rfl ⟨_, h, rfl, rfl⟩

end Go.Proofs.YtcgiboeilcdonaaDoor.G

namespace Go.Proofs.YtcgiboeilcdonaaDoor.G
open Go Go.Ab Go.Proofs Go.Proofs.YtcgiboeilcdonaaDoor
set_option maxRecDepth 100000
set_option linter.unusedVariables false
set_option linter.unusedSimpArgs false
set_option maxHeartbeats 1000000
attribute [local irreducible] wops wopf Go.Ab.Fin
theorem F33.ag22 : tagg Tryd.prog 22 = some false := by kernel_rfl
theorem F33.fd41_2 : tfield Tryd.prog 41 2 = some (2, 1, false) := by kernel_rfl
theorem F33.inf41 : (Tryd.prog.info? 41).isSome = true := by kernel_rfl
theorem laws_heldCoded_ok {fr : List Pc} {H : Heap} (a0 : Int) (a1 : Int) (v2 : AV) (l2 : List (Bool)) (a3 : Int) (hs : Sep H (fr)) (g2 : ∀ H, Sep H fr → Shows H v2 1 (enc eBool l2)) (K : Int → Prop) (h : laws_heldCoded.wp a0 a1 l2 a3 K) : OkQ Tryd.prog 33 [(.g [(.int .i64 a0), (.int .i64 a1), v2]), (.v (.int .i64 a3))] H (fun r H2 => ∃ (y0 : Int), K y0 ∧ r = (.v (.int .i64 y0)) ∧ Sep H2 (fr)) := by
  unfold laws_heldCoded.wp at h
  refine of_body Tryd.f33 F.hm Tryd.func33 rfl Tryd.call33 (by kernel_rfl) (by simp) ?_
  refine fi_seq ?_
  refine fi_region ?_
  refine sv_box hs rfl (c := [(.int .i64 a0), (.int .i64 a1), v2]) rfl F33.inf41 (stc rfl (stc rfl (stc (g2 _ hs).stor stn))) nofun (fun id101 H102 hs => ?_)
  refine so_assign (v := (.v (.int .i64 (0 : Int)))) rfl ?_
  refine so_nil ?_
  refine fi_seq ?_
  refine fi_region ?_
  refine so_fieldAddr rfl F33.fd41_2 ?_
  refine sv_ld hs 0 rfl rfl rfl F33.ag22 ?_
  refine so_move (v := (.v (.int .i64 a3))) rfl ?_
  refine sv_callS (laws_heldBoolS_ok v2 l2 a3 hs (fun _ hs => (g2 _ hs.tl)) _ h) (fun _ _ ⟨_, _, _, e⟩ => e) rfl rfl ?_
  clear h
  rintro _ _ ⟨y104, h, rfl, rfl⟩
  refine so_assign (v := (.v (.int .i64 y104))) rfl ?_
  refine so_nil ?_
  refine fi_seq ?_
  refine fi_seq ?_
  refine fi_region ?_
  refine so_move (v := (.v (.int .i64 y104))) rfl ?_
  refine so_bin rfl rfl ab_lss ?_
  refine so_nil ?_
  replace h := ofP h; rcases h with ⟨c106, h⟩ | ⟨c106, h⟩
  · refine fi_true rfl (decide_eq_true c106) ?_
    refine fi_seq ?_
    refine fi_region ?_
    refine so_assign (v := (.v (.int .i64 (-1 : Int)))) rfl ?_
    refine so_nil ?_
    exact by_ret rfl ⟨_, h, rfl, (Sep.del 0 hs)⟩
  · refine fi_false rfl (decide_eq_false c106) ?_
    refine fi_skip ?_
    refine fi_seq ?_
    refine fi_region ?_
    refine so_move (v := (.v (.int .i64 y104))) rfl ?_
    refine so_assign (v := (.v (.int .i64 y104))) rfl ?_
    refine so_nil ?_
    exact by_ret rfl ⟨_, h, rfl, (Sep.del 0 hs)⟩
theorem laws_heldCoded_okS {fr : List Pc} {H : Heap} (a0 : Int) (a1 : Int) (v2 : AV) (l2 : List (Bool)) (a3 : Int) (hs : Sep H fr) (g2 : ∀ H, Sep H fr → Shows H v2 1 (enc eBool l2)) (K : Int → Prop) (h : laws_heldCoded.wp a0 a1 l2 a3 K) : OkQ Tryd.prog 33 [(.g [(.int .i64 a0), (.int .i64 a1), v2]), (.v (.int .i64 a3))] H (fun r H2 => ∃ (y0 : Int), K y0 ∧ r = (.v (.int .i64 y0)) ∧ H = H2) := by
  obtain ⟨r, H2, h1, y0, hK, hr, hsep⟩ := laws_heldCoded_ok (fr := came H) (H := H) a0 a1 v2 l2 a3 (came_sep H) (came_shows (g2 H hs)) K h
  have hk : H.n ≤ H2.n ∧ ∀ i, i < H.n → H2.f i = H.f i := hsep.1.2.1
  exact ⟨r, H, h1.forget hk.1 hk.2 (by subst hr; rfl), y0, hK, hr, rfl⟩

end Go.Proofs.YtcgiboeilcdonaaDoor.G

namespace Go.Proofs.YtcgiboeilcdonaaDoor.G
open Go Go.Ab Go.Proofs Go.Proofs.YtcgiboeilcdonaaDoor
set_option maxRecDepth 100000
set_option linter.unusedVariables false
set_option linter.unusedSimpArgs false
set_option maxHeartbeats 1000000
attribute [local irreducible] wops wopf Go.Ab.Fin
theorem F7.ag41 : tagg Tryd.prog 41 = some true := by kernel_rfl
theorem F7.sr9 : tstr Tryd.prog 9 = true := by kernel_rfl
theorem F7.sz41 : tsz Tryd.prog 41 = some 3 := by kernel_rfl
theorem F7.tb4 : tbool Tryd.prog 4 = true := by kernel_rfl
theorem F7.ze41 : tzero Tryd.prog 41 = some [(.int .i64 (0 : Int)), (.int .i64 (0 : Int)), .nilsl] := by kernel_rfl
theorem laws_FnExactReadCoded_ok {fr : List Pc} {H : Heap} (a0 : List UInt8) (hs : Sep H (fr)) (gt4 : ∀ H, Sep H fr → HasTab 4 F.tab4 H) (gt5 : ∀ H, Sep H fr → HasTab 5 F.tab5 H) (gt6 : ∀ H, Sep H fr → HasTab 6 F.tab6 H) (gt8 : ∀ H, Sep H fr → HasTab 8 F.tab8 H) (K : Bool → Prop) (h : laws_FnExactReadCoded.wp a0 K) : OkQ Tryd.prog 7 [(.v (.str (pk a0)))] H (fun r H2 => ∃ (y0 : Bool), K y0 ∧ r = (.v (.bool y0)) ∧ Sep H2 (fr)) := by
  unfold laws_FnExactReadCoded.wp at h
  refine of_body Tryd.f7 F.hm Tryd.func7 rfl Tryd.call7 (by kernel_rfl) (by simp) ?_
  refine fi_seq ?_
  refine fi_region ?_
  refine so_assign (v := (.v (.bool false))) rfl ?_
  refine so_nil ?_
  refine fi_seq ?_
  refine fi_seq ?_
  refine fi_region ?_
  refine so_move (v := (.v (.str (pk a0)))) rfl ?_
  refine so_slen rfl F7.sr9 ?_
  refine so_bin rfl rfl ab_gtr ?_
  refine so_nil ?_
  replace h := ofP h; rcases h with ⟨c101, h⟩ | ⟨c101, h⟩
  · refine fi_true rfl (decide_eq_true c101) ?_
    refine fi_seq ?_
    refine fi_region ?_
    refine so_assign (v := (.v (.bool true))) rfl ?_
    refine so_nil ?_
    exact by_ret rfl ⟨_, h, rfl, hs⟩
  · refine fi_false rfl (decide_eq_false c101) ?_
    refine fi_skip ?_
    refine fi_seq ?_
    refine fi_region ?_
    refine so_move (v := (.v (.str (pk a0)))) rfl ?_
    refine sv_call (spec_ReadCoded_ok a0 hs  _ h) rfl rfl nofun ?_
    clear h hs
    rintro _ H108 ⟨y102, y103, y104, y107, h, v105, rfl, hs⟩
    refine so_move (v := (.t [(.g [(.int .i64 y102), (.int .i64 y103), v105]), (.v (.bool y107))])) rfl ?_
    refine so_extract rfl rfl rfl ?_
    refine so_extract rfl rfl rfl ?_
    refine sv_alloc hs F7.ze41 rfl nofun (fun id109 H110 hs => ?_)
    refine sv_st hs 0 rfl rfl rfl (c := [(.int .i64 y102), (.int .i64 y103), v105]) rfl F7.sz41 rfl (stc rfl (stc rfl (stc (hs.shows 1 rfl).stor stn))) (leb rfl) (cs' := [(.int .i64 y102), (.int .i64 y103), v105]) rfl nofun (fun H112 hs => ?_)
    refine so_assign (v := (.v (.bool y107))) rfl ?_
    refine so_nil ?_
    refine fi_seq ?_
    refine fi_region ?_
    refine so_move (v := (.v (.str (pk a0)))) rfl ?_
    refine sv_call (impl_ReadCoded_ok a0 hs (fun _ hs => gt4 _ hs.tl.tl) (fun _ hs => gt5 _ hs.tl.tl) (fun _ hs => gt6 _ hs.tl.tl) (fun _ hs => gt8 _ hs.tl.tl) _ h) rfl rfl nofun ?_
    clear h hs
    rintro _ H119 ⟨y113, y114, y115, y118, h, v116, rfl, hs⟩
    refine so_move (v := (.t [(.g [(.int .i64 y113), (.int .i64 y114), v116]), (.v (.bool y118))])) rfl ?_
    refine so_extract rfl rfl rfl ?_
    refine so_extract rfl rfl rfl ?_
    refine sv_alloc hs F7.ze41 rfl nofun (fun id120 H121 hs => ?_)
    refine sv_st hs 0 rfl rfl rfl (c := [(.int .i64 y113), (.int .i64 y114), v116]) rfl F7.sz41 rfl (stc rfl (stc rfl (stc (hs.shows 1 rfl).stor stn))) (leb rfl) (cs' := [(.int .i64 y113), (.int .i64 y114), v116]) rfl nofun (fun H123 hs => ?_)
    refine so_assign (v := (.v (.bool y118))) rfl ?_
    refine so_nil ?_
    refine fi_seq ?_
    refine fi_seq ?_
    refine fi_region ?_
    refine sv_lds hs 0 rfl rfl (leb rfl) rfl F7.ag41 F7.sz41 ?_
    refine sv_lds hs 2 rfl rfl (leb rfl) rfl F7.ag41 F7.sz41 ?_
    refine sv_callS (laws_eqCoded_okS y113 y114 v116 y115 y102 y103 v105 y104 hs (fun _ hs => (hs.shows 1 rfl)) (fun _ hs => (hs.shows 3 rfl)) _ h) (fun _ _ ⟨_, _, _, e⟩ => e) rfl rfl ?_
    clear h
    rintro _ _ ⟨y124, h, rfl, rfl⟩
    refine so_un rfl au_not ?_
    refine so_move (v := (.v (.bool (!y124)))) rfl ?_
    replace h := ofT h; rcases h with ⟨c126, h⟩ | ⟨c126, h⟩
    · refine so_gyes rfl (not_f c126) ?_
      refine so_move (v := (.v (.bool y118))) rfl ?_
      refine so_gyes rfl (not_f c126) ?_
      refine so_move (v := (.v (.bool y107))) rfl ?_
      refine so_gyes rfl (not_f c126) ?_
      refine so_bin rfl rfl (ab_bneq F7.tb4) ?_
      refine so_pick_f (v := (.v (.bool (!(y118 == y107))))) rfl (not_f c126) rfl ?_
      refine so_nil ?_
      replace h := ofT h; rcases h with ⟨c127, h⟩ | ⟨c127, h⟩
      · refine fi_false rfl (not_f c127) ?_
        refine fi_skip ?_
        refine fi_seq ?_
        refine fi_region ?_
        refine so_assign (v := (.v (.int .i64 (1 : Int)))) rfl ?_
        refine so_nil ?_
        refine fi_seq ?_
        refine fi_region ?_
        refine sv_lds hs 0 rfl rfl (leb rfl) rfl F7.ag41 F7.sz41 ?_
        refine so_move (v := (.v (.int .i64 (1 : Int)))) rfl ?_
        replace hs := (Sep.front 1 hs rfl)
        refine sv_call (laws_markCoded_ok y113 y114 v116 y115 (1 : Int) hs  _ h) rfl rfl nofun ?_
        clear h hs
        rintro _ H130 ⟨y128, y129, h, rfl, hs⟩
        refine so_assign (v := (.v (.int .i64 y128))) rfl ?_
        refine so_nil ?_
        refine fi_seq ?_
        refine fi_region ?_
        refine so_assign (v := (.v (.int .i64 (1 : Int)))) rfl ?_
        refine so_nil ?_
        refine fi_seq ?_
        refine fi_region ?_
        refine sv_lds hs 1 rfl rfl (leb rfl) rfl F7.ag41 F7.sz41 ?_
        refine so_move (v := (.v (.int .i64 (1 : Int)))) rfl ?_
        refine sv_callS (laws_heldCoded_okS y113 y114 v116 y129 (1 : Int) hs (fun _ hs => (hs.shows 0 rfl)) _ h) (fun _ _ ⟨_, _, _, e⟩ => e) rfl rfl ?_
        clear h
        rintro _ _ ⟨y131, h, rfl, rfl⟩
        refine so_assign (v := (.v (.int .i64 y131))) rfl ?_
        refine so_nil ?_
        refine fi_seq ?_
        refine fi_seq ?_
        refine fi_region ?_
        refine so_move (v := (.v (.int .i64 y131))) rfl ?_
        refine so_bin rfl rfl ab_lss ?_
        refine so_nil ?_
        replace h := ofP h; rcases h with ⟨c133, h⟩ | ⟨c133, h⟩
        · refine fi_true rfl (decide_eq_true c133) ?_
          refine fi_seq ?_
          refine fi_region ?_
          refine so_assign (v := (.v (.bool false))) rfl ?_
          refine so_nil ?_
          exact by_ret rfl ⟨_, h, rfl, (Sep.dropn 4 hs)⟩
        · refine fi_false rfl (decide_eq_false c133) ?_
          refine fi_skip ?_
          refine fi_seq ?_
          refine fi_seq ?_
          refine fi_region ?_
          refine so_move (v := (.v (.int .i64 y131))) rfl ?_
          refine so_move (v := (.v (.int .i64 y128))) rfl ?_
          refine so_bin rfl rfl ab_neq ?_
          refine so_nil ?_
          replace h := ofP h; rcases h with ⟨c134, h⟩ | ⟨c134, h⟩
          · refine fi_false rfl (not_f (decide_eq_true c134)) ?_
            refine fi_skip ?_
            refine fi_seq ?_
            refine fi_region ?_
            refine so_move (v := (.v (.str (pk a0)))) rfl ?_
            refine sv_call (impl_ReadCoded_ok a0 hs (fun _ hs => gt4 _ hs.tl.tl.tl.tl) (fun _ hs => gt5 _ hs.tl.tl.tl.tl) (fun _ hs => gt6 _ hs.tl.tl.tl.tl) (fun _ hs => gt8 _ hs.tl.tl.tl.tl) _ h) rfl rfl nofun ?_
            clear h hs
            rintro _ H141 ⟨y135, y136, y137, y140, h, v138, rfl, hs⟩
            refine so_move (v := (.t [(.g [(.int .i64 y135), (.int .i64 y136), v138]), (.v (.bool y140))])) rfl ?_
            refine so_extract rfl rfl rfl ?_
            refine so_extract rfl rfl rfl ?_
            refine sv_alloc hs F7.ze41 rfl nofun (fun id142 H143 hs => ?_)
            refine sv_st hs 0 rfl rfl rfl (c := [(.int .i64 y135), (.int .i64 y136), v138]) rfl F7.sz41 rfl (stc rfl (stc rfl (stc (hs.shows 1 rfl).stor stn))) (leb rfl) (cs' := [(.int .i64 y135), (.int .i64 y136), v138]) rfl nofun (fun H145 hs => ?_)
            refine so_assign (v := (.v (.bool y140))) rfl ?_
            refine so_nil ?_
            refine fi_seq ?_
            refine fi_seq ?_
            refine fi_region ?_
            refine sv_lds hs 0 rfl rfl (leb rfl) rfl F7.ag41 F7.sz41 ?_
            refine sv_lds hs 4 rfl rfl (leb rfl) rfl F7.ag41 F7.sz41 ?_
            refine sv_callS (laws_eqCoded_okS y135 y136 v138 y137 y102 y103 v105 y104 hs (fun _ hs => (hs.shows 1 rfl)) (fun _ hs => (hs.shows 5 rfl)) _ h) (fun _ _ ⟨_, _, _, e⟩ => e) rfl rfl ?_
            clear h
            rintro _ _ ⟨y146, h, rfl, rfl⟩
            refine so_un rfl au_not ?_
            refine so_move (v := (.v (.bool (!y146)))) rfl ?_
            replace h := ofT h; rcases h with ⟨c148, h⟩ | ⟨c148, h⟩
            · refine so_gyes rfl (not_f c148) ?_
              refine so_move (v := (.v (.bool y140))) rfl ?_
              refine so_gyes rfl (not_f c148) ?_
              refine so_move (v := (.v (.bool y107))) rfl ?_
              refine so_gyes rfl (not_f c148) ?_
              refine so_bin rfl rfl (ab_bneq F7.tb4) ?_
              refine so_pick_f (v := (.v (.bool (!(y140 == y107))))) rfl (not_f c148) rfl ?_
              refine so_nil ?_
              replace h := ofT h; rcases h with ⟨c149, h⟩ | ⟨c149, h⟩
              · refine fi_false rfl (not_f c149) ?_
                refine fi_skip ?_
                refine fi_seq ?_
                refine fi_region ?_
                refine so_assign (v := (.v (.int .i64 (1 : Int)))) rfl ?_
                refine so_nil ?_
                refine fi_seq ?_
                refine fi_region ?_
                refine sv_lds hs 3 rfl rfl (leb rfl) rfl F7.ag41 F7.sz41 ?_
                refine so_move (v := (.v (.int .i64 (1 : Int)))) rfl ?_
                refine sv_callS (laws_heldCoded_okS y113 y114 v116 y129 (1 : Int) hs (fun _ hs => (hs.shows 2 rfl)) _ h) (fun _ _ ⟨_, _, _, e⟩ => e) rfl rfl ?_
                clear h
                rintro _ _ ⟨y150, h, rfl, rfl⟩
                refine so_assign (v := (.v (.int .i64 y150))) rfl ?_
                refine so_nil ?_
                refine fi_seq ?_
                refine fi_seq ?_
                refine fi_region ?_
                refine so_move (v := (.v (.int .i64 y150))) rfl ?_
                refine so_bin rfl rfl ab_lss ?_
                refine so_nil ?_
                replace h := ofP h; rcases h with ⟨c152, h⟩ | ⟨c152, h⟩
                · refine fi_true rfl (decide_eq_true c152) ?_
                  refine fi_seq ?_
                  refine fi_region ?_
                  refine so_assign (v := (.v (.bool false))) rfl ?_
                  refine so_nil ?_
                  exact by_ret rfl ⟨_, h, rfl, (Sep.dropn 6 hs)⟩
                · refine fi_false rfl (decide_eq_false c152) ?_
                  refine fi_skip ?_
                  refine fi_seq ?_
                  refine fi_seq ?_
                  refine fi_region ?_
                  refine so_move (v := (.v (.int .i64 y150))) rfl ?_
                  refine so_move (v := (.v (.int .i64 y128))) rfl ?_
                  refine so_bin rfl rfl ab_neq ?_
                  refine so_nil ?_
                  replace h := ofP h; rcases h with ⟨c153, h⟩ | ⟨c153, h⟩
                  · refine fi_false rfl (not_f (decide_eq_true c153)) ?_
                    refine fi_skip ?_
                    refine fi_seq ?_
                    refine fi_region ?_
                    refine so_assign (v := (.v (.bool true))) rfl ?_
                    refine so_nil ?_
                    exact by_ret rfl ⟨_, h, rfl, (Sep.dropn 6 hs)⟩
                  · refine fi_true rfl (not_t (decide_eq_false c153)) ?_
                    refine fi_seq ?_
                    refine fi_region ?_
                    refine so_assign (v := (.v (.bool false))) rfl ?_
                    refine so_nil ?_
                    exact by_ret rfl ⟨_, h, rfl, (Sep.dropn 6 hs)⟩
              · refine fi_true rfl (not_t c149) ?_
                refine fi_seq ?_
                refine fi_region ?_
                refine so_assign (v := (.v (.bool false))) rfl ?_
                refine so_nil ?_
                exact by_ret rfl ⟨_, h, rfl, (Sep.dropn 6 hs)⟩
            · refine so_gno rfl (not_t c148) ?_
              refine so_gno rfl (not_t c148) ?_
              refine so_gno rfl (not_t c148) ?_
              refine so_pick_t (v := (.v (.bool true))) rfl (not_t c148) rfl ?_
              refine so_nil ?_
              refine fi_true rfl rfl ?_
              refine fi_seq ?_
              refine fi_region ?_
              refine so_assign (v := (.v (.bool false))) rfl ?_
              refine so_nil ?_
              exact by_ret rfl ⟨_, h, rfl, (Sep.dropn 6 hs)⟩
          · refine fi_true rfl (not_t (decide_eq_false c134)) ?_
            refine fi_seq ?_
            refine fi_region ?_
            refine so_assign (v := (.v (.bool false))) rfl ?_
            refine so_nil ?_
            exact by_ret rfl ⟨_, h, rfl, (Sep.dropn 4 hs)⟩
      · refine fi_true rfl (not_t c127) ?_
        refine fi_seq ?_
        refine fi_region ?_
        refine so_assign (v := (.v (.bool false))) rfl ?_
        refine so_nil ?_
        exact by_ret rfl ⟨_, h, rfl, (Sep.dropn 4 hs)⟩
    · refine so_gno rfl (not_t c126) ?_
      refine so_gno rfl (not_t c126) ?_
      refine so_gno rfl (not_t c126) ?_
      refine so_pick_t (v := (.v (.bool true))) rfl (not_t c126) rfl ?_
      refine so_nil ?_
      refine fi_true rfl rfl ?_
      refine fi_seq ?_
      refine fi_region ?_
      refine so_assign (v := (.v (.bool false))) rfl ?_
      refine so_nil ?_
      exact by_ret rfl ⟨_, h, rfl, (Sep.dropn 4 hs)⟩

end Go.Proofs.YtcgiboeilcdonaaDoor.G

