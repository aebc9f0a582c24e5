/-
  The model ends so. Printed by a program of the session; nothing here is trusted.
-/
import Derived.Test.YtcgiboeilcdonaaDoorProg
import Derived.KernelRfl
import Derived.Test.YtcgiboeilcdonaaDoorMExactRecoverJournalWa
import Derived.Test.YtcgiboeilcdonaaDoorShelf
namespace Go.Proofs.YtcgiboeilcdonaaDoor.F
open Go Go.Ab Go.Proofs
set_option maxRecDepth 100000
set_option linter.unusedVariables false
set_option linter.unusedSimpArgs false
set_option maxHeartbeats 1000000
theorem hm : Tryd.prog.follows .mixedOrders = true := by kernel_rfl
def tab4 : Obj → Prop := showsTab Tryd.prog "internal/strconv.uint64pow10" .u64 Lib.pow10Tab 4
def tab8 : Obj → Prop := showsTab Tryd.prog "math/bits.deBruijn64tab" .u8 (Lib.deBruijn64tab.map Int.ofNat) 8
end Go.Proofs.YtcgiboeilcdonaaDoor.F

namespace Go.Proofs.YtcgiboeilcdonaaDoor.G
open Go Go.Ab Go.Proofs Go.Proofs.YtcgiboeilcdonaaDoor
set_option maxRecDepth 100000
set_option linter.unusedVariables false
set_option linter.unusedSimpArgs false
set_option maxHeartbeats 1000000
attribute [local irreducible] wops wopf Go.Ab.Fin
theorem F20.ag9 : tagg Tryd.prog 9 = some false := by kernel_rfl
theorem F20.ti28 : (telem Tryd.prog 28).isSome = true := by kernel_rfl
theorem F20.tl28 : (telem Tryd.prog 28).bind (tsz Tryd.prog) = some 1 := by kernel_rfl
theorem laws_eqStringS_ok {fr : List Pc} {H : Heap} (v0 : AV) (l0 : List (List UInt8)) (v1 : AV) (l1 : List (List UInt8)) (hs : Sep H (fr)) (g0 : ∀ H, Sep H fr → Shows H v0 1 (enc eStr l0)) (g1 : ∀ H, Sep H fr → Shows H v1 1 (enc eStr l1)) (K : Bool → Prop) (h : laws_eqStringS.wp l0 l1 K) : OkQ Tryd.prog 20 [(.v v0), (.v v1)] H (fun r H2 => ∃ (y0 : Bool), K y0 ∧ r = (.v (.bool y0)) ∧ H = H2) := by
  unfold laws_eqStringS.wp at h
  refine of_body Tryd.f20 F.hm Tryd.func20 rfl Tryd.call20 (by kernel_rfl) (by simp) ?_
  refine fi_seq ?_
  refine fi_region ?_
  refine so_assign (v := (.v (.bool false))) rfl ?_
  refine so_nil ?_
  refine fi_seq ?_
  refine fi_seq ?_
  refine fi_region ?_
  refine so_move (v := (.v v0)) rfl ?_
  refine sv_len (g0 _ hs) (fun _ => rfl) (by decide) rfl F20.ti28 ?_
  refine so_move (v := (.v v1)) rfl ?_
  refine sv_len (g1 _ hs) (fun _ => rfl) (by decide) rfl F20.ti28 ?_
  refine so_bin rfl rfl ab_neq ?_
  refine so_nil ?_
  replace h := ofP h; rcases h with ⟨c101, h⟩ | ⟨c101, h⟩
  · refine fi_false rfl (not_f (decide_eq_true c101)) ?_
    refine fi_skip ?_
    refine fi_seq ?_
    refine fi_seq ?_
    refine fi_region ?_
    refine so_assign (v := (.v (.int .i64 (0 : Int)))) rfl ?_
    refine so_nil ?_
    refine fi_block ?_
    refine fi_loop ?_
    refine fi_at [(0, (.v v0)), (1, (.v v1)), (5, (.v (.int .i64 (0 : Int))))] ⟨rfl, rfl, rfl, trivial⟩ ?_
    refine h (fun (i103 : Int) => ∀ (s : Nat → TV), Fin _ _ (updL s [(0, (.v v0)), (1, (.v v1)), (5, (.v (.int .i64 i103)))]) _ _) ?_ _
    intro i103 h s108
    refine fi_inLoop ?_
    refine fi_seq ?_
    refine fi_seq ?_
    refine fi_region ?_
    refine so_move (v := (.v (.int .i64 i103))) rfl ?_
    refine so_move (v := (.v v0)) rfl ?_
    refine sv_len (g0 _ hs) (fun _ => rfl) (by decide) rfl F20.ti28 ?_
    refine so_bin rfl rfl ab_lss ?_
    refine so_nil ?_
    replace h := ofP h; rcases h with ⟨c104, h⟩ | ⟨c104, h⟩
    · refine fi_true rfl (decide_eq_true c104) ?_
      refine fi_skip ?_
      refine fi_seq ?_
      refine fi_block ?_
      refine fi_seq ?_
      refine fi_region ?_
      refine so_move (v := (.v v0)) rfl ?_
      refine so_move (v := (.v (.int .i64 i103))) rfl ?_
      obtain ⟨c105, h⟩ := h
      refine sv_idx (g0 _ hs) c105 (fun _ => rfl) (by decide) rfl rfl F20.tl28 ?_
      refine sv_cell (g0 _ hs) c105 ([] : List UInt8) 0 (fun x => (AV.str (pk x))) (fun _ => rfl) (fun _ => rfl) rfl F20.ag9 ?_
      refine so_move (v := (.v v1)) rfl ?_
      refine so_move (v := (.v (.int .i64 i103))) rfl ?_
      obtain ⟨c106, h⟩ := h
      refine sv_idx (g1 _ hs) c106 (fun _ => rfl) (by decide) rfl rfl F20.tl28 ?_
      refine sv_cell (g1 _ hs) c106 ([] : List UInt8) 0 (fun x => (AV.str (pk x))) (fun _ => rfl) (fun _ => rfl) rfl F20.ag9 ?_
      refine so_bin rfl rfl ab_sneq ?_
      refine so_nil ?_
      replace h := ofP h; rcases h with ⟨c107, h⟩ | ⟨c107, h⟩
      · refine fi_false rfl (not_f (decide_eq_true c107)) ?_
        refine fi_skip ?_
        refine fi_inBlock ?_
        refine fi_region ?_
        refine so_move (v := (.v (.int .i64 i103))) rfl ?_
        refine so_bin rfl rfl ab_add ?_
        refine so_assign (v := (.v (.int .i64 (IntKind.i64.wrap (i103 + (1 : Int)))))) rfl ?_
        refine so_nil ?_
        exact fi_at [(0, (.v v0)), (1, (.v v1)), (5, (.v (.int .i64 (IntKind.i64.wrap (i103 + (1 : Int))))))] ⟨rfl, rfl, rfl, trivial⟩ (h _)
      · refine fi_true rfl (not_t (decide_eq_false c107)) ?_
        refine fi_seq ?_
        refine fi_region ?_
        refine so_assign (v := (.v (.bool false))) rfl ?_
        refine so_nil ?_
        exact by_ret rfl ⟨_, h, rfl, rfl⟩
    · refine fi_false rfl (decide_eq_false c104) ?_
      refine fi_exit rfl ?_
      refine fi_seq ?_
      refine fi_region ?_
      refine so_assign (v := (.v (.bool true))) rfl ?_
      refine so_nil ?_
      exact by_ret rfl ⟨_, h, rfl, rfl⟩
  · refine fi_true rfl (not_t (decide_eq_false c101)) ?_
    refine fi_seq ?_
    refine fi_region ?_
    refine so_assign (v := (.v (.bool false))) rfl ?_
    refine so_nil ?_
    exact by_ret rfl ⟨_, h, rfl, rfl⟩

end Go.Proofs.YtcgiboeilcdonaaDoor.G

namespace Go.Proofs.YtcgiboeilcdonaaDoor.G
open Go Go.Ab Go.Proofs Go.Proofs.YtcgiboeilcdonaaDoor
set_option maxRecDepth 100000
set_option linter.unusedVariables false
set_option linter.unusedSimpArgs false
set_option maxHeartbeats 1000000
attribute [local irreducible] wops wopf Go.Ab.Fin
theorem F93.it2 : tint Tryd.prog 2 = some .i64 := by kernel_rfl
theorem F93.sr9 : tstr Tryd.prog 9 = true := by kernel_rfl
theorem F93.us5 : (Tryd.prog.underlying 5).isSome = true := by kernel_rfl
theorem spec_l01Check_ok {fr : List Pc} {H : Heap} (a0 : Int) (a1 : List UInt8) (hs : Sep H (fr))  (K : Int → Prop) (h : spec_l01Check.wp a0 a1 K) : OkQ Tryd.prog 93 [(.v (.int .i64 a0)), (.v (.str (pk a1)))] H (fun r H2 => ∃ (y0 : Int), K y0 ∧ r = (.v (.int .i64 y0)) ∧ H = H2) := by
  unfold spec_l01Check.wp at h
  refine of_body Tryd.f93 F.hm Tryd.func93 rfl Tryd.call93 (by kernel_rfl) (by simp) ?_
  refine fi_seq ?_
  refine fi_region ?_
  refine so_assign (v := (.v (.int .i64 (0 : Int)))) rfl ?_
  refine so_nil ?_
  refine fi_seq ?_
  refine fi_seq ?_
  refine fi_region ?_
  refine so_assign (v := (.v (.int .i64 (0 : Int)))) rfl ?_
  refine so_nil ?_
  refine fi_block ?_
  refine fi_loop ?_
  refine fi_at [(0, (.v (.int .i64 a0))), (1, (.v (.str (pk a1)))), (5, (.v (.int .i64 (0 : Int))))] ⟨rfl, rfl, rfl, trivial⟩ ?_
  refine h (fun (n102 : Int) (i103 : Int) => ∀ (s : Nat → TV), Fin _ _ (updL s [(0, (.v (.int .i64 n102))), (1, (.v (.str (pk a1)))), (5, (.v (.int .i64 i103)))]) _ _) ?_ _
  intro n102 i103 h s106
  refine fi_inLoop ?_
  refine fi_seq ?_
  refine fi_seq ?_
  refine fi_region ?_
  refine so_move (v := (.v (.int .i64 i103))) rfl ?_
  refine so_move (v := (.v (.str (pk a1)))) rfl ?_
  refine so_slen rfl F93.sr9 ?_
  refine so_bin rfl rfl ab_lss ?_
  refine so_nil ?_
  replace h := ofP h; rcases h with ⟨c104, h⟩ | ⟨c104, h⟩
  · refine fi_true rfl (decide_eq_true c104) ?_
    refine fi_skip ?_
    refine fi_seq ?_
    refine fi_block ?_
    refine fi_region ?_
    refine so_move (v := (.v (.int .i64 n102))) rfl ?_
    refine so_bin rfl rfl ab_mul ?_
    refine so_move (v := (.v (.str (pk a1)))) rfl ?_
    refine so_move (v := (.v (.int .i64 i103))) rfl ?_
    obtain ⟨c105, h⟩ := h
    refine so_index rfl rfl F93.sr9 c105 ?_
    refine sv_ii rfl F93.us5 F93.it2 ?_
    refine so_bin rfl rfl ab_add ?_
    refine so_bin rfl rfl ab_add ?_
    refine so_bin rfl rfl (ab_rem (by decide)) ?_
    refine so_assign (v := (.v (.int .i64 (Int.tmod (IntKind.i64.wrap ((IntKind.i64.wrap ((IntKind.i64.wrap ((853 : Int) * n102)) + (IntKind.i64.wrap (bt a1 i103)))) + (139 : Int))) (65003 : Int))))) rfl ?_
    refine so_nil ?_
    refine fi_inBlock ?_
    refine fi_region ?_
    refine so_move (v := (.v (.int .i64 i103))) rfl ?_
    refine so_bin rfl rfl ab_add ?_
    refine so_assign (v := (.v (.int .i64 (IntKind.i64.wrap (i103 + (1 : Int)))))) rfl ?_
    refine so_nil ?_
    exact fi_at [(0, (.v (.int .i64 (Int.tmod (IntKind.i64.wrap ((IntKind.i64.wrap ((IntKind.i64.wrap ((853 : Int) * n102)) + (IntKind.i64.wrap (bt a1 i103)))) + (139 : Int))) (65003 : Int))))), (1, (.v (.str (pk a1)))), (5, (.v (.int .i64 (IntKind.i64.wrap (i103 + (1 : Int))))))] ⟨rfl, rfl, rfl, trivial⟩ (h _)
  · refine fi_false rfl (decide_eq_false c104) ?_
    refine fi_exit rfl ?_
    refine fi_seq ?_
    refine fi_region ?_
    refine so_move (v := (.v (.int .i64 n102))) rfl ?_
    refine so_assign (v := (.v (.int .i64 n102))) rfl ?_
    refine so_nil ?_
    exact by_ret rfl ⟨_, h, rfl, rfl⟩

end Go.Proofs.YtcgiboeilcdonaaDoor.G

namespace Go.Proofs.YtcgiboeilcdonaaDoor.G
open Go Go.Ab Go.Proofs Go.Proofs.YtcgiboeilcdonaaDoor
set_option maxRecDepth 100000
set_option linter.unusedVariables false
set_option linter.unusedSimpArgs false
set_option maxHeartbeats 1000000
attribute [local irreducible] wops wopf Go.Ab.Fin
theorem F94.it5 : tint Tryd.prog 5 = some .u8 := by kernel_rfl
theorem F94.sr9 : tstr Tryd.prog 9 = true := by kernel_rfl
theorem F94.sz5 : tsz Tryd.prog 5 = some 1 := by kernel_rfl
theorem F94.ta72_72 : tapp Tryd.prog 72 72 = some (1, 1) := by kernel_rfl
theorem F94.te72 : telem Tryd.prog 72 = some 5 := by kernel_rfl
theorem F94.ti72 : (telem Tryd.prog 72).isSome = true := by kernel_rfl
theorem F94.us2 : (Tryd.prog.underlying 2).isSome = true := by kernel_rfl
theorem F94.us72 : (Tryd.prog.underlying 72).isSome = true := by kernel_rfl
theorem F94.ze5 : tzero Tryd.prog 5 = some [(.int .u8 (0 : Int))] := by kernel_rfl
theorem spec_l01Dec_ok {fr : List Pc} {H : Heap} (a0 : Int) (hs : Sep H (fr))  (K : (List UInt8) → Prop) (h : spec_l01Dec.wp a0 K) : OkQ Tryd.prog 94 [(.v (.int .i64 a0))] H (fun r H2 => ∃ (y0 : List UInt8), K y0 ∧ r = (.v (.str (pk y0))) ∧ Sep H2 (fr)) := by
  unfold spec_l01Dec.wp at h
  refine of_body Tryd.f94 F.hm Tryd.func94 rfl Tryd.call94 (by kernel_rfl) (by simp) ?_
  refine fi_seq ?_
  refine fi_region ?_
  refine so_assign (v := (.v (.str (pk ([] : List UInt8))))) rfl ?_
  refine so_nil ?_
  refine fi_seq ?_
  refine fi_region ?_
  refine sv_bslice hs (eInt .u8) ([] : List (Int)) [] F94.te72 F94.sz5 F94.ze5 rfl rfl rfl rfl (fun _ => rfl) rfl (by decide) nofun (fun v101 H102 nv101 hs => ?_)
  refine so_assign (v := (.v v101)) rfl ?_
  refine so_nil ?_
  refine fi_seq ?_
  refine fi_region ?_
  refine so_move (v := (.v (.int .i64 a0))) rfl ?_
  refine so_assign (v := (.v (.int .i64 a0))) rfl ?_
  refine so_nil ?_
  refine fi_seq ?_
  refine fi_block ?_
  refine fi_loop ?_
  refine fi_at [(0, (.v (.int .i64 a0))), (3, (.v v101)), (4, (.v (.int .i64 a0)))] ⟨rfl, rfl, rfl, trivial⟩ ?_
  refine h (fun (out105 : List (Int)) (rest107 : Int) => ∀ (s : Nat → TV) (H : Heap) (v106 : AV) (nv106 : v106 ≠ .nilsl), Sep H (Pc.osl v106 1 (enc (eInt .u8) out105) :: fr) → Fin _ _ (updL s [(0, (.v (.int .i64 a0))), (3, (.v v106)), (4, (.v (.int .i64 rest107)))]) H _) ?_ _ _ _ nv101 hs
  intro out105 rest107 h s143 H144 v106 nv106 hs
  refine fi_inLoop ?_
  refine fi_seq ?_
  refine fi_seq ?_
  refine fi_region ?_
  refine so_move (v := (.v v106)) rfl ?_
  refine sv_len (hs.shows 0 rfl) (fun _ => rfl) (by decide) rfl F94.ti72 ?_
  refine so_bin rfl rfl ab_eql ?_
  refine so_move (v := (.v (.bool (decide ((out105.length : Int) = (0 : Int)))))) rfl ?_
  replace h := ofP h; rcases h with ⟨c108, h⟩ | ⟨c108, h⟩
  · refine so_gno rfl (decide_eq_true c108) ?_
    refine so_gno rfl (decide_eq_true c108) ?_
    refine so_pick_t (v := (.v (.bool true))) rfl (decide_eq_true c108) rfl ?_
    refine so_nil ?_
    refine fi_true rfl rfl ?_
    refine fi_skip ?_
    refine fi_block ?_
    refine fi_seq ?_
    refine fi_region ?_
    refine so_move (v := (.v (.int .i64 rest107))) rfl ?_
    refine so_bin rfl rfl (ab_rem (by decide)) ?_
    refine so_assign (v := (.v (.int .i64 (Int.tmod rest107 (10 : Int))))) rfl ?_
    refine so_nil ?_
    refine fi_seq ?_
    refine fi_seq ?_
    refine fi_region ?_
    refine so_move (v := (.v (.int .i64 (Int.tmod rest107 (10 : Int))))) rfl ?_
    refine so_bin rfl rfl ab_lss ?_
    refine so_nil ?_
    replace h := ofP h; rcases h with ⟨c109, h⟩ | ⟨c109, h⟩
    · refine fi_true rfl (decide_eq_true c109) ?_
      refine fi_region ?_
      refine so_move (v := (.v (.int .i64 (Int.tmod rest107 (10 : Int))))) rfl ?_
      refine so_un rfl au_neg ?_
      refine so_assign (v := (.v (.int .i64 (IntKind.i64.wrap (0 - (Int.tmod rest107 (10 : Int))))))) rfl ?_
      refine so_nil ?_
      refine fi_seq ?_
      refine fi_region ?_
      refine so_move (v := (.v (.int .i64 (IntKind.i64.wrap (0 - (Int.tmod rest107 (10 : Int))))))) rfl ?_
      refine so_bin rfl rfl ab_add ?_
      refine sv_ii rfl F94.us2 F94.it5 ?_
      refine sv_bslice hs (eInt .u8) ([(IntKind.u8.wrap (IntKind.i64.wrap ((48 : Int) + (IntKind.i64.wrap (0 - (Int.tmod rest107 (10 : Int)))))))] : List (Int)) [[(.int .u8 (IntKind.u8.wrap (IntKind.i64.wrap ((48 : Int) + (IntKind.i64.wrap (0 - (Int.tmod rest107 (10 : Int))))))))]] F94.te72 F94.sz5 F94.ze5 rfl rfl rfl rfl (fun _ => rfl) rfl (by decide) nofun (fun v110 H111 nv110 hs => ?_)
      refine so_move (v := (.v v106)) rfl ?_
      obtain ⟨c115, h⟩ := h
      refine sv_app hs 0 rfl (hs.shows 1 rfl) (fun _ => rfl) (by decide) F94.ta72_72 (by decide) c115 rfl rfl nofun (fun v113 H114 kv113 hs => ?_)
      have nv113 := kv113 nv110
      refine so_assign (v := (.v v113)) rfl ?_
      refine so_nil ?_
      refine fi_region ?_
      refine so_move (v := (.v (.int .i64 rest107))) rfl ?_
      refine so_bin rfl rfl (ab_quo (by decide)) ?_
      refine so_assign (v := (.v (.int .i64 (IntKind.i64.wrap (Int.tdiv rest107 (10 : Int)))))) rfl ?_
      refine so_nil ?_
      refine fi_inBlock ?_
      exact fi_at [(0, (.v (.int .i64 a0))), (3, (.v v113)), (4, (.v (.int .i64 (IntKind.i64.wrap (Int.tdiv rest107 (10 : Int))))))] ⟨rfl, rfl, rfl, trivial⟩ (h _ _ _ nv113 (Sep.del 1 hs))
    · refine fi_false rfl (decide_eq_false c109) ?_
      refine fi_skip ?_
      refine fi_seq ?_
      refine fi_region ?_
      refine so_move (v := (.v (.int .i64 (Int.tmod rest107 (10 : Int))))) rfl ?_
      refine so_bin rfl rfl ab_add ?_
      refine sv_ii rfl F94.us2 F94.it5 ?_
      refine sv_bslice hs (eInt .u8) ([(IntKind.u8.wrap (IntKind.i64.wrap ((48 : Int) + (Int.tmod rest107 (10 : Int)))))] : List (Int)) [[(.int .u8 (IntKind.u8.wrap (IntKind.i64.wrap ((48 : Int) + (Int.tmod rest107 (10 : Int))))))]] F94.te72 F94.sz5 F94.ze5 rfl rfl rfl rfl (fun _ => rfl) rfl (by decide) nofun (fun v116 H117 nv116 hs => ?_)
      refine so_move (v := (.v v106)) rfl ?_
      obtain ⟨c121, h⟩ := h
      refine sv_app hs 0 rfl (hs.shows 1 rfl) (fun _ => rfl) (by decide) F94.ta72_72 (by decide) c121 rfl rfl nofun (fun v119 H120 kv119 hs => ?_)
      have nv119 := kv119 nv116
      refine so_assign (v := (.v v119)) rfl ?_
      refine so_nil ?_
      refine fi_region ?_
      refine so_move (v := (.v (.int .i64 rest107))) rfl ?_
      refine so_bin rfl rfl (ab_quo (by decide)) ?_
      refine so_assign (v := (.v (.int .i64 (IntKind.i64.wrap (Int.tdiv rest107 (10 : Int)))))) rfl ?_
      refine so_nil ?_
      refine fi_inBlock ?_
      exact fi_at [(0, (.v (.int .i64 a0))), (3, (.v v119)), (4, (.v (.int .i64 (IntKind.i64.wrap (Int.tdiv rest107 (10 : Int))))))] ⟨rfl, rfl, rfl, trivial⟩ (h _ _ _ nv119 (Sep.del 1 hs))
  · refine so_gyes rfl (decide_eq_false c108) ?_
    refine so_move (v := (.v (.int .i64 rest107))) rfl ?_
    refine so_gyes rfl (decide_eq_false c108) ?_
    refine so_bin rfl rfl ab_neq ?_
    refine so_pick_f (v := (.v (.bool (!(decide (rest107 = (0 : Int))))))) rfl (decide_eq_false c108) rfl ?_
    refine so_nil ?_
    replace h := ofP h; rcases h with ⟨c122, h⟩ | ⟨c122, h⟩
    · refine fi_false rfl (not_f (decide_eq_true c122)) ?_
      refine fi_exit rfl ?_
      refine fi_seq ?_
      refine fi_seq ?_
      refine fi_region ?_
      refine so_move (v := (.v (.int .i64 a0))) rfl ?_
      refine so_bin rfl rfl ab_lss ?_
      refine so_nil ?_
      replace h := ofP h; rcases h with ⟨c123, h⟩ | ⟨c123, h⟩
      · refine fi_true rfl (decide_eq_true c123) ?_
        refine fi_region ?_
        refine sv_bslice hs (eInt .u8) ([(45 : Int)] : List (Int)) [[(.int .u8 (45 : Int))]] F94.te72 F94.sz5 F94.ze5 rfl rfl rfl rfl (fun _ => rfl) rfl (by decide) nofun (fun v124 H125 nv124 hs => ?_)
        refine so_move (v := (.v v106)) rfl ?_
        obtain ⟨c129, h⟩ := h
        refine sv_app hs 0 rfl (hs.shows 1 rfl) (fun _ => rfl) (by decide) F94.ta72_72 (by decide) c129 rfl rfl nofun (fun v127 H128 kv127 hs => ?_)
        have nv127 := kv127 nv124
        refine so_assign (v := (.v v127)) rfl ?_
        refine so_nil ?_
        refine fi_seq ?_
        refine fi_region ?_
        refine so_move (v := (.v v127)) rfl ?_
        refine sv_bs (hs.shows 0 rfl) nv127 rfl F94.te72 F94.it5 F94.sr9 ?_
        refine so_assign (v := (.v (.str (pk (byts (([(45 : Int)] : List (Int)) ++ out105)))))) rfl ?_
        refine so_nil ?_
        exact by_ret rfl ⟨_, h, rfl, (Sep.del 0 (Sep.del 0 hs))⟩
      · refine fi_false rfl (decide_eq_false c123) ?_
        refine fi_skip ?_
        refine fi_seq ?_
        refine fi_region ?_
        refine so_move (v := (.v v106)) rfl ?_
        refine sv_bs (hs.shows 0 rfl) nv106 rfl F94.te72 F94.it5 F94.sr9 ?_
        refine so_assign (v := (.v (.str (pk (byts out105))))) rfl ?_
        refine so_nil ?_
        exact by_ret rfl ⟨_, h, rfl, (Sep.del 0 hs)⟩
    · refine fi_true rfl (not_t (decide_eq_false c122)) ?_
      refine fi_skip ?_
      refine fi_block ?_
      refine fi_seq ?_
      refine fi_region ?_
      refine so_move (v := (.v (.int .i64 rest107))) rfl ?_
      refine so_bin rfl rfl (ab_rem (by decide)) ?_
      refine so_assign (v := (.v (.int .i64 (Int.tmod rest107 (10 : Int))))) rfl ?_
      refine so_nil ?_
      refine fi_seq ?_
      refine fi_seq ?_
      refine fi_region ?_
      refine so_move (v := (.v (.int .i64 (Int.tmod rest107 (10 : Int))))) rfl ?_
      refine so_bin rfl rfl ab_lss ?_
      refine so_nil ?_
      replace h := ofP h; rcases h with ⟨c130, h⟩ | ⟨c130, h⟩
      · refine fi_true rfl (decide_eq_true c130) ?_
        refine fi_region ?_
        refine so_move (v := (.v (.int .i64 (Int.tmod rest107 (10 : Int))))) rfl ?_
        refine so_un rfl au_neg ?_
        refine so_assign (v := (.v (.int .i64 (IntKind.i64.wrap (0 - (Int.tmod rest107 (10 : Int))))))) rfl ?_
        refine so_nil ?_
        refine fi_seq ?_
        refine fi_region ?_
        refine so_move (v := (.v (.int .i64 (IntKind.i64.wrap (0 - (Int.tmod rest107 (10 : Int))))))) rfl ?_
        refine so_bin rfl rfl ab_add ?_
        refine sv_ii rfl F94.us2 F94.it5 ?_
        refine sv_bslice hs (eInt .u8) ([(IntKind.u8.wrap (IntKind.i64.wrap ((48 : Int) + (IntKind.i64.wrap (0 - (Int.tmod rest107 (10 : Int)))))))] : List (Int)) [[(.int .u8 (IntKind.u8.wrap (IntKind.i64.wrap ((48 : Int) + (IntKind.i64.wrap (0 - (Int.tmod rest107 (10 : Int))))))))]] F94.te72 F94.sz5 F94.ze5 rfl rfl rfl rfl (fun _ => rfl) rfl (by decide) nofun (fun v131 H132 nv131 hs => ?_)
        refine so_move (v := (.v v106)) rfl ?_
        obtain ⟨c136, h⟩ := h
        refine sv_app hs 0 rfl (hs.shows 1 rfl) (fun _ => rfl) (by decide) F94.ta72_72 (by decide) c136 rfl rfl nofun (fun v134 H135 kv134 hs => ?_)
        have nv134 := kv134 nv131
        refine so_assign (v := (.v v134)) rfl ?_
        refine so_nil ?_
        refine fi_region ?_
        refine so_move (v := (.v (.int .i64 rest107))) rfl ?_
        refine so_bin rfl rfl (ab_quo (by decide)) ?_
        refine so_assign (v := (.v (.int .i64 (IntKind.i64.wrap (Int.tdiv rest107 (10 : Int)))))) rfl ?_
        refine so_nil ?_
        refine fi_inBlock ?_
        exact fi_at [(0, (.v (.int .i64 a0))), (3, (.v v134)), (4, (.v (.int .i64 (IntKind.i64.wrap (Int.tdiv rest107 (10 : Int))))))] ⟨rfl, rfl, rfl, trivial⟩ (h _ _ _ nv134 (Sep.del 1 hs))
      · refine fi_false rfl (decide_eq_false c130) ?_
        refine fi_skip ?_
        refine fi_seq ?_
        refine fi_region ?_
        refine so_move (v := (.v (.int .i64 (Int.tmod rest107 (10 : Int))))) rfl ?_
        refine so_bin rfl rfl ab_add ?_
        refine sv_ii rfl F94.us2 F94.it5 ?_
        refine sv_bslice hs (eInt .u8) ([(IntKind.u8.wrap (IntKind.i64.wrap ((48 : Int) + (Int.tmod rest107 (10 : Int)))))] : List (Int)) [[(.int .u8 (IntKind.u8.wrap (IntKind.i64.wrap ((48 : Int) + (Int.tmod rest107 (10 : Int))))))]] F94.te72 F94.sz5 F94.ze5 rfl rfl rfl rfl (fun _ => rfl) rfl (by decide) nofun (fun v137 H138 nv137 hs => ?_)
        refine so_move (v := (.v v106)) rfl ?_
        obtain ⟨c142, h⟩ := h
        refine sv_app hs 0 rfl (hs.shows 1 rfl) (fun _ => rfl) (by decide) F94.ta72_72 (by decide) c142 rfl rfl nofun (fun v140 H141 kv140 hs => ?_)
        have nv140 := kv140 nv137
        refine so_assign (v := (.v v140)) rfl ?_
        refine so_nil ?_
        refine fi_region ?_
        refine so_move (v := (.v (.int .i64 rest107))) rfl ?_
        refine so_bin rfl rfl (ab_quo (by decide)) ?_
        refine so_assign (v := (.v (.int .i64 (IntKind.i64.wrap (Int.tdiv rest107 (10 : Int)))))) rfl ?_
        refine so_nil ?_
        refine fi_inBlock ?_
        exact fi_at [(0, (.v (.int .i64 a0))), (3, (.v v140)), (4, (.v (.int .i64 (IntKind.i64.wrap (Int.tdiv rest107 (10 : Int))))))] ⟨rfl, rfl, rfl, trivial⟩ (h _ _ _ nv140 (Sep.del 1 hs))

end Go.Proofs.YtcgiboeilcdonaaDoor.G

namespace Go.Proofs.YtcgiboeilcdonaaDoor.G
open Go Go.Ab Go.Proofs Go.Proofs.YtcgiboeilcdonaaDoor
set_option maxRecDepth 100000
set_option linter.unusedVariables false
set_option linter.unusedSimpArgs false
set_option maxHeartbeats 1000000
attribute [local irreducible] wops wopf Go.Ab.Fin
theorem F106.sr9 : tstr Tryd.prog 9 = true := by kernel_rfl
theorem F106.sz9 : tsz Tryd.prog 9 = some 1 := by kernel_rfl
theorem F106.ta28_28 : tapp Tryd.prog 28 28 = some (1, 16) := by kernel_rfl
theorem F106.te28 : telem Tryd.prog 28 = some 9 := by kernel_rfl
theorem F106.ze9 : tzero Tryd.prog 9 = some [(.str (pk ([] : List UInt8)))] := by kernel_rfl
theorem spec_l01Cut_ok {fr : List Pc} {H : Heap} (a0 : List UInt8) (a1 : Int) (hs : Sep H (fr))  (K : (List (List UInt8)) → Prop) (h : spec_l01Cut.wp a0 a1 K) : OkQ Tryd.prog 106 [(.v (.str (pk a0))), (.v (.int .u8 a1))] H (fun r H2 => ∃ (y0 : List (List UInt8)), K y0 ∧ ∃ (w0_ : AV), r = (.v w0_) ∧ Sep H2 (Pc.osl w0_ 1 (enc eStr y0) :: fr)) := by
  unfold spec_l01Cut.wp at h
  refine of_body Tryd.f106 F.hm Tryd.func106 rfl Tryd.call106 (by kernel_rfl) (by simp) ?_
  refine fi_seq ?_
  refine fi_region ?_
  refine so_assign (v := (.v .nilsl)) rfl ?_
  refine so_nil ?_
  refine fi_seq ?_
  refine fi_region ?_
  refine sv_bslice hs eStr ([] : List (List UInt8)) [] F106.te28 F106.sz9 F106.ze9 rfl rfl rfl rfl (fun _ => rfl) rfl (by decide) nofun (fun v101 H102 nv101 hs => ?_)
  refine so_assign (v := (.v v101)) rfl ?_
  refine so_nil ?_
  refine fi_seq ?_
  refine fi_region ?_
  refine so_assign (v := (.v (.int .i64 (0 : Int)))) rfl ?_
  refine so_nil ?_
  refine fi_seq ?_
  refine fi_seq ?_
  refine fi_region ?_
  refine so_assign (v := (.v (.int .i64 (0 : Int)))) rfl ?_
  refine so_nil ?_
  refine fi_block ?_
  refine fi_loop ?_
  refine fi_at [(0, (.v (.str (pk a0)))), (1, (.v (.int .u8 a1))), (5, (.v v101)), (6, (.v (.int .i64 (0 : Int)))), (7, (.v (.int .i64 (0 : Int))))] ⟨rfl, rfl, rfl, rfl, rfl, trivial⟩ ?_
  refine h (fun (out128 : List (List UInt8)) (fromq130 : Int) (i131 : Int) => ∀ (s : Nat → TV) (H : Heap) (v129 : AV) (nv129 : v129 ≠ .nilsl), Sep H (Pc.osl v129 1 (enc eStr out128) :: fr) → Fin _ _ (updL s [(0, (.v (.str (pk a0)))), (1, (.v (.int .u8 a1))), (5, (.v v129)), (6, (.v (.int .i64 fromq130))), (7, (.v (.int .i64 i131)))]) H _) ?_ _ _ _ nv101 hs
  intro out128 fromq130 i131 h s150 H151 v129 nv129 hs
  refine fi_inLoop ?_
  refine fi_seq ?_
  refine fi_seq ?_
  refine fi_region ?_
  refine so_move (v := (.v (.int .i64 i131))) rfl ?_
  refine so_move (v := (.v (.str (pk a0)))) rfl ?_
  refine so_slen rfl F106.sr9 ?_
  refine so_bin rfl rfl ab_leq ?_
  refine so_nil ?_
  replace h := ofP h; rcases h with ⟨c132, h⟩ | ⟨c132, h⟩
  · refine fi_true rfl (decide_eq_true c132) ?_
    refine fi_skip ?_
    refine fi_seq ?_
    refine fi_block ?_
    refine fi_seq ?_
    refine fi_region ?_
    refine so_move (v := (.v (.int .i64 i131))) rfl ?_
    refine so_move (v := (.v (.str (pk a0)))) rfl ?_
    refine so_slen rfl F106.sr9 ?_
    refine so_bin rfl rfl ab_eql ?_
    refine so_move (v := (.v (.bool (decide (i131 = (a0.length : Int)))))) rfl ?_
    replace h := ofP h; rcases h with ⟨c133, h⟩ | ⟨c133, h⟩
    · refine so_gno rfl (decide_eq_true c133) ?_
      refine so_gno rfl (decide_eq_true c133) ?_
      refine so_gno rfl (decide_eq_true c133) ?_
      refine so_gno rfl (decide_eq_true c133) ?_
      refine so_gno rfl (decide_eq_true c133) ?_
      refine so_pick_t (v := (.v (.bool true))) rfl (decide_eq_true c133) rfl ?_
      refine so_nil ?_
      refine fi_true rfl rfl ?_
      refine fi_seq ?_
      refine fi_region ?_
      refine so_move (v := (.v v129)) rfl ?_
      refine so_move (v := (.v (.str (pk a0)))) rfl ?_
      refine so_move (v := (.v (.int .i64 fromq130))) rfl ?_
      refine so_move (v := (.v (.int .i64 i131))) rfl ?_
      obtain ⟨c134, h⟩ := h
      refine so_sslice rfl rfl rfl F106.sr9 rfl rfl c134 ?_
      refine sv_bslice hs eStr ([((a0.drop (fromq130).toNat).take ((i131).toNat - (fromq130).toNat))] : List (List UInt8)) [[(.str (pk ((a0.drop (fromq130).toNat).take ((i131).toNat - (fromq130).toNat))))]] F106.te28 F106.sz9 F106.ze9 rfl rfl rfl rfl (fun _ => rfl) rfl (by decide) nofun (fun v135 H136 nv135 hs => ?_)
      obtain ⟨c140, h⟩ := h
      refine sv_app hs 1 rfl (hs.shows 0 rfl) (fun _ => rfl) (by decide) F106.ta28_28 (by decide) c140 rfl rfl nofun (fun v138 H139 kv138 hs => ?_)
      replace hs := hs.del 0
      have nv138 := kv138 nv129
      refine so_assign (v := (.v v138)) rfl ?_
      refine so_nil ?_
      refine fi_region ?_
      refine so_move (v := (.v (.int .i64 i131))) rfl ?_
      refine so_bin rfl rfl ab_add ?_
      refine so_assign (v := (.v (.int .i64 (IntKind.i64.wrap (i131 + (1 : Int)))))) rfl ?_
      refine so_nil ?_
      refine fi_inBlock ?_
      refine fi_region ?_
      refine so_move (v := (.v (.int .i64 i131))) rfl ?_
      refine so_bin rfl rfl ab_add ?_
      refine so_assign (v := (.v (.int .i64 (IntKind.i64.wrap (i131 + (1 : Int)))))) rfl ?_
      refine so_nil ?_
      exact fi_at [(0, (.v (.str (pk a0)))), (1, (.v (.int .u8 a1))), (5, (.v v138)), (6, (.v (.int .i64 (IntKind.i64.wrap (i131 + (1 : Int)))))), (7, (.v (.int .i64 (IntKind.i64.wrap (i131 + (1 : Int))))))] ⟨rfl, rfl, rfl, rfl, rfl, trivial⟩ (h _ _ _ nv138 hs)
    · refine so_gyes rfl (decide_eq_false c133) ?_
      refine so_move (v := (.v (.str (pk a0)))) rfl ?_
      refine so_gyes rfl (decide_eq_false c133) ?_
      refine so_move (v := (.v (.int .i64 i131))) rfl ?_
      refine so_gyes rfl (decide_eq_false c133) ?_
      obtain ⟨c141, h⟩ := h
      refine so_index rfl rfl F106.sr9 c141 ?_
      refine so_gyes rfl (decide_eq_false c133) ?_
      refine so_move (v := (.v (.int .u8 a1))) rfl ?_
      refine so_gyes rfl (decide_eq_false c133) ?_
      refine so_bin rfl rfl ab_eql ?_
      refine so_pick_f (v := (.v (.bool (decide ((bt a0 i131) = a1))))) rfl (decide_eq_false c133) rfl ?_
      refine so_nil ?_
      replace h := ofP h; rcases h with ⟨c142, h⟩ | ⟨c142, h⟩
      · refine fi_true rfl (decide_eq_true c142) ?_
        refine fi_seq ?_
        refine fi_region ?_
        refine so_move (v := (.v v129)) rfl ?_
        refine so_move (v := (.v (.str (pk a0)))) rfl ?_
        refine so_move (v := (.v (.int .i64 fromq130))) rfl ?_
        refine so_move (v := (.v (.int .i64 i131))) rfl ?_
        obtain ⟨c143, h⟩ := h
        refine so_sslice rfl rfl rfl F106.sr9 rfl rfl c143 ?_
        refine sv_bslice hs eStr ([((a0.drop (fromq130).toNat).take ((i131).toNat - (fromq130).toNat))] : List (List UInt8)) [[(.str (pk ((a0.drop (fromq130).toNat).take ((i131).toNat - (fromq130).toNat))))]] F106.te28 F106.sz9 F106.ze9 rfl rfl rfl rfl (fun _ => rfl) rfl (by decide) nofun (fun v144 H145 nv144 hs => ?_)
        obtain ⟨c149, h⟩ := h
        refine sv_app hs 1 rfl (hs.shows 0 rfl) (fun _ => rfl) (by decide) F106.ta28_28 (by decide) c149 rfl rfl nofun (fun v147 H148 kv147 hs => ?_)
        replace hs := hs.del 0
        have nv147 := kv147 nv129
        refine so_assign (v := (.v v147)) rfl ?_
        refine so_nil ?_
        refine fi_region ?_
        refine so_move (v := (.v (.int .i64 i131))) rfl ?_
        refine so_bin rfl rfl ab_add ?_
        refine so_assign (v := (.v (.int .i64 (IntKind.i64.wrap (i131 + (1 : Int)))))) rfl ?_
        refine so_nil ?_
        refine fi_inBlock ?_
        refine fi_region ?_
        refine so_move (v := (.v (.int .i64 i131))) rfl ?_
        refine so_bin rfl rfl ab_add ?_
        refine so_assign (v := (.v (.int .i64 (IntKind.i64.wrap (i131 + (1 : Int)))))) rfl ?_
        refine so_nil ?_
        exact fi_at [(0, (.v (.str (pk a0)))), (1, (.v (.int .u8 a1))), (5, (.v v147)), (6, (.v (.int .i64 (IntKind.i64.wrap (i131 + (1 : Int)))))), (7, (.v (.int .i64 (IntKind.i64.wrap (i131 + (1 : Int))))))] ⟨rfl, rfl, rfl, rfl, rfl, trivial⟩ (h _ _ _ nv147 hs)
      · refine fi_false rfl (decide_eq_false c142) ?_
        refine fi_skip ?_
        refine fi_inBlock ?_
        refine fi_region ?_
        refine so_move (v := (.v (.int .i64 i131))) rfl ?_
        refine so_bin rfl rfl ab_add ?_
        refine so_assign (v := (.v (.int .i64 (IntKind.i64.wrap (i131 + (1 : Int)))))) rfl ?_
        refine so_nil ?_
        exact fi_at [(0, (.v (.str (pk a0)))), (1, (.v (.int .u8 a1))), (5, (.v v129)), (6, (.v (.int .i64 fromq130))), (7, (.v (.int .i64 (IntKind.i64.wrap (i131 + (1 : Int))))))] ⟨rfl, rfl, rfl, rfl, rfl, trivial⟩ (h _ _ _ nv129 hs)
  · refine fi_false rfl (decide_eq_false c132) ?_
    refine fi_exit rfl ?_
    refine fi_seq ?_
    refine fi_region ?_
    refine so_move (v := (.v v129)) rfl ?_
    refine so_assign (v := (.v v129)) rfl ?_
    refine so_nil ?_
    exact by_ret rfl ⟨_, h, _, rfl, hs⟩

end Go.Proofs.YtcgiboeilcdonaaDoor.G

namespace Go.Proofs.YtcgiboeilcdonaaDoor.G
open Go Go.Ab Go.Proofs Go.Proofs.YtcgiboeilcdonaaDoor
set_option maxRecDepth 100000
set_option linter.unusedVariables false
set_option linter.unusedSimpArgs false
set_option maxHeartbeats 1000000
attribute [local irreducible] wops wopf Go.Ab.Fin
theorem F99.ag9 : tagg Tryd.prog 9 = some false := by kernel_rfl
theorem F99.ti28 : (telem Tryd.prog 28).isSome = true := by kernel_rfl
theorem F99.tl28 : (telem Tryd.prog 28).bind (tsz Tryd.prog) = some 1 := by kernel_rfl
theorem spec_l08Lines_ok {fr : List Pc} {H : Heap} (a0 : List UInt8) (hs : Sep H (fr))  (K : (List (List UInt8)) → (List UInt8) → Prop) (h : spec_l08Lines.wp a0 K) : OkQ Tryd.prog 99 [(.v (.str (pk a0)))] H (fun r H2 => ∃ (y0 : List (List UInt8)) (y1 : List UInt8), K y0 y1 ∧ ∃ (w0_ : AV), r = (.t [(.v w0_), (.v (.str (pk y1)))]) ∧ Sep H2 (rdp w0_ 1 (enc eStr y0) :: fr)) := by
  unfold spec_l08Lines.wp at h
  refine of_body Tryd.f99 F.hm Tryd.func99 rfl Tryd.call99 (by kernel_rfl) (by simp) ?_
  refine fi_seq ?_
  refine fi_region ?_
  refine so_assign (v := (.v .nilsl)) rfl ?_
  refine so_assign (v := (.v (.str (pk ([] : List UInt8))))) rfl ?_
  refine so_nil ?_
  refine fi_seq ?_
  refine fi_region ?_
  refine so_move (v := (.v (.str (pk a0)))) rfl ?_
  refine sv_call (spec_l01Cut_ok a0 (10 : Int) hs  _ h) rfl rfl nofun ?_
  clear h hs
  rintro _ H104 ⟨y101, h, v102, rfl, hs⟩
  refine so_assign (v := (.v v102)) rfl ?_
  refine so_nil ?_
  refine fi_seq ?_
  refine fi_region ?_
  refine so_move (v := (.v v102)) rfl ?_
  refine so_move (v := (.v v102)) rfl ?_
  refine sv_len (hs.shows 0 rfl) (fun _ => rfl) (by decide) rfl F99.ti28 ?_
  refine so_bin rfl rfl ab_sub ?_
  obtain ⟨c105, h⟩ := h
  refine sv_slice (hs.shows 0 rfl) c105 (fun _ => rfl) (by decide) rfl rfl rfl rfl rfl F99.tl28 ?_
  refine so_move (v := (.v v102)) rfl ?_
  refine so_move (v := (.v v102)) rfl ?_
  refine sv_len (hs.shows 0 rfl) (fun _ => rfl) (by decide) rfl F99.ti28 ?_
  refine so_bin rfl rfl ab_sub ?_
  obtain ⟨c106, h⟩ := h
  refine sv_idx (hs.shows 0 rfl) c106 (fun _ => rfl) (by decide) rfl rfl F99.tl28 ?_
  refine sv_cell (hs.shows 0 rfl) c106 ([] : List UInt8) 0 (fun x => (AV.str (pk x))) (fun _ => rfl) (fun _ => rfl) rfl F99.ag9 ?_
  refine so_assign (v := (.v (v102.cut 1 ((0 : Int)).toNat ((IntKind.i64.wrap ((y101.length : Int) - (1 : Int)))).toNat))) rfl ?_
  refine so_assign (v := (.v (.str (pk (y101.getD ((IntKind.i64.wrap ((y101.length : Int) - (1 : Int)))).toNat ([] : List UInt8)))))) rfl ?_
  refine so_nil ?_
  exact by_ret rfl ⟨_, _, h, _, rfl, (Sep.tord hs (Shows.cut (e := eStr) (n := 1) (fun _ => rfl) (hs.shows 0 rfl) (by decide) (cutok c105)) (cut_row _ _ _ _))⟩

end Go.Proofs.YtcgiboeilcdonaaDoor.G

namespace Go.Proofs.YtcgiboeilcdonaaDoor.G
open Go Go.Ab Go.Proofs Go.Proofs.YtcgiboeilcdonaaDoor
set_option maxRecDepth 100000
set_option linter.unusedVariables false
set_option linter.unusedSimpArgs false
set_option maxHeartbeats 1000000
attribute [local irreducible] wops wopf Go.Ab.Fin
theorem F57.ag9 : tagg Tryd.prog 9 = some false := by kernel_rfl
theorem F57.sr9 : tstr Tryd.prog 9 = true := by kernel_rfl
theorem F57.sz9 : tsz Tryd.prog 9 = some 1 := by kernel_rfl
theorem F57.ta28_28 : tapp Tryd.prog 28 28 = some (1, 16) := by kernel_rfl
theorem F57.te28 : telem Tryd.prog 28 = some 9 := by kernel_rfl
theorem F57.ti28 : (telem Tryd.prog 28).isSome = true := by kernel_rfl
theorem F57.tl28 : (telem Tryd.prog 28).bind (tsz Tryd.prog) = some 1 := by kernel_rfl
theorem F57.ze9 : tzero Tryd.prog 9 = some [(.str (pk ([] : List UInt8)))] := by kernel_rfl
theorem spec_l08Recover_ok {fr : List Pc} {H : Heap} (a0 : List UInt8) (hs : Sep H (fr))  (K : (List (List UInt8)) → Int → Prop) (h : spec_l08Recover.wp a0 K) : OkQ Tryd.prog 57 [(.v (.str (pk a0)))] H (fun r H2 => ∃ (y0 : List (List UInt8)) (y1 : Int), K y0 y1 ∧ ∃ (w0_ : AV), r = (.t [(.v w0_), (.v (.int .i64 y1))]) ∧ Sep H2 (Pc.osl w0_ 1 (enc eStr y0) :: fr)) := by
  unfold spec_l08Recover.wp at h
  refine of_body Tryd.f57 F.hm Tryd.func57 rfl Tryd.call57 (by kernel_rfl) (by simp) ?_
  refine fi_seq ?_
  refine fi_region ?_
  refine so_assign (v := (.v .nilsl)) rfl ?_
  refine so_assign (v := (.v (.int .i64 (0 : Int)))) rfl ?_
  refine so_nil ?_
  refine fi_seq ?_
  refine fi_region ?_
  refine so_move (v := (.v (.str (pk a0)))) rfl ?_
  refine sv_call (spec_l08Lines_ok a0 hs  _ h) rfl rfl nofun ?_
  clear h hs
  rintro _ H105 ⟨y101, y104, h, v102, rfl, hs⟩
  refine so_move (v := (.t [(.v v102), (.v (.str (pk y104)))])) rfl ?_
  refine so_extract rfl rfl rfl ?_
  refine so_extract rfl rfl rfl ?_
  refine so_assign (v := (.v v102)) rfl ?_
  refine so_assign (v := (.v (.str (pk y104)))) rfl ?_
  refine so_nil ?_
  refine fi_seq ?_
  refine fi_region ?_
  refine sv_bslice hs eStr ([] : List (List UInt8)) [] F57.te28 F57.sz9 F57.ze9 rfl rfl rfl rfl (fun _ => rfl) rfl (by decide) nofun (fun v106 H107 nv106 hs => ?_)
  refine so_assign (v := (.v v106)) rfl ?_
  refine so_nil ?_
  refine fi_seq ?_
  refine fi_region ?_
  refine so_assign (v := (.v (.int .i64 (0 : Int)))) rfl ?_
  refine so_nil ?_
  refine fi_seq ?_
  refine fi_region ?_
  refine so_assign (v := (.v (.int .i64 (0 : Int)))) rfl ?_
  refine so_nil ?_
  refine fi_seq ?_
  refine fi_seq ?_
  refine fi_region ?_
  refine so_assign (v := (.v (.int .i64 (0 : Int)))) rfl ?_
  refine so_nil ?_
  refine fi_block ?_
  refine fi_loop ?_
  refine fi_at [(4, (.v v102)), (6, (.v v106)), (7, (.v (.int .i64 (0 : Int)))), (8, (.v (.int .i64 (0 : Int)))), (9, (.v (.int .i64 (0 : Int))))] ⟨rfl, rfl, rfl, rfl, rfl, trivial⟩ ?_
  refine h (fun (out153 : List (List UInt8)) (check155 : Int) (n156 : Int) (i157 : Int) => ∀ (s : Nat → TV) (H : Heap) (v154 : AV) (nv154 : v154 ≠ .nilsl), Sep H (Pc.osl v154 1 (enc eStr out153) :: rdp v102 1 (enc eStr y101) :: fr) → Fin _ _ (updL s [(4, (.v v102)), (6, (.v v154)), (7, (.v (.int .i64 check155))), (8, (.v (.int .i64 n156))), (9, (.v (.int .i64 i157)))]) H _) ?_ _ _ _ nv106 hs
  intro out153 check155 n156 i157 h s195 H196 v154 nv154 hs
  refine fi_inLoop ?_
  refine fi_seq ?_
  refine fi_seq ?_
  refine fi_region ?_
  refine so_move (v := (.v (.int .i64 i157))) rfl ?_
  refine so_move (v := (.v v102)) rfl ?_
  refine sv_len (hs.rshows 1 rfl) (fun _ => rfl) (by decide) rfl F57.ti28 ?_
  refine so_bin rfl rfl ab_lss ?_
  refine so_nil ?_
  replace h := ofP h; rcases h with ⟨c158, h⟩ | ⟨c158, h⟩
  · refine fi_true rfl (decide_eq_true c158) ?_
    refine fi_skip ?_
    refine fi_seq ?_
    refine fi_block ?_
    refine fi_seq ?_
    refine fi_region ?_
    refine so_assign (v := (.v (.int .i64 (0 : Int)))) rfl ?_
    refine so_nil ?_
    refine fi_seq ?_
    refine fi_block ?_
    refine fi_loop ?_
    refine fi_at [(4, (.v v102)), (6, (.v v154)), (7, (.v (.int .i64 check155))), (8, (.v (.int .i64 n156))), (9, (.v (.int .i64 i157))), (10, (.v (.int .i64 (0 : Int))))] ⟨rfl, rfl, rfl, rfl, rfl, rfl, trivial⟩ ?_
    refine h (fun (cut160 : Int) => ∀ (s : Nat → TV) (H : Heap), Sep H (Pc.osl v154 1 (enc eStr out153) :: rdp v102 1 (enc eStr y101) :: fr) → Fin _ _ (updL s [(4, (.v v102)), (6, (.v v154)), (7, (.v (.int .i64 check155))), (8, (.v (.int .i64 n156))), (9, (.v (.int .i64 i157))), (10, (.v (.int .i64 cut160)))]) H _) ?_ _ _ hs
    intro cut160 h s193 H194 hs
    refine fi_inLoop ?_
    refine fi_seq ?_
    refine fi_seq ?_
    refine fi_region ?_
    refine so_move (v := (.v (.int .i64 cut160))) rfl ?_
    refine so_move (v := (.v v102)) rfl ?_
    refine so_move (v := (.v (.int .i64 i157))) rfl ?_
    obtain ⟨c161, h⟩ := h
    refine sv_idx (hs.rshows 1 rfl) c161 (fun _ => rfl) (by decide) rfl rfl F57.tl28 ?_
    refine sv_cell (hs.rshows 1 rfl) c161 ([] : List UInt8) 0 (fun x => (AV.str (pk x))) (fun _ => rfl) (fun _ => rfl) rfl F57.ag9 ?_
    refine so_slen rfl F57.sr9 ?_
    refine so_bin rfl rfl ab_lss ?_
    refine so_move (v := (.v (.bool (decide (cut160 < ((y101.getD (i157).toNat ([] : List UInt8)).length : Int)))))) rfl ?_
    replace h := ofP h; rcases h with ⟨c162, h⟩ | ⟨c162, h⟩
    · refine so_gyes rfl (decide_eq_true c162) ?_
      refine so_move (v := (.v v102)) rfl ?_
      refine so_gyes rfl (decide_eq_true c162) ?_
      refine so_move (v := (.v (.int .i64 i157))) rfl ?_
      refine so_gyes rfl (decide_eq_true c162) ?_
      refine sv_idx (hs.rshows 1 rfl) c161 (fun _ => rfl) (by decide) rfl rfl F57.tl28 ?_
      refine so_gyes rfl (decide_eq_true c162) ?_
      refine sv_cell (hs.rshows 1 rfl) c161 ([] : List UInt8) 0 (fun x => (AV.str (pk x))) (fun _ => rfl) (fun _ => rfl) rfl F57.ag9 ?_
      refine so_gyes rfl (decide_eq_true c162) ?_
      refine so_move (v := (.v (.int .i64 cut160))) rfl ?_
      refine so_gyes rfl (decide_eq_true c162) ?_
      obtain ⟨c163, h⟩ := h
      refine so_index rfl rfl F57.sr9 c163 ?_
      refine so_gyes rfl (decide_eq_true c162) ?_
      refine so_bin rfl rfl ab_neq ?_
      refine so_pick_t (v := (.v (.bool (!(decide ((bt (y101.getD (i157).toNat ([] : List UInt8)) cut160) = (32 : Int))))))) rfl (decide_eq_true c162) rfl ?_
      refine so_nil ?_
      replace h := ofP h; rcases h with ⟨c164, h⟩ | ⟨c164, h⟩
      · refine fi_false rfl (not_f (decide_eq_true c164)) ?_
        refine fi_exit rfl ?_
        refine fi_seq ?_
        refine fi_seq ?_
        refine fi_region ?_
        refine so_move (v := (.v (.int .i64 cut160))) rfl ?_
        refine so_move (v := (.v v102)) rfl ?_
        refine so_move (v := (.v (.int .i64 i157))) rfl ?_
        refine sv_idx (hs.rshows 1 rfl) c161 (fun _ => rfl) (by decide) rfl rfl F57.tl28 ?_
        refine sv_cell (hs.rshows 1 rfl) c161 ([] : List UInt8) 0 (fun x => (AV.str (pk x))) (fun _ => rfl) (fun _ => rfl) rfl F57.ag9 ?_
        refine so_slen rfl F57.sr9 ?_
        refine so_bin rfl rfl ab_eql ?_
        refine so_nil ?_
        replace h := ofP h; rcases h with ⟨c165, h⟩ | ⟨c165, h⟩
        · refine fi_true rfl (decide_eq_true c165) ?_
          refine fi_exit rfl ?_
          refine fi_seq ?_
          refine fi_region ?_
          refine so_move (v := (.v v154)) rfl ?_
          refine so_move (v := (.v (.int .i64 n156))) rfl ?_
          refine so_assign (v := (.v v154)) rfl ?_
          refine so_assign (v := (.v (.int .i64 n156))) rfl ?_
          refine so_nil ?_
          exact by_ret rfl ⟨_, _, h, _, rfl, (Sep.del 1 hs)⟩
        · refine fi_false rfl (decide_eq_false c165) ?_
          refine fi_skip ?_
          refine fi_seq ?_
          refine fi_region ?_
          refine so_move (v := (.v v102)) rfl ?_
          refine so_move (v := (.v (.int .i64 i157))) rfl ?_
          refine sv_idx (hs.rshows 1 rfl) c161 (fun _ => rfl) (by decide) rfl rfl F57.tl28 ?_
          refine sv_cell (hs.rshows 1 rfl) c161 ([] : List UInt8) 0 (fun x => (AV.str (pk x))) (fun _ => rfl) (fun _ => rfl) rfl F57.ag9 ?_
          refine so_move (v := (.v (.int .i64 cut160))) rfl ?_
          refine so_bin rfl rfl ab_add ?_
          obtain ⟨c166, h⟩ := h
          refine so_sslice rfl rfl rfl F57.sr9 rfl rfl c166 ?_
          refine so_assign (v := (.v (.str (pk (((y101.getD (i157).toNat ([] : List UInt8)).drop ((IntKind.i64.wrap (cut160 + (1 : Int)))).toNat).take ((((y101.getD (i157).toNat ([] : List UInt8)).length : Int)).toNat - ((IntKind.i64.wrap (cut160 + (1 : Int)))).toNat)))))) rfl ?_
          refine so_nil ?_
          refine fi_seq ?_
          refine fi_region ?_
          refine so_move (v := (.v (.int .i64 check155))) rfl ?_
          refine so_move (v := (.v (.str (pk (((y101.getD (i157).toNat ([] : List UInt8)).drop ((IntKind.i64.wrap (cut160 + (1 : Int)))).toNat).take ((((y101.getD (i157).toNat ([] : List UInt8)).length : Int)).toNat - ((IntKind.i64.wrap (cut160 + (1 : Int)))).toNat)))))) rfl ?_
          refine sv_callS (spec_l01Check_ok check155 (((y101.getD (i157).toNat ([] : List UInt8)).drop ((IntKind.i64.wrap (cut160 + (1 : Int)))).toNat).take ((((y101.getD (i157).toNat ([] : List UInt8)).length : Int)).toNat - ((IntKind.i64.wrap (cut160 + (1 : Int)))).toNat)) hs  _ h) (fun _ _ ⟨_, _, _, e⟩ => e) rfl rfl ?_
          clear h
          rintro _ _ ⟨y167, h, rfl, rfl⟩
          refine so_assign (v := (.v (.int .i64 y167))) rfl ?_
          refine so_nil ?_
          refine fi_seq ?_
          refine fi_seq ?_
          refine fi_free [2, 3, 5] ?_
          refine wf_pure rfl (by kernel_rfl) ?_
          refine so_move (v := (.v v102)) rfl ?_
          refine so_end ?_
          refine wf_pure rfl (by kernel_rfl) ?_
          refine so_move (v := (.v (.int .i64 i157))) rfl ?_
          refine so_end ?_
          refine wf_free (.v (.ptr v102.id0 (v102.of0 + (i157).toNat * 1))) rfl (by kernel_rfl) (stepr (i := 0) rfl (by refine sv_idx (hs.rshows 1 rfl) c161 (fun _ => rfl) (by decide) rfl rfl F57.tl28 ?_; exact so_end ⟨rfl, rfl⟩)) fan ?_
          refine wf_free (.v (.str (pk (y101.getD (i157).toNat ([] : List UInt8))))) rfl (by kernel_rfl) (stepr (i := 0) rfl (by refine sv_cell (hs.rshows 1 rfl) c161 ([] : List UInt8) 0 (fun x => (AV.str (pk x))) (fun _ => rfl) (fun _ => rfl) rfl F57.ag9 ?_; exact so_end ⟨rfl, rfl⟩)) fan ?_
          refine wf_pure rfl (by kernel_rfl) ?_
          refine so_move (v := (.v (.int .i64 cut160))) rfl ?_
          refine so_end ?_
          obtain ⟨c169, h⟩ := h
          refine wf_free (.v (.str (pk (((y101.getD (i157).toNat ([] : List UInt8)).drop ((0 : Int)).toNat).take ((cut160).toNat - ((0 : Int)).toNat))))) rfl (by kernel_rfl) (stepr (i := 0) rfl (by refine so_sslice rfl rfl rfl F57.sr9 rfl rfl c169 ?_; exact so_end ⟨rfl, rfl⟩)) fan ?_
          refine wf_pure rfl (by kernel_rfl) ?_
          refine so_move (v := (.v (.int .i64 y167))) rfl ?_
          refine so_end ?_
          have hs0_ := hs
          refine wf_chg (by kernel_rfl) ?_
          refine sv_call (spec_l01Dec_ok y167 hs  _ h) rfl rfl nofun ?_
          clear h
          rintro _ H171 ⟨y170, h, rfl, hs⟩
          refine so_end ⟨(fac (.inr (stepr (i := 0) rfl (by refine so_sslice rfl rfl rfl F57.sr9 rfl rfl c169 ?_; exact so_end ⟨rfl, rfl⟩))) (fac (.inr (stepr (i := 0) rfl (by refine sv_cell (hs.rshows 1 rfl) c161 ([] : List UInt8) 0 (fun x => (AV.str (pk x))) (fun _ => rfl) (fun _ => rfl) rfl F57.ag9 ?_; exact so_end ⟨rfl, rfl⟩))) (fac (.inr (stepr (i := 0) rfl (by refine sv_idx (hs.rshows 1 rfl) c161 (fun _ => rfl) (by decide) rfl rfl F57.tl28 ?_; exact so_end ⟨rfl, rfl⟩))) fan))), ?_⟩
          refine wf_pure rfl (by kernel_rfl) ?_
          refine so_bin rfl rfl ab_sneq ?_
          refine so_end ?_
          refine wf_nil ?_
          replace h := ofP h; rcases h with ⟨c172, h⟩ | ⟨c172, h⟩
          · refine fi_false rfl (not_f (decide_eq_true c172)) ?_
            refine fi_skip ?_
            refine fi_seq ?_
            refine fi_region ?_
            refine so_move (v := (.v v154)) rfl ?_
            refine so_move (v := (.v (.str (pk (((y101.getD (i157).toNat ([] : List UInt8)).drop ((IntKind.i64.wrap (cut160 + (1 : Int)))).toNat).take ((((y101.getD (i157).toNat ([] : List UInt8)).length : Int)).toNat - ((IntKind.i64.wrap (cut160 + (1 : Int)))).toNat)))))) rfl ?_
            refine sv_bslice hs eStr ([(((y101.getD (i157).toNat ([] : List UInt8)).drop ((IntKind.i64.wrap (cut160 + (1 : Int)))).toNat).take ((((y101.getD (i157).toNat ([] : List UInt8)).length : Int)).toNat - ((IntKind.i64.wrap (cut160 + (1 : Int)))).toNat))] : List (List UInt8)) [[(.str (pk (((y101.getD (i157).toNat ([] : List UInt8)).drop ((IntKind.i64.wrap (cut160 + (1 : Int)))).toNat).take ((((y101.getD (i157).toNat ([] : List UInt8)).length : Int)).toNat - ((IntKind.i64.wrap (cut160 + (1 : Int)))).toNat))))]] F57.te28 F57.sz9 F57.ze9 rfl rfl rfl rfl (fun _ => rfl) rfl (by decide) nofun (fun v173 H174 nv173 hs => ?_)
            obtain ⟨c178, h⟩ := h
            refine sv_app hs 1 rfl (hs.shows 0 rfl) (fun _ => rfl) (by decide) F57.ta28_28 (by decide) c178 rfl rfl nofun (fun v176 H177 kv176 hs => ?_)
            replace hs := hs.del 0
            have nv176 := kv176 nv154
            refine so_assign (v := (.v v176)) rfl ?_
            refine so_nil ?_
            refine fi_region ?_
            refine so_move (v := (.v (.int .i64 n156))) rfl ?_
            refine so_move (v := (.v v102)) rfl ?_
            refine so_move (v := (.v (.int .i64 i157))) rfl ?_
            refine sv_idx (hs.rshows 1 rfl) c161 (fun _ => rfl) (by decide) rfl rfl F57.tl28 ?_
            refine sv_cell (hs.rshows 1 rfl) c161 ([] : List UInt8) 0 (fun x => (AV.str (pk x))) (fun _ => rfl) (fun _ => rfl) rfl F57.ag9 ?_
            refine so_slen rfl F57.sr9 ?_
            refine so_bin rfl rfl ab_add ?_
            refine so_bin rfl rfl ab_add ?_
            refine so_assign (v := (.v (.int .i64 (IntKind.i64.wrap (n156 + (IntKind.i64.wrap (((y101.getD (i157).toNat ([] : List UInt8)).length : Int) + (1 : Int)))))))) rfl ?_
            refine so_nil ?_
            refine fi_inBlock ?_
            refine fi_region ?_
            refine so_move (v := (.v (.int .i64 i157))) rfl ?_
            refine so_bin rfl rfl ab_add ?_
            refine so_assign (v := (.v (.int .i64 (IntKind.i64.wrap (i157 + (1 : Int)))))) rfl ?_
            refine so_nil ?_
            exact fi_at [(4, (.v v102)), (6, (.v v176)), (7, (.v (.int .i64 y167))), (8, (.v (.int .i64 (IntKind.i64.wrap (n156 + (IntKind.i64.wrap (((y101.getD (i157).toNat ([] : List UInt8)).length : Int) + (1 : Int)))))))), (9, (.v (.int .i64 (IntKind.i64.wrap (i157 + (1 : Int))))))] ⟨rfl, rfl, rfl, rfl, rfl, trivial⟩ (h _ _ _ nv176 hs)
          · refine fi_true rfl (not_t (decide_eq_false c172)) ?_
            refine fi_exit rfl ?_
            refine fi_seq ?_
            refine fi_region ?_
            refine so_move (v := (.v v154)) rfl ?_
            refine so_move (v := (.v (.int .i64 n156))) rfl ?_
            refine so_assign (v := (.v v154)) rfl ?_
            refine so_assign (v := (.v (.int .i64 n156))) rfl ?_
            refine so_nil ?_
            exact by_ret rfl ⟨_, _, h, _, rfl, (Sep.del 1 hs)⟩
      · refine fi_true rfl (not_t (decide_eq_false c164)) ?_
        refine fi_skip ?_
        refine fi_block ?_
        refine fi_region ?_
        refine so_move (v := (.v (.int .i64 cut160))) rfl ?_
        refine so_bin rfl rfl ab_add ?_
        refine so_assign (v := (.v (.int .i64 (IntKind.i64.wrap (cut160 + (1 : Int)))))) rfl ?_
        refine so_nil ?_
        refine fi_inBlock ?_
        exact fi_at [(4, (.v v102)), (6, (.v v154)), (7, (.v (.int .i64 check155))), (8, (.v (.int .i64 n156))), (9, (.v (.int .i64 i157))), (10, (.v (.int .i64 (IntKind.i64.wrap (cut160 + (1 : Int))))))] ⟨rfl, rfl, rfl, rfl, rfl, rfl, trivial⟩ (h _ _  hs)
    · refine so_gno rfl (decide_eq_false c162) ?_
      refine so_gno rfl (decide_eq_false c162) ?_
      refine so_gno rfl (decide_eq_false c162) ?_
      refine so_gno rfl (decide_eq_false c162) ?_
      refine so_gno rfl (decide_eq_false c162) ?_
      refine so_gno rfl (decide_eq_false c162) ?_
      refine so_gno rfl (decide_eq_false c162) ?_
      refine so_pick_f (v := (.v (.bool false))) rfl (decide_eq_false c162) rfl ?_
      refine so_nil ?_
      refine fi_false rfl rfl ?_
      refine fi_exit rfl ?_
      refine fi_seq ?_
      refine fi_seq ?_
      refine fi_region ?_
      refine so_move (v := (.v (.int .i64 cut160))) rfl ?_
      refine so_move (v := (.v v102)) rfl ?_
      refine so_move (v := (.v (.int .i64 i157))) rfl ?_
      refine sv_idx (hs.rshows 1 rfl) c161 (fun _ => rfl) (by decide) rfl rfl F57.tl28 ?_
      refine sv_cell (hs.rshows 1 rfl) c161 ([] : List UInt8) 0 (fun x => (AV.str (pk x))) (fun _ => rfl) (fun _ => rfl) rfl F57.ag9 ?_
      refine so_slen rfl F57.sr9 ?_
      refine so_bin rfl rfl ab_eql ?_
      refine so_nil ?_
      replace h := ofP h; rcases h with ⟨c179, h⟩ | ⟨c179, h⟩
      · refine fi_true rfl (decide_eq_true c179) ?_
        refine fi_exit rfl ?_
        refine fi_seq ?_
        refine fi_region ?_
        refine so_move (v := (.v v154)) rfl ?_
        refine so_move (v := (.v (.int .i64 n156))) rfl ?_
        refine so_assign (v := (.v v154)) rfl ?_
        refine so_assign (v := (.v (.int .i64 n156))) rfl ?_
        refine so_nil ?_
        exact by_ret rfl ⟨_, _, h, _, rfl, (Sep.del 1 hs)⟩
      · refine fi_false rfl (decide_eq_false c179) ?_
        refine fi_skip ?_
        refine fi_seq ?_
        refine fi_region ?_
        refine so_move (v := (.v v102)) rfl ?_
        refine so_move (v := (.v (.int .i64 i157))) rfl ?_
        refine sv_idx (hs.rshows 1 rfl) c161 (fun _ => rfl) (by decide) rfl rfl F57.tl28 ?_
        refine sv_cell (hs.rshows 1 rfl) c161 ([] : List UInt8) 0 (fun x => (AV.str (pk x))) (fun _ => rfl) (fun _ => rfl) rfl F57.ag9 ?_
        refine so_move (v := (.v (.int .i64 cut160))) rfl ?_
        refine so_bin rfl rfl ab_add ?_
        obtain ⟨c180, h⟩ := h
        refine so_sslice rfl rfl rfl F57.sr9 rfl rfl c180 ?_
        refine so_assign (v := (.v (.str (pk (((y101.getD (i157).toNat ([] : List UInt8)).drop ((IntKind.i64.wrap (cut160 + (1 : Int)))).toNat).take ((((y101.getD (i157).toNat ([] : List UInt8)).length : Int)).toNat - ((IntKind.i64.wrap (cut160 + (1 : Int)))).toNat)))))) rfl ?_
        refine so_nil ?_
        refine fi_seq ?_
        refine fi_region ?_
        refine so_move (v := (.v (.int .i64 check155))) rfl ?_
        refine so_move (v := (.v (.str (pk (((y101.getD (i157).toNat ([] : List UInt8)).drop ((IntKind.i64.wrap (cut160 + (1 : Int)))).toNat).take ((((y101.getD (i157).toNat ([] : List UInt8)).length : Int)).toNat - ((IntKind.i64.wrap (cut160 + (1 : Int)))).toNat)))))) rfl ?_
        refine sv_callS (spec_l01Check_ok check155 (((y101.getD (i157).toNat ([] : List UInt8)).drop ((IntKind.i64.wrap (cut160 + (1 : Int)))).toNat).take ((((y101.getD (i157).toNat ([] : List UInt8)).length : Int)).toNat - ((IntKind.i64.wrap (cut160 + (1 : Int)))).toNat)) hs  _ h) (fun _ _ ⟨_, _, _, e⟩ => e) rfl rfl ?_
        clear h
        rintro _ _ ⟨y181, h, rfl, rfl⟩
        refine so_assign (v := (.v (.int .i64 y181))) rfl ?_
        refine so_nil ?_
        refine fi_seq ?_
        refine fi_seq ?_
        refine fi_free [2, 3, 5] ?_
        refine wf_pure rfl (by kernel_rfl) ?_
        refine so_move (v := (.v v102)) rfl ?_
        refine so_end ?_
        refine wf_pure rfl (by kernel_rfl) ?_
        refine so_move (v := (.v (.int .i64 i157))) rfl ?_
        refine so_end ?_
        refine wf_free (.v (.ptr v102.id0 (v102.of0 + (i157).toNat * 1))) rfl (by kernel_rfl) (stepr (i := 0) rfl (by refine sv_idx (hs.rshows 1 rfl) c161 (fun _ => rfl) (by decide) rfl rfl F57.tl28 ?_; exact so_end ⟨rfl, rfl⟩)) fan ?_
        refine wf_free (.v (.str (pk (y101.getD (i157).toNat ([] : List UInt8))))) rfl (by kernel_rfl) (stepr (i := 0) rfl (by refine sv_cell (hs.rshows 1 rfl) c161 ([] : List UInt8) 0 (fun x => (AV.str (pk x))) (fun _ => rfl) (fun _ => rfl) rfl F57.ag9 ?_; exact so_end ⟨rfl, rfl⟩)) fan ?_
        refine wf_pure rfl (by kernel_rfl) ?_
        refine so_move (v := (.v (.int .i64 cut160))) rfl ?_
        refine so_end ?_
        obtain ⟨c183, h⟩ := h
        refine wf_free (.v (.str (pk (((y101.getD (i157).toNat ([] : List UInt8)).drop ((0 : Int)).toNat).take ((cut160).toNat - ((0 : Int)).toNat))))) rfl (by kernel_rfl) (stepr (i := 0) rfl (by refine so_sslice rfl rfl rfl F57.sr9 rfl rfl c183 ?_; exact so_end ⟨rfl, rfl⟩)) fan ?_
        refine wf_pure rfl (by kernel_rfl) ?_
        refine so_move (v := (.v (.int .i64 y181))) rfl ?_
        refine so_end ?_
        have hs0_ := hs
        refine wf_chg (by kernel_rfl) ?_
        refine sv_call (spec_l01Dec_ok y181 hs  _ h) rfl rfl nofun ?_
        clear h
        rintro _ H185 ⟨y184, h, rfl, hs⟩
        refine so_end ⟨(fac (.inr (stepr (i := 0) rfl (by refine so_sslice rfl rfl rfl F57.sr9 rfl rfl c183 ?_; exact so_end ⟨rfl, rfl⟩))) (fac (.inr (stepr (i := 0) rfl (by refine sv_cell (hs.rshows 1 rfl) c161 ([] : List UInt8) 0 (fun x => (AV.str (pk x))) (fun _ => rfl) (fun _ => rfl) rfl F57.ag9 ?_; exact so_end ⟨rfl, rfl⟩))) (fac (.inr (stepr (i := 0) rfl (by refine sv_idx (hs.rshows 1 rfl) c161 (fun _ => rfl) (by decide) rfl rfl F57.tl28 ?_; exact so_end ⟨rfl, rfl⟩))) fan))), ?_⟩
        refine wf_pure rfl (by kernel_rfl) ?_
        refine so_bin rfl rfl ab_sneq ?_
        refine so_end ?_
        refine wf_nil ?_
        replace h := ofP h; rcases h with ⟨c186, h⟩ | ⟨c186, h⟩
        · refine fi_false rfl (not_f (decide_eq_true c186)) ?_
          refine fi_skip ?_
          refine fi_seq ?_
          refine fi_region ?_
          refine so_move (v := (.v v154)) rfl ?_
          refine so_move (v := (.v (.str (pk (((y101.getD (i157).toNat ([] : List UInt8)).drop ((IntKind.i64.wrap (cut160 + (1 : Int)))).toNat).take ((((y101.getD (i157).toNat ([] : List UInt8)).length : Int)).toNat - ((IntKind.i64.wrap (cut160 + (1 : Int)))).toNat)))))) rfl ?_
          refine sv_bslice hs eStr ([(((y101.getD (i157).toNat ([] : List UInt8)).drop ((IntKind.i64.wrap (cut160 + (1 : Int)))).toNat).take ((((y101.getD (i157).toNat ([] : List UInt8)).length : Int)).toNat - ((IntKind.i64.wrap (cut160 + (1 : Int)))).toNat))] : List (List UInt8)) [[(.str (pk (((y101.getD (i157).toNat ([] : List UInt8)).drop ((IntKind.i64.wrap (cut160 + (1 : Int)))).toNat).take ((((y101.getD (i157).toNat ([] : List UInt8)).length : Int)).toNat - ((IntKind.i64.wrap (cut160 + (1 : Int)))).toNat))))]] F57.te28 F57.sz9 F57.ze9 rfl rfl rfl rfl (fun _ => rfl) rfl (by decide) nofun (fun v187 H188 nv187 hs => ?_)
          obtain ⟨c192, h⟩ := h
          refine sv_app hs 1 rfl (hs.shows 0 rfl) (fun _ => rfl) (by decide) F57.ta28_28 (by decide) c192 rfl rfl nofun (fun v190 H191 kv190 hs => ?_)
          replace hs := hs.del 0
          have nv190 := kv190 nv154
          refine so_assign (v := (.v v190)) rfl ?_
          refine so_nil ?_
          refine fi_region ?_
          refine so_move (v := (.v (.int .i64 n156))) rfl ?_
          refine so_move (v := (.v v102)) rfl ?_
          refine so_move (v := (.v (.int .i64 i157))) rfl ?_
          refine sv_idx (hs.rshows 1 rfl) c161 (fun _ => rfl) (by decide) rfl rfl F57.tl28 ?_
          refine sv_cell (hs.rshows 1 rfl) c161 ([] : List UInt8) 0 (fun x => (AV.str (pk x))) (fun _ => rfl) (fun _ => rfl) rfl F57.ag9 ?_
          refine so_slen rfl F57.sr9 ?_
          refine so_bin rfl rfl ab_add ?_
          refine so_bin rfl rfl ab_add ?_
          refine so_assign (v := (.v (.int .i64 (IntKind.i64.wrap (n156 + (IntKind.i64.wrap (((y101.getD (i157).toNat ([] : List UInt8)).length : Int) + (1 : Int)))))))) rfl ?_
          refine so_nil ?_
          refine fi_inBlock ?_
          refine fi_region ?_
          refine so_move (v := (.v (.int .i64 i157))) rfl ?_
          refine so_bin rfl rfl ab_add ?_
          refine so_assign (v := (.v (.int .i64 (IntKind.i64.wrap (i157 + (1 : Int)))))) rfl ?_
          refine so_nil ?_
          exact fi_at [(4, (.v v102)), (6, (.v v190)), (7, (.v (.int .i64 y181))), (8, (.v (.int .i64 (IntKind.i64.wrap (n156 + (IntKind.i64.wrap (((y101.getD (i157).toNat ([] : List UInt8)).length : Int) + (1 : Int)))))))), (9, (.v (.int .i64 (IntKind.i64.wrap (i157 + (1 : Int))))))] ⟨rfl, rfl, rfl, rfl, rfl, trivial⟩ (h _ _ _ nv190 hs)
        · refine fi_true rfl (not_t (decide_eq_false c186)) ?_
          refine fi_exit rfl ?_
          refine fi_seq ?_
          refine fi_region ?_
          refine so_move (v := (.v v154)) rfl ?_
          refine so_move (v := (.v (.int .i64 n156))) rfl ?_
          refine so_assign (v := (.v v154)) rfl ?_
          refine so_assign (v := (.v (.int .i64 n156))) rfl ?_
          refine so_nil ?_
          exact by_ret rfl ⟨_, _, h, _, rfl, (Sep.del 1 hs)⟩
  · refine fi_false rfl (decide_eq_false c158) ?_
    refine fi_exit rfl ?_
    refine fi_seq ?_
    refine fi_region ?_
    refine so_move (v := (.v v154)) rfl ?_
    refine so_move (v := (.v (.int .i64 n156))) rfl ?_
    refine so_assign (v := (.v v154)) rfl ?_
    refine so_assign (v := (.v (.int .i64 n156))) rfl ?_
    refine so_nil ?_
    exact by_ret rfl ⟨_, _, h, _, rfl, (Sep.del 1 hs)⟩

end Go.Proofs.YtcgiboeilcdonaaDoor.G

namespace Go.Proofs.YtcgiboeilcdonaaDoor.G
open Go Go.Ab Go.Proofs Go.Proofs.YtcgiboeilcdonaaDoor
set_option maxRecDepth 100000
set_option linter.unusedVariables false
set_option linter.unusedSimpArgs false
set_option maxHeartbeats 1000000
attribute [local irreducible] wops wopf Go.Ab.Fin
theorem F21.sr9 : tstr Tryd.prog 9 = true := by kernel_rfl
theorem spec_RecoverJournal_ok {fr : List Pc} {H : Heap} (a0 : List UInt8) (hs : Sep H (fr))  (K : (List (List UInt8)) → Int → Bool → Prop) (h : spec_RecoverJournal.wp a0 K) : OkQ Tryd.prog 21 [(.v (.str (pk a0)))] H (fun r H2 => ∃ (y0 : List (List UInt8)) (y1 : Int) (y2 : Bool), K y0 y1 y2 ∧ ∃ (w0_ : AV), r = (.t [(.v w0_), (.v (.int .i64 y1)), (.v (.bool y2))]) ∧ Sep H2 (Pc.osl w0_ 1 (enc eStr y0) :: fr)) := by
  unfold spec_RecoverJournal.wp at h
  refine of_body Tryd.f21 F.hm Tryd.func21 rfl Tryd.call21 (by kernel_rfl) (by simp) ?_
  refine fi_seq ?_
  refine fi_region ?_
  refine so_assign (v := (.v .nilsl)) rfl ?_
  refine so_assign (v := (.v (.int .i64 (0 : Int)))) rfl ?_
  refine so_assign (v := (.v (.bool false))) rfl ?_
  refine so_nil ?_
  refine fi_seq ?_
  refine fi_seq ?_
  refine fi_region ?_
  refine so_move (v := (.v (.str (pk a0)))) rfl ?_
  refine so_slen rfl F21.sr9 ?_
  refine so_bin rfl rfl ab_gtr ?_
  refine so_nil ?_
  replace h := ofP h; rcases h with ⟨c101, h⟩ | ⟨c101, h⟩
  · refine fi_true rfl (decide_eq_true c101) ?_
    refine fi_seq ?_
    refine fi_region ?_
    refine so_assign (v := (.v .nilsl)) rfl ?_
    refine so_assign (v := (.v (.int .i64 (0 : Int)))) rfl ?_
    refine so_assign (v := (.v (.bool false))) rfl ?_
    refine so_nil ?_
    exact by_ret rfl ⟨_, _, _, h, _, rfl, (Sep.nil hs 1)⟩
  · refine fi_false rfl (decide_eq_false c101) ?_
    refine fi_skip ?_
    refine fi_seq ?_
    refine fi_region ?_
    refine so_move (v := (.v (.str (pk a0)))) rfl ?_
    refine sv_call (spec_l08Recover_ok a0 hs  _ h) rfl rfl nofun ?_
    clear h hs
    rintro _ H106 ⟨y102, y105, h, v103, rfl, hs⟩
    refine so_move (v := (.t [(.v v103), (.v (.int .i64 y105))])) rfl ?_
    refine so_extract rfl rfl rfl ?_
    refine so_extract rfl rfl rfl ?_
    refine so_assign (v := (.v v103)) rfl ?_
    refine so_assign (v := (.v (.int .i64 y105))) rfl ?_
    refine so_nil ?_
    refine fi_seq ?_
    refine fi_region ?_
    refine so_move (v := (.v v103)) rfl ?_
    refine so_move (v := (.v (.int .i64 y105))) rfl ?_
    refine so_assign (v := (.v v103)) rfl ?_
    refine so_assign (v := (.v (.int .i64 y105))) rfl ?_
    refine so_assign (v := (.v (.bool true))) rfl ?_
    refine so_nil ?_
    exact by_ret rfl ⟨_, _, _, h, _, rfl, hs⟩

end Go.Proofs.YtcgiboeilcdonaaDoor.G

namespace Go.Proofs.YtcgiboeilcdonaaDoor.G
open Go Go.Ab Go.Proofs Go.Proofs.YtcgiboeilcdonaaDoor
set_option maxRecDepth 100000
set_option linter.unusedVariables false
set_option linter.unusedSimpArgs false
set_option maxHeartbeats 1000000
attribute [local irreducible] wops wopf Go.Ab.Fin
theorem strings_IndexByte_ok {fr : List Pc} {H : Heap} (a0 : List UInt8) (a1 : Int) (hs : Sep H fr) (K : Int → Prop) (h : strings_IndexByte.wp a0 a1 K) : OkQ Tryd.prog 100 [.v (.str (pk a0)), .v (.int .u8 a1)] H (fun r H2 => ∃ (y0 : Int), K y0 ∧ r = (.v (.int .i64 y0)) ∧ H = H2) := by
  skip
  exact ⟨.v (.int .i64 (Lib.indexByte a0 a1.toNat.toUInt8)), _, ok_lib [.string (pk a0), .int .u8 a1] (.int .i64 (Lib.indexByte a0 a1.toNat.toUInt8)) Tryd.call100 (args_sb _ _ _) (fun β => rfl) (fun w => Any.strings_IndexByte Tryd.lays137 (pk a0) a1 w), _, h, rfl, rfl⟩

end Go.Proofs.YtcgiboeilcdonaaDoor.G

namespace Go.Proofs.YtcgiboeilcdonaaDoor.G
open Go Go.Ab Go.Proofs Go.Proofs.YtcgiboeilcdonaaDoor
set_option maxRecDepth 100000
set_option linter.unusedVariables false
set_option linter.unusedSimpArgs false
set_option maxHeartbeats 1000000
attribute [local irreducible] wops wopf Go.Ab.Fin
theorem impl_within_ok {fr : List Pc} {H : Heap} (a0 : Int) (a1 : Int) (a2 : Int) (hs : Sep H (fr))  (K : Bool → Prop) (h : impl_within.wp a0 a1 a2 K) : OkQ Tryd.prog 96 [(.v (.int .i64 a0)), (.v (.int .i64 a1)), (.v (.int .i64 a2))] H (fun r H2 => ∃ (y0 : Bool), K y0 ∧ r = (.v (.bool y0)) ∧ H = H2) := by
  unfold impl_within.wp at h
  refine of_body Tryd.f96 F.hm Tryd.func96 rfl Tryd.call96 (by kernel_rfl) (by simp) ?_
  refine fi_seq ?_
  refine fi_region ?_
  refine so_assign (v := (.v (.bool false))) rfl ?_
  refine so_nil ?_
  refine fi_seq ?_
  refine fi_region ?_
  refine so_move (v := (.v (.int .i64 a0))) rfl ?_
  refine so_move (v := (.v (.int .i64 a1))) rfl ?_
  refine so_bin rfl rfl ab_geq ?_
  refine so_move (v := (.v (.bool (decide (a1 ≤ a0))))) rfl ?_
  replace h := ofP h; rcases h with ⟨c101, h⟩ | ⟨c101, h⟩
  · refine so_gyes rfl (decide_eq_true c101) ?_
    refine so_move (v := (.v (.int .i64 a0))) rfl ?_
    refine so_gyes rfl (decide_eq_true c101) ?_
    refine so_move (v := (.v (.int .i64 a2))) rfl ?_
    refine so_gyes rfl (decide_eq_true c101) ?_
    refine so_bin rfl rfl ab_leq ?_
    refine so_pick_t (v := (.v (.bool (decide (a0 ≤ a2))))) rfl (decide_eq_true c101) rfl ?_
    refine so_assign (v := (.v (.bool (decide (a0 ≤ a2))))) rfl ?_
    refine so_nil ?_
    exact by_ret rfl ⟨_, h, rfl, rfl⟩
  · refine so_gno rfl (decide_eq_false c101) ?_
    refine so_gno rfl (decide_eq_false c101) ?_
    refine so_gno rfl (decide_eq_false c101) ?_
    refine so_pick_f (v := (.v (.bool false))) rfl (decide_eq_false c101) rfl ?_
    refine so_assign (v := (.v (.bool false))) rfl ?_
    refine so_nil ?_
    exact by_ret rfl ⟨_, h, rfl, rfl⟩

end Go.Proofs.YtcgiboeilcdonaaDoor.G

namespace Go.Proofs.YtcgiboeilcdonaaDoor.G
open Go Go.Ab Go.Proofs Go.Proofs.YtcgiboeilcdonaaDoor
set_option maxRecDepth 100000
set_option linter.unusedVariables false
set_option linter.unusedSimpArgs false
set_option maxHeartbeats 1000000
attribute [local irreducible] wops wopf Go.Ab.Fin
theorem F52.it2 : tint Tryd.prog 2 = some .i64 := by kernel_rfl
theorem F52.sr9 : tstr Tryd.prog 9 = true := by kernel_rfl
theorem F52.us5 : (Tryd.prog.underlying 5).isSome = true := by kernel_rfl
theorem impl_CheckOf_ok {fr : List Pc} {H : Heap} (a0 : Int) (a1 : List UInt8) (hs : Sep H (fr))  (K : Int → Bool → Prop) (h : impl_CheckOf.wp a0 a1 K) : OkQ Tryd.prog 52 [(.v (.int .i64 a0)), (.v (.str (pk a1)))] H (fun r H2 => ∃ (y0 : Int) (y1 : Bool), K y0 y1 ∧ r = (.t [(.v (.int .i64 y0)), (.v (.bool y1))]) ∧ H = H2) := by
  unfold impl_CheckOf.wp at h
  refine of_body Tryd.f52 F.hm Tryd.func52 rfl Tryd.call52 (by kernel_rfl) (by simp) ?_
  refine fi_seq ?_
  refine fi_region ?_
  refine so_assign (v := (.v (.int .i64 (0 : Int)))) rfl ?_
  refine so_assign (v := (.v (.bool false))) rfl ?_
  refine so_nil ?_
  refine fi_seq ?_
  refine fi_seq ?_
  refine fi_region ?_
  refine so_move (v := (.v (.int .i64 a0))) rfl ?_
  refine sv_callS (impl_within_ok a0 (0 : Int) (65002 : Int) hs  _ h) (fun _ _ ⟨_, _, _, e⟩ => e) rfl rfl ?_
  clear h
  rintro _ _ ⟨y101, h, rfl, rfl⟩
  refine so_un rfl au_not ?_
  refine so_nil ?_
  replace h := ofT h; rcases h with ⟨c103, h⟩ | ⟨c103, h⟩
  · refine fi_false rfl (not_f c103) ?_
    refine fi_skip ?_
    refine fi_seq ?_
    refine fi_seq ?_
    refine fi_region ?_
    refine so_move (v := (.v (.str (pk a1)))) rfl ?_
    refine so_slen rfl F52.sr9 ?_
    refine so_move (v := (.v (.int .i64 (0 : Int)))) rfl ?_
    refine so_nil ?_
    refine fi_block ?_
    refine fi_loop ?_
    refine fi_at [(0, (.v (.int .i64 a0))), (1, (.v (.str (pk a1)))), (11, (.v (.int .i64 (a1.length : Int)))), (12, (.v (.int .i64 (0 : Int))))] ⟨rfl, rfl, rfl, rfl, trivial⟩ ?_
    refine h (fun (start105 : Int) (x106 : Int) => ∀ (s : Nat → TV), Fin _ _ (updL s [(0, (.v (.int .i64 start105))), (1, (.v (.str (pk a1)))), (11, (.v (.int .i64 (a1.length : Int)))), (12, (.v (.int .i64 x106)))]) _ _) ?_ _
    intro start105 x106 h s109
    refine fi_inLoop ?_
    refine fi_seq ?_
    refine fi_region ?_
    refine so_bin rfl rfl ab_lss ?_
    refine so_nil ?_
    refine fi_seq ?_
    replace h := ofP h; rcases h with ⟨c107, h⟩ | ⟨c107, h⟩
    · refine fi_true rfl (decide_eq_true c107) ?_
      refine fi_skip ?_
      refine fi_seq ?_
      refine fi_block ?_
      refine fi_seq ?_
      refine fi_region ?_
      refine so_move (v := (.v (.int .i64 x106))) rfl ?_
      refine so_assign (v := (.v (.int .i64 x106))) rfl ?_
      refine so_nil ?_
      refine fi_region ?_
      refine so_move (v := (.v (.int .i64 start105))) rfl ?_
      refine so_bin rfl rfl ab_mul ?_
      refine so_move (v := (.v (.str (pk a1)))) rfl ?_
      refine so_move (v := (.v (.int .i64 x106))) rfl ?_
      obtain ⟨c108, h⟩ := h
      refine so_index rfl rfl F52.sr9 c108 ?_
      refine sv_ii rfl F52.us5 F52.it2 ?_
      refine so_bin rfl rfl ab_add ?_
      refine so_bin rfl rfl ab_add ?_
      refine so_bin rfl rfl (ab_rem (by decide)) ?_
      refine so_assign (v := (.v (.int .i64 (Int.tmod (IntKind.i64.wrap ((IntKind.i64.wrap ((IntKind.i64.wrap ((853 : Int) * start105)) + (IntKind.i64.wrap (bt a1 x106)))) + (139 : Int))) (65003 : Int))))) rfl ?_
      refine so_nil ?_
      refine fi_inBlock ?_
      refine fi_region ?_
      refine so_bin rfl rfl ab_add ?_
      refine so_move (v := (.v (.int .i64 (IntKind.i64.wrap (x106 + (1 : Int)))))) rfl ?_
      refine so_nil ?_
      exact fi_at [(0, (.v (.int .i64 (Int.tmod (IntKind.i64.wrap ((IntKind.i64.wrap ((IntKind.i64.wrap ((853 : Int) * start105)) + (IntKind.i64.wrap (bt a1 x106)))) + (139 : Int))) (65003 : Int))))), (1, (.v (.str (pk a1)))), (11, (.v (.int .i64 (a1.length : Int)))), (12, (.v (.int .i64 (IntKind.i64.wrap (x106 + (1 : Int))))))] ⟨rfl, rfl, rfl, rfl, trivial⟩ (h _)
    · refine fi_false rfl (decide_eq_false c107) ?_
      refine fi_exit rfl ?_
      refine fi_seq ?_
      refine fi_region ?_
      refine so_move (v := (.v (.int .i64 start105))) rfl ?_
      refine so_assign (v := (.v (.int .i64 start105))) rfl ?_
      refine so_assign (v := (.v (.bool true))) rfl ?_
      refine so_nil ?_
      exact by_ret rfl ⟨_, _, h, rfl, rfl⟩
  · refine fi_true rfl (not_t c103) ?_
    refine fi_seq ?_
    refine fi_region ?_
    refine so_assign (v := (.v (.int .i64 (0 : Int)))) rfl ?_
    refine so_assign (v := (.v (.bool false))) rfl ?_
    refine so_nil ?_
    exact by_ret rfl ⟨_, _, h, rfl, rfl⟩

end Go.Proofs.YtcgiboeilcdonaaDoor.G

namespace Go.Proofs.YtcgiboeilcdonaaDoor.G
open Go Go.Ab Go.Proofs Go.Proofs.YtcgiboeilcdonaaDoor
set_option maxRecDepth 100000
set_option linter.unusedVariables false
set_option linter.unusedSimpArgs false
set_option maxHeartbeats 1000000
attribute [local irreducible] wops wopf Go.Ab.Fin
theorem internal_strconv_FormatInt_ok {fr : List Pc} {H : Heap} (a0 : Int) (a1 : Int) (hs : Sep H fr) (gt4 : ∀ H, Sep H fr → HasTab 4 F.tab4 H) (K : List UInt8 → Prop) (h : internal_strconv_FormatInt.wp a0 a1 K) : OkQ Tryd.prog 128 [.v (.int .i64 a0), .v (.int .i64 a1)] H (fun r H2 => ∃ (y0 : List UInt8), K y0 ∧ r = (.v (.str (pk y0))) ∧ H = H2) := by
  obtain ⟨rfl, h0, h⟩ := h
  exact ⟨.v (.str (pk (Lib.itoa a0))), _, ok_libG [.int .i64 a0, .int .i64 10] (.string (pk (Lib.itoa a0))) Tryd.call128 (args_ii _ _ _ _) (fun β => rfl) (fun β w hw => by
    obtain ⟨o, ho1, ho2⟩ := (gt4 H hs).heap hw
    exact Any.internal_strconv_FormatInt_10 Tryd.laysM246 a0 h0.1 h0.2 w (ho2 w ho1)), _, h, rfl, rfl⟩

end Go.Proofs.YtcgiboeilcdonaaDoor.G

namespace Go.Proofs.YtcgiboeilcdonaaDoor.G
open Go Go.Ab Go.Proofs Go.Proofs.YtcgiboeilcdonaaDoor
set_option maxRecDepth 100000
set_option linter.unusedVariables false
set_option linter.unusedSimpArgs false
set_option maxHeartbeats 1000000
attribute [local irreducible] wops wopf Go.Ab.Fin
theorem strconv_FormatInt_ok {fr : List Pc} {H : Heap} (a0 : Int) (a1 : Int) (hs : Sep H (fr)) (gt4 : ∀ H, Sep H fr → HasTab 4 F.tab4 H) (K : (List UInt8) → Prop) (h : strconv_FormatInt.wp a0 a1 K) : OkQ Tryd.prog 98 [(.v (.int .i64 a0)), (.v (.int .i64 a1))] H (fun r H2 => ∃ (y0 : List UInt8), K y0 ∧ r = (.v (.str (pk y0))) ∧ H = H2) := by
  unfold strconv_FormatInt.wp at h
  refine of_body Tryd.f98 F.hm Tryd.func98 rfl Tryd.call98 (by kernel_rfl) (by simp) ?_
  refine fi_seq ?_
  refine fi_region ?_
  refine so_assign (v := (.v (.str (pk ([] : List UInt8))))) rfl ?_
  refine so_nil ?_
  refine fi_seq ?_
  refine fi_region ?_
  refine so_move (v := (.v (.int .i64 a0))) rfl ?_
  refine so_move (v := (.v (.int .i64 a1))) rfl ?_
  refine sv_callS (internal_strconv_FormatInt_ok a0 a1 hs (fun _ hs => gt4 _ hs) _ h) (fun _ _ ⟨_, _, _, e⟩ => e) rfl rfl ?_
  clear h
  rintro _ _ ⟨y101, h, rfl, rfl⟩
  refine so_assign (v := (.v (.str (pk y101)))) rfl ?_
  refine so_nil ?_
  exact by_ret rfl ⟨_, h, rfl, rfl⟩

end Go.Proofs.YtcgiboeilcdonaaDoor.G

namespace Go.Proofs.YtcgiboeilcdonaaDoor.G
open Go Go.Ab Go.Proofs Go.Proofs.YtcgiboeilcdonaaDoor
set_option maxRecDepth 100000
set_option linter.unusedVariables false
set_option linter.unusedSimpArgs false
set_option maxHeartbeats 1000000
attribute [local irreducible] wops wopf Go.Ab.Fin
theorem impl_Decimal_ok {fr : List Pc} {H : Heap} (a0 : Int) (hs : Sep H (fr)) (gt4 : ∀ H, Sep H fr → HasTab 4 F.tab4 H) (K : (List UInt8) → Prop) (h : impl_Decimal.wp a0 K) : OkQ Tryd.prog 54 [(.v (.int .i64 a0))] H (fun r H2 => ∃ (y0 : List UInt8), K y0 ∧ r = (.v (.str (pk y0))) ∧ H = H2) := by
  unfold impl_Decimal.wp at h
  refine of_body Tryd.f54 F.hm Tryd.func54 rfl Tryd.call54 (by kernel_rfl) (by simp) ?_
  refine fi_seq ?_
  refine fi_region ?_
  refine so_assign (v := (.v (.str (pk ([] : List UInt8))))) rfl ?_
  refine so_nil ?_
  refine fi_seq ?_
  refine fi_region ?_
  refine so_move (v := (.v (.int .i64 a0))) rfl ?_
  refine sv_callS (strconv_FormatInt_ok a0 (10 : Int) hs (fun _ hs => gt4 _ hs) _ h) (fun _ _ ⟨_, _, _, e⟩ => e) rfl rfl ?_
  clear h
  rintro _ _ ⟨y101, h, rfl, rfl⟩
  refine so_assign (v := (.v (.str (pk y101)))) rfl ?_
  refine so_nil ?_
  exact by_ret rfl ⟨_, h, rfl, rfl⟩

end Go.Proofs.YtcgiboeilcdonaaDoor.G

namespace Go.Proofs.YtcgiboeilcdonaaDoor.G
open Go Go.Ab Go.Proofs Go.Proofs.YtcgiboeilcdonaaDoor
set_option maxRecDepth 100000
set_option linter.unusedVariables false
set_option linter.unusedSimpArgs false
set_option maxHeartbeats 1000000
attribute [local irreducible] wops wopf Go.Ab.Fin
theorem internal_stringslite_Index_ok {fr : List Pc} {H : Heap} (a0 : List UInt8) (a1 : List UInt8) (hs : Sep H fr) (K : Int → Prop) (h : internal_stringslite_Index.wp a0 a1 K) : OkQ Tryd.prog 126 [.v (.str (pk a0)), .v (.str (pk a1))] H (fun r H2 => ∃ (y0 : Int), K y0 ∧ r = (.v (.int .i64 y0)) ∧ H = H2) := by
  obtain ⟨c, rfl, h⟩ := h
  exact ⟨.v (.int .i64 (Lib.indexByte a0 c)), _, ok_lib [.string (pk a0), .string (pk [c])] (.int .i64 (Lib.indexByte a0 c)) Tryd.call126 (args_ss _ _) (fun β => rfl) (fun w => Any.stringslite_Index_one Tryd.lays219 (pk a0) c w), _, h, rfl, rfl⟩

end Go.Proofs.YtcgiboeilcdonaaDoor.G

namespace Go.Proofs.YtcgiboeilcdonaaDoor.G
open Go Go.Ab Go.Proofs Go.Proofs.YtcgiboeilcdonaaDoor
set_option maxRecDepth 100000
set_option linter.unusedVariables false
set_option linter.unusedSimpArgs false
set_option maxHeartbeats 1000000
attribute [local irreducible] wops wopf Go.Ab.Fin
theorem F108.sr9 : tstr Tryd.prog 9 = true := by kernel_rfl
theorem internal_stringslite_Cut_ok {fr : List Pc} {H : Heap} (a0 : List UInt8) (a1 : List UInt8) (hs : Sep H (fr))  (K : (List UInt8) → (List UInt8) → Bool → Prop) (h : internal_stringslite_Cut.wp a0 a1 K) : OkQ Tryd.prog 108 [(.v (.str (pk a0))), (.v (.str (pk a1)))] H (fun r H2 => ∃ (y0 : List UInt8) (y1 : List UInt8) (y2 : Bool), K y0 y1 y2 ∧ r = (.t [(.v (.str (pk y0))), (.v (.str (pk y1))), (.v (.bool y2))]) ∧ H = H2) := by
  unfold internal_stringslite_Cut.wp at h
  refine of_body Tryd.f108 F.hm Tryd.func108 rfl Tryd.call108 (by kernel_rfl) (by simp) ?_
  refine fi_seq ?_
  refine fi_region ?_
  refine so_assign (v := (.v (.str (pk ([] : List UInt8))))) rfl ?_
  refine so_assign (v := (.v (.str (pk ([] : List UInt8))))) rfl ?_
  refine so_assign (v := (.v (.bool false))) rfl ?_
  refine so_nil ?_
  refine fi_seq ?_
  refine fi_seq ?_
  refine fi_region ?_
  refine so_move (v := (.v (.str (pk a0)))) rfl ?_
  refine so_move (v := (.v (.str (pk a1)))) rfl ?_
  refine sv_callS (internal_stringslite_Index_ok a0 a1 hs  _ h) (fun _ _ ⟨_, _, _, e⟩ => e) rfl rfl ?_
  clear h
  rintro _ _ ⟨y101, h, rfl, rfl⟩
  refine so_assign (v := (.v (.int .i64 y101))) rfl ?_
  refine so_nil ?_
  refine fi_seq ?_
  refine fi_region ?_
  refine so_move (v := (.v (.int .i64 y101))) rfl ?_
  refine so_bin rfl rfl ab_geq ?_
  refine so_nil ?_
  replace h := ofP h; rcases h with ⟨c103, h⟩ | ⟨c103, h⟩
  · refine fi_true rfl (decide_eq_true c103) ?_
    refine fi_seq ?_
    refine fi_region ?_
    refine so_move (v := (.v (.str (pk a0)))) rfl ?_
    refine so_move (v := (.v (.int .i64 y101))) rfl ?_
    obtain ⟨c104, h⟩ := h
    refine so_sslice rfl rfl rfl F108.sr9 rfl rfl c104 ?_
    refine so_move (v := (.v (.str (pk a0)))) rfl ?_
    refine so_move (v := (.v (.int .i64 y101))) rfl ?_
    refine so_move (v := (.v (.str (pk a1)))) rfl ?_
    refine so_slen rfl F108.sr9 ?_
    refine so_bin rfl rfl ab_add ?_
    obtain ⟨c105, h⟩ := h
    refine so_sslice rfl rfl rfl F108.sr9 rfl rfl c105 ?_
    refine so_assign (v := (.v (.str (pk ((a0.drop ((0 : Int)).toNat).take ((y101).toNat - ((0 : Int)).toNat)))))) rfl ?_
    refine so_assign (v := (.v (.str (pk ((a0.drop ((IntKind.i64.wrap (y101 + (a1.length : Int)))).toNat).take (((a0.length : Int)).toNat - ((IntKind.i64.wrap (y101 + (a1.length : Int)))).toNat)))))) rfl ?_
    refine so_assign (v := (.v (.bool true))) rfl ?_
    refine so_nil ?_
    exact by_ret rfl ⟨_, _, _, h, rfl, rfl⟩
  · refine fi_false rfl (decide_eq_false c103) ?_
    refine fi_skip ?_
    refine fi_seq ?_
    refine fi_region ?_
    refine so_move (v := (.v (.str (pk a0)))) rfl ?_
    refine so_assign (v := (.v (.str (pk a0)))) rfl ?_
    refine so_assign (v := (.v (.str (pk ([] : List UInt8))))) rfl ?_
    refine so_assign (v := (.v (.bool false))) rfl ?_
    refine so_nil ?_
    exact by_ret rfl ⟨_, _, _, h, rfl, rfl⟩

end Go.Proofs.YtcgiboeilcdonaaDoor.G

namespace Go.Proofs.YtcgiboeilcdonaaDoor.G
open Go Go.Ab Go.Proofs Go.Proofs.YtcgiboeilcdonaaDoor
set_option maxRecDepth 100000
set_option linter.unusedVariables false
set_option linter.unusedSimpArgs false
set_option maxHeartbeats 1000000
attribute [local irreducible] wops wopf Go.Ab.Fin
theorem strings_Cut_ok {fr : List Pc} {H : Heap} (a0 : List UInt8) (a1 : List UInt8) (hs : Sep H (fr))  (K : (List UInt8) → (List UInt8) → Bool → Prop) (h : strings_Cut.wp a0 a1 K) : OkQ Tryd.prog 68 [(.v (.str (pk a0))), (.v (.str (pk a1)))] H (fun r H2 => ∃ (y0 : List UInt8) (y1 : List UInt8) (y2 : Bool), K y0 y1 y2 ∧ r = (.t [(.v (.str (pk y0))), (.v (.str (pk y1))), (.v (.bool y2))]) ∧ H = H2) := by
  unfold strings_Cut.wp at h
  refine of_body Tryd.f68 F.hm Tryd.func68 rfl Tryd.call68 (by kernel_rfl) (by simp) ?_
  refine fi_seq ?_
  refine fi_region ?_
  refine so_assign (v := (.v (.str (pk ([] : List UInt8))))) rfl ?_
  refine so_assign (v := (.v (.str (pk ([] : List UInt8))))) rfl ?_
  refine so_assign (v := (.v (.bool false))) rfl ?_
  refine so_nil ?_
  refine fi_seq ?_
  refine fi_region ?_
  refine so_move (v := (.v (.str (pk a0)))) rfl ?_
  refine so_move (v := (.v (.str (pk a1)))) rfl ?_
  refine sv_callS (internal_stringslite_Cut_ok a0 a1 hs  _ h) (fun _ _ ⟨_, _, _, _, _, e⟩ => e) rfl rfl ?_
  clear h
  rintro _ _ ⟨y101, y102, y103, h, rfl, rfl⟩
  refine so_extract rfl rfl rfl ?_
  refine so_extract rfl rfl rfl ?_
  refine so_extract rfl rfl rfl ?_
  refine so_assign (v := (.v (.str (pk y101)))) rfl ?_
  refine so_assign (v := (.v (.str (pk y102)))) rfl ?_
  refine so_assign (v := (.v (.bool y103))) rfl ?_
  refine so_nil ?_
  exact by_ret rfl ⟨_, _, _, h, rfl, rfl⟩

end Go.Proofs.YtcgiboeilcdonaaDoor.G

namespace Go.Proofs.YtcgiboeilcdonaaDoor.G
open Go Go.Ab Go.Proofs Go.Proofs.YtcgiboeilcdonaaDoor
set_option maxRecDepth 100000
set_option linter.unusedVariables false
set_option linter.unusedSimpArgs false
set_option maxHeartbeats 1000000
attribute [local irreducible] wops wopf Go.Ab.Fin
theorem F58.sr9 : tstr Tryd.prog 9 = true := by kernel_rfl
theorem F58.sz9 : tsz Tryd.prog 9 = some 1 := by kernel_rfl
theorem F58.ta28_28 : tapp Tryd.prog 28 28 = some (1, 16) := by kernel_rfl
theorem F58.te28 : telem Tryd.prog 28 = some 9 := by kernel_rfl
theorem F58.ze9 : tzero Tryd.prog 9 = some [(.str (pk ([] : List UInt8)))] := by kernel_rfl
theorem impl_recovered_ok {fr : List Pc} {H : Heap} (a0 : List UInt8) (hs : Sep H (fr)) (gt4 : ∀ H, Sep H fr → HasTab 4 F.tab4 H) (K : (List (List UInt8)) → Int → Prop) (h : impl_recovered.wp a0 K) : OkQ Tryd.prog 58 [(.v (.str (pk a0)))] H (fun r H2 => ∃ (y0 : List (List UInt8)) (y1 : Int), K y0 y1 ∧ ∃ (w0_ : AV), r = (.t [(.v w0_), (.v (.int .i64 y1))]) ∧ Sep H2 (Pc.osl w0_ 1 (enc eStr y0) :: fr)) := by
  unfold impl_recovered.wp at h
  refine of_body Tryd.f58 F.hm Tryd.func58 rfl Tryd.call58 (by kernel_rfl) (by simp) ?_
  refine fi_seq ?_
  refine fi_region ?_
  refine so_assign (v := (.v .nilsl)) rfl ?_
  refine so_assign (v := (.v (.int .i64 (0 : Int)))) rfl ?_
  refine so_nil ?_
  refine fi_seq ?_
  refine fi_region ?_
  refine sv_bslice hs eStr ([] : List (List UInt8)) [] F58.te28 F58.sz9 F58.ze9 rfl rfl rfl rfl (fun _ => rfl) rfl (by decide) nofun (fun v101 H102 nv101 hs => ?_)
  refine so_assign (v := (.v v101)) rfl ?_
  refine so_nil ?_
  refine fi_seq ?_
  refine fi_region ?_
  refine so_assign (v := (.v (.int .i64 (0 : Int)))) rfl ?_
  refine so_nil ?_
  refine fi_seq ?_
  refine fi_region ?_
  refine so_assign (v := (.v (.int .i64 (0 : Int)))) rfl ?_
  refine so_nil ?_
  refine fi_block ?_
  refine fi_loop ?_
  refine fi_at [(0, (.v (.str (pk a0)))), (4, (.v v101)), (5, (.v (.int .i64 (0 : Int)))), (6, (.v (.int .i64 (0 : Int))))] ⟨rfl, rfl, rfl, rfl, trivial⟩ ?_
  refine h (fun (out132 : List (List UInt8)) (check134 : Int) (atq135 : Int) => ∀ (s : Nat → TV) (H : Heap) (v133 : AV) (nv133 : v133 ≠ .nilsl), Sep H (Pc.osl v133 1 (enc eStr out132) :: fr) → Fin _ _ (updL s [(0, (.v (.str (pk a0)))), (4, (.v v133)), (5, (.v (.int .i64 check134))), (6, (.v (.int .i64 atq135)))]) H _) ?_ _ _ _ nv101 hs
  intro out132 check134 atq135 h s158 H159 v133 nv133 hs
  refine fi_inLoop ?_
  refine fi_block ?_
  refine fi_seq ?_
  refine fi_region ?_
  refine so_move (v := (.v (.str (pk a0)))) rfl ?_
  refine so_move (v := (.v (.int .i64 atq135))) rfl ?_
  obtain ⟨c136, h⟩ := h
  refine so_sslice rfl rfl rfl F58.sr9 rfl rfl c136 ?_
  refine sv_callS (strings_IndexByte_ok ((a0.drop (atq135).toNat).take (((a0.length : Int)).toNat - (atq135).toNat)) (10 : Int) hs  _ h) (fun _ _ ⟨_, _, _, e⟩ => e) rfl rfl ?_
  clear h
  rintro _ _ ⟨y137, h, rfl, rfl⟩
  refine so_assign (v := (.v (.int .i64 y137))) rfl ?_
  refine so_nil ?_
  refine fi_seq ?_
  refine fi_seq ?_
  refine fi_region ?_
  refine so_move (v := (.v (.int .i64 y137))) rfl ?_
  refine so_bin rfl rfl ab_lss ?_
  refine so_nil ?_
  replace h := ofP h; rcases h with ⟨c139, h⟩ | ⟨c139, h⟩
  · refine fi_true rfl (decide_eq_true c139) ?_
    refine fi_seq ?_
    refine fi_region ?_
    refine so_move (v := (.v v133)) rfl ?_
    refine so_move (v := (.v (.int .i64 atq135))) rfl ?_
    refine so_assign (v := (.v v133)) rfl ?_
    refine so_assign (v := (.v (.int .i64 atq135))) rfl ?_
    refine so_nil ?_
    exact by_ret rfl ⟨_, _, h, _, rfl, hs⟩
  · refine fi_false rfl (decide_eq_false c139) ?_
    refine fi_skip ?_
    refine fi_seq ?_
    refine fi_region ?_
    refine so_move (v := (.v (.str (pk a0)))) rfl ?_
    refine so_move (v := (.v (.int .i64 atq135))) rfl ?_
    refine so_move (v := (.v (.int .i64 atq135))) rfl ?_
    refine so_move (v := (.v (.int .i64 y137))) rfl ?_
    refine so_bin rfl rfl ab_add ?_
    obtain ⟨c140, h⟩ := h
    refine so_sslice rfl rfl rfl F58.sr9 rfl rfl c140 ?_
    refine sv_callS (strings_Cut_ok ((a0.drop (atq135).toNat).take (((IntKind.i64.wrap (atq135 + y137))).toNat - (atq135).toNat)) ([32] : List UInt8) hs  _ h) (fun _ _ ⟨_, _, _, _, _, e⟩ => e) rfl rfl ?_
    clear h
    rintro _ _ ⟨y141, y142, y143, h, rfl, rfl⟩
    refine so_move (v := (.t [(.v (.str (pk y141))), (.v (.str (pk y142))), (.v (.bool y143))])) rfl ?_
    refine so_extract rfl rfl rfl ?_
    refine so_extract rfl rfl rfl ?_
    refine so_extract rfl rfl rfl ?_
    refine so_assign (v := (.v (.str (pk y141)))) rfl ?_
    refine so_assign (v := (.v (.str (pk y142)))) rfl ?_
    refine so_assign (v := (.v (.bool y143))) rfl ?_
    refine so_nil ?_
    refine fi_seq ?_
    refine fi_region ?_
    refine so_move (v := (.v (.int .i64 check134))) rfl ?_
    refine so_move (v := (.v (.str (pk y142)))) rfl ?_
    refine sv_callS (impl_CheckOf_ok check134 y142 hs  _ h) (fun _ _ ⟨_, _, _, _, e⟩ => e) rfl rfl ?_
    clear h
    rintro _ _ ⟨y145, y146, h, rfl, rfl⟩
    refine so_move (v := (.t [(.v (.int .i64 y145)), (.v (.bool y146))])) rfl ?_
    refine so_extract rfl rfl rfl ?_
    refine so_extract rfl rfl rfl ?_
    refine so_assign (v := (.v (.int .i64 y145))) rfl ?_
    refine so_assign (v := (.v (.bool y146))) rfl ?_
    refine so_nil ?_
    refine fi_seq ?_
    refine fi_seq ?_
    refine fi_region ?_
    refine so_move (v := (.v (.bool y143))) rfl ?_
    refine so_un rfl au_not ?_
    refine so_move (v := (.v (.bool (!y143)))) rfl ?_
    replace h := ofT h; rcases h with ⟨c148, h⟩ | ⟨c148, h⟩
    · refine so_gyes rfl (not_f c148) ?_
      refine so_move (v := (.v (.str (pk y141)))) rfl ?_
      refine so_gyes rfl (not_f c148) ?_
      refine so_move (v := (.v (.int .i64 y145))) rfl ?_
      refine so_gyes rfl (not_f c148) ?_
      refine sv_callS (impl_Decimal_ok y145 hs (fun _ hs => gt4 _ hs.tl) _ h) (fun _ _ ⟨_, _, _, e⟩ => e) rfl rfl ?_
      clear h
      rintro _ _ ⟨y149, h, rfl, rfl⟩
      refine so_gyes rfl (not_f c148) ?_
      refine so_bin rfl rfl ab_sneq ?_
      refine so_pick_f (v := (.v (.bool (!(decide (y141 = y149)))))) rfl (not_f c148) rfl ?_
      refine so_nil ?_
      replace h := ofP h; rcases h with ⟨c151, h⟩ | ⟨c151, h⟩
      · refine fi_false rfl (not_f (decide_eq_true c151)) ?_
        refine fi_skip ?_
        refine fi_seq ?_
        refine fi_region ?_
        refine so_move (v := (.v v133)) rfl ?_
        refine so_move (v := (.v (.str (pk y142)))) rfl ?_
        refine sv_bslice hs eStr ([y142] : List (List UInt8)) [[(.str (pk y142))]] F58.te28 F58.sz9 F58.ze9 rfl rfl rfl rfl (fun _ => rfl) rfl (by decide) nofun (fun v152 H153 nv152 hs => ?_)
        obtain ⟨c157, h⟩ := h
        refine sv_app hs 1 rfl (hs.shows 0 rfl) (fun _ => rfl) (by decide) F58.ta28_28 (by decide) c157 rfl rfl nofun (fun v155 H156 kv155 hs => ?_)
        replace hs := hs.del 0
        have nv155 := kv155 nv133
        refine so_assign (v := (.v v155)) rfl ?_
        refine so_nil ?_
        refine fi_seq ?_
        refine fi_region ?_
        refine so_move (v := (.v (.int .i64 y145))) rfl ?_
        refine so_assign (v := (.v (.int .i64 y145))) rfl ?_
        refine so_nil ?_
        refine fi_region ?_
        refine so_move (v := (.v (.int .i64 atq135))) rfl ?_
        refine so_move (v := (.v (.int .i64 y137))) rfl ?_
        refine so_bin rfl rfl ab_add ?_
        refine so_bin rfl rfl ab_add ?_
        refine so_assign (v := (.v (.int .i64 (IntKind.i64.wrap (atq135 + (IntKind.i64.wrap (y137 + (1 : Int)))))))) rfl ?_
        refine so_nil ?_
        refine fi_inBlock ?_
        exact fi_at [(0, (.v (.str (pk a0)))), (4, (.v v155)), (5, (.v (.int .i64 y145))), (6, (.v (.int .i64 (IntKind.i64.wrap (atq135 + (IntKind.i64.wrap (y137 + (1 : Int))))))))] ⟨rfl, rfl, rfl, rfl, trivial⟩ (h _ _ _ nv155 hs)
      · refine fi_true rfl (not_t (decide_eq_false c151)) ?_
        refine fi_seq ?_
        refine fi_region ?_
        refine so_move (v := (.v v133)) rfl ?_
        refine so_move (v := (.v (.int .i64 atq135))) rfl ?_
        refine so_assign (v := (.v v133)) rfl ?_
        refine so_assign (v := (.v (.int .i64 atq135))) rfl ?_
        refine so_nil ?_
        exact by_ret rfl ⟨_, _, h, _, rfl, hs⟩
    · refine so_gno rfl (not_t c148) ?_
      refine so_gno rfl (not_t c148) ?_
      refine so_gno rfl (not_t c148) ?_
      refine so_gno rfl (not_t c148) ?_
      refine so_pick_t (v := (.v (.bool true))) rfl (not_t c148) rfl ?_
      refine so_nil ?_
      refine fi_true rfl rfl ?_
      refine fi_seq ?_
      refine fi_region ?_
      refine so_move (v := (.v v133)) rfl ?_
      refine so_move (v := (.v (.int .i64 atq135))) rfl ?_
      refine so_assign (v := (.v v133)) rfl ?_
      refine so_assign (v := (.v (.int .i64 atq135))) rfl ?_
      refine so_nil ?_
      exact by_ret rfl ⟨_, _, h, _, rfl, hs⟩

end Go.Proofs.YtcgiboeilcdonaaDoor.G

namespace Go.Proofs.YtcgiboeilcdonaaDoor.G
open Go Go.Ab Go.Proofs Go.Proofs.YtcgiboeilcdonaaDoor
set_option maxRecDepth 100000
set_option linter.unusedVariables false
set_option linter.unusedSimpArgs false
set_option maxHeartbeats 1000000
attribute [local irreducible] wops wopf Go.Ab.Fin
theorem F22.sr9 : tstr Tryd.prog 9 = true := by kernel_rfl
theorem impl_RecoverJournal_ok {fr : List Pc} {H : Heap} (a0 : List UInt8) (hs : Sep H (fr)) (gt4 : ∀ H, Sep H fr → HasTab 4 F.tab4 H) (K : (List (List UInt8)) → Int → Bool → Prop) (h : impl_RecoverJournal.wp a0 K) : OkQ Tryd.prog 22 [(.v (.str (pk a0)))] H (fun r H2 => ∃ (y0 : List (List UInt8)) (y1 : Int) (y2 : Bool), K y0 y1 y2 ∧ ∃ (w0_ : AV), r = (.t [(.v w0_), (.v (.int .i64 y1)), (.v (.bool y2))]) ∧ Sep H2 (Pc.osl w0_ 1 (enc eStr y0) :: fr)) := by
  unfold impl_RecoverJournal.wp at h
  refine of_body Tryd.f22 F.hm Tryd.func22 rfl Tryd.call22 (by kernel_rfl) (by simp) ?_
  refine fi_seq ?_
  refine fi_region ?_
  refine so_assign (v := (.v .nilsl)) rfl ?_
  refine so_assign (v := (.v (.int .i64 (0 : Int)))) rfl ?_
  refine so_assign (v := (.v (.bool false))) rfl ?_
  refine so_nil ?_
  refine fi_seq ?_
  refine fi_seq ?_
  refine fi_region ?_
  refine so_move (v := (.v (.str (pk a0)))) rfl ?_
  refine so_slen rfl F22.sr9 ?_
  refine so_bin rfl rfl ab_gtr ?_
  refine so_nil ?_
  replace h := ofP h; rcases h with ⟨c101, h⟩ | ⟨c101, h⟩
  · refine fi_true rfl (decide_eq_true c101) ?_
    refine fi_seq ?_
    refine fi_region ?_
    refine so_assign (v := (.v .nilsl)) rfl ?_
    refine so_assign (v := (.v (.int .i64 (0 : Int)))) rfl ?_
    refine so_assign (v := (.v (.bool false))) rfl ?_
    refine so_nil ?_
    exact by_ret rfl ⟨_, _, _, h, _, rfl, (Sep.nil hs 1)⟩
  · refine fi_false rfl (decide_eq_false c101) ?_
    refine fi_skip ?_
    refine fi_seq ?_
    refine fi_region ?_
    refine so_move (v := (.v (.str (pk a0)))) rfl ?_
    refine sv_call (impl_recovered_ok a0 hs (fun _ hs => gt4 _ hs) _ h) rfl rfl nofun ?_
    clear h hs
    rintro _ H106 ⟨y102, y105, h, v103, rfl, hs⟩
    refine so_move (v := (.t [(.v v103), (.v (.int .i64 y105))])) rfl ?_
    refine so_extract rfl rfl rfl ?_
    refine so_extract rfl rfl rfl ?_
    refine so_assign (v := (.v v103)) rfl ?_
    refine so_assign (v := (.v (.int .i64 y105))) rfl ?_
    refine so_nil ?_
    refine fi_seq ?_
    refine fi_region ?_
    refine so_move (v := (.v v103)) rfl ?_
    refine so_move (v := (.v (.int .i64 y105))) rfl ?_
    refine so_assign (v := (.v v103)) rfl ?_
    refine so_assign (v := (.v (.int .i64 y105))) rfl ?_
    refine so_assign (v := (.v (.bool true))) rfl ?_
    refine so_nil ?_
    exact by_ret rfl ⟨_, _, _, h, _, rfl, hs⟩

end Go.Proofs.YtcgiboeilcdonaaDoor.G

namespace Go.Proofs.YtcgiboeilcdonaaDoor.G
open Go Go.Ab Go.Proofs Go.Proofs.YtcgiboeilcdonaaDoor
set_option maxRecDepth 100000
set_option linter.unusedVariables false
set_option linter.unusedSimpArgs false
set_option maxHeartbeats 1000000
attribute [local irreducible] wops wopf Go.Ab.Fin
theorem F59.it5 : tint Tryd.prog 5 = some .u8 := by kernel_rfl
theorem F59.sr9 : tstr Tryd.prog 9 = true := by kernel_rfl
theorem F59.sz5 : tsz Tryd.prog 5 = some 1 := by kernel_rfl
theorem F59.te72 : telem Tryd.prog 72 = some 5 := by kernel_rfl
theorem F59.us3 : (Tryd.prog.underlying 3).isSome = true := by kernel_rfl
theorem F59.us72 : (Tryd.prog.underlying 72).isSome = true := by kernel_rfl
theorem F59.ze5 : tzero Tryd.prog 5 = some [(.int .u8 (0 : Int))] := by kernel_rfl
theorem laws_markText_ok {fr : List Pc} {H : Heap} (a0 : Int) (hs : Sep H (fr))  (K : (List UInt8) → Prop) (h : laws_markText.wp a0 K) : OkQ Tryd.prog 59 [(.v (.int .i64 a0))] H (fun r H2 => ∃ (y0 : List UInt8), K y0 ∧ r = (.v (.str (pk y0))) ∧ Sep H2 (fr)) := by
  unfold laws_markText.wp at h
  refine of_body Tryd.f59 F.hm Tryd.func59 rfl Tryd.call59 (by kernel_rfl) (by simp) ?_
  refine fi_seq ?_
  refine fi_region ?_
  refine so_assign (v := (.v (.str (pk ([] : List UInt8))))) rfl ?_
  refine so_nil ?_
  refine fi_seq ?_
  refine fi_seq ?_
  refine fi_region ?_
  refine so_move (v := (.v (.int .i64 a0))) rfl ?_
  refine so_bin rfl rfl ab_leq ?_
  refine so_nil ?_
  replace h := ofP h; rcases h with ⟨c101, h⟩ | ⟨c101, h⟩
  · refine fi_true rfl (decide_eq_true c101) ?_
    refine fi_seq ?_
    refine fi_region ?_
    refine so_assign (v := (.v (.str (pk ([109, 48] : List UInt8))))) rfl ?_
    refine so_nil ?_
    exact by_ret rfl ⟨_, h, rfl, hs⟩
  · refine fi_false rfl (decide_eq_false c101) ?_
    refine fi_skip ?_
    refine fi_seq ?_
    refine fi_region ?_
    refine so_assign (v := (.v (.str (pk ([] : List UInt8))))) rfl ?_
    refine so_nil ?_
    refine fi_seq ?_
    refine fi_block ?_
    refine fi_loop ?_
    refine fi_at [(0, (.v (.int .i64 a0))), (3, (.v (.str (pk ([] : List UInt8)))))] ⟨rfl, rfl, trivial⟩ ?_
    refine h (fun (k103 : Int) (out104 : List UInt8) => ∀ (s : Nat → TV) (H : Heap), Sep H (fr) → Fin _ _ (updL s [(0, (.v (.int .i64 k103))), (3, (.v (.str (pk out104))))]) H _) ?_ _ _ hs
    intro k103 out104 h s111 H112 hs
    refine fi_inLoop ?_
    refine fi_seq ?_
    refine fi_seq ?_
    refine fi_region ?_
    refine so_move (v := (.v (.int .i64 k103))) rfl ?_
    refine so_bin rfl rfl ab_gtr ?_
    refine so_nil ?_
    replace h := ofP h; rcases h with ⟨c105, h⟩ | ⟨c105, h⟩
    · refine fi_true rfl (decide_eq_true c105) ?_
      refine fi_skip ?_
      refine fi_block ?_
      refine fi_seq ?_
      refine fi_region ?_
      refine so_move (v := (.v (.int .i64 k103))) rfl ?_
      refine so_bin rfl rfl (ab_rem (by decide)) ?_
      refine so_bin rfl rfl ab_add ?_
      refine sv_ii rfl F59.us3 F59.it5 ?_
      refine sv_bslice hs (eInt .u8) ([(IntKind.u8.wrap (IntKind.i64.wrap ((48 : Int) + (Int.tmod k103 (10 : Int)))))] : List (Int)) [[(.int .u8 (IntKind.u8.wrap (IntKind.i64.wrap ((48 : Int) + (Int.tmod k103 (10 : Int))))))]] F59.te72 F59.sz5 F59.ze5 rfl rfl rfl rfl (fun _ => rfl) rfl (by decide) nofun (fun v106 H107 nv106 hs => ?_)
      refine sv_bs (hs.shows 0 rfl) nv106 rfl F59.te72 F59.it5 F59.sr9 ?_
      refine so_move (v := (.v (.str (pk out104)))) rfl ?_
      obtain ⟨c109, h⟩ := h
      refine so_bin rfl rfl (ab_sadd c109) ?_
      refine so_assign (v := (.v (.str (pk ((byts ([(IntKind.u8.wrap (IntKind.i64.wrap ((48 : Int) + (Int.tmod k103 (10 : Int)))))] : List (Int))) ++ out104))))) rfl ?_
      refine so_nil ?_
      refine fi_region ?_
      refine so_move (v := (.v (.int .i64 k103))) rfl ?_
      refine so_bin rfl rfl (ab_quo (by decide)) ?_
      refine so_assign (v := (.v (.int .i64 (IntKind.i64.wrap (Int.tdiv k103 (10 : Int)))))) rfl ?_
      refine so_nil ?_
      refine fi_inBlock ?_
      exact fi_at [(0, (.v (.int .i64 (IntKind.i64.wrap (Int.tdiv k103 (10 : Int)))))), (3, (.v (.str (pk ((byts ([(IntKind.u8.wrap (IntKind.i64.wrap ((48 : Int) + (Int.tmod k103 (10 : Int)))))] : List (Int))) ++ out104)))))] ⟨rfl, rfl, trivial⟩ (h _ _  (Sep.del 0 hs))
    · refine fi_false rfl (decide_eq_false c105) ?_
      refine fi_exit rfl ?_
      refine fi_seq ?_
      refine fi_region ?_
      refine so_move (v := (.v (.str (pk out104)))) rfl ?_
      obtain ⟨c110, h⟩ := h
      refine so_bin rfl rfl (ab_sadd c110) ?_
      refine so_assign (v := (.v (.str (pk (([109] : List UInt8) ++ out104))))) rfl ?_
      refine so_nil ?_
      exact by_ret rfl ⟨_, h, rfl, hs⟩

end Go.Proofs.YtcgiboeilcdonaaDoor.G

namespace Go.Proofs.YtcgiboeilcdonaaDoor.G
open Go Go.Ab Go.Proofs Go.Proofs.YtcgiboeilcdonaaDoor
set_option maxRecDepth 100000
set_option linter.unusedVariables false
set_option linter.unusedSimpArgs false
set_option maxHeartbeats 1000000
attribute [local irreducible] wops wopf Go.Ab.Fin
theorem F23.sz9 : tsz Tryd.prog 9 = some 1 := by kernel_rfl
theorem F23.ti28 : (telem Tryd.prog 28).isSome = true := by kernel_rfl
theorem F23.tl28 : (telem Tryd.prog 28).bind (tsz Tryd.prog) = some 1 := by kernel_rfl
theorem laws_markStringS_ok {fr : List Pc} {H : Heap} (v0 : AV) (l0 : List (List UInt8)) (a1 : Int) (hs : Sep H (Pc.osl v0 1 (enc eStr l0) :: fr))  (K : Int → (List (List UInt8)) → Prop) (h : laws_markStringS.wp l0 a1 K) : OkQ Tryd.prog 23 [(.v v0), (.v (.int .i64 a1))] H (fun r H2 => ∃ (y0 : Int) (y1 : List (List UInt8)), K y0 y1 ∧ r = (.v (.int .i64 y0)) ∧ Sep H2 (Pc.osl v0 1 (enc eStr y1) :: fr)) := by
  unfold laws_markStringS.wp at h
  refine of_body Tryd.f23 F.hm Tryd.func23 rfl Tryd.call23 (by kernel_rfl) (by simp) ?_
  refine fi_seq ?_
  refine fi_region ?_
  refine so_assign (v := (.v (.int .i64 (0 : Int)))) rfl ?_
  refine so_nil ?_
  refine fi_seq ?_
  refine fi_seq ?_
  refine fi_region ?_
  refine so_assign (v := (.v (.int .i64 (0 : Int)))) rfl ?_
  refine so_nil ?_
  refine fi_block ?_
  refine fi_loop ?_
  refine fi_at [(0, (.v v0)), (1, (.v (.int .i64 a1))), (5, (.v (.int .i64 (0 : Int))))] ⟨rfl, rfl, rfl, trivial⟩ ?_
  refine h (fun (a111 : List (List UInt8)) (k112 : Int) (i113 : Int) => ∀ (s : Nat → TV) (H : Heap), Sep H (Pc.osl v0 1 (enc eStr a111) :: fr) → Fin _ _ (updL s [(0, (.v v0)), (1, (.v (.int .i64 k112))), (5, (.v (.int .i64 i113)))]) H _) ?_ _ _ hs
  intro a111 k112 i113 h s119 H120 hs
  refine fi_inLoop ?_
  refine fi_seq ?_
  refine fi_seq ?_
  refine fi_region ?_
  refine so_move (v := (.v (.int .i64 i113))) rfl ?_
  refine so_move (v := (.v v0)) rfl ?_
  refine sv_len (hs.shows 0 rfl) (fun _ => rfl) (by decide) rfl F23.ti28 ?_
  refine so_bin rfl rfl ab_lss ?_
  refine so_nil ?_
  replace h := ofP h; rcases h with ⟨c114, h⟩ | ⟨c114, h⟩
  · refine fi_true rfl (decide_eq_true c114) ?_
    refine fi_skip ?_
    refine fi_seq ?_
    refine fi_block ?_
    refine fi_seq ?_
    refine fi_region ?_
    refine so_move (v := (.v v0)) rfl ?_
    refine so_move (v := (.v (.int .i64 i113))) rfl ?_
    refine so_move (v := (.v (.int .i64 k112))) rfl ?_
    refine sv_call (laws_markText_ok k112 hs  _ h) rfl rfl nofun ?_
    clear h hs
    rintro _ H116 ⟨y115, h, rfl, hs⟩
    obtain ⟨c117, h⟩ := h
    refine sv_idx (hs.shows 0 rfl) c117 (fun _ => rfl) (by decide) rfl rfl F23.tl28 ?_
    refine sv_set hs 0 rfl c117 y115 (fun _ => rfl) (by decide) rfl rfl rfl rfl F23.sz9 nofun (fun H118 hs => ?_)
    refine so_nil ?_
    refine fi_region ?_
    refine so_move (v := (.v (.int .i64 k112))) rfl ?_
    refine so_bin rfl rfl ab_add ?_
    refine so_assign (v := (.v (.int .i64 (IntKind.i64.wrap (k112 + (1 : Int)))))) rfl ?_
    refine so_nil ?_
    refine fi_inBlock ?_
    refine fi_region ?_
    refine so_move (v := (.v (.int .i64 i113))) rfl ?_
    refine so_bin rfl rfl ab_add ?_
    refine so_assign (v := (.v (.int .i64 (IntKind.i64.wrap (i113 + (1 : Int)))))) rfl ?_
    refine so_nil ?_
    exact fi_at [(0, (.v v0)), (1, (.v (.int .i64 (IntKind.i64.wrap (k112 + (1 : Int)))))), (5, (.v (.int .i64 (IntKind.i64.wrap (i113 + (1 : Int))))))] ⟨rfl, rfl, rfl, trivial⟩ (h _ _  hs)
  · refine fi_false rfl (decide_eq_false c114) ?_
    refine fi_exit rfl ?_
    refine fi_seq ?_
    refine fi_region ?_
    refine so_move (v := (.v (.int .i64 k112))) rfl ?_
    refine so_assign (v := (.v (.int .i64 k112))) rfl ?_
    refine so_nil ?_
    exact by_ret rfl ⟨_, _, h, rfl, hs⟩

end Go.Proofs.YtcgiboeilcdonaaDoor.G

namespace Go.Proofs.YtcgiboeilcdonaaDoor.G
open Go Go.Ab Go.Proofs Go.Proofs.YtcgiboeilcdonaaDoor
set_option maxRecDepth 100000
set_option linter.unusedVariables false
set_option linter.unusedSimpArgs false
set_option maxHeartbeats 1000000
attribute [local irreducible] wops wopf Go.Ab.Fin
theorem F24.ag9 : tagg Tryd.prog 9 = some false := by kernel_rfl
theorem F24.ti28 : (telem Tryd.prog 28).isSome = true := by kernel_rfl
theorem F24.tl28 : (telem Tryd.prog 28).bind (tsz Tryd.prog) = some 1 := by kernel_rfl
theorem laws_heldStringS_ok {fr : List Pc} {H : Heap} (v0 : AV) (l0 : List (List UInt8)) (a1 : Int) (hs : Sep H (fr)) (g0 : ∀ H, Sep H fr → Shows H v0 1 (enc eStr l0)) (K : Int → Prop) (h : laws_heldStringS.wp l0 a1 K) : OkQ Tryd.prog 24 [(.v v0), (.v (.int .i64 a1))] H (fun r H2 => ∃ (y0 : Int), K y0 ∧ r = (.v (.int .i64 y0)) ∧ Sep H2 (fr)) := by
  unfold laws_heldStringS.wp at h
  refine of_body Tryd.f24 F.hm Tryd.func24 rfl Tryd.call24 (by kernel_rfl) (by simp) ?_
  refine fi_seq ?_
  refine fi_region ?_
  refine so_assign (v := (.v (.int .i64 (0 : Int)))) rfl ?_
  refine so_nil ?_
  refine fi_seq ?_
  refine fi_seq ?_
  refine fi_region ?_
  refine so_assign (v := (.v (.int .i64 (0 : Int)))) rfl ?_
  refine so_nil ?_
  refine fi_block ?_
  refine fi_loop ?_
  refine fi_at [(0, (.v v0)), (1, (.v (.int .i64 a1))), (5, (.v (.int .i64 (0 : Int))))] ⟨rfl, rfl, rfl, trivial⟩ ?_
  refine h (fun (k102 : Int) (i103 : Int) => ∀ (s : Nat → TV) (H : Heap), Sep H (fr) → Fin _ _ (updL s [(0, (.v v0)), (1, (.v (.int .i64 k102))), (5, (.v (.int .i64 i103)))]) H _) ?_ _ _ hs
  intro k102 i103 h s109 H110 hs
  refine fi_inLoop ?_
  refine fi_seq ?_
  refine fi_seq ?_
  refine fi_region ?_
  refine so_move (v := (.v (.int .i64 i103))) rfl ?_
  refine so_move (v := (.v v0)) rfl ?_
  refine sv_len (g0 _ hs) (fun _ => rfl) (by decide) rfl F24.ti28 ?_
  refine so_bin rfl rfl ab_lss ?_
  refine so_nil ?_
  replace h := ofP h; rcases h with ⟨c104, h⟩ | ⟨c104, h⟩
  · refine fi_true rfl (decide_eq_true c104) ?_
    refine fi_skip ?_
    refine fi_seq ?_
    refine fi_block ?_
    refine fi_seq ?_
    refine fi_seq ?_
    refine fi_free [2, 3] ?_
    refine wf_pure rfl (by kernel_rfl) ?_
    refine so_move (v := (.v v0)) rfl ?_
    refine so_end ?_
    refine wf_pure rfl (by kernel_rfl) ?_
    refine so_move (v := (.v (.int .i64 i103))) rfl ?_
    refine so_end ?_
    obtain ⟨c105, h⟩ := h
    refine wf_free (.v (.ptr v0.id0 (v0.of0 + (i103).toNat * 1))) rfl (by kernel_rfl) (stepr (i := 0) rfl (by refine sv_idx (g0 _ hs) c105 (fun _ => rfl) (by decide) rfl rfl F24.tl28 ?_; exact so_end ⟨rfl, rfl⟩)) fan ?_
    refine wf_free (.v (.str (pk (l0.getD (i103).toNat ([] : List UInt8))))) rfl (by kernel_rfl) (stepr (i := 0) rfl (by refine sv_cell (g0 _ hs) c105 ([] : List UInt8) 0 (fun x => (AV.str (pk x))) (fun _ => rfl) (fun _ => rfl) rfl F24.ag9 ?_; exact so_end ⟨rfl, rfl⟩)) fan ?_
    refine wf_pure rfl (by kernel_rfl) ?_
    refine so_move (v := (.v (.int .i64 k102))) rfl ?_
    refine so_end ?_
    have hs0_ := hs
    refine wf_chg (by kernel_rfl) ?_
    refine sv_call (laws_markText_ok k102 hs  _ h) rfl rfl nofun ?_
    clear h
    rintro _ H107 ⟨y106, h, rfl, hs⟩
    refine so_end ⟨(fac (.inr (stepr (i := 0) rfl (by refine sv_cell (g0 _ hs) c105 ([] : List UInt8) 0 (fun x => (AV.str (pk x))) (fun _ => rfl) (fun _ => rfl) rfl F24.ag9 ?_; exact so_end ⟨rfl, rfl⟩))) (fac (.inr (stepr (i := 0) rfl (by refine sv_idx (g0 _ hs) c105 (fun _ => rfl) (by decide) rfl rfl F24.tl28 ?_; exact so_end ⟨rfl, rfl⟩))) fan)), ?_⟩
    refine wf_pure rfl (by kernel_rfl) ?_
    refine so_bin rfl rfl ab_sneq ?_
    refine so_end ?_
    refine wf_nil ?_
    replace h := ofP h; rcases h with ⟨c108, h⟩ | ⟨c108, h⟩
    · refine fi_false rfl (not_f (decide_eq_true c108)) ?_
      refine fi_skip ?_
      refine fi_region ?_
      refine so_move (v := (.v (.int .i64 k102))) rfl ?_
      refine so_bin rfl rfl ab_add ?_
      refine so_assign (v := (.v (.int .i64 (IntKind.i64.wrap (k102 + (1 : Int)))))) rfl ?_
      refine so_nil ?_
      refine fi_inBlock ?_
      refine fi_region ?_
      refine so_move (v := (.v (.int .i64 i103))) rfl ?_
      refine so_bin rfl rfl ab_add ?_
      refine so_assign (v := (.v (.int .i64 (IntKind.i64.wrap (i103 + (1 : Int)))))) rfl ?_
      refine so_nil ?_
      exact fi_at [(0, (.v v0)), (1, (.v (.int .i64 (IntKind.i64.wrap (k102 + (1 : Int)))))), (5, (.v (.int .i64 (IntKind.i64.wrap (i103 + (1 : Int))))))] ⟨rfl, rfl, rfl, trivial⟩ (h _ _  hs)
    · refine fi_true rfl (not_t (decide_eq_false c108)) ?_
      refine fi_seq ?_
      refine fi_region ?_
      refine so_assign (v := (.v (.int .i64 (-1 : Int)))) rfl ?_
      refine so_nil ?_
      exact by_ret rfl ⟨_, h, rfl, hs⟩
  · refine fi_false rfl (decide_eq_false c104) ?_
    refine fi_exit rfl ?_
    refine fi_seq ?_
    refine fi_region ?_
    refine so_move (v := (.v (.int .i64 k102))) rfl ?_
    refine so_assign (v := (.v (.int .i64 k102))) rfl ?_
    refine so_nil ?_
    exact by_ret rfl ⟨_, h, rfl, hs⟩

end Go.Proofs.YtcgiboeilcdonaaDoor.G

namespace Go.Proofs.YtcgiboeilcdonaaDoor.G
open Go Go.Ab Go.Proofs Go.Proofs.YtcgiboeilcdonaaDoor
set_option maxRecDepth 100000
set_option linter.unusedVariables false
set_option linter.unusedSimpArgs false
set_option maxHeartbeats 1000000
attribute [local irreducible] wops wopf Go.Ab.Fin
theorem F5.sr9 : tstr Tryd.prog 9 = true := by kernel_rfl
theorem F5.tb4 : tbool Tryd.prog 4 = true := by kernel_rfl
theorem laws_FnExactRecoverJournal_ok {fr : List Pc} {H : Heap} (a0 : List UInt8) (hs : Sep H (fr)) (gt4 : ∀ H, Sep H fr → HasTab 4 F.tab4 H) (K : Bool → Prop) (h : laws_FnExactRecoverJournal.wp a0 K) : OkQ Tryd.prog 5 [(.v (.str (pk a0)))] H (fun r H2 => ∃ (y0 : Bool), K y0 ∧ r = (.v (.bool y0)) ∧ Sep H2 (fr)) := by
  unfold laws_FnExactRecoverJournal.wp at h
  refine of_body Tryd.f5 F.hm Tryd.func5 rfl Tryd.call5 (by kernel_rfl) (by simp) ?_
  refine fi_seq ?_
  refine fi_region ?_
  refine so_assign (v := (.v (.bool false))) rfl ?_
  refine so_nil ?_
  refine fi_seq ?_
  refine fi_seq ?_
  refine fi_region ?_
  refine so_move (v := (.v (.str (pk a0)))) rfl ?_
  refine so_slen rfl F5.sr9 ?_
  refine so_bin rfl rfl ab_gtr ?_
  refine so_nil ?_
  replace h := ofP h; rcases h with ⟨c101, h⟩ | ⟨c101, h⟩
  · refine fi_true rfl (decide_eq_true c101) ?_
    refine fi_seq ?_
    refine fi_region ?_
    refine so_assign (v := (.v (.bool true))) rfl ?_
    refine so_nil ?_
    exact by_ret rfl ⟨_, h, rfl, hs⟩
  · refine fi_false rfl (decide_eq_false c101) ?_
    refine fi_skip ?_
    refine fi_seq ?_
    refine fi_region ?_
    refine so_move (v := (.v (.str (pk a0)))) rfl ?_
    refine sv_call (spec_RecoverJournal_ok a0 hs  _ h) rfl rfl nofun ?_
    clear h hs
    rintro _ H107 ⟨y102, y105, y106, h, v103, rfl, hs⟩
    refine so_move (v := (.t [(.v v103), (.v (.int .i64 y105)), (.v (.bool y106))])) rfl ?_
    refine so_extract rfl rfl rfl ?_
    refine so_extract rfl rfl rfl ?_
    refine so_extract rfl rfl rfl ?_
    refine so_assign (v := (.v v103)) rfl ?_
    refine so_assign (v := (.v (.int .i64 y105))) rfl ?_
    refine so_assign (v := (.v (.bool y106))) rfl ?_
    refine so_nil ?_
    refine fi_seq ?_
    refine fi_region ?_
    refine so_move (v := (.v (.str (pk a0)))) rfl ?_
    refine sv_call (impl_RecoverJournal_ok a0 hs (fun _ hs => gt4 _ hs.tl) _ h) rfl rfl nofun ?_
    clear h hs
    rintro _ H113 ⟨y108, y111, y112, h, v109, rfl, hs⟩
    refine so_move (v := (.t [(.v v109), (.v (.int .i64 y111)), (.v (.bool y112))])) rfl ?_
    refine so_extract rfl rfl rfl ?_
    refine so_extract rfl rfl rfl ?_
    refine so_extract rfl rfl rfl ?_
    refine so_assign (v := (.v v109)) rfl ?_
    refine so_assign (v := (.v (.int .i64 y111))) rfl ?_
    refine so_assign (v := (.v (.bool y112))) rfl ?_
    refine so_nil ?_
    refine fi_seq ?_
    refine fi_seq ?_
    refine fi_region ?_
    refine so_move (v := (.v v109)) rfl ?_
    refine so_move (v := (.v v103)) rfl ?_
    refine sv_callS (laws_eqStringS_ok v109 y108 v103 y102 hs (fun _ hs => (hs.shows 0 rfl)) (fun _ hs => (hs.shows 1 rfl)) _ h) (fun _ _ ⟨_, _, _, e⟩ => e) rfl rfl ?_
    clear h
    rintro _ _ ⟨y114, h, rfl, rfl⟩
    refine so_un rfl au_not ?_
    refine so_move (v := (.v (.bool (!y114)))) rfl ?_
    replace h := ofT h; rcases h with ⟨c116, h⟩ | ⟨c116, h⟩
    · refine so_gyes rfl (not_f c116) ?_
      refine so_move (v := (.v (.int .i64 y111))) rfl ?_
      refine so_gyes rfl (not_f c116) ?_
      refine so_move (v := (.v (.int .i64 y105))) rfl ?_
      refine so_gyes rfl (not_f c116) ?_
      refine so_bin rfl rfl ab_neq ?_
      refine so_pick_f (v := (.v (.bool (!(decide (y111 = y105)))))) rfl (not_f c116) rfl ?_
      refine so_move (v := (.v (.bool (!(decide (y111 = y105)))))) rfl ?_
      replace h := ofP h; rcases h with ⟨c117, h⟩ | ⟨c117, h⟩
      · refine so_gyes rfl (not_f (decide_eq_true c117)) ?_
        refine so_move (v := (.v (.bool y112))) rfl ?_
        refine so_gyes rfl (not_f (decide_eq_true c117)) ?_
        refine so_move (v := (.v (.bool y106))) rfl ?_
        refine so_gyes rfl (not_f (decide_eq_true c117)) ?_
        refine so_bin rfl rfl (ab_bneq F5.tb4) ?_
        refine so_pick_f (v := (.v (.bool (!(y112 == y106))))) rfl (not_f (decide_eq_true c117)) rfl ?_
        refine so_nil ?_
        replace h := ofT h; rcases h with ⟨c118, h⟩ | ⟨c118, h⟩
        · refine fi_false rfl (not_f c118) ?_
          refine fi_skip ?_
          refine fi_seq ?_
          refine fi_region ?_
          refine so_assign (v := (.v (.int .i64 (1 : Int)))) rfl ?_
          refine so_nil ?_
          refine fi_seq ?_
          refine fi_region ?_
          refine so_move (v := (.v v109)) rfl ?_
          refine so_move (v := (.v (.int .i64 (1 : Int)))) rfl ?_
          refine sv_call (laws_markStringS_ok v109 y108 (1 : Int) hs  _ h) rfl rfl nofun ?_
          clear h hs
          rintro _ H121 ⟨y119, y120, h, rfl, hs⟩
          refine so_assign (v := (.v (.int .i64 y119))) rfl ?_
          refine so_nil ?_
          refine fi_seq ?_
          refine fi_region ?_
          refine so_assign (v := (.v (.int .i64 (1 : Int)))) rfl ?_
          refine so_nil ?_
          refine fi_seq ?_
          refine fi_region ?_
          refine so_move (v := (.v v109)) rfl ?_
          refine so_move (v := (.v (.int .i64 (1 : Int)))) rfl ?_
          refine sv_call (laws_heldStringS_ok v109 y120 (1 : Int) hs (fun _ hs => (hs.shows 0 rfl)) _ h) rfl rfl nofun ?_
          clear h hs
          rintro _ H123 ⟨y122, h, rfl, hs⟩
          refine so_assign (v := (.v (.int .i64 y122))) rfl ?_
          refine so_nil ?_
          refine fi_seq ?_
          refine fi_seq ?_
          refine fi_region ?_
          refine so_move (v := (.v (.int .i64 y122))) rfl ?_
          refine so_bin rfl rfl ab_lss ?_
          refine so_nil ?_
          replace h := ofP h; rcases h with ⟨c124, h⟩ | ⟨c124, h⟩
          · refine fi_true rfl (decide_eq_true c124) ?_
            refine fi_seq ?_
            refine fi_region ?_
            refine so_assign (v := (.v (.bool false))) rfl ?_
            refine so_nil ?_
            exact by_ret rfl ⟨_, h, rfl, (Sep.del 0 (Sep.del 0 hs))⟩
          · refine fi_false rfl (decide_eq_false c124) ?_
            refine fi_skip ?_
            refine fi_seq ?_
            refine fi_seq ?_
            refine fi_region ?_
            refine so_move (v := (.v (.int .i64 y122))) rfl ?_
            refine so_move (v := (.v (.int .i64 y119))) rfl ?_
            refine so_bin rfl rfl ab_neq ?_
            refine so_nil ?_
            replace h := ofP h; rcases h with ⟨c125, h⟩ | ⟨c125, h⟩
            · refine fi_false rfl (not_f (decide_eq_true c125)) ?_
              refine fi_skip ?_
              refine fi_seq ?_
              refine fi_region ?_
              refine so_move (v := (.v (.str (pk a0)))) rfl ?_
              refine sv_call (impl_RecoverJournal_ok a0 hs (fun _ hs => gt4 _ hs.tl.tl) _ h) rfl rfl nofun ?_
              clear h hs
              rintro _ H131 ⟨y126, y129, y130, h, v127, rfl, hs⟩
              refine so_move (v := (.t [(.v v127), (.v (.int .i64 y129)), (.v (.bool y130))])) rfl ?_
              refine so_extract rfl rfl rfl ?_
              refine so_extract rfl rfl rfl ?_
              refine so_extract rfl rfl rfl ?_
              refine so_assign (v := (.v v127)) rfl ?_
              refine so_assign (v := (.v (.int .i64 y129))) rfl ?_
              refine so_assign (v := (.v (.bool y130))) rfl ?_
              refine so_nil ?_
              refine fi_seq ?_
              refine fi_seq ?_
              refine fi_region ?_
              refine so_move (v := (.v v127)) rfl ?_
              refine so_move (v := (.v v103)) rfl ?_
              refine sv_callS (laws_eqStringS_ok v127 y126 v103 y102 hs (fun _ hs => (hs.shows 0 rfl)) (fun _ hs => (hs.shows 2 rfl)) _ h) (fun _ _ ⟨_, _, _, e⟩ => e) rfl rfl ?_
              clear h
              rintro _ _ ⟨y132, h, rfl, rfl⟩
              refine so_un rfl au_not ?_
              refine so_move (v := (.v (.bool (!y132)))) rfl ?_
              replace h := ofT h; rcases h with ⟨c134, h⟩ | ⟨c134, h⟩
              · refine so_gyes rfl (not_f c134) ?_
                refine so_move (v := (.v (.int .i64 y129))) rfl ?_
                refine so_gyes rfl (not_f c134) ?_
                refine so_move (v := (.v (.int .i64 y105))) rfl ?_
                refine so_gyes rfl (not_f c134) ?_
                refine so_bin rfl rfl ab_neq ?_
                refine so_pick_f (v := (.v (.bool (!(decide (y129 = y105)))))) rfl (not_f c134) rfl ?_
                refine so_move (v := (.v (.bool (!(decide (y129 = y105)))))) rfl ?_
                replace h := ofP h; rcases h with ⟨c135, h⟩ | ⟨c135, h⟩
                · refine so_gyes rfl (not_f (decide_eq_true c135)) ?_
                  refine so_move (v := (.v (.bool y130))) rfl ?_
                  refine so_gyes rfl (not_f (decide_eq_true c135)) ?_
                  refine so_move (v := (.v (.bool y106))) rfl ?_
                  refine so_gyes rfl (not_f (decide_eq_true c135)) ?_
                  refine so_bin rfl rfl (ab_bneq F5.tb4) ?_
                  refine so_pick_f (v := (.v (.bool (!(y130 == y106))))) rfl (not_f (decide_eq_true c135)) rfl ?_
                  refine so_nil ?_
                  replace h := ofT h; rcases h with ⟨c136, h⟩ | ⟨c136, h⟩
                  · refine fi_false rfl (not_f c136) ?_
                    refine fi_skip ?_
                    refine fi_seq ?_
                    refine fi_region ?_
                    refine so_assign (v := (.v (.int .i64 (1 : Int)))) rfl ?_
                    refine so_nil ?_
                    refine fi_seq ?_
                    refine fi_region ?_
                    refine so_move (v := (.v v109)) rfl ?_
                    refine so_move (v := (.v (.int .i64 (1 : Int)))) rfl ?_
                    refine sv_call (laws_heldStringS_ok v109 y120 (1 : Int) hs (fun _ hs => (hs.shows 1 rfl)) _ h) rfl rfl nofun ?_
                    clear h hs
                    rintro _ H138 ⟨y137, h, rfl, hs⟩
                    refine so_assign (v := (.v (.int .i64 y137))) rfl ?_
                    refine so_nil ?_
                    refine fi_seq ?_
                    refine fi_seq ?_
                    refine fi_region ?_
                    refine so_move (v := (.v (.int .i64 y137))) rfl ?_
                    refine so_bin rfl rfl ab_lss ?_
                    refine so_nil ?_
                    replace h := ofP h; rcases h with ⟨c139, h⟩ | ⟨c139, h⟩
                    · refine fi_true rfl (decide_eq_true c139) ?_
                      refine fi_seq ?_
                      refine fi_region ?_
                      refine so_assign (v := (.v (.bool false))) rfl ?_
                      refine so_nil ?_
                      exact by_ret rfl ⟨_, h, rfl, (Sep.del 0 (Sep.del 0 (Sep.del 0 hs)))⟩
                    · refine fi_false rfl (decide_eq_false c139) ?_
                      refine fi_skip ?_
                      refine fi_seq ?_
                      refine fi_seq ?_
                      refine fi_region ?_
                      refine so_move (v := (.v (.int .i64 y137))) rfl ?_
                      refine so_move (v := (.v (.int .i64 y119))) rfl ?_
                      refine so_bin rfl rfl ab_neq ?_
                      refine so_nil ?_
                      replace h := ofP h; rcases h with ⟨c140, h⟩ | ⟨c140, h⟩
                      · refine fi_false rfl (not_f (decide_eq_true c140)) ?_
                        refine fi_skip ?_
                        refine fi_seq ?_
                        refine fi_region ?_
                        refine so_assign (v := (.v (.bool true))) rfl ?_
                        refine so_nil ?_
                        exact by_ret rfl ⟨_, h, rfl, (Sep.del 0 (Sep.del 0 (Sep.del 0 hs)))⟩
                      · refine fi_true rfl (not_t (decide_eq_false c140)) ?_
                        refine fi_seq ?_
                        refine fi_region ?_
                        refine so_assign (v := (.v (.bool false))) rfl ?_
                        refine so_nil ?_
                        exact by_ret rfl ⟨_, h, rfl, (Sep.del 0 (Sep.del 0 (Sep.del 0 hs)))⟩
                  · refine fi_true rfl (not_t c136) ?_
                    refine fi_seq ?_
                    refine fi_region ?_
                    refine so_assign (v := (.v (.bool false))) rfl ?_
                    refine so_nil ?_
                    exact by_ret rfl ⟨_, h, rfl, (Sep.del 0 (Sep.del 0 (Sep.del 0 hs)))⟩
                · refine so_gno rfl (not_t (decide_eq_false c135)) ?_
                  refine so_gno rfl (not_t (decide_eq_false c135)) ?_
                  refine so_gno rfl (not_t (decide_eq_false c135)) ?_
                  refine so_pick_t (v := (.v (.bool true))) rfl (not_t (decide_eq_false c135)) rfl ?_
                  refine so_nil ?_
                  refine fi_true rfl rfl ?_
                  refine fi_seq ?_
                  refine fi_region ?_
                  refine so_assign (v := (.v (.bool false))) rfl ?_
                  refine so_nil ?_
                  exact by_ret rfl ⟨_, h, rfl, (Sep.del 0 (Sep.del 0 (Sep.del 0 hs)))⟩
              · refine so_gno rfl (not_t c134) ?_
                refine so_gno rfl (not_t c134) ?_
                refine so_gno rfl (not_t c134) ?_
                refine so_pick_t (v := (.v (.bool true))) rfl (not_t c134) rfl ?_
                refine so_move (v := (.v (.bool true))) rfl ?_
                refine so_gno rfl rfl ?_
                refine so_gno rfl rfl ?_
                refine so_gno rfl rfl ?_
                refine so_pick_t (v := (.v (.bool true))) rfl rfl rfl ?_
                refine so_nil ?_
                refine fi_true rfl rfl ?_
                refine fi_seq ?_
                refine fi_region ?_
                refine so_assign (v := (.v (.bool false))) rfl ?_
                refine so_nil ?_
                exact by_ret rfl ⟨_, h, rfl, (Sep.del 0 (Sep.del 0 (Sep.del 0 hs)))⟩
            · refine fi_true rfl (not_t (decide_eq_false c125)) ?_
              refine fi_seq ?_
              refine fi_region ?_
              refine so_assign (v := (.v (.bool false))) rfl ?_
              refine so_nil ?_
              exact by_ret rfl ⟨_, h, rfl, (Sep.del 0 (Sep.del 0 hs))⟩
        · refine fi_true rfl (not_t c118) ?_
          refine fi_seq ?_
          refine fi_region ?_
          refine so_assign (v := (.v (.bool false))) rfl ?_
          refine so_nil ?_
          exact by_ret rfl ⟨_, h, rfl, (Sep.del 0 (Sep.del 0 hs))⟩
      · refine so_gno rfl (not_t (decide_eq_false c117)) ?_
        refine so_gno rfl (not_t (decide_eq_false c117)) ?_
        refine so_gno rfl (not_t (decide_eq_false c117)) ?_
        refine so_pick_t (v := (.v (.bool true))) rfl (not_t (decide_eq_false c117)) rfl ?_
        refine so_nil ?_
        refine fi_true rfl rfl ?_
        refine fi_seq ?_
        refine fi_region ?_
        refine so_assign (v := (.v (.bool false))) rfl ?_
        refine so_nil ?_
        exact by_ret rfl ⟨_, h, rfl, (Sep.del 0 (Sep.del 0 hs))⟩
    · refine so_gno rfl (not_t c116) ?_
      refine so_gno rfl (not_t c116) ?_
      refine so_gno rfl (not_t c116) ?_
      refine so_pick_t (v := (.v (.bool true))) rfl (not_t c116) rfl ?_
      refine so_move (v := (.v (.bool true))) rfl ?_
      refine so_gno rfl rfl ?_
      refine so_gno rfl rfl ?_
      refine so_gno rfl rfl ?_
      refine so_pick_t (v := (.v (.bool true))) rfl rfl rfl ?_
      refine so_nil ?_
      refine fi_true rfl rfl ?_
      refine fi_seq ?_
      refine fi_region ?_
      refine so_assign (v := (.v (.bool false))) rfl ?_
      refine so_nil ?_
      exact by_ret rfl ⟨_, h, rfl, (Sep.del 0 (Sep.del 0 hs))⟩

end Go.Proofs.YtcgiboeilcdonaaDoor.G

