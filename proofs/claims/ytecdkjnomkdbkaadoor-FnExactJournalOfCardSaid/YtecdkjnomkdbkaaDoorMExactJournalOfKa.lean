/-
  The model ends so. Printed by a program of the session; nothing here is trusted.
-/
import Derived.Test.YtecdkjnomkdbkaaDoorProg
import Derived.KernelRfl
import Derived.Test.YtecdkjnomkdbkaaDoorMExactJournalOfWa
import Derived.Test.YtecdkjnomkdbkaaDoorShelf
namespace Go.Proofs.YtecdkjnomkdbkaaDoor.F
open Go Go.Ab Go.Proofs
set_option maxRecDepth 100000
set_option linter.unusedVariables false
set_option linter.unusedSimpArgs false
set_option maxHeartbeats 1000000
theorem hm : Tryd.prog.follows .mixedOrders = true := by kernel_rfl
def tab2 : Obj → Prop := showsTab Tryd.prog "internal/strconv.uint64pow10" .u64 Lib.pow10Tab 2
def tab6 : Obj → Prop := showsTab Tryd.prog "math/bits.deBruijn64tab" .u8 (Lib.deBruijn64tab.map Int.ofNat) 6
end Go.Proofs.YtecdkjnomkdbkaaDoor.F

namespace Go.Proofs.YtecdkjnomkdbkaaDoor.G
open Go Go.Ab Go.Proofs Go.Proofs.YtecdkjnomkdbkaaDoor
set_option maxRecDepth 100000
set_option linter.unusedVariables false
set_option linter.unusedSimpArgs false
set_option maxHeartbeats 1000000
attribute [local irreducible] wops wopf Go.Ab.Fin
theorem F5.ag9 : tagg Tryd.prog 9 = some false := by kernel_rfl
theorem F5.sr9 : tstr Tryd.prog 9 = true := by kernel_rfl
theorem F5.ti22 : (telem Tryd.prog 22).isSome = true := by kernel_rfl
theorem F5.tl22 : (telem Tryd.prog 22).bind (tsz Tryd.prog) = some 1 := by kernel_rfl
theorem laws_szStringS_ok {fr : List Pc} {H : Heap} (v0 : AV) (l0 : List (List UInt8)) (a1 : Int) (hs : Sep H (fr)) (g0 : ∀ H, Sep H fr → Shows H v0 1 (enc eStr l0)) (K : Int → Prop) (h : laws_szStringS.wp l0 a1 K) : OkQ Tryd.prog 5 [(.v v0), (.v (.int .i64 a1))] H (fun r H2 => ∃ (y0 : Int), K y0 ∧ r = (.v (.int .i64 y0)) ∧ H = H2) := by
  unfold laws_szStringS.wp at h
  refine of_body Tryd.f5 F.hm Tryd.func5 rfl Tryd.call5 (by kernel_rfl) (by simp) ?_
  refine fi_seq ?_
  refine fi_region ?_
  refine so_assign (v := (.v (.int .i64 (0 : Int)))) rfl ?_
  refine so_nil ?_
  refine fi_seq ?_
  refine fi_region ?_
  refine so_move (v := (.v (.int .i64 a1))) rfl ?_
  refine so_move (v := (.v v0)) rfl ?_
  refine sv_len (g0 _ hs) (fun _ => rfl) (by decide) rfl F5.ti22 ?_
  refine so_bin rfl rfl ab_sub ?_
  refine so_assign (v := (.v (.int .i64 (IntKind.i64.wrap (a1 - (l0.length : Int)))))) rfl ?_
  refine so_nil ?_
  refine fi_seq ?_
  refine fi_seq ?_
  refine fi_region ?_
  refine so_move (v := (.v (.int .i64 (IntKind.i64.wrap (a1 - (l0.length : Int)))))) rfl ?_
  refine so_bin rfl rfl ab_lss ?_
  refine so_nil ?_
  replace h := ofP h; rcases h with ⟨c101, h⟩ | ⟨c101, h⟩
  · refine fi_true rfl (decide_eq_true c101) ?_
    refine fi_seq ?_
    refine fi_region ?_
    refine so_assign (v := (.v (.int .i64 (-1 : Int)))) rfl ?_
    refine so_nil ?_
    exact by_ret rfl ⟨_, h, rfl, rfl⟩
  · refine fi_false rfl (decide_eq_false c101) ?_
    refine fi_skip ?_
    refine fi_seq ?_
    refine fi_seq ?_
    refine fi_region ?_
    refine so_assign (v := (.v (.int .i64 (0 : Int)))) rfl ?_
    refine so_nil ?_
    refine fi_block ?_
    refine fi_loop ?_
    refine fi_at [(0, (.v v0)), (1, (.v (.int .i64 (IntKind.i64.wrap (a1 - (l0.length : Int)))))), (5, (.v (.int .i64 (0 : Int))))] ⟨rfl, rfl, rfl, trivial⟩ ?_
    refine h (fun (left103 : Int) (i104 : Int) => ∀ (s : Nat → TV), Fin _ _ (updL s [(0, (.v v0)), (1, (.v (.int .i64 left103))), (5, (.v (.int .i64 i104)))]) _ _) ?_ _
    intro left103 i104 h s108
    refine fi_inLoop ?_
    refine fi_seq ?_
    refine fi_seq ?_
    refine fi_region ?_
    refine so_move (v := (.v (.int .i64 i104))) rfl ?_
    refine so_move (v := (.v v0)) rfl ?_
    refine sv_len (g0 _ hs) (fun _ => rfl) (by decide) rfl F5.ti22 ?_
    refine so_bin rfl rfl ab_lss ?_
    refine so_nil ?_
    replace h := ofP h; rcases h with ⟨c105, h⟩ | ⟨c105, h⟩
    · refine fi_true rfl (decide_eq_true c105) ?_
      refine fi_skip ?_
      refine fi_seq ?_
      refine fi_block ?_
      refine fi_seq ?_
      refine fi_region ?_
      refine so_move (v := (.v (.int .i64 left103))) rfl ?_
      refine so_move (v := (.v v0)) rfl ?_
      refine so_move (v := (.v (.int .i64 i104))) rfl ?_
      obtain ⟨c106, h⟩ := h
      refine sv_idx (g0 _ hs) c106 (fun _ => rfl) (by decide) rfl rfl F5.tl22 ?_
      refine sv_cell (g0 _ hs) c106 ([] : List UInt8) 0 (fun x => (AV.str (pk x))) (fun _ => rfl) (fun _ => rfl) rfl F5.ag9 ?_
      refine so_slen rfl F5.sr9 ?_
      refine so_bin rfl rfl ab_sub ?_
      refine so_assign (v := (.v (.int .i64 (IntKind.i64.wrap (left103 - ((l0.getD (i104).toNat ([] : List UInt8)).length : Int)))))) rfl ?_
      refine so_nil ?_
      refine fi_seq ?_
      refine fi_region ?_
      refine so_move (v := (.v (.int .i64 (IntKind.i64.wrap (left103 - ((l0.getD (i104).toNat ([] : List UInt8)).length : Int)))))) rfl ?_
      refine so_bin rfl rfl ab_lss ?_
      refine so_nil ?_
      replace h := ofP h; rcases h with ⟨c107, h⟩ | ⟨c107, h⟩
      · refine fi_true rfl (decide_eq_true c107) ?_
        refine fi_seq ?_
        refine fi_region ?_
        refine so_assign (v := (.v (.int .i64 (-1 : Int)))) rfl ?_
        refine so_nil ?_
        exact by_ret rfl ⟨_, h, rfl, rfl⟩
      · refine fi_false rfl (decide_eq_false c107) ?_
        refine fi_skip ?_
        refine fi_inBlock ?_
        refine fi_region ?_
        refine so_move (v := (.v (.int .i64 i104))) rfl ?_
        refine so_bin rfl rfl ab_add ?_
        refine so_assign (v := (.v (.int .i64 (IntKind.i64.wrap (i104 + (1 : Int)))))) rfl ?_
        refine so_nil ?_
        exact fi_at [(0, (.v v0)), (1, (.v (.int .i64 (IntKind.i64.wrap (left103 - ((l0.getD (i104).toNat ([] : List UInt8)).length : Int)))))), (5, (.v (.int .i64 (IntKind.i64.wrap (i104 + (1 : Int))))))] ⟨rfl, rfl, rfl, trivial⟩ (h _)
    · refine fi_false rfl (decide_eq_false c105) ?_
      refine fi_exit rfl ?_
      refine fi_seq ?_
      refine fi_region ?_
      refine so_move (v := (.v (.int .i64 left103))) rfl ?_
      refine so_assign (v := (.v (.int .i64 left103))) rfl ?_
      refine so_nil ?_
      exact by_ret rfl ⟨_, h, rfl, rfl⟩

end Go.Proofs.YtecdkjnomkdbkaaDoor.G

namespace Go.Proofs.YtecdkjnomkdbkaaDoor.G
open Go Go.Ab Go.Proofs Go.Proofs.YtecdkjnomkdbkaaDoor
set_option maxRecDepth 100000
set_option linter.unusedVariables false
set_option linter.unusedSimpArgs false
set_option maxHeartbeats 1000000
attribute [local irreducible] wops wopf Go.Ab.Fin
theorem F48.it2 : tint Tryd.prog 2 = some .i64 := by kernel_rfl
theorem F48.sr9 : tstr Tryd.prog 9 = true := by kernel_rfl
theorem F48.us5 : (Tryd.prog.underlying 5).isSome = true := by kernel_rfl
theorem spec_l01Check_ok {fr : List Pc} {H : Heap} (a0 : Int) (a1 : List UInt8) (hs : Sep H (fr))  (K : Int → Prop) (h : spec_l01Check.wp a0 a1 K) : OkQ Tryd.prog 48 [(.v (.int .i64 a0)), (.v (.str (pk a1)))] H (fun r H2 => ∃ (y0 : Int), K y0 ∧ r = (.v (.int .i64 y0)) ∧ H = H2) := by
  unfold spec_l01Check.wp at h
  refine of_body Tryd.f48 F.hm Tryd.func48 rfl Tryd.call48 (by kernel_rfl) (by simp) ?_
  refine fi_seq ?_
  refine fi_region ?_
  refine so_assign (v := (.v (.int .i64 (0 : Int)))) rfl ?_
  refine so_nil ?_
  refine fi_seq ?_
  refine fi_seq ?_
  refine fi_region ?_
  refine so_assign (v := (.v (.int .i64 (0 : Int)))) rfl ?_
  refine so_nil ?_
  refine fi_block ?_
  refine fi_loop ?_
  refine fi_at [(0, (.v (.int .i64 a0))), (1, (.v (.str (pk a1)))), (5, (.v (.int .i64 (0 : Int))))] ⟨rfl, rfl, rfl, trivial⟩ ?_
  refine h (fun (n102 : Int) (i103 : Int) => ∀ (s : Nat → TV), Fin _ _ (updL s [(0, (.v (.int .i64 n102))), (1, (.v (.str (pk a1)))), (5, (.v (.int .i64 i103)))]) _ _) ?_ _
  intro n102 i103 h s106
  refine fi_inLoop ?_
  refine fi_seq ?_
  refine fi_seq ?_
  refine fi_region ?_
  refine so_move (v := (.v (.int .i64 i103))) rfl ?_
  refine so_move (v := (.v (.str (pk a1)))) rfl ?_
  refine so_slen rfl F48.sr9 ?_
  refine so_bin rfl rfl ab_lss ?_
  refine so_nil ?_
  replace h := ofP h; rcases h with ⟨c104, h⟩ | ⟨c104, h⟩
  · refine fi_true rfl (decide_eq_true c104) ?_
    refine fi_skip ?_
    refine fi_seq ?_
    refine fi_block ?_
    refine fi_region ?_
    refine so_move (v := (.v (.int .i64 n102))) rfl ?_
    refine so_bin rfl rfl ab_mul ?_
    refine so_move (v := (.v (.str (pk a1)))) rfl ?_
    refine so_move (v := (.v (.int .i64 i103))) rfl ?_
    obtain ⟨c105, h⟩ := h
    refine so_index rfl rfl F48.sr9 c105 ?_
    refine sv_ii rfl F48.us5 F48.it2 ?_
    refine so_bin rfl rfl ab_add ?_
    refine so_bin rfl rfl ab_add ?_
    refine so_bin rfl rfl (ab_rem (by decide)) ?_
    refine so_assign (v := (.v (.int .i64 (Int.tmod (IntKind.i64.wrap ((IntKind.i64.wrap ((IntKind.i64.wrap ((853 : Int) * n102)) + (IntKind.i64.wrap (bt a1 i103)))) + (139 : Int))) (65003 : Int))))) rfl ?_
    refine so_nil ?_
    refine fi_inBlock ?_
    refine fi_region ?_
    refine so_move (v := (.v (.int .i64 i103))) rfl ?_
    refine so_bin rfl rfl ab_add ?_
    refine so_assign (v := (.v (.int .i64 (IntKind.i64.wrap (i103 + (1 : Int)))))) rfl ?_
    refine so_nil ?_
    exact fi_at [(0, (.v (.int .i64 (Int.tmod (IntKind.i64.wrap ((IntKind.i64.wrap ((IntKind.i64.wrap ((853 : Int) * n102)) + (IntKind.i64.wrap (bt a1 i103)))) + (139 : Int))) (65003 : Int))))), (1, (.v (.str (pk a1)))), (5, (.v (.int .i64 (IntKind.i64.wrap (i103 + (1 : Int))))))] ⟨rfl, rfl, rfl, trivial⟩ (h _)
  · refine fi_false rfl (decide_eq_false c104) ?_
    refine fi_exit rfl ?_
    refine fi_seq ?_
    refine fi_region ?_
    refine so_move (v := (.v (.int .i64 n102))) rfl ?_
    refine so_assign (v := (.v (.int .i64 n102))) rfl ?_
    refine so_nil ?_
    exact by_ret rfl ⟨_, h, rfl, rfl⟩

end Go.Proofs.YtecdkjnomkdbkaaDoor.G

namespace Go.Proofs.YtecdkjnomkdbkaaDoor.G
open Go Go.Ab Go.Proofs Go.Proofs.YtecdkjnomkdbkaaDoor
set_option maxRecDepth 100000
set_option linter.unusedVariables false
set_option linter.unusedSimpArgs false
set_option maxHeartbeats 1000000
attribute [local irreducible] wops wopf Go.Ab.Fin
theorem F49.it5 : tint Tryd.prog 5 = some .u8 := by kernel_rfl
theorem F49.sr9 : tstr Tryd.prog 9 = true := by kernel_rfl
theorem F49.sz5 : tsz Tryd.prog 5 = some 1 := by kernel_rfl
theorem F49.ta29_29 : tapp Tryd.prog 29 29 = some (1, 1) := by kernel_rfl
theorem F49.te29 : telem Tryd.prog 29 = some 5 := by kernel_rfl
theorem F49.ti29 : (telem Tryd.prog 29).isSome = true := by kernel_rfl
theorem F49.us2 : (Tryd.prog.underlying 2).isSome = true := by kernel_rfl
theorem F49.us29 : (Tryd.prog.underlying 29).isSome = true := by kernel_rfl
theorem F49.ze5 : tzero Tryd.prog 5 = some [(.int .u8 (0 : Int))] := by kernel_rfl
theorem spec_l01Dec_ok {fr : List Pc} {H : Heap} (a0 : Int) (hs : Sep H (fr))  (K : (List UInt8) → Prop) (h : spec_l01Dec.wp a0 K) : OkQ Tryd.prog 49 [(.v (.int .i64 a0))] H (fun r H2 => ∃ (y0 : List UInt8), K y0 ∧ r = (.v (.str (pk y0))) ∧ Sep H2 (fr)) := by
  unfold spec_l01Dec.wp at h
  refine of_body Tryd.f49 F.hm Tryd.func49 rfl Tryd.call49 (by kernel_rfl) (by simp) ?_
  refine fi_seq ?_
  refine fi_region ?_
  refine so_assign (v := (.v (.str (pk ([] : List UInt8))))) rfl ?_
  refine so_nil ?_
  refine fi_seq ?_
  refine fi_region ?_
  refine sv_bslice hs (eInt .u8) ([] : List (Int)) [] F49.te29 F49.sz5 F49.ze5 rfl rfl rfl rfl (fun _ => rfl) rfl (by decide) nofun (fun v101 H102 nv101 hs => ?_)
  refine so_assign (v := (.v v101)) rfl ?_
  refine so_nil ?_
  refine fi_seq ?_
  refine fi_region ?_
  refine so_move (v := (.v (.int .i64 a0))) rfl ?_
  refine so_assign (v := (.v (.int .i64 a0))) rfl ?_
  refine so_nil ?_
  refine fi_seq ?_
  refine fi_block ?_
  refine fi_loop ?_
  refine fi_at [(0, (.v (.int .i64 a0))), (3, (.v v101)), (4, (.v (.int .i64 a0)))] ⟨rfl, rfl, rfl, trivial⟩ ?_
  refine h (fun (out105 : List (Int)) (rest107 : Int) => ∀ (s : Nat → TV) (H : Heap) (v106 : AV) (nv106 : v106 ≠ .nilsl), Sep H (Pc.osl v106 1 (enc (eInt .u8) out105) :: fr) → Fin _ _ (updL s [(0, (.v (.int .i64 a0))), (3, (.v v106)), (4, (.v (.int .i64 rest107)))]) H _) ?_ _ _ _ nv101 hs
  intro out105 rest107 h s143 H144 v106 nv106 hs
  refine fi_inLoop ?_
  refine fi_seq ?_
  refine fi_seq ?_
  refine fi_region ?_
  refine so_move (v := (.v v106)) rfl ?_
  refine sv_len (hs.shows 0 rfl) (fun _ => rfl) (by decide) rfl F49.ti29 ?_
  refine so_bin rfl rfl ab_eql ?_
  refine so_move (v := (.v (.bool (decide ((out105.length : Int) = (0 : Int)))))) rfl ?_
  replace h := ofP h; rcases h with ⟨c108, h⟩ | ⟨c108, h⟩
  · refine so_gno rfl (decide_eq_true c108) ?_
    refine so_gno rfl (decide_eq_true c108) ?_
    refine so_pick_t (v := (.v (.bool true))) rfl (decide_eq_true c108) rfl ?_
    refine so_nil ?_
    refine fi_true rfl rfl ?_
    refine fi_skip ?_
    refine fi_block ?_
    refine fi_seq ?_
    refine fi_region ?_
    refine so_move (v := (.v (.int .i64 rest107))) rfl ?_
    refine so_bin rfl rfl (ab_rem (by decide)) ?_
    refine so_assign (v := (.v (.int .i64 (Int.tmod rest107 (10 : Int))))) rfl ?_
    refine so_nil ?_
    refine fi_seq ?_
    refine fi_seq ?_
    refine fi_region ?_
    refine so_move (v := (.v (.int .i64 (Int.tmod rest107 (10 : Int))))) rfl ?_
    refine so_bin rfl rfl ab_lss ?_
    refine so_nil ?_
    replace h := ofP h; rcases h with ⟨c109, h⟩ | ⟨c109, h⟩
    · refine fi_true rfl (decide_eq_true c109) ?_
      refine fi_region ?_
      refine so_move (v := (.v (.int .i64 (Int.tmod rest107 (10 : Int))))) rfl ?_
      refine so_un rfl au_neg ?_
      refine so_assign (v := (.v (.int .i64 (IntKind.i64.wrap (0 - (Int.tmod rest107 (10 : Int))))))) rfl ?_
      refine so_nil ?_
      refine fi_seq ?_
      refine fi_region ?_
      refine so_move (v := (.v (.int .i64 (IntKind.i64.wrap (0 - (Int.tmod rest107 (10 : Int))))))) rfl ?_
      refine so_bin rfl rfl ab_add ?_
      refine sv_ii rfl F49.us2 F49.it5 ?_
      refine sv_bslice hs (eInt .u8) ([(IntKind.u8.wrap (IntKind.i64.wrap ((48 : Int) + (IntKind.i64.wrap (0 - (Int.tmod rest107 (10 : Int)))))))] : List (Int)) [[(.int .u8 (IntKind.u8.wrap (IntKind.i64.wrap ((48 : Int) + (IntKind.i64.wrap (0 - (Int.tmod rest107 (10 : Int))))))))]] F49.te29 F49.sz5 F49.ze5 rfl rfl rfl rfl (fun _ => rfl) rfl (by decide) nofun (fun v110 H111 nv110 hs => ?_)
      refine so_move (v := (.v v106)) rfl ?_
      obtain ⟨c115, h⟩ := h
      refine sv_app hs 0 rfl (hs.shows 1 rfl) (fun _ => rfl) (by decide) F49.ta29_29 (by decide) c115 rfl rfl nofun (fun v113 H114 kv113 hs => ?_)
      have nv113 := kv113 nv110
      refine so_assign (v := (.v v113)) rfl ?_
      refine so_nil ?_
      refine fi_region ?_
      refine so_move (v := (.v (.int .i64 rest107))) rfl ?_
      refine so_bin rfl rfl (ab_quo (by decide)) ?_
      refine so_assign (v := (.v (.int .i64 (IntKind.i64.wrap (Int.tdiv rest107 (10 : Int)))))) rfl ?_
      refine so_nil ?_
      refine fi_inBlock ?_
      exact fi_at [(0, (.v (.int .i64 a0))), (3, (.v v113)), (4, (.v (.int .i64 (IntKind.i64.wrap (Int.tdiv rest107 (10 : Int))))))] ⟨rfl, rfl, rfl, trivial⟩ (h _ _ _ nv113 (Sep.del 1 hs))
    · refine fi_false rfl (decide_eq_false c109) ?_
      refine fi_skip ?_
      refine fi_seq ?_
      refine fi_region ?_
      refine so_move (v := (.v (.int .i64 (Int.tmod rest107 (10 : Int))))) rfl ?_
      refine so_bin rfl rfl ab_add ?_
      refine sv_ii rfl F49.us2 F49.it5 ?_
      refine sv_bslice hs (eInt .u8) ([(IntKind.u8.wrap (IntKind.i64.wrap ((48 : Int) + (Int.tmod rest107 (10 : Int)))))] : List (Int)) [[(.int .u8 (IntKind.u8.wrap (IntKind.i64.wrap ((48 : Int) + (Int.tmod rest107 (10 : Int))))))]] F49.te29 F49.sz5 F49.ze5 rfl rfl rfl rfl (fun _ => rfl) rfl (by decide) nofun (fun v116 H117 nv116 hs => ?_)
      refine so_move (v := (.v v106)) rfl ?_
      obtain ⟨c121, h⟩ := h
      refine sv_app hs 0 rfl (hs.shows 1 rfl) (fun _ => rfl) (by decide) F49.ta29_29 (by decide) c121 rfl rfl nofun (fun v119 H120 kv119 hs => ?_)
      have nv119 := kv119 nv116
      refine so_assign (v := (.v v119)) rfl ?_
      refine so_nil ?_
      refine fi_region ?_
      refine so_move (v := (.v (.int .i64 rest107))) rfl ?_
      refine so_bin rfl rfl (ab_quo (by decide)) ?_
      refine so_assign (v := (.v (.int .i64 (IntKind.i64.wrap (Int.tdiv rest107 (10 : Int)))))) rfl ?_
      refine so_nil ?_
      refine fi_inBlock ?_
      exact fi_at [(0, (.v (.int .i64 a0))), (3, (.v v119)), (4, (.v (.int .i64 (IntKind.i64.wrap (Int.tdiv rest107 (10 : Int))))))] ⟨rfl, rfl, rfl, trivial⟩ (h _ _ _ nv119 (Sep.del 1 hs))
  · refine so_gyes rfl (decide_eq_false c108) ?_
    refine so_move (v := (.v (.int .i64 rest107))) rfl ?_
    refine so_gyes rfl (decide_eq_false c108) ?_
    refine so_bin rfl rfl ab_neq ?_
    refine so_pick_f (v := (.v (.bool (!(decide (rest107 = (0 : Int))))))) rfl (decide_eq_false c108) rfl ?_
    refine so_nil ?_
    replace h := ofP h; rcases h with ⟨c122, h⟩ | ⟨c122, h⟩
    · refine fi_false rfl (not_f (decide_eq_true c122)) ?_
      refine fi_exit rfl ?_
      refine fi_seq ?_
      refine fi_seq ?_
      refine fi_region ?_
      refine so_move (v := (.v (.int .i64 a0))) rfl ?_
      refine so_bin rfl rfl ab_lss ?_
      refine so_nil ?_
      replace h := ofP h; rcases h with ⟨c123, h⟩ | ⟨c123, h⟩
      · refine fi_true rfl (decide_eq_true c123) ?_
        refine fi_region ?_
        refine sv_bslice hs (eInt .u8) ([(45 : Int)] : List (Int)) [[(.int .u8 (45 : Int))]] F49.te29 F49.sz5 F49.ze5 rfl rfl rfl rfl (fun _ => rfl) rfl (by decide) nofun (fun v124 H125 nv124 hs => ?_)
        refine so_move (v := (.v v106)) rfl ?_
        obtain ⟨c129, h⟩ := h
        refine sv_app hs 0 rfl (hs.shows 1 rfl) (fun _ => rfl) (by decide) F49.ta29_29 (by decide) c129 rfl rfl nofun (fun v127 H128 kv127 hs => ?_)
        have nv127 := kv127 nv124
        refine so_assign (v := (.v v127)) rfl ?_
        refine so_nil ?_
        refine fi_seq ?_
        refine fi_region ?_
        refine so_move (v := (.v v127)) rfl ?_
        refine sv_bs (hs.shows 0 rfl) nv127 rfl F49.te29 F49.it5 F49.sr9 ?_
        refine so_assign (v := (.v (.str (pk (byts (([(45 : Int)] : List (Int)) ++ out105)))))) rfl ?_
        refine so_nil ?_
        exact by_ret rfl ⟨_, h, rfl, (Sep.del 0 (Sep.del 0 hs))⟩
      · refine fi_false rfl (decide_eq_false c123) ?_
        refine fi_skip ?_
        refine fi_seq ?_
        refine fi_region ?_
        refine so_move (v := (.v v106)) rfl ?_
        refine sv_bs (hs.shows 0 rfl) nv106 rfl F49.te29 F49.it5 F49.sr9 ?_
        refine so_assign (v := (.v (.str (pk (byts out105))))) rfl ?_
        refine so_nil ?_
        exact by_ret rfl ⟨_, h, rfl, (Sep.del 0 hs)⟩
    · refine fi_true rfl (not_t (decide_eq_false c122)) ?_
      refine fi_skip ?_
      refine fi_block ?_
      refine fi_seq ?_
      refine fi_region ?_
      refine so_move (v := (.v (.int .i64 rest107))) rfl ?_
      refine so_bin rfl rfl (ab_rem (by decide)) ?_
      refine so_assign (v := (.v (.int .i64 (Int.tmod rest107 (10 : Int))))) rfl ?_
      refine so_nil ?_
      refine fi_seq ?_
      refine fi_seq ?_
      refine fi_region ?_
      refine so_move (v := (.v (.int .i64 (Int.tmod rest107 (10 : Int))))) rfl ?_
      refine so_bin rfl rfl ab_lss ?_
      refine so_nil ?_
      replace h := ofP h; rcases h with ⟨c130, h⟩ | ⟨c130, h⟩
      · refine fi_true rfl (decide_eq_true c130) ?_
        refine fi_region ?_
        refine so_move (v := (.v (.int .i64 (Int.tmod rest107 (10 : Int))))) rfl ?_
        refine so_un rfl au_neg ?_
        refine so_assign (v := (.v (.int .i64 (IntKind.i64.wrap (0 - (Int.tmod rest107 (10 : Int))))))) rfl ?_
        refine so_nil ?_
        refine fi_seq ?_
        refine fi_region ?_
        refine so_move (v := (.v (.int .i64 (IntKind.i64.wrap (0 - (Int.tmod rest107 (10 : Int))))))) rfl ?_
        refine so_bin rfl rfl ab_add ?_
        refine sv_ii rfl F49.us2 F49.it5 ?_
        refine sv_bslice hs (eInt .u8) ([(IntKind.u8.wrap (IntKind.i64.wrap ((48 : Int) + (IntKind.i64.wrap (0 - (Int.tmod rest107 (10 : Int)))))))] : List (Int)) [[(.int .u8 (IntKind.u8.wrap (IntKind.i64.wrap ((48 : Int) + (IntKind.i64.wrap (0 - (Int.tmod rest107 (10 : Int))))))))]] F49.te29 F49.sz5 F49.ze5 rfl rfl rfl rfl (fun _ => rfl) rfl (by decide) nofun (fun v131 H132 nv131 hs => ?_)
        refine so_move (v := (.v v106)) rfl ?_
        obtain ⟨c136, h⟩ := h
        refine sv_app hs 0 rfl (hs.shows 1 rfl) (fun _ => rfl) (by decide) F49.ta29_29 (by decide) c136 rfl rfl nofun (fun v134 H135 kv134 hs => ?_)
        have nv134 := kv134 nv131
        refine so_assign (v := (.v v134)) rfl ?_
        refine so_nil ?_
        refine fi_region ?_
        refine so_move (v := (.v (.int .i64 rest107))) rfl ?_
        refine so_bin rfl rfl (ab_quo (by decide)) ?_
        refine so_assign (v := (.v (.int .i64 (IntKind.i64.wrap (Int.tdiv rest107 (10 : Int)))))) rfl ?_
        refine so_nil ?_
        refine fi_inBlock ?_
        exact fi_at [(0, (.v (.int .i64 a0))), (3, (.v v134)), (4, (.v (.int .i64 (IntKind.i64.wrap (Int.tdiv rest107 (10 : Int))))))] ⟨rfl, rfl, rfl, trivial⟩ (h _ _ _ nv134 (Sep.del 1 hs))
      · refine fi_false rfl (decide_eq_false c130) ?_
        refine fi_skip ?_
        refine fi_seq ?_
        refine fi_region ?_
        refine so_move (v := (.v (.int .i64 (Int.tmod rest107 (10 : Int))))) rfl ?_
        refine so_bin rfl rfl ab_add ?_
        refine sv_ii rfl F49.us2 F49.it5 ?_
        refine sv_bslice hs (eInt .u8) ([(IntKind.u8.wrap (IntKind.i64.wrap ((48 : Int) + (Int.tmod rest107 (10 : Int)))))] : List (Int)) [[(.int .u8 (IntKind.u8.wrap (IntKind.i64.wrap ((48 : Int) + (Int.tmod rest107 (10 : Int))))))]] F49.te29 F49.sz5 F49.ze5 rfl rfl rfl rfl (fun _ => rfl) rfl (by decide) nofun (fun v137 H138 nv137 hs => ?_)
        refine so_move (v := (.v v106)) rfl ?_
        obtain ⟨c142, h⟩ := h
        refine sv_app hs 0 rfl (hs.shows 1 rfl) (fun _ => rfl) (by decide) F49.ta29_29 (by decide) c142 rfl rfl nofun (fun v140 H141 kv140 hs => ?_)
        have nv140 := kv140 nv137
        refine so_assign (v := (.v v140)) rfl ?_
        refine so_nil ?_
        refine fi_region ?_
        refine so_move (v := (.v (.int .i64 rest107))) rfl ?_
        refine so_bin rfl rfl (ab_quo (by decide)) ?_
        refine so_assign (v := (.v (.int .i64 (IntKind.i64.wrap (Int.tdiv rest107 (10 : Int)))))) rfl ?_
        refine so_nil ?_
        refine fi_inBlock ?_
        exact fi_at [(0, (.v (.int .i64 a0))), (3, (.v v140)), (4, (.v (.int .i64 (IntKind.i64.wrap (Int.tdiv rest107 (10 : Int))))))] ⟨rfl, rfl, rfl, trivial⟩ (h _ _ _ nv140 (Sep.del 1 hs))
theorem spec_l01Dec_okS {fr : List Pc} {H : Heap} (a0 : Int) (hs : Sep H fr)  (K : (List UInt8) → Prop) (h : spec_l01Dec.wp a0 K) : OkQ Tryd.prog 49 [(.v (.int .i64 a0))] H (fun r H2 => ∃ (y0 : List UInt8), K y0 ∧ r = (.v (.str (pk y0))) ∧ H = H2) := by
  obtain ⟨r, H2, h1, y0, hK, hr, hsep⟩ := spec_l01Dec_ok (fr := came H) (H := H) a0 (came_sep H)  K h
  have hk : H.n ≤ H2.n ∧ ∀ i, i < H.n → H2.f i = H.f i := hsep.1.2.1
  exact ⟨r, H, h1.forget hk.1 hk.2 (by subst hr; rfl), y0, hK, hr, rfl⟩

end Go.Proofs.YtecdkjnomkdbkaaDoor.G

namespace Go.Proofs.YtecdkjnomkdbkaaDoor.G
open Go Go.Ab Go.Proofs Go.Proofs.YtecdkjnomkdbkaaDoor
set_option maxRecDepth 100000
set_option linter.unusedVariables false
set_option linter.unusedSimpArgs false
set_option maxHeartbeats 1000000
attribute [local irreducible] wops wopf Go.Ab.Fin
theorem F28.ag9 : tagg Tryd.prog 9 = some false := by kernel_rfl
theorem F28.ti22 : (telem Tryd.prog 22).isSome = true := by kernel_rfl
theorem F28.tl22 : (telem Tryd.prog 22).bind (tsz Tryd.prog) = some 1 := by kernel_rfl
theorem spec_l08Journal_ok {fr : List Pc} {H : Heap} (v0 : AV) (l0 : List (List UInt8)) (hs : Sep H (fr)) (g0 : ∀ H, Sep H fr → Shows H v0 1 (enc eStr l0)) (K : (List UInt8) → Prop) (h : spec_l08Journal.wp l0 K) : OkQ Tryd.prog 28 [(.v v0)] H (fun r H2 => ∃ (y0 : List UInt8), K y0 ∧ r = (.v (.str (pk y0))) ∧ H = H2) := by
  unfold spec_l08Journal.wp at h
  refine of_body Tryd.f28 F.hm Tryd.func28 rfl Tryd.call28 (by kernel_rfl) (by simp) ?_
  refine fi_seq ?_
  refine fi_region ?_
  refine so_assign (v := (.v (.str (pk ([] : List UInt8))))) rfl ?_
  refine so_nil ?_
  refine fi_seq ?_
  refine fi_region ?_
  refine so_assign (v := (.v (.str (pk ([] : List UInt8))))) rfl ?_
  refine so_nil ?_
  refine fi_seq ?_
  refine fi_region ?_
  refine so_assign (v := (.v (.int .i64 (0 : Int)))) rfl ?_
  refine so_nil ?_
  refine fi_seq ?_
  refine fi_seq ?_
  refine fi_region ?_
  refine so_assign (v := (.v (.int .i64 (0 : Int)))) rfl ?_
  refine so_nil ?_
  refine fi_block ?_
  refine fi_loop ?_
  refine fi_at [(0, (.v v0)), (3, (.v (.str (pk ([] : List UInt8))))), (4, (.v (.int .i64 (0 : Int)))), (5, (.v (.int .i64 (0 : Int))))] ⟨rfl, rfl, rfl, rfl, trivial⟩ ?_
  refine h (fun (out102 : List UInt8) (n103 : Int) (i104 : Int) => ∀ (s : Nat → TV), Fin _ _ (updL s [(0, (.v v0)), (3, (.v (.str (pk out102)))), (4, (.v (.int .i64 n103))), (5, (.v (.int .i64 i104)))]) _ _) ?_ _
  intro out102 n103 i104 h s115
  refine fi_inLoop ?_
  refine fi_seq ?_
  refine fi_seq ?_
  refine fi_region ?_
  refine so_move (v := (.v (.int .i64 i104))) rfl ?_
  refine so_move (v := (.v v0)) rfl ?_
  refine sv_len (g0 _ hs) (fun _ => rfl) (by decide) rfl F28.ti22 ?_
  refine so_bin rfl rfl ab_lss ?_
  refine so_nil ?_
  replace h := ofP h; rcases h with ⟨c105, h⟩ | ⟨c105, h⟩
  · refine fi_true rfl (decide_eq_true c105) ?_
    refine fi_skip ?_
    refine fi_seq ?_
    refine fi_block ?_
    refine fi_seq ?_
    refine fi_region ?_
    refine so_move (v := (.v (.int .i64 n103))) rfl ?_
    refine so_move (v := (.v v0)) rfl ?_
    refine so_move (v := (.v (.int .i64 i104))) rfl ?_
    obtain ⟨c106, h⟩ := h
    refine sv_idx (g0 _ hs) c106 (fun _ => rfl) (by decide) rfl rfl F28.tl22 ?_
    refine sv_cell (g0 _ hs) c106 ([] : List UInt8) 0 (fun x => (AV.str (pk x))) (fun _ => rfl) (fun _ => rfl) rfl F28.ag9 ?_
    refine sv_callS (spec_l01Check_ok n103 (l0.getD (i104).toNat ([] : List UInt8)) hs  _ h) (fun _ _ ⟨_, _, _, e⟩ => e) rfl rfl ?_
    clear h
    rintro _ _ ⟨y107, h, rfl, rfl⟩
    refine so_assign (v := (.v (.int .i64 y107))) rfl ?_
    refine so_nil ?_
    refine fi_region ?_
    refine so_move (v := (.v (.str (pk out102)))) rfl ?_
    refine so_move (v := (.v (.int .i64 y107))) rfl ?_
    refine sv_callS (spec_l01Dec_okS y107 hs  _ h) (fun _ _ ⟨_, _, _, e⟩ => e) rfl rfl ?_
    clear h
    rintro _ _ ⟨y109, h, rfl, rfl⟩
    obtain ⟨c111, h⟩ := h
    refine so_bin rfl rfl (ab_sadd c111) ?_
    refine so_move (v := (.v v0)) rfl ?_
    refine so_move (v := (.v (.int .i64 i104))) rfl ?_
    refine sv_idx (g0 _ hs) c106 (fun _ => rfl) (by decide) rfl rfl F28.tl22 ?_
    refine sv_cell (g0 _ hs) c106 ([] : List UInt8) 0 (fun x => (AV.str (pk x))) (fun _ => rfl) (fun _ => rfl) rfl F28.ag9 ?_
    obtain ⟨c112, h⟩ := h
    refine so_bin rfl rfl (ab_sadd c112) ?_
    obtain ⟨c113, h⟩ := h
    refine so_bin rfl rfl (ab_sadd c113) ?_
    obtain ⟨c114, h⟩ := h
    refine so_bin rfl rfl (ab_sadd c114) ?_
    refine so_assign (v := (.v (.str (pk (out102 ++ (((y109 ++ ([32] : List UInt8)) ++ (l0.getD (i104).toNat ([] : List UInt8))) ++ ([10] : List UInt8))))))) rfl ?_
    refine so_nil ?_
    refine fi_inBlock ?_
    refine fi_region ?_
    refine so_move (v := (.v (.int .i64 i104))) rfl ?_
    refine so_bin rfl rfl ab_add ?_
    refine so_assign (v := (.v (.int .i64 (IntKind.i64.wrap (i104 + (1 : Int)))))) rfl ?_
    refine so_nil ?_
    exact fi_at [(0, (.v v0)), (3, (.v (.str (pk (out102 ++ (((y109 ++ ([32] : List UInt8)) ++ (l0.getD (i104).toNat ([] : List UInt8))) ++ ([10] : List UInt8))))))), (4, (.v (.int .i64 y107))), (5, (.v (.int .i64 (IntKind.i64.wrap (i104 + (1 : Int))))))] ⟨rfl, rfl, rfl, rfl, trivial⟩ (h _)
  · refine fi_false rfl (decide_eq_false c105) ?_
    refine fi_exit rfl ?_
    refine fi_seq ?_
    refine fi_region ?_
    refine so_move (v := (.v (.str (pk out102)))) rfl ?_
    refine so_assign (v := (.v (.str (pk out102)))) rfl ?_
    refine so_nil ?_
    exact by_ret rfl ⟨_, h, rfl, rfl⟩

end Go.Proofs.YtecdkjnomkdbkaaDoor.G

namespace Go.Proofs.YtecdkjnomkdbkaaDoor.G
open Go Go.Ab Go.Proofs Go.Proofs.YtecdkjnomkdbkaaDoor
set_option maxRecDepth 100000
set_option linter.unusedVariables false
set_option linter.unusedSimpArgs false
set_option maxHeartbeats 1000000
attribute [local irreducible] wops wopf Go.Ab.Fin
theorem F6.ag9 : tagg Tryd.prog 9 = some false := by kernel_rfl
theorem F6.sr9 : tstr Tryd.prog 9 = true := by kernel_rfl
theorem F6.ti22 : (telem Tryd.prog 22).isSome = true := by kernel_rfl
theorem F6.tl22 : (telem Tryd.prog 22).bind (tsz Tryd.prog) = some 1 := by kernel_rfl
theorem spec_JournalOf_ok {fr : List Pc} {H : Heap} (v0 : AV) (l0 : List (List UInt8)) (hs : Sep H (fr)) (g0 : ∀ H, Sep H fr → Shows H v0 1 (enc eStr l0)) (K : (List UInt8) → Bool → Prop) (h : spec_JournalOf.wp l0 K) : OkQ Tryd.prog 6 [(.v v0)] H (fun r H2 => ∃ (y0 : List UInt8) (y1 : Bool), K y0 y1 ∧ r = (.t [(.v (.str (pk y0))), (.v (.bool y1))]) ∧ H = H2) := by
  unfold spec_JournalOf.wp at h
  refine of_body Tryd.f6 F.hm Tryd.func6 rfl Tryd.call6 (by kernel_rfl) (by simp) ?_
  refine fi_seq ?_
  refine fi_region ?_
  refine so_assign (v := (.v (.str (pk ([] : List UInt8))))) rfl ?_
  refine so_assign (v := (.v (.bool false))) rfl ?_
  refine so_nil ?_
  refine fi_seq ?_
  refine fi_region ?_
  refine so_assign (v := (.v (.int .i64 (0 : Int)))) rfl ?_
  refine so_nil ?_
  refine fi_seq ?_
  refine fi_seq ?_
  refine fi_region ?_
  refine so_assign (v := (.v (.int .i64 (0 : Int)))) rfl ?_
  refine so_nil ?_
  refine fi_block ?_
  refine fi_loop ?_
  refine fi_at [(0, (.v v0)), (4, (.v (.int .i64 (0 : Int)))), (5, (.v (.int .i64 (0 : Int))))] ⟨rfl, rfl, rfl, trivial⟩ ?_
  refine h (fun (total102 : Int) (i103 : Int) => ∀ (s : Nat → TV), Fin _ _ (updL s [(0, (.v v0)), (4, (.v (.int .i64 total102))), (5, (.v (.int .i64 i103)))]) _ _) ?_ _
  intro total102 i103 h s117
  refine fi_inLoop ?_
  refine fi_seq ?_
  refine fi_seq ?_
  refine fi_region ?_
  refine so_move (v := (.v (.int .i64 i103))) rfl ?_
  refine so_move (v := (.v v0)) rfl ?_
  refine sv_len (g0 _ hs) (fun _ => rfl) (by decide) rfl F6.ti22 ?_
  refine so_bin rfl rfl ab_lss ?_
  refine so_nil ?_
  replace h := ofP h; rcases h with ⟨c104, h⟩ | ⟨c104, h⟩
  · refine fi_true rfl (decide_eq_true c104) ?_
    refine fi_skip ?_
    refine fi_seq ?_
    refine fi_block ?_
    refine fi_seq ?_
    refine fi_region ?_
    refine so_move (v := (.v (.int .i64 total102))) rfl ?_
    refine so_move (v := (.v v0)) rfl ?_
    refine so_move (v := (.v (.int .i64 i103))) rfl ?_
    obtain ⟨c105, h⟩ := h
    refine sv_idx (g0 _ hs) c105 (fun _ => rfl) (by decide) rfl rfl F6.tl22 ?_
    refine sv_cell (g0 _ hs) c105 ([] : List UInt8) 0 (fun x => (AV.str (pk x))) (fun _ => rfl) (fun _ => rfl) rfl F6.ag9 ?_
    refine so_slen rfl F6.sr9 ?_
    refine so_bin rfl rfl ab_add ?_
    refine so_bin rfl rfl ab_add ?_
    refine so_assign (v := (.v (.int .i64 (IntKind.i64.wrap (total102 + (IntKind.i64.wrap (((l0.getD (i103).toNat ([] : List UInt8)).length : Int) + (3 : Int)))))))) rfl ?_
    refine so_nil ?_
    refine fi_seq ?_
    refine fi_seq ?_
    refine fi_region ?_
    refine so_move (v := (.v (.int .i64 (IntKind.i64.wrap (total102 + (IntKind.i64.wrap (((l0.getD (i103).toNat ([] : List UInt8)).length : Int) + (3 : Int)))))))) rfl ?_
    refine so_bin rfl rfl ab_gtr ?_
    refine so_nil ?_
    replace h := ofP h; rcases h with ⟨c106, h⟩ | ⟨c106, h⟩
    · refine fi_true rfl (decide_eq_true c106) ?_
      refine fi_seq ?_
      refine fi_region ?_
      refine so_assign (v := (.v (.str (pk ([] : List UInt8))))) rfl ?_
      refine so_assign (v := (.v (.bool false))) rfl ?_
      refine so_nil ?_
      exact by_ret rfl ⟨_, _, h, rfl, rfl⟩
    · refine fi_false rfl (decide_eq_false c106) ?_
      refine fi_skip ?_
      refine fi_seq ?_
      refine fi_region ?_
      refine so_assign (v := (.v (.int .i64 (0 : Int)))) rfl ?_
      refine so_nil ?_
      refine fi_block ?_
      refine fi_loop ?_
      refine fi_at [(0, (.v v0)), (4, (.v (.int .i64 (IntKind.i64.wrap (total102 + (IntKind.i64.wrap (((l0.getD (i103).toNat ([] : List UInt8)).length : Int) + (3 : Int)))))))), (5, (.v (.int .i64 i103))), (6, (.v (.int .i64 (0 : Int))))] ⟨rfl, rfl, rfl, rfl, trivial⟩ ?_
      refine h (fun (k108 : Int) => ∀ (s : Nat → TV), Fin _ _ (updL s [(0, (.v v0)), (4, (.v (.int .i64 (IntKind.i64.wrap (total102 + (IntKind.i64.wrap (((l0.getD (i103).toNat ([] : List UInt8)).length : Int) + (3 : Int)))))))), (5, (.v (.int .i64 i103))), (6, (.v (.int .i64 k108)))]) _ _) ?_ _
      intro k108 h s112
      refine fi_inLoop ?_
      refine fi_seq ?_
      refine fi_seq ?_
      refine fi_region ?_
      refine so_move (v := (.v (.int .i64 k108))) rfl ?_
      refine so_move (v := (.v v0)) rfl ?_
      refine so_move (v := (.v (.int .i64 i103))) rfl ?_
      refine sv_idx (g0 _ hs) c105 (fun _ => rfl) (by decide) rfl rfl F6.tl22 ?_
      refine sv_cell (g0 _ hs) c105 ([] : List UInt8) 0 (fun x => (AV.str (pk x))) (fun _ => rfl) (fun _ => rfl) rfl F6.ag9 ?_
      refine so_slen rfl F6.sr9 ?_
      refine so_bin rfl rfl ab_lss ?_
      refine so_nil ?_
      replace h := ofP h; rcases h with ⟨c109, h⟩ | ⟨c109, h⟩
      · refine fi_true rfl (decide_eq_true c109) ?_
        refine fi_skip ?_
        refine fi_seq ?_
        refine fi_block ?_
        refine fi_seq ?_
        refine fi_region ?_
        refine so_move (v := (.v v0)) rfl ?_
        refine so_move (v := (.v (.int .i64 i103))) rfl ?_
        refine sv_idx (g0 _ hs) c105 (fun _ => rfl) (by decide) rfl rfl F6.tl22 ?_
        refine sv_cell (g0 _ hs) c105 ([] : List UInt8) 0 (fun x => (AV.str (pk x))) (fun _ => rfl) (fun _ => rfl) rfl F6.ag9 ?_
        refine so_move (v := (.v (.int .i64 k108))) rfl ?_
        obtain ⟨c110, h⟩ := h
        refine so_index rfl rfl F6.sr9 c110 ?_
        refine so_bin rfl rfl ab_eql ?_
        refine so_nil ?_
        replace h := ofP h; rcases h with ⟨c111, h⟩ | ⟨c111, h⟩
        · refine fi_true rfl (decide_eq_true c111) ?_
          refine fi_seq ?_
          refine fi_region ?_
          refine so_assign (v := (.v (.str (pk ([] : List UInt8))))) rfl ?_
          refine so_assign (v := (.v (.bool false))) rfl ?_
          refine so_nil ?_
          exact by_ret rfl ⟨_, _, h, rfl, rfl⟩
        · refine fi_false rfl (decide_eq_false c111) ?_
          refine fi_skip ?_
          refine fi_inBlock ?_
          refine fi_region ?_
          refine so_move (v := (.v (.int .i64 k108))) rfl ?_
          refine so_bin rfl rfl ab_add ?_
          refine so_assign (v := (.v (.int .i64 (IntKind.i64.wrap (k108 + (1 : Int)))))) rfl ?_
          refine so_nil ?_
          exact fi_at [(0, (.v v0)), (4, (.v (.int .i64 (IntKind.i64.wrap (total102 + (IntKind.i64.wrap (((l0.getD (i103).toNat ([] : List UInt8)).length : Int) + (3 : Int)))))))), (5, (.v (.int .i64 i103))), (6, (.v (.int .i64 (IntKind.i64.wrap (k108 + (1 : Int))))))] ⟨rfl, rfl, rfl, rfl, trivial⟩ (h _)
      · refine fi_false rfl (decide_eq_false c109) ?_
        refine fi_exit rfl ?_
        refine fi_inBlock ?_
        refine fi_region ?_
        refine so_move (v := (.v (.int .i64 i103))) rfl ?_
        refine so_bin rfl rfl ab_add ?_
        refine so_assign (v := (.v (.int .i64 (IntKind.i64.wrap (i103 + (1 : Int)))))) rfl ?_
        refine so_nil ?_
        exact fi_at [(0, (.v v0)), (4, (.v (.int .i64 (IntKind.i64.wrap (total102 + (IntKind.i64.wrap (((l0.getD (i103).toNat ([] : List UInt8)).length : Int) + (3 : Int)))))))), (5, (.v (.int .i64 (IntKind.i64.wrap (i103 + (1 : Int))))))] ⟨rfl, rfl, rfl, trivial⟩ (h _)
  · refine fi_false rfl (decide_eq_false c104) ?_
    refine fi_exit rfl ?_
    refine fi_seq ?_
    refine fi_region ?_
    refine so_move (v := (.v v0)) rfl ?_
    refine sv_callS (spec_l08Journal_ok v0 l0 hs (fun _ hs => (g0 _ hs)) _ h) (fun _ _ ⟨_, _, _, e⟩ => e) rfl rfl ?_
    clear h
    rintro _ _ ⟨y114, h, rfl, rfl⟩
    refine so_assign (v := (.v (.str (pk y114)))) rfl ?_
    refine so_nil ?_
    refine fi_seq ?_
    refine fi_seq ?_
    refine fi_region ?_
    refine so_move (v := (.v (.str (pk y114)))) rfl ?_
    refine so_slen rfl F6.sr9 ?_
    refine so_bin rfl rfl ab_gtr ?_
    refine so_nil ?_
    replace h := ofP h; rcases h with ⟨c116, h⟩ | ⟨c116, h⟩
    · refine fi_true rfl (decide_eq_true c116) ?_
      refine fi_seq ?_
      refine fi_region ?_
      refine so_assign (v := (.v (.str (pk ([] : List UInt8))))) rfl ?_
      refine so_assign (v := (.v (.bool false))) rfl ?_
      refine so_nil ?_
      exact by_ret rfl ⟨_, _, h, rfl, rfl⟩
    · refine fi_false rfl (decide_eq_false c116) ?_
      refine fi_skip ?_
      refine fi_seq ?_
      refine fi_region ?_
      refine so_move (v := (.v (.str (pk y114)))) rfl ?_
      refine so_assign (v := (.v (.str (pk y114)))) rfl ?_
      refine so_assign (v := (.v (.bool true))) rfl ?_
      refine so_nil ?_
      exact by_ret rfl ⟨_, _, h, rfl, rfl⟩

end Go.Proofs.YtecdkjnomkdbkaaDoor.G

namespace Go.Proofs.YtecdkjnomkdbkaaDoor.G
open Go Go.Ab Go.Proofs Go.Proofs.YtecdkjnomkdbkaaDoor
set_option maxRecDepth 100000
set_option linter.unusedVariables false
set_option linter.unusedSimpArgs false
set_option maxHeartbeats 1000000
attribute [local irreducible] wops wopf Go.Ab.Fin
theorem F7.ag9 : tagg Tryd.prog 9 = some false := by kernel_rfl
theorem F7.by9 : tbytes Tryd.prog 9 = some 16 := by kernel_rfl
theorem F7.sz9 : tsz Tryd.prog 9 = some 1 := by kernel_rfl
theorem F7.te22 : telem Tryd.prog 22 = some 9 := by kernel_rfl
theorem F7.ti22 : (telem Tryd.prog 22).isSome = true := by kernel_rfl
theorem F7.tl22 : (telem Tryd.prog 22).bind (tsz Tryd.prog) = some 1 := by kernel_rfl
theorem F7.ze9 : tzero Tryd.prog 9 = some [(.str (pk ([] : List UInt8)))] := by kernel_rfl
theorem laws_toStringS_ok {fr : List Pc} {H : Heap} (v0 : AV) (l0 : List (List UInt8)) (hs : Sep H (fr)) (g0 : ∀ H, Sep H fr → Shows H v0 1 (enc eStr l0)) (K : (List (List UInt8)) → Prop) (h : laws_toStringS.wp l0 K) : OkQ Tryd.prog 7 [(.v v0)] H (fun r H2 => ∃ (y0 : List (List UInt8)), K y0 ∧ ∃ (w0_ : AV), r = (.v w0_) ∧ Sep H2 (Pc.osl w0_ 1 (enc eStr y0) :: fr)) := by
  unfold laws_toStringS.wp at h
  refine of_body Tryd.f7 F.hm Tryd.func7 rfl Tryd.call7 (by kernel_rfl) (by simp) ?_
  refine fi_seq ?_
  refine fi_region ?_
  refine so_assign (v := (.v .nilsl)) rfl ?_
  refine so_nil ?_
  refine fi_seq ?_
  refine fi_region ?_
  refine so_move (v := (.v v0)) rfl ?_
  refine sv_len (g0 _ hs) (fun _ => rfl) (by decide) rfl F7.ti22 ?_
  obtain ⟨c101, h⟩ := h
  refine sv_make hs eStr ([] : List UInt8) c101 (fun _ => rfl) rfl rfl F7.te22 F7.sz9 F7.by9 F7.ze9 rfl rfl nofun (fun v102 H103 nv102 hs => ?_)
  refine so_assign (v := (.v v102)) rfl ?_
  refine so_nil ?_
  refine fi_seq ?_
  refine fi_seq ?_
  refine fi_region ?_
  refine so_assign (v := (.v (.int .i64 (0 : Int)))) rfl ?_
  refine so_nil ?_
  refine fi_block ?_
  refine fi_loop ?_
  refine fi_at [(0, (.v v0)), (3, (.v v102)), (4, (.v (.int .i64 (0 : Int))))] ⟨rfl, rfl, rfl, trivial⟩ ?_
  refine h (fun (out112 : List (List UInt8)) (i113 : Int) => ∀ (s : Nat → TV) (H : Heap), Sep H (Pc.osl v102 1 (enc eStr out112) :: fr) → Fin _ _ (updL s [(0, (.v v0)), (3, (.v v102)), (4, (.v (.int .i64 i113)))]) H _) ?_ _ _ hs
  intro out112 i113 h s118 H119 hs
  refine fi_inLoop ?_
  refine fi_seq ?_
  refine fi_seq ?_
  refine fi_region ?_
  refine so_move (v := (.v (.int .i64 i113))) rfl ?_
  refine so_move (v := (.v v0)) rfl ?_
  refine sv_len (g0 _ hs.tl) (fun _ => rfl) (by decide) rfl F7.ti22 ?_
  refine so_bin rfl rfl ab_lss ?_
  refine so_nil ?_
  replace h := ofP h; rcases h with ⟨c114, h⟩ | ⟨c114, h⟩
  · refine fi_true rfl (decide_eq_true c114) ?_
    refine fi_skip ?_
    refine fi_seq ?_
    refine fi_block ?_
    refine fi_region ?_
    refine so_move (v := (.v v102)) rfl ?_
    refine so_move (v := (.v (.int .i64 i113))) rfl ?_
    refine so_move (v := (.v v0)) rfl ?_
    refine so_move (v := (.v (.int .i64 i113))) rfl ?_
    obtain ⟨c115, h⟩ := h
    refine sv_idx (g0 _ hs.tl) c115 (fun _ => rfl) (by decide) rfl rfl F7.tl22 ?_
    refine sv_cell (g0 _ hs.tl) c115 ([] : List UInt8) 0 (fun x => (AV.str (pk x))) (fun _ => rfl) (fun _ => rfl) rfl F7.ag9 ?_
    obtain ⟨c116, h⟩ := h
    refine sv_idx (hs.shows 0 rfl) c116 (fun _ => rfl) (by decide) rfl rfl F7.tl22 ?_
    refine sv_set hs 0 rfl c116 (l0.getD (i113).toNat ([] : List UInt8)) (fun _ => rfl) (by decide) rfl rfl rfl rfl F7.sz9 nofun (fun H117 hs => ?_)
    refine so_nil ?_
    refine fi_inBlock ?_
    refine fi_region ?_
    refine so_move (v := (.v (.int .i64 i113))) rfl ?_
    refine so_bin rfl rfl ab_add ?_
    refine so_assign (v := (.v (.int .i64 (IntKind.i64.wrap (i113 + (1 : Int)))))) rfl ?_
    refine so_nil ?_
    exact fi_at [(0, (.v v0)), (3, (.v v102)), (4, (.v (.int .i64 (IntKind.i64.wrap (i113 + (1 : Int))))))] ⟨rfl, rfl, rfl, trivial⟩ (h _ _  hs)
  · refine fi_false rfl (decide_eq_false c114) ?_
    refine fi_exit rfl ?_
    refine fi_seq ?_
    refine fi_region ?_
    refine so_move (v := (.v v102)) rfl ?_
    refine so_assign (v := (.v v102)) rfl ?_
    refine so_nil ?_
    exact by_ret rfl ⟨_, h, _, rfl, hs⟩

end Go.Proofs.YtecdkjnomkdbkaaDoor.G

namespace Go.Proofs.YtecdkjnomkdbkaaDoor.G
open Go Go.Ab Go.Proofs Go.Proofs.YtecdkjnomkdbkaaDoor
set_option maxRecDepth 100000
set_option linter.unusedVariables false
set_option linter.unusedSimpArgs false
set_option maxHeartbeats 1000000
attribute [local irreducible] wops wopf Go.Ab.Fin
theorem strings_Contains_ok {fr : List Pc} {H : Heap} (a0 : List UInt8) (a1 : List UInt8) (hs : Sep H fr) (K : Bool → Prop) (h : strings_Contains.wp a0 a1 K) : OkQ Tryd.prog 29 [.v (.str (pk a0)), .v (.str (pk a1))] H (fun r H2 => ∃ (y0 : Bool), K y0 ∧ r = (.v (.bool y0)) ∧ H = H2) := by
  obtain ⟨c, rfl, h⟩ := h
  exact ⟨.v (.bool (decide (0 ≤ Lib.indexByte a0 c))), _, ok_lib [.string (pk a0), .string (pk [c])] (.bool (decide (0 ≤ Lib.indexByte a0 c))) Tryd.call29 (args_ss _ _) (fun β => rfl) (fun w => Any.strings_Contains_one Tryd.lays144 (pk a0) c w), _, h, rfl, rfl⟩

end Go.Proofs.YtecdkjnomkdbkaaDoor.G

namespace Go.Proofs.YtecdkjnomkdbkaaDoor.G
open Go Go.Ab Go.Proofs Go.Proofs.YtecdkjnomkdbkaaDoor
set_option maxRecDepth 100000
set_option linter.unusedVariables false
set_option linter.unusedSimpArgs false
set_option maxHeartbeats 1000000
attribute [local irreducible] wops wopf Go.Ab.Fin
theorem impl_within_ok {fr : List Pc} {H : Heap} (a0 : Int) (a1 : Int) (a2 : Int) (hs : Sep H (fr))  (K : Bool → Prop) (h : impl_within.wp a0 a1 a2 K) : OkQ Tryd.prog 41 [(.v (.int .i64 a0)), (.v (.int .i64 a1)), (.v (.int .i64 a2))] H (fun r H2 => ∃ (y0 : Bool), K y0 ∧ r = (.v (.bool y0)) ∧ H = H2) := by
  unfold impl_within.wp at h
  refine of_body Tryd.f41 F.hm Tryd.func41 rfl Tryd.call41 (by kernel_rfl) (by simp) ?_
  refine fi_seq ?_
  refine fi_region ?_
  refine so_assign (v := (.v (.bool false))) rfl ?_
  refine so_nil ?_
  refine fi_seq ?_
  refine fi_region ?_
  refine so_move (v := (.v (.int .i64 a0))) rfl ?_
  refine so_move (v := (.v (.int .i64 a1))) rfl ?_
  refine so_bin rfl rfl ab_geq ?_
  refine so_move (v := (.v (.bool (decide (a1 ≤ a0))))) rfl ?_
  replace h := ofP h; rcases h with ⟨c101, h⟩ | ⟨c101, h⟩
  · refine so_gyes rfl (decide_eq_true c101) ?_
    refine so_move (v := (.v (.int .i64 a0))) rfl ?_
    refine so_gyes rfl (decide_eq_true c101) ?_
    refine so_move (v := (.v (.int .i64 a2))) rfl ?_
    refine so_gyes rfl (decide_eq_true c101) ?_
    refine so_bin rfl rfl ab_leq ?_
    refine so_pick_t (v := (.v (.bool (decide (a0 ≤ a2))))) rfl (decide_eq_true c101) rfl ?_
    refine so_assign (v := (.v (.bool (decide (a0 ≤ a2))))) rfl ?_
    refine so_nil ?_
    exact by_ret rfl ⟨_, h, rfl, rfl⟩
  · refine so_gno rfl (decide_eq_false c101) ?_
    refine so_gno rfl (decide_eq_false c101) ?_
    refine so_gno rfl (decide_eq_false c101) ?_
    refine so_pick_f (v := (.v (.bool false))) rfl (decide_eq_false c101) rfl ?_
    refine so_assign (v := (.v (.bool false))) rfl ?_
    refine so_nil ?_
    exact by_ret rfl ⟨_, h, rfl, rfl⟩

end Go.Proofs.YtecdkjnomkdbkaaDoor.G

namespace Go.Proofs.YtecdkjnomkdbkaaDoor.G
open Go Go.Ab Go.Proofs Go.Proofs.YtecdkjnomkdbkaaDoor
set_option maxRecDepth 100000
set_option linter.unusedVariables false
set_option linter.unusedSimpArgs false
set_option maxHeartbeats 1000000
attribute [local irreducible] wops wopf Go.Ab.Fin
theorem F30.it2 : tint Tryd.prog 2 = some .i64 := by kernel_rfl
theorem F30.sr9 : tstr Tryd.prog 9 = true := by kernel_rfl
theorem F30.us5 : (Tryd.prog.underlying 5).isSome = true := by kernel_rfl
theorem impl_CheckOf_ok {fr : List Pc} {H : Heap} (a0 : Int) (a1 : List UInt8) (hs : Sep H (fr))  (K : Int → Bool → Prop) (h : impl_CheckOf.wp a0 a1 K) : OkQ Tryd.prog 30 [(.v (.int .i64 a0)), (.v (.str (pk a1)))] H (fun r H2 => ∃ (y0 : Int) (y1 : Bool), K y0 y1 ∧ r = (.t [(.v (.int .i64 y0)), (.v (.bool y1))]) ∧ H = H2) := by
  unfold impl_CheckOf.wp at h
  refine of_body Tryd.f30 F.hm Tryd.func30 rfl Tryd.call30 (by kernel_rfl) (by simp) ?_
  refine fi_seq ?_
  refine fi_region ?_
  refine so_assign (v := (.v (.int .i64 (0 : Int)))) rfl ?_
  refine so_assign (v := (.v (.bool false))) rfl ?_
  refine so_nil ?_
  refine fi_seq ?_
  refine fi_seq ?_
  refine fi_region ?_
  refine so_move (v := (.v (.int .i64 a0))) rfl ?_
  refine sv_callS (impl_within_ok a0 (0 : Int) (65002 : Int) hs  _ h) (fun _ _ ⟨_, _, _, e⟩ => e) rfl rfl ?_
  clear h
  rintro _ _ ⟨y101, h, rfl, rfl⟩
  refine so_un rfl au_not ?_
  refine so_nil ?_
  replace h := ofT h; rcases h with ⟨c103, h⟩ | ⟨c103, h⟩
  · refine fi_false rfl (not_f c103) ?_
    refine fi_skip ?_
    refine fi_seq ?_
    refine fi_seq ?_
    refine fi_region ?_
    refine so_move (v := (.v (.str (pk a1)))) rfl ?_
    refine so_slen rfl F30.sr9 ?_
    refine so_move (v := (.v (.int .i64 (0 : Int)))) rfl ?_
    refine so_nil ?_
    refine fi_block ?_
    refine fi_loop ?_
    refine fi_at [(0, (.v (.int .i64 a0))), (1, (.v (.str (pk a1)))), (11, (.v (.int .i64 (a1.length : Int)))), (12, (.v (.int .i64 (0 : Int))))] ⟨rfl, rfl, rfl, rfl, trivial⟩ ?_
    refine h (fun (start105 : Int) (x106 : Int) => ∀ (s : Nat → TV), Fin _ _ (updL s [(0, (.v (.int .i64 start105))), (1, (.v (.str (pk a1)))), (11, (.v (.int .i64 (a1.length : Int)))), (12, (.v (.int .i64 x106)))]) _ _) ?_ _
    intro start105 x106 h s109
    refine fi_inLoop ?_
    refine fi_seq ?_
    refine fi_region ?_
    refine so_bin rfl rfl ab_lss ?_
    refine so_nil ?_
    refine fi_seq ?_
    replace h := ofP h; rcases h with ⟨c107, h⟩ | ⟨c107, h⟩
    · refine fi_true rfl (decide_eq_true c107) ?_
      refine fi_skip ?_
      refine fi_seq ?_
      refine fi_block ?_
      refine fi_seq ?_
      refine fi_region ?_
      refine so_move (v := (.v (.int .i64 x106))) rfl ?_
      refine so_assign (v := (.v (.int .i64 x106))) rfl ?_
      refine so_nil ?_
      refine fi_region ?_
      refine so_move (v := (.v (.int .i64 start105))) rfl ?_
      refine so_bin rfl rfl ab_mul ?_
      refine so_move (v := (.v (.str (pk a1)))) rfl ?_
      refine so_move (v := (.v (.int .i64 x106))) rfl ?_
      obtain ⟨c108, h⟩ := h
      refine so_index rfl rfl F30.sr9 c108 ?_
      refine sv_ii rfl F30.us5 F30.it2 ?_
      refine so_bin rfl rfl ab_add ?_
      refine so_bin rfl rfl ab_add ?_
      refine so_bin rfl rfl (ab_rem (by decide)) ?_
      refine so_assign (v := (.v (.int .i64 (Int.tmod (IntKind.i64.wrap ((IntKind.i64.wrap ((IntKind.i64.wrap ((853 : Int) * start105)) + (IntKind.i64.wrap (bt a1 x106)))) + (139 : Int))) (65003 : Int))))) rfl ?_
      refine so_nil ?_
      refine fi_inBlock ?_
      refine fi_region ?_
      refine so_bin rfl rfl ab_add ?_
      refine so_move (v := (.v (.int .i64 (IntKind.i64.wrap (x106 + (1 : Int)))))) rfl ?_
      refine so_nil ?_
      exact fi_at [(0, (.v (.int .i64 (Int.tmod (IntKind.i64.wrap ((IntKind.i64.wrap ((IntKind.i64.wrap ((853 : Int) * start105)) + (IntKind.i64.wrap (bt a1 x106)))) + (139 : Int))) (65003 : Int))))), (1, (.v (.str (pk a1)))), (11, (.v (.int .i64 (a1.length : Int)))), (12, (.v (.int .i64 (IntKind.i64.wrap (x106 + (1 : Int))))))] ⟨rfl, rfl, rfl, rfl, trivial⟩ (h _)
    · refine fi_false rfl (decide_eq_false c107) ?_
      refine fi_exit rfl ?_
      refine fi_seq ?_
      refine fi_region ?_
      refine so_move (v := (.v (.int .i64 start105))) rfl ?_
      refine so_assign (v := (.v (.int .i64 start105))) rfl ?_
      refine so_assign (v := (.v (.bool true))) rfl ?_
      refine so_nil ?_
      exact by_ret rfl ⟨_, _, h, rfl, rfl⟩
  · refine fi_true rfl (not_t c103) ?_
    refine fi_seq ?_
    refine fi_region ?_
    refine so_assign (v := (.v (.int .i64 (0 : Int)))) rfl ?_
    refine so_assign (v := (.v (.bool false))) rfl ?_
    refine so_nil ?_
    exact by_ret rfl ⟨_, _, h, rfl, rfl⟩

end Go.Proofs.YtecdkjnomkdbkaaDoor.G

namespace Go.Proofs.YtecdkjnomkdbkaaDoor.G
open Go Go.Ab Go.Proofs Go.Proofs.YtecdkjnomkdbkaaDoor
set_option maxRecDepth 100000
set_option linter.unusedVariables false
set_option linter.unusedSimpArgs false
set_option maxHeartbeats 1000000
attribute [local irreducible] wops wopf Go.Ab.Fin
theorem F81.sr9 : tstr Tryd.prog 9 = true := by kernel_rfl
theorem internal_strconv_small_ok {fr : List Pc} {H : Heap} (a0 : Int) (hs : Sep H (fr))  (K : (List UInt8) → Prop) (h : internal_strconv_small.wp a0 K) : OkQ Tryd.prog 81 [(.v (.int .i64 a0))] H (fun r H2 => ∃ (y0 : List UInt8), K y0 ∧ r = (.v (.str (pk y0))) ∧ H = H2) := by
  unfold internal_strconv_small.wp at h
  refine of_body Tryd.f81 F.hm Tryd.func81 rfl Tryd.call81 (by kernel_rfl) (by simp) ?_
  refine fi_seq ?_
  refine fi_region ?_
  refine so_assign (v := (.v (.str (pk ([] : List UInt8))))) rfl ?_
  refine so_nil ?_
  refine fi_seq ?_
  refine fi_seq ?_
  refine fi_region ?_
  refine so_move (v := (.v (.int .i64 a0))) rfl ?_
  refine so_bin rfl rfl ab_lss ?_
  refine so_nil ?_
  replace h := ofP h; rcases h with ⟨c101, h⟩ | ⟨c101, h⟩
  · refine fi_true rfl (decide_eq_true c101) ?_
    refine fi_seq ?_
    refine fi_region ?_
    refine so_move (v := (.v (.int .i64 a0))) rfl ?_
    refine so_move (v := (.v (.int .i64 a0))) rfl ?_
    refine so_bin rfl rfl ab_add ?_
    obtain ⟨c102, h⟩ := h
    refine so_sslice rfl rfl rfl F81.sr9 rfl rfl c102 ?_
    refine so_assign (v := (.v (.str (pk ((([48, 49, 50, 51, 52, 53, 54, 55, 56, 57, 97, 98, 99, 100, 101, 102, 103, 104, 105, 106, 107, 108, 109, 110, 111, 112, 113, 114, 115, 116, 117, 118, 119, 120, 121, 122] : List UInt8).drop (a0).toNat).take (((IntKind.i64.wrap (a0 + (1 : Int)))).toNat - (a0).toNat)))))) rfl ?_
    refine so_nil ?_
    exact by_ret rfl ⟨_, h, rfl, rfl⟩
  · refine fi_false rfl (decide_eq_false c101) ?_
    refine fi_skip ?_
    refine fi_seq ?_
    refine fi_region ?_
    refine so_move (v := (.v (.int .i64 a0))) rfl ?_
    refine so_bin rfl rfl ab_mul ?_
    refine so_move (v := (.v (.int .i64 a0))) rfl ?_
    refine so_bin rfl rfl ab_mul ?_
    refine so_bin rfl rfl ab_add ?_
    obtain ⟨c103, h⟩ := h
    refine so_sslice rfl rfl rfl F81.sr9 rfl rfl c103 ?_
    refine so_assign (v := (.v (.str (pk ((([48, 48, 48, 49, 48, 50, 48, 51, 48, 52, 48, 53, 48, 54, 48, 55, 48, 56, 48, 57, 49, 48, 49, 49, 49, 50, 49, 51, 49, 52, 49, 53, 49, 54, 49, 55, 49, 56, 49, 57, 50, 48, 50, 49, 50, 50, 50, 51, 50, 52, 50, 53, 50, 54, 50, 55, 50, 56, 50, 57, 51, 48, 51, 49, 51, 50, 51, 51, 51, 52, 51, 53, 51, 54, 51, 55, 51, 56, 51, 57, 52, 48, 52, 49, 52, 50, 52, 51, 52, 52, 52, 53, 52, 54, 52, 55, 52, 56, 52, 57, 53, 48, 53, 49, 53, 50, 53, 51, 53, 52, 53, 53, 53, 54, 53, 55, 53, 56, 53, 57, 54, 48, 54, 49, 54, 50, 54, 51, 54, 52, 54, 53, 54, 54, 54, 55, 54, 56, 54, 57, 55, 48, 55, 49, 55, 50, 55, 51, 55, 52, 55, 53, 55, 54, 55, 55, 55, 56, 55, 57, 56, 48, 56, 49, 56, 50, 56, 51, 56, 52, 56, 53, 56, 54, 56, 55, 56, 56, 56, 57, 57, 48, 57, 49, 57, 50, 57, 51, 57, 52, 57, 53, 57, 54, 57, 55, 57, 56, 57, 57] : List UInt8).drop ((IntKind.i64.wrap (a0 * (2 : Int)))).toNat).take (((IntKind.i64.wrap ((IntKind.i64.wrap (a0 * (2 : Int))) + (2 : Int)))).toNat - ((IntKind.i64.wrap (a0 * (2 : Int)))).toNat)))))) rfl ?_
    refine so_nil ?_
    exact by_ret rfl ⟨_, h, rfl, rfl⟩

end Go.Proofs.YtecdkjnomkdbkaaDoor.G

namespace Go.Proofs.YtecdkjnomkdbkaaDoor.G
open Go Go.Ab Go.Proofs Go.Proofs.YtecdkjnomkdbkaaDoor
set_option maxRecDepth 100000
set_option linter.unusedVariables false
set_option linter.unusedSimpArgs false
set_option maxHeartbeats 1000000
attribute [local irreducible] wops wopf Go.Ab.Fin
theorem internal_strconv_isPowerOfTwo_ok {fr : List Pc} {H : Heap} (a0 : Int) (hs : Sep H (fr))  (K : Bool → Prop) (h : internal_strconv_isPowerOfTwo.wp a0 K) : OkQ Tryd.prog 92 [(.v (.int .i64 a0))] H (fun r H2 => ∃ (y0 : Bool), K y0 ∧ r = (.v (.bool y0)) ∧ H = H2) := by
  unfold internal_strconv_isPowerOfTwo.wp at h
  refine of_body Tryd.f92 F.hm Tryd.func92 rfl Tryd.call92 (by kernel_rfl) (by simp) ?_
  refine fi_seq ?_
  refine fi_region ?_
  refine so_assign (v := (.v (.bool false))) rfl ?_
  refine so_nil ?_
  refine fi_seq ?_
  refine fi_region ?_
  refine so_move (v := (.v (.int .i64 a0))) rfl ?_
  refine so_move (v := (.v (.int .i64 a0))) rfl ?_
  refine so_bin rfl rfl ab_sub ?_
  refine so_bin rfl rfl ab_and ?_
  refine so_bin rfl rfl ab_eql ?_
  refine so_assign (v := (.v (.bool (decide ((ibits .and .i64 a0 (IntKind.i64.wrap (a0 - (1 : Int)))) = (0 : Int)))))) rfl ?_
  refine so_nil ?_
  exact by_ret rfl ⟨_, h, rfl, rfl⟩

end Go.Proofs.YtecdkjnomkdbkaaDoor.G

namespace Go.Proofs.YtecdkjnomkdbkaaDoor.G
open Go Go.Ab Go.Proofs Go.Proofs.YtecdkjnomkdbkaaDoor
set_option maxRecDepth 100000
set_option linter.unusedVariables false
set_option linter.unusedSimpArgs false
set_option maxHeartbeats 1000000
attribute [local irreducible] wops wopf Go.Ab.Fin
theorem math_bits_TrailingZeros_ok {fr : List Pc} {H : Heap} (a0 : Int) (hs : Sep H fr) (gt6 : ∀ H, Sep H fr → HasTab 6 F.tab6 H) (K : Int → Prop) (h : math_bits_TrailingZeros.wp a0 K) : OkQ Tryd.prog 93 [.v (.int .u64 a0)] H (fun r H2 => ∃ (y0 : Int), K y0 ∧ r = (.v (.int .i64 y0)) ∧ H = H2) := by
  obtain ⟨x, rfl⟩ : ∃ x : Nat, a0 = (x : Int) := ⟨a0.toNat, by have := h.1.1; omega⟩
  exact ⟨.v (.int .i64 ((Lib.ctz 64 x : Nat) : Int)), _, ok_libB (.int .i64 ((Lib.ctz 64 x : Nat) : Int)) Tryd.call93 (fun β => rfl) (fun β w us hw ha => by
    obtain ⟨o, ho1, ho2⟩ := (gt6 H hs).heap hw
    rw [args_i _ _ β us ha]
    exact (Any7.bits_TrailingZeros Tryd.lays727 x (by have := h.1.2; omega) w (fun _ => tab_bytes (by kernel_rfl) ho2 ho1)).mono fun e w' ⟨he, hw'⟩ => ⟨he, hw' ▸ Go.RowKit.Below.refl _ _⟩), _, h.2, rfl, rfl⟩

end Go.Proofs.YtecdkjnomkdbkaaDoor.G

namespace Go.Proofs.YtecdkjnomkdbkaaDoor.G
open Go Go.Ab Go.Proofs Go.Proofs.YtecdkjnomkdbkaaDoor
set_option maxRecDepth 100000
set_option linter.unusedVariables false
set_option linter.unusedSimpArgs false
set_option maxHeartbeats 1000000
attribute [local irreducible] wops wopf Go.Ab.Fin
theorem F84.ar126 : tarr Tryd.prog 126 = some (65, 5) := by kernel_rfl
theorem F84.it47 : tint Tryd.prog 47 = some .u64 := by kernel_rfl
theorem F84.it5 : tint Tryd.prog 5 = some .u8 := by kernel_rfl
theorem F84.it88 : tint Tryd.prog 88 = some .u64 := by kernel_rfl
theorem F84.sr9 : tstr Tryd.prog 9 = true := by kernel_rfl
theorem F84.sz5 : tsz Tryd.prog 5 = some 1 := by kernel_rfl
theorem F84.te29 : telem Tryd.prog 29 = some 5 := by kernel_rfl
theorem F84.us29 : (Tryd.prog.underlying 29).isSome = true := by kernel_rfl
theorem F84.us3 : (Tryd.prog.underlying 3).isSome = true := by kernel_rfl
theorem F84.za126 : tzero Tryd.prog 126 = some (List.replicate 65 (.int .u8 (0 : Int))) := by kernel_rfl
theorem internal_strconv_formatBits_ok {fr : List Pc} {H : Heap} (v0 : AV) (l0 : List (Int)) (a1 : Int) (a2 : Int) (a3 : Bool) (a4 : Bool) (hs : Sep H (fr)) (g0 : ∀ H, Sep H fr → Shows H v0 1 (enc (eInt .u8) l0)) (gt6 : ∀ H, Sep H fr → HasTab 6 F.tab6 H) (K : (List (Int)) → (List UInt8) → Prop) (h : internal_strconv_formatBits.wp l0 a1 a2 a3 a4 K) : OkQ Tryd.prog 84 [(.v v0), (.v (.int .u64 a1)), (.v (.int .i64 a2)), (.v (.bool a3)), (.v (.bool a4))] H (fun r H2 => ∃ (y0 : List (Int)) (y1 : List UInt8), K y0 y1 ∧ ∃ (w0_ : AV), r = (.t [(.v w0_), (.v (.str (pk y1)))]) ∧ Sep H2 (Pc.osl w0_ 1 (enc (eInt .u8) y0) :: fr)) := by
  unfold internal_strconv_formatBits.wp at h
  refine of_body Tryd.f84 F.hm Tryd.func84 rfl Tryd.call84 (by kernel_rfl) (by simp) ?_
  refine fi_seq ?_
  refine fi_region ?_
  refine so_assign (v := (.v .nilsl)) rfl ?_
  refine so_assign (v := (.v (.str (pk ([] : List UInt8))))) rfl ?_
  refine so_nil ?_
  refine fi_seq ?_
  refine fi_seq ?_
  refine fi_region ?_
  refine so_move (v := (.v (.int .i64 a2))) rfl ?_
  refine so_bin rfl rfl ab_lss ?_
  refine so_move (v := (.v (.bool (decide (a2 < (2 : Int)))))) rfl ?_
  replace h := ofP h; rcases h with ⟨c101, h⟩ | ⟨c101, h⟩
  · refine so_gno rfl (decide_eq_true c101) ?_
    refine so_gno rfl (decide_eq_true c101) ?_
    refine so_pick_t (v := (.v (.bool true))) rfl (decide_eq_true c101) rfl ?_
    refine so_move (v := (.v (.bool true))) rfl ?_
    refine so_gno rfl rfl ?_
    refine so_gno rfl rfl ?_
    refine so_pick_t (v := (.v (.bool true))) rfl rfl rfl ?_
    refine so_nil ?_
    refine fi_true rfl rfl ?_
    refine fi_region ?_
    exact h.elim
  · refine so_gyes rfl (decide_eq_false c101) ?_
    refine so_move (v := (.v (.int .i64 a2))) rfl ?_
    refine so_gyes rfl (decide_eq_false c101) ?_
    refine so_bin rfl rfl ab_eql ?_
    refine so_pick_f (v := (.v (.bool (decide (a2 = (10 : Int)))))) rfl (decide_eq_false c101) rfl ?_
    refine so_move (v := (.v (.bool (decide (a2 = (10 : Int)))))) rfl ?_
    replace h := ofP h; rcases h with ⟨c102, h⟩ | ⟨c102, h⟩
    · refine so_gno rfl (decide_eq_true c102) ?_
      refine so_gno rfl (decide_eq_true c102) ?_
      refine so_pick_t (v := (.v (.bool true))) rfl (decide_eq_true c102) rfl ?_
      refine so_nil ?_
      refine fi_true rfl rfl ?_
      refine fi_region ?_
      exact h.elim
    · refine so_gyes rfl (decide_eq_false c102) ?_
      refine so_move (v := (.v (.int .i64 a2))) rfl ?_
      refine so_gyes rfl (decide_eq_false c102) ?_
      refine so_bin rfl rfl ab_gtr ?_
      refine so_pick_f (v := (.v (.bool (decide ((36 : Int) < a2))))) rfl (decide_eq_false c102) rfl ?_
      refine so_nil ?_
      replace h := ofP h; rcases h with ⟨c103, h⟩ | ⟨c103, h⟩
      · refine fi_true rfl (decide_eq_true c103) ?_
        refine fi_region ?_
        exact h.elim
      · refine fi_false rfl (decide_eq_false c103) ?_
        refine fi_skip ?_
        refine fi_seq ?_
        refine fi_region ?_
        refine sv_allocA hs 65 (eInt .u8) (0 : Int) (fun _ => rfl) F84.za126 (by rfl) (by rfl) nofun (fun v104 H105 nv104 av104 hs => ?_)
        refine so_nil ?_
        refine fi_seq ?_
        refine fi_region ?_
        refine so_assign (v := (.v (.int .i64 (65 : Int)))) rfl ?_
        refine so_nil ?_
        refine fi_seq ?_
        refine fi_seq ?_
        refine fi_region ?_
        refine so_move (v := (.v (.bool a3))) rfl ?_
        refine so_nil ?_
        replace h := ofT h; rcases h with ⟨c107, h⟩ | ⟨c107, h⟩
        · refine fi_true rfl c107 ?_
          refine fi_region ?_
          refine so_move (v := (.v (.int .u64 a1))) rfl ?_
          refine so_un rfl au_neg ?_
          refine so_assign (v := (.v (.int .u64 (IntKind.u64.wrap (0 - a1))))) rfl ?_
          refine so_nil ?_
          refine fi_seq ?_
          refine fi_seq ?_
          refine fi_region ?_
          refine so_move (v := (.v (.int .i64 a2))) rfl ?_
          refine sv_callS (internal_strconv_isPowerOfTwo_ok a2 hs  _ h) (fun _ _ ⟨_, _, _, e⟩ => e) rfl rfl ?_
          clear h
          rintro _ _ ⟨y108, h, rfl, rfl⟩
          refine so_nil ?_
          replace h := ofT h; rcases h with ⟨c110, h⟩ | ⟨c110, h⟩
          · refine fi_true rfl c110 ?_
            refine fi_seq ?_
            refine fi_region ?_
            refine so_move (v := (.v (.int .i64 a2))) rfl ?_
            refine sv_ii rfl F84.us3 F84.it47 ?_
            refine sv_callS (math_bits_TrailingZeros_ok (IntKind.u64.wrap a2) hs (fun _ hs => gt6 _ hs.tl) _ h) (fun _ _ ⟨_, _, _, e⟩ => e) rfl rfl ?_
            clear h
            rintro _ _ ⟨y111, h, rfl, rfl⟩
            refine sv_ii rfl F84.us3 F84.it47 ?_
            refine so_assign (v := (.v (.int .u64 (IntKind.u64.wrap y111)))) rfl ?_
            refine so_nil ?_
            refine fi_seq ?_
            refine fi_region ?_
            refine so_move (v := (.v (.int .i64 a2))) rfl ?_
            refine sv_ii rfl F84.us3 F84.it88 ?_
            refine so_assign (v := (.v (.int .u64 (IntKind.u64.wrap a2)))) rfl ?_
            refine so_nil ?_
            refine fi_seq ?_
            refine fi_region ?_
            refine so_move (v := (.v (.int .i64 a2))) rfl ?_
            refine sv_ii rfl F84.us3 F84.it47 ?_
            refine so_bin rfl rfl ab_sub ?_
            refine so_assign (v := (.v (.int .u64 (IntKind.u64.wrap ((IntKind.u64.wrap a2) - (1 : Int)))))) rfl ?_
            refine so_nil ?_
            refine fi_seq ?_
            refine fi_block ?_
            refine fi_loop ?_
            refine fi_at [(0, (.v v0)), (1, (.v (.int .u64 (IntKind.u64.wrap (0 - a1))))), (3, (.v (.bool a3))), (4, (.v (.bool a4))), (10, (.v .nilsl)), (11, (.v (.str (pk ([] : List UInt8))))), (12, (.v (.ptr v104.id0 0))), (13, (.v (.int .i64 (65 : Int)))), (14, (.v (.int .u64 (IntKind.u64.wrap y111)))), (15, (.v (.int .u64 (IntKind.u64.wrap a2)))), (16, (.v (.int .u64 (IntKind.u64.wrap ((IntKind.u64.wrap a2) - (1 : Int))))))] ⟨rfl, rfl, rfl, rfl, rfl, rfl, rfl, rfl, rfl, rfl, rfl, trivial⟩ ?_
            refine h (fun (l130 : List (Int)) (u131 : Int) (i132 : Int) => ∀ (s : Nat → TV) (H : Heap), Sep H (Pc.osl v104 1 (enc (eInt .u8) l130) :: fr) → Fin _ _ (updL s [(0, (.v v0)), (1, (.v (.int .u64 u131))), (3, (.v (.bool a3))), (4, (.v (.bool a4))), (10, (.v .nilsl)), (11, (.v (.str (pk ([] : List UInt8))))), (12, (.v (.ptr v104.id0 0))), (13, (.v (.int .i64 i132))), (14, (.v (.int .u64 (IntKind.u64.wrap y111)))), (15, (.v (.int .u64 (IntKind.u64.wrap a2)))), (16, (.v (.int .u64 (IntKind.u64.wrap ((IntKind.u64.wrap a2) - (1 : Int))))))]) H _) ?_ _ _ hs
            intro l130 u131 i132 h s146 H147 hs
            refine fi_inLoop ?_
            refine fi_seq ?_
            refine fi_seq ?_
            refine fi_region ?_
            refine so_move (v := (.v (.int .u64 u131))) rfl ?_
            refine so_move (v := (.v (.int .u64 (IntKind.u64.wrap a2)))) rfl ?_
            refine so_bin rfl rfl ab_geq ?_
            refine so_nil ?_
            replace h := ofP h; rcases h with ⟨c133, h⟩ | ⟨c133, h⟩
            · refine fi_true rfl (decide_eq_true c133) ?_
              refine fi_skip ?_
              refine fi_block ?_
              refine fi_seq ?_
              refine fi_region ?_
              refine so_move (v := (.v (.int .i64 i132))) rfl ?_
              refine so_bin rfl rfl ab_sub ?_
              refine so_assign (v := (.v (.int .i64 (IntKind.i64.wrap (i132 - (1 : Int)))))) rfl ?_
              refine so_nil ?_
              refine fi_seq ?_
              refine fi_region ?_
              refine so_move (v := (.v (.int .i64 (IntKind.i64.wrap (i132 - (1 : Int)))))) rfl ?_
              refine so_move (v := (.v (.int .u64 u131))) rfl ?_
              refine so_move (v := (.v (.int .u64 (IntKind.u64.wrap ((IntKind.u64.wrap a2) - (1 : Int)))))) rfl ?_
              refine so_bin rfl rfl ab_and ?_
              obtain ⟨c134, h⟩ := h
              refine so_index rfl rfl F84.sr9 c134 ?_
              obtain ⟨c135, h⟩ := h
              refine sv_idxA hs 0 rfl av104 c135 (fun _ => rfl) (by decide) rfl rfl F84.ar126 F84.sz5 ?_
              refine sv_set hs 0 rfl c135 (bt ([48, 49, 50, 51, 52, 53, 54, 55, 56, 57, 97, 98, 99, 100, 101, 102, 103, 104, 105, 106, 107, 108, 109, 110, 111, 112, 113, 114, 115, 116, 117, 118, 119, 120, 121, 122] : List UInt8) (ibits .and .u64 u131 (IntKind.u64.wrap ((IntKind.u64.wrap a2) - (1 : Int))))) (fun _ => rfl) (by decide) rfl rfl rfl rfl F84.sz5 nofun (fun H136 hs => ?_)
              refine so_nil ?_
              refine fi_region ?_
              refine so_move (v := (.v (.int .u64 u131))) rfl ?_
              refine so_move (v := (.v (.int .u64 (IntKind.u64.wrap y111)))) rfl ?_
              obtain ⟨c137, h⟩ := h
              refine so_bin rfl rfl (ab_shr c137) ?_
              refine so_assign (v := (.v (.int .u64 (Int.fdiv u131 (2 ^ (min ((IntKind.u64.wrap y111)).toNat IntKind.u64.bits)))))) rfl ?_
              refine so_nil ?_
              refine fi_inBlock ?_
              exact fi_at [(0, (.v v0)), (1, (.v (.int .u64 (Int.fdiv u131 (2 ^ (min ((IntKind.u64.wrap y111)).toNat IntKind.u64.bits)))))), (3, (.v (.bool a3))), (4, (.v (.bool a4))), (10, (.v .nilsl)), (11, (.v (.str (pk ([] : List UInt8))))), (12, (.v (.ptr v104.id0 0))), (13, (.v (.int .i64 (IntKind.i64.wrap (i132 - (1 : Int)))))), (14, (.v (.int .u64 (IntKind.u64.wrap y111)))), (15, (.v (.int .u64 (IntKind.u64.wrap a2)))), (16, (.v (.int .u64 (IntKind.u64.wrap ((IntKind.u64.wrap a2) - (1 : Int))))))] ⟨rfl, rfl, rfl, rfl, rfl, rfl, rfl, rfl, rfl, rfl, rfl, trivial⟩ (h _ _  hs)
            · refine fi_false rfl (decide_eq_false c133) ?_
              refine fi_exit rfl ?_
              refine fi_seq ?_
              refine fi_region ?_
              refine so_move (v := (.v (.int .i64 i132))) rfl ?_
              refine so_bin rfl rfl ab_sub ?_
              refine so_assign (v := (.v (.int .i64 (IntKind.i64.wrap (i132 - (1 : Int)))))) rfl ?_
              refine so_nil ?_
              refine fi_region ?_
              refine so_move (v := (.v (.int .i64 (IntKind.i64.wrap (i132 - (1 : Int)))))) rfl ?_
              refine so_move (v := (.v (.int .u64 u131))) rfl ?_
              obtain ⟨c138, h⟩ := h
              refine so_index rfl rfl F84.sr9 c138 ?_
              obtain ⟨c139, h⟩ := h
              refine sv_idxA hs 0 rfl av104 c139 (fun _ => rfl) (by decide) rfl rfl F84.ar126 F84.sz5 ?_
              refine sv_set hs 0 rfl c139 (bt ([48, 49, 50, 51, 52, 53, 54, 55, 56, 57, 97, 98, 99, 100, 101, 102, 103, 104, 105, 106, 107, 108, 109, 110, 111, 112, 113, 114, 115, 116, 117, 118, 119, 120, 121, 122] : List UInt8) u131) (fun _ => rfl) (by decide) rfl rfl rfl rfl F84.sz5 nofun (fun H140 hs => ?_)
              refine so_nil ?_
              refine fi_seq ?_
              refine fi_seq ?_
              refine fi_region ?_
              refine so_move (v := (.v (.bool a3))) rfl ?_
              refine so_nil ?_
              refine fi_true rfl c107 ?_
              refine fi_seq ?_
              refine fi_region ?_
              refine so_move (v := (.v (.int .i64 (IntKind.i64.wrap (i132 - (1 : Int)))))) rfl ?_
              refine so_bin rfl rfl ab_sub ?_
              refine so_assign (v := (.v (.int .i64 (IntKind.i64.wrap ((IntKind.i64.wrap (i132 - (1 : Int))) - (1 : Int)))))) rfl ?_
              refine so_nil ?_
              refine fi_region ?_
              refine so_move (v := (.v (.int .i64 (IntKind.i64.wrap ((IntKind.i64.wrap (i132 - (1 : Int))) - (1 : Int)))))) rfl ?_
              obtain ⟨c141, h⟩ := h
              refine sv_idxA hs 0 rfl av104 c141 (fun _ => rfl) (by decide) rfl rfl F84.ar126 F84.sz5 ?_
              refine sv_set hs 0 rfl c141 (45 : Int) (fun _ => rfl) (by decide) rfl rfl rfl rfl F84.sz5 nofun (fun H142 hs => ?_)
              refine so_nil ?_
              refine fi_seq ?_
              refine fi_seq ?_
              refine fi_region ?_
              refine so_move (v := (.v (.bool a4))) rfl ?_
              refine so_nil ?_
              replace h := ofT h; rcases h with ⟨c143, h⟩ | ⟨c143, h⟩
              · exact h.elim
              · refine fi_false rfl c143 ?_
                refine fi_skip ?_
                refine fi_seq ?_
                refine fi_region ?_
                refine so_move (v := (.v (.int .i64 (IntKind.i64.wrap ((IntKind.i64.wrap (i132 - (1 : Int))) - (1 : Int)))))) rfl ?_
                obtain ⟨c145, h⟩ := h
                refine sv_sliceA hs 0 rfl av104 c145 (fun _ => rfl) (by decide) rfl rfl rfl rfl rfl F84.ar126 F84.sz5 ?_
                refine sv_bs (Shows.cut (e := (eInt .u8)) (n := 1) (fun _ => rfl) (hs.shows 0 rfl) (by decide) (cutok c145)) (cut_nn nv104) rfl F84.te29 F84.it5 F84.sr9 ?_
                refine so_assign (v := (.v (.str (pk (byts ((((l130.set ((IntKind.i64.wrap (i132 - (1 : Int)))).toNat (bt ([48, 49, 50, 51, 52, 53, 54, 55, 56, 57, 97, 98, 99, 100, 101, 102, 103, 104, 105, 106, 107, 108, 109, 110, 111, 112, 113, 114, 115, 116, 117, 118, 119, 120, 121, 122] : List UInt8) u131)).set ((IntKind.i64.wrap ((IntKind.i64.wrap (i132 - (1 : Int))) - (1 : Int)))).toNat (45 : Int)).drop ((IntKind.i64.wrap ((IntKind.i64.wrap (i132 - (1 : Int))) - (1 : Int)))).toNat).take (((((l130.set ((IntKind.i64.wrap (i132 - (1 : Int)))).toNat (bt ([48, 49, 50, 51, 52, 53, 54, 55, 56, 57, 97, 98, 99, 100, 101, 102, 103, 104, 105, 106, 107, 108, 109, 110, 111, 112, 113, 114, 115, 116, 117, 118, 119, 120, 121, 122] : List UInt8) u131)).set ((IntKind.i64.wrap ((IntKind.i64.wrap (i132 - (1 : Int))) - (1 : Int)))).toNat (45 : Int)).length : Int)).toNat - ((IntKind.i64.wrap ((IntKind.i64.wrap (i132 - (1 : Int))) - (1 : Int)))).toNat))))))) rfl ?_
                refine so_nil ?_
                exact by_ret rfl ⟨_, _, h, _, rfl, (Sep.nil (Sep.del 0 hs) 1)⟩
          · refine fi_false rfl c110 ?_
            refine fi_seq ?_
            refine fi_region ?_
            refine so_move (v := (.v (.int .i64 a2))) rfl ?_
            refine sv_ii rfl F84.us3 F84.it88 ?_
            refine so_assign (v := (.v (.int .u64 (IntKind.u64.wrap a2)))) rfl ?_
            refine so_nil ?_
            refine fi_seq ?_
            refine fi_block ?_
            refine fi_loop ?_
            refine fi_at [(0, (.v v0)), (1, (.v (.int .u64 (IntKind.u64.wrap (0 - a1))))), (3, (.v (.bool a3))), (4, (.v (.bool a4))), (10, (.v .nilsl)), (11, (.v (.str (pk ([] : List UInt8))))), (12, (.v (.ptr v104.id0 0))), (13, (.v (.int .i64 (65 : Int)))), (17, (.v (.int .u64 (IntKind.u64.wrap a2))))] ⟨rfl, rfl, rfl, rfl, rfl, rfl, rfl, rfl, rfl, trivial⟩ ?_
            refine h (fun (l165 : List (Int)) (u166 : Int) (i167 : Int) => ∀ (s : Nat → TV) (H : Heap), Sep H (Pc.osl v104 1 (enc (eInt .u8) l165) :: fr) → Fin _ _ (updL s [(0, (.v v0)), (1, (.v (.int .u64 u166))), (3, (.v (.bool a3))), (4, (.v (.bool a4))), (10, (.v .nilsl)), (11, (.v (.str (pk ([] : List UInt8))))), (12, (.v (.ptr v104.id0 0))), (13, (.v (.int .i64 i167))), (17, (.v (.int .u64 (IntKind.u64.wrap a2))))]) H _) ?_ _ _ hs
            intro l165 u166 i167 h s181 H182 hs
            refine fi_inLoop ?_
            refine fi_seq ?_
            refine fi_seq ?_
            refine fi_region ?_
            refine so_move (v := (.v (.int .u64 u166))) rfl ?_
            refine so_move (v := (.v (.int .u64 (IntKind.u64.wrap a2)))) rfl ?_
            refine so_bin rfl rfl ab_geq ?_
            refine so_nil ?_
            replace h := ofP h; rcases h with ⟨c168, h⟩ | ⟨c168, h⟩
            · refine fi_true rfl (decide_eq_true c168) ?_
              refine fi_skip ?_
              refine fi_block ?_
              refine fi_seq ?_
              refine fi_region ?_
              refine so_move (v := (.v (.int .i64 i167))) rfl ?_
              refine so_bin rfl rfl ab_sub ?_
              refine so_assign (v := (.v (.int .i64 (IntKind.i64.wrap (i167 - (1 : Int)))))) rfl ?_
              refine so_nil ?_
              refine fi_seq ?_
              refine fi_region ?_
              refine so_move (v := (.v (.int .u64 u166))) rfl ?_
              refine so_move (v := (.v (.int .u64 (IntKind.u64.wrap a2)))) rfl ?_
              obtain ⟨c169, h⟩ := h
              refine so_bin rfl rfl (ab_quo c169) ?_
              refine so_assign (v := (.v (.int .u64 (IntKind.u64.wrap (Int.tdiv u166 (IntKind.u64.wrap a2)))))) rfl ?_
              refine so_nil ?_
              refine fi_seq ?_
              refine fi_region ?_
              refine so_move (v := (.v (.int .i64 (IntKind.i64.wrap (i167 - (1 : Int)))))) rfl ?_
              refine so_move (v := (.v (.int .u64 u166))) rfl ?_
              refine so_move (v := (.v (.int .u64 (IntKind.u64.wrap (Int.tdiv u166 (IntKind.u64.wrap a2)))))) rfl ?_
              refine so_move (v := (.v (.int .u64 (IntKind.u64.wrap a2)))) rfl ?_
              refine so_bin rfl rfl ab_mul ?_
              refine so_bin rfl rfl ab_sub ?_
              obtain ⟨c170, h⟩ := h
              refine so_index rfl rfl F84.sr9 c170 ?_
              obtain ⟨c171, h⟩ := h
              refine sv_idxA hs 0 rfl av104 c171 (fun _ => rfl) (by decide) rfl rfl F84.ar126 F84.sz5 ?_
              refine sv_set hs 0 rfl c171 (bt ([48, 49, 50, 51, 52, 53, 54, 55, 56, 57, 97, 98, 99, 100, 101, 102, 103, 104, 105, 106, 107, 108, 109, 110, 111, 112, 113, 114, 115, 116, 117, 118, 119, 120, 121, 122] : List UInt8) (IntKind.u64.wrap (u166 - (IntKind.u64.wrap ((IntKind.u64.wrap (Int.tdiv u166 (IntKind.u64.wrap a2))) * (IntKind.u64.wrap a2)))))) (fun _ => rfl) (by decide) rfl rfl rfl rfl F84.sz5 nofun (fun H172 hs => ?_)
              refine so_nil ?_
              refine fi_region ?_
              refine so_move (v := (.v (.int .u64 (IntKind.u64.wrap (Int.tdiv u166 (IntKind.u64.wrap a2)))))) rfl ?_
              refine so_assign (v := (.v (.int .u64 (IntKind.u64.wrap (Int.tdiv u166 (IntKind.u64.wrap a2)))))) rfl ?_
              refine so_nil ?_
              refine fi_inBlock ?_
              exact fi_at [(0, (.v v0)), (1, (.v (.int .u64 (IntKind.u64.wrap (Int.tdiv u166 (IntKind.u64.wrap a2)))))), (3, (.v (.bool a3))), (4, (.v (.bool a4))), (10, (.v .nilsl)), (11, (.v (.str (pk ([] : List UInt8))))), (12, (.v (.ptr v104.id0 0))), (13, (.v (.int .i64 (IntKind.i64.wrap (i167 - (1 : Int)))))), (17, (.v (.int .u64 (IntKind.u64.wrap a2))))] ⟨rfl, rfl, rfl, rfl, rfl, rfl, rfl, rfl, rfl, trivial⟩ (h _ _  hs)
            · refine fi_false rfl (decide_eq_false c168) ?_
              refine fi_exit rfl ?_
              refine fi_seq ?_
              refine fi_region ?_
              refine so_move (v := (.v (.int .i64 i167))) rfl ?_
              refine so_bin rfl rfl ab_sub ?_
              refine so_assign (v := (.v (.int .i64 (IntKind.i64.wrap (i167 - (1 : Int)))))) rfl ?_
              refine so_nil ?_
              refine fi_region ?_
              refine so_move (v := (.v (.int .i64 (IntKind.i64.wrap (i167 - (1 : Int)))))) rfl ?_
              refine so_move (v := (.v (.int .u64 u166))) rfl ?_
              obtain ⟨c173, h⟩ := h
              refine so_index rfl rfl F84.sr9 c173 ?_
              obtain ⟨c174, h⟩ := h
              refine sv_idxA hs 0 rfl av104 c174 (fun _ => rfl) (by decide) rfl rfl F84.ar126 F84.sz5 ?_
              refine sv_set hs 0 rfl c174 (bt ([48, 49, 50, 51, 52, 53, 54, 55, 56, 57, 97, 98, 99, 100, 101, 102, 103, 104, 105, 106, 107, 108, 109, 110, 111, 112, 113, 114, 115, 116, 117, 118, 119, 120, 121, 122] : List UInt8) u166) (fun _ => rfl) (by decide) rfl rfl rfl rfl F84.sz5 nofun (fun H175 hs => ?_)
              refine so_nil ?_
              refine fi_seq ?_
              refine fi_seq ?_
              refine fi_region ?_
              refine so_move (v := (.v (.bool a3))) rfl ?_
              refine so_nil ?_
              refine fi_true rfl c107 ?_
              refine fi_seq ?_
              refine fi_region ?_
              refine so_move (v := (.v (.int .i64 (IntKind.i64.wrap (i167 - (1 : Int)))))) rfl ?_
              refine so_bin rfl rfl ab_sub ?_
              refine so_assign (v := (.v (.int .i64 (IntKind.i64.wrap ((IntKind.i64.wrap (i167 - (1 : Int))) - (1 : Int)))))) rfl ?_
              refine so_nil ?_
              refine fi_region ?_
              refine so_move (v := (.v (.int .i64 (IntKind.i64.wrap ((IntKind.i64.wrap (i167 - (1 : Int))) - (1 : Int)))))) rfl ?_
              obtain ⟨c176, h⟩ := h
              refine sv_idxA hs 0 rfl av104 c176 (fun _ => rfl) (by decide) rfl rfl F84.ar126 F84.sz5 ?_
              refine sv_set hs 0 rfl c176 (45 : Int) (fun _ => rfl) (by decide) rfl rfl rfl rfl F84.sz5 nofun (fun H177 hs => ?_)
              refine so_nil ?_
              refine fi_seq ?_
              refine fi_seq ?_
              refine fi_region ?_
              refine so_move (v := (.v (.bool a4))) rfl ?_
              refine so_nil ?_
              replace h := ofT h; rcases h with ⟨c178, h⟩ | ⟨c178, h⟩
              · exact h.elim
              · refine fi_false rfl c178 ?_
                refine fi_skip ?_
                refine fi_seq ?_
                refine fi_region ?_
                refine so_move (v := (.v (.int .i64 (IntKind.i64.wrap ((IntKind.i64.wrap (i167 - (1 : Int))) - (1 : Int)))))) rfl ?_
                obtain ⟨c180, h⟩ := h
                refine sv_sliceA hs 0 rfl av104 c180 (fun _ => rfl) (by decide) rfl rfl rfl rfl rfl F84.ar126 F84.sz5 ?_
                refine sv_bs (Shows.cut (e := (eInt .u8)) (n := 1) (fun _ => rfl) (hs.shows 0 rfl) (by decide) (cutok c180)) (cut_nn nv104) rfl F84.te29 F84.it5 F84.sr9 ?_
                refine so_assign (v := (.v (.str (pk (byts ((((l165.set ((IntKind.i64.wrap (i167 - (1 : Int)))).toNat (bt ([48, 49, 50, 51, 52, 53, 54, 55, 56, 57, 97, 98, 99, 100, 101, 102, 103, 104, 105, 106, 107, 108, 109, 110, 111, 112, 113, 114, 115, 116, 117, 118, 119, 120, 121, 122] : List UInt8) u166)).set ((IntKind.i64.wrap ((IntKind.i64.wrap (i167 - (1 : Int))) - (1 : Int)))).toNat (45 : Int)).drop ((IntKind.i64.wrap ((IntKind.i64.wrap (i167 - (1 : Int))) - (1 : Int)))).toNat).take (((((l165.set ((IntKind.i64.wrap (i167 - (1 : Int)))).toNat (bt ([48, 49, 50, 51, 52, 53, 54, 55, 56, 57, 97, 98, 99, 100, 101, 102, 103, 104, 105, 106, 107, 108, 109, 110, 111, 112, 113, 114, 115, 116, 117, 118, 119, 120, 121, 122] : List UInt8) u166)).set ((IntKind.i64.wrap ((IntKind.i64.wrap (i167 - (1 : Int))) - (1 : Int)))).toNat (45 : Int)).length : Int)).toNat - ((IntKind.i64.wrap ((IntKind.i64.wrap (i167 - (1 : Int))) - (1 : Int)))).toNat))))))) rfl ?_
                refine so_nil ?_
                exact by_ret rfl ⟨_, _, h, _, rfl, (Sep.nil (Sep.del 0 hs) 1)⟩
        · refine fi_false rfl c107 ?_
          refine fi_skip ?_
          refine fi_seq ?_
          refine fi_seq ?_
          refine fi_region ?_
          refine so_move (v := (.v (.int .i64 a2))) rfl ?_
          refine sv_callS (internal_strconv_isPowerOfTwo_ok a2 hs  _ h) (fun _ _ ⟨_, _, _, e⟩ => e) rfl rfl ?_
          clear h
          rintro _ _ ⟨y183, h, rfl, rfl⟩
          refine so_nil ?_
          replace h := ofT h; rcases h with ⟨c185, h⟩ | ⟨c185, h⟩
          · refine fi_true rfl c185 ?_
            refine fi_seq ?_
            refine fi_region ?_
            refine so_move (v := (.v (.int .i64 a2))) rfl ?_
            refine sv_ii rfl F84.us3 F84.it47 ?_
            refine sv_callS (math_bits_TrailingZeros_ok (IntKind.u64.wrap a2) hs (fun _ hs => gt6 _ hs.tl) _ h) (fun _ _ ⟨_, _, _, e⟩ => e) rfl rfl ?_
            clear h
            rintro _ _ ⟨y186, h, rfl, rfl⟩
            refine sv_ii rfl F84.us3 F84.it47 ?_
            refine so_assign (v := (.v (.int .u64 (IntKind.u64.wrap y186)))) rfl ?_
            refine so_nil ?_
            refine fi_seq ?_
            refine fi_region ?_
            refine so_move (v := (.v (.int .i64 a2))) rfl ?_
            refine sv_ii rfl F84.us3 F84.it88 ?_
            refine so_assign (v := (.v (.int .u64 (IntKind.u64.wrap a2)))) rfl ?_
            refine so_nil ?_
            refine fi_seq ?_
            refine fi_region ?_
            refine so_move (v := (.v (.int .i64 a2))) rfl ?_
            refine sv_ii rfl F84.us3 F84.it47 ?_
            refine so_bin rfl rfl ab_sub ?_
            refine so_assign (v := (.v (.int .u64 (IntKind.u64.wrap ((IntKind.u64.wrap a2) - (1 : Int)))))) rfl ?_
            refine so_nil ?_
            refine fi_seq ?_
            refine fi_block ?_
            refine fi_loop ?_
            refine fi_at [(0, (.v v0)), (1, (.v (.int .u64 a1))), (3, (.v (.bool a3))), (4, (.v (.bool a4))), (10, (.v .nilsl)), (11, (.v (.str (pk ([] : List UInt8))))), (12, (.v (.ptr v104.id0 0))), (13, (.v (.int .i64 (65 : Int)))), (14, (.v (.int .u64 (IntKind.u64.wrap y186)))), (15, (.v (.int .u64 (IntKind.u64.wrap a2)))), (16, (.v (.int .u64 (IntKind.u64.wrap ((IntKind.u64.wrap a2) - (1 : Int))))))] ⟨rfl, rfl, rfl, rfl, rfl, rfl, rfl, rfl, rfl, rfl, rfl, trivial⟩ ?_
            refine h (fun (l203 : List (Int)) (u204 : Int) (i205 : Int) => ∀ (s : Nat → TV) (H : Heap), Sep H (Pc.osl v104 1 (enc (eInt .u8) l203) :: fr) → Fin _ _ (updL s [(0, (.v v0)), (1, (.v (.int .u64 u204))), (3, (.v (.bool a3))), (4, (.v (.bool a4))), (10, (.v .nilsl)), (11, (.v (.str (pk ([] : List UInt8))))), (12, (.v (.ptr v104.id0 0))), (13, (.v (.int .i64 i205))), (14, (.v (.int .u64 (IntKind.u64.wrap y186)))), (15, (.v (.int .u64 (IntKind.u64.wrap a2)))), (16, (.v (.int .u64 (IntKind.u64.wrap ((IntKind.u64.wrap a2) - (1 : Int))))))]) H _) ?_ _ _ hs
            intro l203 u204 i205 h s217 H218 hs
            refine fi_inLoop ?_
            refine fi_seq ?_
            refine fi_seq ?_
            refine fi_region ?_
            refine so_move (v := (.v (.int .u64 u204))) rfl ?_
            refine so_move (v := (.v (.int .u64 (IntKind.u64.wrap a2)))) rfl ?_
            refine so_bin rfl rfl ab_geq ?_
            refine so_nil ?_
            replace h := ofP h; rcases h with ⟨c206, h⟩ | ⟨c206, h⟩
            · refine fi_true rfl (decide_eq_true c206) ?_
              refine fi_skip ?_
              refine fi_block ?_
              refine fi_seq ?_
              refine fi_region ?_
              refine so_move (v := (.v (.int .i64 i205))) rfl ?_
              refine so_bin rfl rfl ab_sub ?_
              refine so_assign (v := (.v (.int .i64 (IntKind.i64.wrap (i205 - (1 : Int)))))) rfl ?_
              refine so_nil ?_
              refine fi_seq ?_
              refine fi_region ?_
              refine so_move (v := (.v (.int .i64 (IntKind.i64.wrap (i205 - (1 : Int)))))) rfl ?_
              refine so_move (v := (.v (.int .u64 u204))) rfl ?_
              refine so_move (v := (.v (.int .u64 (IntKind.u64.wrap ((IntKind.u64.wrap a2) - (1 : Int)))))) rfl ?_
              refine so_bin rfl rfl ab_and ?_
              obtain ⟨c207, h⟩ := h
              refine so_index rfl rfl F84.sr9 c207 ?_
              obtain ⟨c208, h⟩ := h
              refine sv_idxA hs 0 rfl av104 c208 (fun _ => rfl) (by decide) rfl rfl F84.ar126 F84.sz5 ?_
              refine sv_set hs 0 rfl c208 (bt ([48, 49, 50, 51, 52, 53, 54, 55, 56, 57, 97, 98, 99, 100, 101, 102, 103, 104, 105, 106, 107, 108, 109, 110, 111, 112, 113, 114, 115, 116, 117, 118, 119, 120, 121, 122] : List UInt8) (ibits .and .u64 u204 (IntKind.u64.wrap ((IntKind.u64.wrap a2) - (1 : Int))))) (fun _ => rfl) (by decide) rfl rfl rfl rfl F84.sz5 nofun (fun H209 hs => ?_)
              refine so_nil ?_
              refine fi_region ?_
              refine so_move (v := (.v (.int .u64 u204))) rfl ?_
              refine so_move (v := (.v (.int .u64 (IntKind.u64.wrap y186)))) rfl ?_
              obtain ⟨c210, h⟩ := h
              refine so_bin rfl rfl (ab_shr c210) ?_
              refine so_assign (v := (.v (.int .u64 (Int.fdiv u204 (2 ^ (min ((IntKind.u64.wrap y186)).toNat IntKind.u64.bits)))))) rfl ?_
              refine so_nil ?_
              refine fi_inBlock ?_
              exact fi_at [(0, (.v v0)), (1, (.v (.int .u64 (Int.fdiv u204 (2 ^ (min ((IntKind.u64.wrap y186)).toNat IntKind.u64.bits)))))), (3, (.v (.bool a3))), (4, (.v (.bool a4))), (10, (.v .nilsl)), (11, (.v (.str (pk ([] : List UInt8))))), (12, (.v (.ptr v104.id0 0))), (13, (.v (.int .i64 (IntKind.i64.wrap (i205 - (1 : Int)))))), (14, (.v (.int .u64 (IntKind.u64.wrap y186)))), (15, (.v (.int .u64 (IntKind.u64.wrap a2)))), (16, (.v (.int .u64 (IntKind.u64.wrap ((IntKind.u64.wrap a2) - (1 : Int))))))] ⟨rfl, rfl, rfl, rfl, rfl, rfl, rfl, rfl, rfl, rfl, rfl, trivial⟩ (h _ _  hs)
            · refine fi_false rfl (decide_eq_false c206) ?_
              refine fi_exit rfl ?_
              refine fi_seq ?_
              refine fi_region ?_
              refine so_move (v := (.v (.int .i64 i205))) rfl ?_
              refine so_bin rfl rfl ab_sub ?_
              refine so_assign (v := (.v (.int .i64 (IntKind.i64.wrap (i205 - (1 : Int)))))) rfl ?_
              refine so_nil ?_
              refine fi_region ?_
              refine so_move (v := (.v (.int .i64 (IntKind.i64.wrap (i205 - (1 : Int)))))) rfl ?_
              refine so_move (v := (.v (.int .u64 u204))) rfl ?_
              obtain ⟨c211, h⟩ := h
              refine so_index rfl rfl F84.sr9 c211 ?_
              obtain ⟨c212, h⟩ := h
              refine sv_idxA hs 0 rfl av104 c212 (fun _ => rfl) (by decide) rfl rfl F84.ar126 F84.sz5 ?_
              refine sv_set hs 0 rfl c212 (bt ([48, 49, 50, 51, 52, 53, 54, 55, 56, 57, 97, 98, 99, 100, 101, 102, 103, 104, 105, 106, 107, 108, 109, 110, 111, 112, 113, 114, 115, 116, 117, 118, 119, 120, 121, 122] : List UInt8) u204) (fun _ => rfl) (by decide) rfl rfl rfl rfl F84.sz5 nofun (fun H213 hs => ?_)
              refine so_nil ?_
              refine fi_seq ?_
              refine fi_seq ?_
              refine fi_region ?_
              refine so_move (v := (.v (.bool a3))) rfl ?_
              refine so_nil ?_
              refine fi_false rfl c107 ?_
              refine fi_skip ?_
              refine fi_seq ?_
              refine fi_seq ?_
              refine fi_region ?_
              refine so_move (v := (.v (.bool a4))) rfl ?_
              refine so_nil ?_
              replace h := ofT h; rcases h with ⟨c214, h⟩ | ⟨c214, h⟩
              · exact h.elim
              · refine fi_false rfl c214 ?_
                refine fi_skip ?_
                refine fi_seq ?_
                refine fi_region ?_
                refine so_move (v := (.v (.int .i64 (IntKind.i64.wrap (i205 - (1 : Int)))))) rfl ?_
                obtain ⟨c216, h⟩ := h
                refine sv_sliceA hs 0 rfl av104 c216 (fun _ => rfl) (by decide) rfl rfl rfl rfl rfl F84.ar126 F84.sz5 ?_
                refine sv_bs (Shows.cut (e := (eInt .u8)) (n := 1) (fun _ => rfl) (hs.shows 0 rfl) (by decide) (cutok c216)) (cut_nn nv104) rfl F84.te29 F84.it5 F84.sr9 ?_
                refine so_assign (v := (.v (.str (pk (byts (((l203.set ((IntKind.i64.wrap (i205 - (1 : Int)))).toNat (bt ([48, 49, 50, 51, 52, 53, 54, 55, 56, 57, 97, 98, 99, 100, 101, 102, 103, 104, 105, 106, 107, 108, 109, 110, 111, 112, 113, 114, 115, 116, 117, 118, 119, 120, 121, 122] : List UInt8) u204)).drop ((IntKind.i64.wrap (i205 - (1 : Int)))).toNat).take ((((l203.set ((IntKind.i64.wrap (i205 - (1 : Int)))).toNat (bt ([48, 49, 50, 51, 52, 53, 54, 55, 56, 57, 97, 98, 99, 100, 101, 102, 103, 104, 105, 106, 107, 108, 109, 110, 111, 112, 113, 114, 115, 116, 117, 118, 119, 120, 121, 122] : List UInt8) u204)).length : Int)).toNat - ((IntKind.i64.wrap (i205 - (1 : Int)))).toNat))))))) rfl ?_
                refine so_nil ?_
                exact by_ret rfl ⟨_, _, h, _, rfl, (Sep.nil (Sep.del 0 hs) 1)⟩
          · refine fi_false rfl c185 ?_
            refine fi_seq ?_
            refine fi_region ?_
            refine so_move (v := (.v (.int .i64 a2))) rfl ?_
            refine sv_ii rfl F84.us3 F84.it88 ?_
            refine so_assign (v := (.v (.int .u64 (IntKind.u64.wrap a2)))) rfl ?_
            refine so_nil ?_
            refine fi_seq ?_
            refine fi_block ?_
            refine fi_loop ?_
            refine fi_at [(0, (.v v0)), (1, (.v (.int .u64 a1))), (3, (.v (.bool a3))), (4, (.v (.bool a4))), (10, (.v .nilsl)), (11, (.v (.str (pk ([] : List UInt8))))), (12, (.v (.ptr v104.id0 0))), (13, (.v (.int .i64 (65 : Int)))), (17, (.v (.int .u64 (IntKind.u64.wrap a2))))] ⟨rfl, rfl, rfl, rfl, rfl, rfl, rfl, rfl, rfl, trivial⟩ ?_
            refine h (fun (l234 : List (Int)) (u235 : Int) (i236 : Int) => ∀ (s : Nat → TV) (H : Heap), Sep H (Pc.osl v104 1 (enc (eInt .u8) l234) :: fr) → Fin _ _ (updL s [(0, (.v v0)), (1, (.v (.int .u64 u235))), (3, (.v (.bool a3))), (4, (.v (.bool a4))), (10, (.v .nilsl)), (11, (.v (.str (pk ([] : List UInt8))))), (12, (.v (.ptr v104.id0 0))), (13, (.v (.int .i64 i236))), (17, (.v (.int .u64 (IntKind.u64.wrap a2))))]) H _) ?_ _ _ hs
            intro l234 u235 i236 h s248 H249 hs
            refine fi_inLoop ?_
            refine fi_seq ?_
            refine fi_seq ?_
            refine fi_region ?_
            refine so_move (v := (.v (.int .u64 u235))) rfl ?_
            refine so_move (v := (.v (.int .u64 (IntKind.u64.wrap a2)))) rfl ?_
            refine so_bin rfl rfl ab_geq ?_
            refine so_nil ?_
            replace h := ofP h; rcases h with ⟨c237, h⟩ | ⟨c237, h⟩
            · refine fi_true rfl (decide_eq_true c237) ?_
              refine fi_skip ?_
              refine fi_block ?_
              refine fi_seq ?_
              refine fi_region ?_
              refine so_move (v := (.v (.int .i64 i236))) rfl ?_
              refine so_bin rfl rfl ab_sub ?_
              refine so_assign (v := (.v (.int .i64 (IntKind.i64.wrap (i236 - (1 : Int)))))) rfl ?_
              refine so_nil ?_
              refine fi_seq ?_
              refine fi_region ?_
              refine so_move (v := (.v (.int .u64 u235))) rfl ?_
              refine so_move (v := (.v (.int .u64 (IntKind.u64.wrap a2)))) rfl ?_
              obtain ⟨c238, h⟩ := h
              refine so_bin rfl rfl (ab_quo c238) ?_
              refine so_assign (v := (.v (.int .u64 (IntKind.u64.wrap (Int.tdiv u235 (IntKind.u64.wrap a2)))))) rfl ?_
              refine so_nil ?_
              refine fi_seq ?_
              refine fi_region ?_
              refine so_move (v := (.v (.int .i64 (IntKind.i64.wrap (i236 - (1 : Int)))))) rfl ?_
              refine so_move (v := (.v (.int .u64 u235))) rfl ?_
              refine so_move (v := (.v (.int .u64 (IntKind.u64.wrap (Int.tdiv u235 (IntKind.u64.wrap a2)))))) rfl ?_
              refine so_move (v := (.v (.int .u64 (IntKind.u64.wrap a2)))) rfl ?_
              refine so_bin rfl rfl ab_mul ?_
              refine so_bin rfl rfl ab_sub ?_
              obtain ⟨c239, h⟩ := h
              refine so_index rfl rfl F84.sr9 c239 ?_
              obtain ⟨c240, h⟩ := h
              refine sv_idxA hs 0 rfl av104 c240 (fun _ => rfl) (by decide) rfl rfl F84.ar126 F84.sz5 ?_
              refine sv_set hs 0 rfl c240 (bt ([48, 49, 50, 51, 52, 53, 54, 55, 56, 57, 97, 98, 99, 100, 101, 102, 103, 104, 105, 106, 107, 108, 109, 110, 111, 112, 113, 114, 115, 116, 117, 118, 119, 120, 121, 122] : List UInt8) (IntKind.u64.wrap (u235 - (IntKind.u64.wrap ((IntKind.u64.wrap (Int.tdiv u235 (IntKind.u64.wrap a2))) * (IntKind.u64.wrap a2)))))) (fun _ => rfl) (by decide) rfl rfl rfl rfl F84.sz5 nofun (fun H241 hs => ?_)
              refine so_nil ?_
              refine fi_region ?_
              refine so_move (v := (.v (.int .u64 (IntKind.u64.wrap (Int.tdiv u235 (IntKind.u64.wrap a2)))))) rfl ?_
              refine so_assign (v := (.v (.int .u64 (IntKind.u64.wrap (Int.tdiv u235 (IntKind.u64.wrap a2)))))) rfl ?_
              refine so_nil ?_
              refine fi_inBlock ?_
              exact fi_at [(0, (.v v0)), (1, (.v (.int .u64 (IntKind.u64.wrap (Int.tdiv u235 (IntKind.u64.wrap a2)))))), (3, (.v (.bool a3))), (4, (.v (.bool a4))), (10, (.v .nilsl)), (11, (.v (.str (pk ([] : List UInt8))))), (12, (.v (.ptr v104.id0 0))), (13, (.v (.int .i64 (IntKind.i64.wrap (i236 - (1 : Int)))))), (17, (.v (.int .u64 (IntKind.u64.wrap a2))))] ⟨rfl, rfl, rfl, rfl, rfl, rfl, rfl, rfl, rfl, trivial⟩ (h _ _  hs)
            · refine fi_false rfl (decide_eq_false c237) ?_
              refine fi_exit rfl ?_
              refine fi_seq ?_
              refine fi_region ?_
              refine so_move (v := (.v (.int .i64 i236))) rfl ?_
              refine so_bin rfl rfl ab_sub ?_
              refine so_assign (v := (.v (.int .i64 (IntKind.i64.wrap (i236 - (1 : Int)))))) rfl ?_
              refine so_nil ?_
              refine fi_region ?_
              refine so_move (v := (.v (.int .i64 (IntKind.i64.wrap (i236 - (1 : Int)))))) rfl ?_
              refine so_move (v := (.v (.int .u64 u235))) rfl ?_
              obtain ⟨c242, h⟩ := h
              refine so_index rfl rfl F84.sr9 c242 ?_
              obtain ⟨c243, h⟩ := h
              refine sv_idxA hs 0 rfl av104 c243 (fun _ => rfl) (by decide) rfl rfl F84.ar126 F84.sz5 ?_
              refine sv_set hs 0 rfl c243 (bt ([48, 49, 50, 51, 52, 53, 54, 55, 56, 57, 97, 98, 99, 100, 101, 102, 103, 104, 105, 106, 107, 108, 109, 110, 111, 112, 113, 114, 115, 116, 117, 118, 119, 120, 121, 122] : List UInt8) u235) (fun _ => rfl) (by decide) rfl rfl rfl rfl F84.sz5 nofun (fun H244 hs => ?_)
              refine so_nil ?_
              refine fi_seq ?_
              refine fi_seq ?_
              refine fi_region ?_
              refine so_move (v := (.v (.bool a3))) rfl ?_
              refine so_nil ?_
              refine fi_false rfl c107 ?_
              refine fi_skip ?_
              refine fi_seq ?_
              refine fi_seq ?_
              refine fi_region ?_
              refine so_move (v := (.v (.bool a4))) rfl ?_
              refine so_nil ?_
              replace h := ofT h; rcases h with ⟨c245, h⟩ | ⟨c245, h⟩
              · exact h.elim
              · refine fi_false rfl c245 ?_
                refine fi_skip ?_
                refine fi_seq ?_
                refine fi_region ?_
                refine so_move (v := (.v (.int .i64 (IntKind.i64.wrap (i236 - (1 : Int)))))) rfl ?_
                obtain ⟨c247, h⟩ := h
                refine sv_sliceA hs 0 rfl av104 c247 (fun _ => rfl) (by decide) rfl rfl rfl rfl rfl F84.ar126 F84.sz5 ?_
                refine sv_bs (Shows.cut (e := (eInt .u8)) (n := 1) (fun _ => rfl) (hs.shows 0 rfl) (by decide) (cutok c247)) (cut_nn nv104) rfl F84.te29 F84.it5 F84.sr9 ?_
                refine so_assign (v := (.v (.str (pk (byts (((l234.set ((IntKind.i64.wrap (i236 - (1 : Int)))).toNat (bt ([48, 49, 50, 51, 52, 53, 54, 55, 56, 57, 97, 98, 99, 100, 101, 102, 103, 104, 105, 106, 107, 108, 109, 110, 111, 112, 113, 114, 115, 116, 117, 118, 119, 120, 121, 122] : List UInt8) u235)).drop ((IntKind.i64.wrap (i236 - (1 : Int)))).toNat).take ((((l234.set ((IntKind.i64.wrap (i236 - (1 : Int)))).toNat (bt ([48, 49, 50, 51, 52, 53, 54, 55, 56, 57, 97, 98, 99, 100, 101, 102, 103, 104, 105, 106, 107, 108, 109, 110, 111, 112, 113, 114, 115, 116, 117, 118, 119, 120, 121, 122] : List UInt8) u235)).length : Int)).toNat - ((IntKind.i64.wrap (i236 - (1 : Int)))).toNat))))))) rfl ?_
                refine so_nil ?_
                exact by_ret rfl ⟨_, _, h, _, rfl, (Sep.nil (Sep.del 0 hs) 1)⟩

end Go.Proofs.YtecdkjnomkdbkaaDoor.G

namespace Go.Proofs.YtecdkjnomkdbkaaDoor.G
open Go Go.Ab Go.Proofs Go.Proofs.YtecdkjnomkdbkaaDoor
set_option maxRecDepth 100000
set_option linter.unusedVariables false
set_option linter.unusedSimpArgs false
set_option maxHeartbeats 1000000
attribute [local irreducible] wops wopf Go.Ab.Fin
theorem F71.it88 : tint Tryd.prog 88 = some .u64 := by kernel_rfl
theorem F71.us2 : (Tryd.prog.underlying 2).isSome = true := by kernel_rfl
theorem F71.za116 : tzero Tryd.prog 116 = some (List.replicate 24 (.int .u8 (0 : Int))) := by kernel_rfl
theorem internal_strconv_FormatIntW_ok {fr : List Pc} {H : Heap} (a0 : Int) (a1 : Int) (hs : Sep H (fr)) (gt6 : ∀ H, Sep H fr → HasTab 6 F.tab6 H) (K : (List UInt8) → Prop) (h : internal_strconv_FormatIntW.wp a0 a1 K) : OkQ Tryd.prog 71 [(.v (.int .i64 a0)), (.v (.int .i64 a1))] H (fun r H2 => ∃ (y0 : List UInt8), K y0 ∧ r = (.v (.str (pk y0))) ∧ Sep H2 (fr)) := by
  unfold internal_strconv_FormatIntW.wp at h
  refine of_body Tryd.f71 F.hm Tryd.func71 rfl Tryd.call71 (by kernel_rfl) (by simp) ?_
  refine fi_seq ?_
  refine fi_region ?_
  refine so_assign (v := (.v (.str (pk ([] : List UInt8))))) rfl ?_
  refine so_nil ?_
  refine fi_seq ?_
  refine fi_seq ?_
  refine fi_region ?_
  refine so_move (v := (.v (.int .i64 a1))) rfl ?_
  refine so_bin rfl rfl ab_eql ?_
  refine so_nil ?_
  replace h := ofP h; rcases h with ⟨c101, h⟩ | ⟨c101, h⟩
  · refine fi_true rfl (decide_eq_true c101) ?_
    refine fi_seq ?_
    refine fi_seq ?_
    refine fi_region ?_
    refine so_move (v := (.v (.int .i64 a0))) rfl ?_
    refine so_bin rfl rfl ab_leq ?_
    refine so_move (v := (.v (.bool (decide ((0 : Int) ≤ a0))))) rfl ?_
    replace h := ofP h; rcases h with ⟨c102, h⟩ | ⟨c102, h⟩
    · refine so_gyes rfl (decide_eq_true c102) ?_
      refine so_move (v := (.v (.int .i64 a0))) rfl ?_
      refine so_gyes rfl (decide_eq_true c102) ?_
      refine so_bin rfl rfl ab_lss ?_
      refine so_pick_t (v := (.v (.bool (decide (a0 < (100 : Int)))))) rfl (decide_eq_true c102) rfl ?_
      refine so_nil ?_
      replace h := ofP h; rcases h with ⟨c103, h⟩ | ⟨c103, h⟩
      · refine fi_true rfl (decide_eq_true c103) ?_
        refine fi_seq ?_
        refine fi_region ?_
        refine so_move (v := (.v (.int .i64 a0))) rfl ?_
        refine sv_callS (internal_strconv_small_ok a0 hs  _ h) (fun _ _ ⟨_, _, _, e⟩ => e) rfl rfl ?_
        clear h
        rintro _ _ ⟨y104, h, rfl, rfl⟩
        refine so_assign (v := (.v (.str (pk y104)))) rfl ?_
        refine so_nil ?_
        exact by_ret rfl ⟨_, h, rfl, hs⟩
      · refine fi_false rfl (decide_eq_false c103) ?_
        refine fi_skip ?_
        refine fi_seq ?_
        refine fi_region ?_
        refine sv_allocA hs 24 (eInt .u8) (0 : Int) (fun _ => rfl) F71.za116 (by rfl) (by rfl) nofun (fun v106 H107 nv106 av106 hs => ?_)
        refine so_nil ?_
        refine fi_seq ?_
        refine fi_region ?_
        refine so_move (v := (.v (.int .i64 a0))) rfl ?_
        refine sv_ii rfl F71.us2 F71.it88 ?_
        refine so_assign (v := (.v (.int .u64 (IntKind.u64.wrap a0)))) rfl ?_
        refine so_nil ?_
        refine fi_seq ?_
        refine fi_seq ?_
        refine fi_region ?_
        refine so_move (v := (.v (.int .i64 a0))) rfl ?_
        refine so_bin rfl rfl ab_lss ?_
        refine so_nil ?_
        replace h := ofP h; rcases h with ⟨c109, h⟩ | ⟨c109, h⟩
        · exact h.elim
        · exact h.elim
    · refine so_gno rfl (decide_eq_false c102) ?_
      refine so_gno rfl (decide_eq_false c102) ?_
      refine so_pick_f (v := (.v (.bool false))) rfl (decide_eq_false c102) rfl ?_
      refine so_nil ?_
      refine fi_false rfl rfl ?_
      refine fi_skip ?_
      refine fi_seq ?_
      refine fi_region ?_
      refine sv_allocA hs 24 (eInt .u8) (0 : Int) (fun _ => rfl) F71.za116 (by rfl) (by rfl) nofun (fun v110 H111 nv110 av110 hs => ?_)
      refine so_nil ?_
      refine fi_seq ?_
      refine fi_region ?_
      refine so_move (v := (.v (.int .i64 a0))) rfl ?_
      refine sv_ii rfl F71.us2 F71.it88 ?_
      refine so_assign (v := (.v (.int .u64 (IntKind.u64.wrap a0)))) rfl ?_
      refine so_nil ?_
      refine fi_seq ?_
      refine fi_seq ?_
      refine fi_region ?_
      refine so_move (v := (.v (.int .i64 a0))) rfl ?_
      refine so_bin rfl rfl ab_lss ?_
      refine so_nil ?_
      replace h := ofP h; rcases h with ⟨c113, h⟩ | ⟨c113, h⟩
      · exact h.elim
      · exact h.elim
  · refine fi_false rfl (decide_eq_false c101) ?_
    refine fi_skip ?_
    refine fi_seq ?_
    refine fi_region ?_
    refine so_move (v := (.v (.int .i64 a0))) rfl ?_
    refine sv_ii rfl F71.us2 F71.it88 ?_
    refine so_move (v := (.v (.int .i64 a1))) rfl ?_
    refine so_move (v := (.v (.int .i64 a0))) rfl ?_
    refine so_bin rfl rfl ab_lss ?_
    refine sv_call (internal_strconv_formatBits_ok .nilsl ([] : List (Int)) (IntKind.u64.wrap a0) a1 (decide (a0 < (0 : Int))) false hs (fun _ hs => (.inl ⟨rfl, rfl⟩ : Shows _ .nilsl 1 (enc (eInt .u8) []))) (fun _ hs => gt6 _ hs) _ h) rfl rfl nofun ?_
    clear h hs
    rintro _ H118 ⟨y114, y117, h, v115, rfl, hs⟩
    refine so_move (v := (.t [(.v v115), (.v (.str (pk y117)))])) rfl ?_
    refine so_extract rfl rfl rfl ?_
    refine so_extract rfl rfl rfl ?_
    refine so_assign (v := (.v v115)) rfl ?_
    refine so_assign (v := (.v (.str (pk y117)))) rfl ?_
    refine so_nil ?_
    refine fi_seq ?_
    refine fi_region ?_
    refine so_move (v := (.v (.str (pk y117)))) rfl ?_
    refine so_assign (v := (.v (.str (pk y117)))) rfl ?_
    refine so_nil ?_
    exact by_ret rfl ⟨_, h, rfl, (Sep.del 0 hs)⟩
theorem internal_strconv_FormatIntW_okS {fr : List Pc} {H : Heap} (a0 : Int) (a1 : Int) (hs : Sep H fr) (gt6 : ∀ H, Sep H fr → HasTab 6 F.tab6 H) (K : (List UInt8) → Prop) (h : internal_strconv_FormatIntW.wp a0 a1 K) : OkQ Tryd.prog 71 [(.v (.int .i64 a0)), (.v (.int .i64 a1))] H (fun r H2 => ∃ (y0 : List UInt8), K y0 ∧ r = (.v (.str (pk y0))) ∧ H = H2) := by
  obtain ⟨r, H2, h1, y0, hK, hr, hsep⟩ := internal_strconv_FormatIntW_ok (fr := came H) (H := H) a0 a1 (came_sep H) (came_tab (gt6 H hs)) K h
  have hk : H.n ≤ H2.n ∧ ∀ i, i < H.n → H2.f i = H.f i := hsep.1.2.1
  exact ⟨r, H, h1.forget hk.1 hk.2 (by subst hr; rfl), y0, hK, hr, rfl⟩
theorem internal_strconv_FormatIntH_ok {fr : List Pc} {H : Heap} (a0 : Int) (a1 : Int) (hs : Sep H fr) (gt2 : ∀ H, Sep H fr → HasTab 2 F.tab2 H) (K : List UInt8 → Prop) (h : internal_strconv_FormatIntH.wp a0 a1 K) : OkQ Tryd.prog 71 [.v (.int .i64 a0), .v (.int .i64 a1)] H (fun r H2 => ∃ (y0 : List UInt8), K y0 ∧ r = (.v (.str (pk y0))) ∧ H = H2) := by
  obtain ⟨rfl, h0, h⟩ := h
  exact ⟨.v (.str (pk (Lib.itoa a0))), _, ok_libG [.int .i64 a0, .int .i64 10] (.string (pk (Lib.itoa a0))) Tryd.call71 (args_ii _ _ _ _) (fun β => rfl) (fun β w hw => by
    obtain ⟨o, ho1, ho2⟩ := (gt2 H hs).heap hw
    exact Any.internal_strconv_FormatInt_10 Tryd.laysM246 a0 h0.1 h0.2 w (ho2 w ho1)), _, h, rfl, rfl⟩
theorem internal_strconv_FormatInt_ok {fr : List Pc} {H : Heap} (a0 : Int) (a1 : Int) (hs : Sep H fr) (gt2 : ∀ H, Sep H fr → HasTab 2 F.tab2 H) (gt6 : ∀ H, Sep H fr → HasTab 6 F.tab6 H) (K : List UInt8 → Prop) (h : internal_strconv_FormatInt.wp a0 a1 K) : OkQ Tryd.prog 71 [.v (.int .i64 a0), .v (.int .i64 a1)] H (fun r H2 => ∃ (y0 : List UInt8), K y0 ∧ r = (.v (.str (pk y0))) ∧ H = H2) := by
  rcases h with h | h
  · exact internal_strconv_FormatIntH_ok a0 a1 hs gt2 K h
  · exact internal_strconv_FormatIntW_okS a0 a1 hs gt6 K h

end Go.Proofs.YtecdkjnomkdbkaaDoor.G

namespace Go.Proofs.YtecdkjnomkdbkaaDoor.G
open Go Go.Ab Go.Proofs Go.Proofs.YtecdkjnomkdbkaaDoor
set_option maxRecDepth 100000
set_option linter.unusedVariables false
set_option linter.unusedSimpArgs false
set_option maxHeartbeats 1000000
attribute [local irreducible] wops wopf Go.Ab.Fin
theorem strconv_FormatInt_ok {fr : List Pc} {H : Heap} (a0 : Int) (a1 : Int) (hs : Sep H (fr)) (gt2 : ∀ H, Sep H fr → HasTab 2 F.tab2 H) (gt6 : ∀ H, Sep H fr → HasTab 6 F.tab6 H) (K : (List UInt8) → Prop) (h : strconv_FormatInt.wp a0 a1 K) : OkQ Tryd.prog 52 [(.v (.int .i64 a0)), (.v (.int .i64 a1))] H (fun r H2 => ∃ (y0 : List UInt8), K y0 ∧ r = (.v (.str (pk y0))) ∧ H = H2) := by
  unfold strconv_FormatInt.wp at h
  refine of_body Tryd.f52 F.hm Tryd.func52 rfl Tryd.call52 (by kernel_rfl) (by simp) ?_
  refine fi_seq ?_
  refine fi_region ?_
  refine so_assign (v := (.v (.str (pk ([] : List UInt8))))) rfl ?_
  refine so_nil ?_
  refine fi_seq ?_
  refine fi_region ?_
  refine so_move (v := (.v (.int .i64 a0))) rfl ?_
  refine so_move (v := (.v (.int .i64 a1))) rfl ?_
  refine sv_callS (internal_strconv_FormatInt_ok a0 a1 hs (fun _ hs => gt2 _ hs) (fun _ hs => gt6 _ hs) _ h) (fun _ _ ⟨_, _, _, e⟩ => e) rfl rfl ?_
  clear h
  rintro _ _ ⟨y101, h, rfl, rfl⟩
  refine so_assign (v := (.v (.str (pk y101)))) rfl ?_
  refine so_nil ?_
  exact by_ret rfl ⟨_, h, rfl, rfl⟩

end Go.Proofs.YtecdkjnomkdbkaaDoor.G

namespace Go.Proofs.YtecdkjnomkdbkaaDoor.G
open Go Go.Ab Go.Proofs Go.Proofs.YtecdkjnomkdbkaaDoor
set_option maxRecDepth 100000
set_option linter.unusedVariables false
set_option linter.unusedSimpArgs false
set_option maxHeartbeats 1000000
attribute [local irreducible] wops wopf Go.Ab.Fin
theorem impl_Decimal_ok {fr : List Pc} {H : Heap} (a0 : Int) (hs : Sep H (fr)) (gt2 : ∀ H, Sep H fr → HasTab 2 F.tab2 H) (gt6 : ∀ H, Sep H fr → HasTab 6 F.tab6 H) (K : (List UInt8) → Prop) (h : impl_Decimal.wp a0 K) : OkQ Tryd.prog 32 [(.v (.int .i64 a0))] H (fun r H2 => ∃ (y0 : List UInt8), K y0 ∧ r = (.v (.str (pk y0))) ∧ H = H2) := by
  unfold impl_Decimal.wp at h
  refine of_body Tryd.f32 F.hm Tryd.func32 rfl Tryd.call32 (by kernel_rfl) (by simp) ?_
  refine fi_seq ?_
  refine fi_region ?_
  refine so_assign (v := (.v (.str (pk ([] : List UInt8))))) rfl ?_
  refine so_nil ?_
  refine fi_seq ?_
  refine fi_region ?_
  refine so_move (v := (.v (.int .i64 a0))) rfl ?_
  refine sv_callS (strconv_FormatInt_ok a0 (10 : Int) hs (fun _ hs => gt2 _ hs) (fun _ hs => gt6 _ hs) _ h) (fun _ _ ⟨_, _, _, e⟩ => e) rfl rfl ?_
  clear h
  rintro _ _ ⟨y101, h, rfl, rfl⟩
  refine so_assign (v := (.v (.str (pk y101)))) rfl ?_
  refine so_nil ?_
  exact by_ret rfl ⟨_, h, rfl, rfl⟩

end Go.Proofs.YtecdkjnomkdbkaaDoor.G

namespace Go.Proofs.YtecdkjnomkdbkaaDoor.G
open Go Go.Ab Go.Proofs Go.Proofs.YtecdkjnomkdbkaaDoor
set_option maxRecDepth 100000
set_option linter.unusedVariables false
set_option linter.unusedSimpArgs false
set_option maxHeartbeats 1000000
attribute [local irreducible] wops wopf Go.Ab.Fin
section
open Go.RowKit
theorem impl_JournalOf_bX : Builder.Extra Tryd.prog Tryd.lays169_ren := Tryd.Builder_Extra_169
set_option maxHeartbeats 1000000 in
theorem impl_JournalOf_cc_used (b : Nat) (w : World) (h0 : w.cell? ⟨b, 0, none⟩ = some (.pointer (some ⟨b, 0, none⟩))) :
    Calls Tryd.prog 51 #[.pointer (some ⟨b, 0, none⟩)] w fun e w' => e = .returned (.tuple #[]) ∧ w' = w := by
  obtain ⟨j, hj, _⟩ := Option.map_eq_some_iff.1 impl_JournalOf_bX.toX72.sizeBuilder
  have hj : Tryd.prog.info? 62 = some j := hj
  go_enter Tryd.func51, Tryd.ntmps51
  go_wp2
  rw [Lib.run_neq_ptr_same w _ Tryd.underlying60 hj]
  go_wp2
  go_end0
  exact ⟨rfl, rfl⟩
set_option maxHeartbeats 1000000 in
theorem impl_JournalOf_cc_fresh (b : Nat) (w : World) (h0 : w.cell? ⟨b, 0, none⟩ = some (.pointer none)) (hsh : w.shape? b = some (62, 2)) (hfz : w.frozen? ⟨b, 0, none⟩ = false) :
    Calls Tryd.prog 51 #[.pointer (some ⟨b, 0, none⟩)] w fun e w' => e = .returned (.tuple #[]) ∧ w' = w.setCell ⟨b, 0, none⟩ (.pointer (some ⟨b, 0, none⟩)) := by
  obtain ⟨j, hj, hjs⟩ := Option.map_eq_some_iff.1 impl_JournalOf_bX.toX72.sizeBuilder
  have hj : Tryd.prog.info? 62 = some j := hj
  go_enter Tryd.func51, Tryd.ntmps51
  go_wp2
  rw [Lib.run_to_unsafe w ⟨b, 0, none⟩ Tryd.underlying60 Tryd.underlying106 hj (by rw [hjs]; decide) hsh (Nat.zero_lt_succ 1)]
  simp only [Result.andThen]
  rw [Oper.upon_value]
  go_wp2
  rw [run_callFunc_extern Tryd.func70 (by kernel_rfl) (by kernel_rfl) (by kernel_rfl) (e := Extern.AbiNoEscape.same) (by kernel_rfl)]
  rw [Lib.run_noEscape]
  simp only [Result.andThen]
  rw [Oper.upon_value]
  go_wp2
  rw [Lib.run_from_unsafe w ⟨b, 0, none⟩ Tryd.underlying106 Tryd.underlying60 hj hsh impl_JournalOf_bX.toX72.liesBuilder]
  simp only [Result.andThen]
  rw [Oper.upon_value]
  go_wp2
  go_end0
  exact ⟨rfl, rfl⟩
theorem impl_JournalOf_cc_any (B b : Nat) (bs : List Value) (w : World) (h : Lib.IsBuilder 62 5 B b bs w) :
    Calls Tryd.prog 51 #[.pointer (some ⟨b, 0, none⟩)] w fun e w' => e = .returned (.tuple #[]) ∧ (Lib.BuilderAt 62 5 B b (.pointer (some ⟨b, 0, none⟩)) bs w' ∧ Below B w w') := by
  rcases h with h | h
  · refine (impl_JournalOf_cc_fresh b w h.cell0 h.shape h.frozen0).mono ?_
    rintro e w' ⟨rfl, rfl⟩
    exact ⟨rfl, h.used _, (Below.refl B w).setCell (p := ⟨b, 0, none⟩) h.1 _⟩
  · refine (impl_JournalOf_cc_used b w h.cell0).mono ?_
    rintro e w' ⟨rfl, rfl⟩
    exact ⟨rfl, h, Below.refl B _⟩
set_option maxHeartbeats 2000000 in
theorem impl_JournalOf_ws_any (B b : Nat) (bs : List Value) (s : ByteArray) (w : World) (h : Lib.IsBuilder 62 5 B b bs w) (hlen : bs.length + s.size ≤ 140737488355328) (hBw : B ≤ w.heap.size) :
    Calls Tryd.prog 31 #[.pointer (some ⟨b, 0, none⟩), .string s] w fun e w' => e = .returned (.tuple #[.int .i64 s.size, .nilIface]) ∧ (Lib.BuilderAt 62 5 B b (.pointer (some ⟨b, 0, none⟩)) (bs ++ Lib.strCells s) w' ∧ Below B w w') := by
  obtain ⟨i0, hi, hz0, hz1, hz2⟩ := info_parts impl_JournalOf_bX.infoByte
  have hi : Tryd.prog.info? 5 = some i0 := hi
  go_enter Tryd.func31, Tryd.ntmps31
  go_wp2_with (go_at_call 51; refine (impl_JournalOf_cc_any B b bs _ h).mono ?_)
  rintro e w1 ⟨rfl, h1, hb1⟩
  obtain ⟨hB, v, hbk, hown, hne⟩ := h1
  have c0 : w1.cell? ⟨b, 0, none⟩ = some (.pointer (some ⟨b, 0, none⟩)) := by rw [Lib.cell_of_heap hbk]; rfl
  have c1 : w1.cell? ⟨b, 1, none⟩ = some v := by rw [Lib.cell_of_heap hbk]; rfl
  go_wp2_with (at_builtin; refine Lib.wpList_append_own_string _ rfl _ _ 29 9 rfl B 5 i0 Tryd.underlying29 Tryd.underlying9 hi hz0 hz1 hz2 _ _ _ rfl hown s rfl ?c3 ?c4 ?c5 ?_)
  case c3 => unfold maxLen; omega
  case c4 => omega
  case c5 => have := hb1.size; omega
  intro v' w2 hown' hgrow _
  have hlt : b < w1.heap.size := by
    rcases Nat.lt_or_ge b w1.heap.size with h' | h'
    · exact h'
    · simp [Array.getElem?_eq_none h'] at hbk
  have hb2 : w2.heap[b]? = some (.cells #[.pointer (some ⟨b, 0, none⟩), v] 62 (0, 0)) := by
    rw [hgrow.block b hlt (fun e => hne e.symm)]
    exact hbk
  have d0 : w2.cell? ⟨b, 0, none⟩ = some (.pointer (some ⟨b, 0, none⟩)) := by rw [Lib.cell_of_heap hb2]; rfl
  have d1 : w2.cell? ⟨b, 1, none⟩ = some v := by rw [Lib.cell_of_heap hb2]; rfl
  have f1 : w2.frozen? ⟨b, 1, none⟩ = false := Lib.frozen_of_heap hb2 1
  obtain ⟨ao, n', cap, rfl⟩ : ∃ ao n' cap, v' = .slice ao n' cap := by
    rcases hown'.2 with ⟨hv, _⟩ | ⟨g, cap, cur, hv, _⟩
    · exact ⟨_, _, _, hv⟩
    · exact ⟨_, _, _, hv⟩
  go_wp2
  go_ret2
  refine ⟨rfl, ?_, ?_⟩
  · exact Lib.BuilderAt.put (T := 62) (e := 5) hB hb2 (bs' := bs ++ Lib.strCells s) (by simpa [Lib.strCells_length] using hown') (by decide)
  · exact (hb1.grown hgrow (by have := hb1.size; omega) (fun k hk => (hown.lt k hk).1)).setCell (p := ⟨b, 1, none⟩) hB _
def impl_JournalOf_jLine (l0 : List (List UInt8)) (d : List UInt8) (i : Nat) : List UInt8 := d ++ [32] ++ l0.getD i [] ++ [10]
/-- The run of JournalOf over what its callees hand back. -/
inductive impl_JournalOfJ (ts : List (Nat × Obj)) (l0 : List (List UInt8)) : List UInt8 → Int → Nat → List UInt8 → Bool → Prop
  | fin {b : List UInt8} {c : Int} {i : Nat} (h : ¬ i < l0.length) : impl_JournalOfJ ts l0 b c i b true
  | nl {b : List UInt8} {c : Int} {i : Nat} (h : i < l0.length) (h1 : Ok Tryd.prog 29 [.v (.str (pk (l0.getD i []))), .v (.str (pk [10]))] (tabs ts) (.v (.bool true)) (tabs ts)) : impl_JournalOfJ ts l0 b c i [] false
  | long {b : List UInt8} {c c2 : Int} {y : Bool} {d : List UInt8} {i : Nat} (h : i < l0.length) (hb : b.length ≤ 16000 ∧ d.length ≤ 2 ^ 40 ∧ (l0.getD i []).length ≤ 2 ^ 40) (h1 : Ok Tryd.prog 29 [.v (.str (pk (l0.getD i []))), .v (.str (pk [10]))] (tabs ts) (.v (.bool false)) (tabs ts))
      (h2 : Ok Tryd.prog 30 [.v (.int .i64 c), .v (.str (pk (l0.getD i [])))] (tabs ts) (.t [.v (.int .i64 c2), .v (.bool y)]) (tabs ts)) (h3 : Ok Tryd.prog 32 [.v (.int .i64 c2)] (tabs ts) (.v (.str (pk d))) (tabs ts)) (h4 : (16000 : Int) < ((b ++ impl_JournalOf_jLine l0 d i).length : Int)) : impl_JournalOfJ ts l0 b c i [] false
  | more {b : List UInt8} {c c2 : Int} {y : Bool} {d : List UInt8} {i : Nat} {r : List UInt8} {z : Bool} (h : i < l0.length) (hb : b.length ≤ 16000 ∧ d.length ≤ 2 ^ 40 ∧ (l0.getD i []).length ≤ 2 ^ 40) (h1 : Ok Tryd.prog 29 [.v (.str (pk (l0.getD i []))), .v (.str (pk [10]))] (tabs ts) (.v (.bool false)) (tabs ts))
      (h2 : Ok Tryd.prog 30 [.v (.int .i64 c), .v (.str (pk (l0.getD i [])))] (tabs ts) (.t [.v (.int .i64 c2), .v (.bool y)]) (tabs ts)) (h3 : Ok Tryd.prog 32 [.v (.int .i64 c2)] (tabs ts) (.v (.str (pk d))) (tabs ts)) (h4 : ¬ (16000 : Int) < ((b ++ impl_JournalOf_jLine l0 d i).length : Int)) (h5 : impl_JournalOfJ ts l0 (b ++ impl_JournalOf_jLine l0 d i) c2 (i + 1) r z) : impl_JournalOfJ ts l0 b c i r z
theorem impl_JournalOf_jn_cat (d ln : List UInt8) : (pk d ++ ⟨#[32]⟩ ++ pk ln ++ ⟨#[10]⟩ : ByteArray) = pk (d ++ [32] ++ ln ++ [10]) := by
  apply ByteArray.ext
  simp [pk]
theorem impl_JournalOf_hidN {p : Prop} (h : p) : Hid p := h
theorem impl_JournalOf_heap_lt {w : World} {g : Nat} {o : Obj} (h : w.heap[g]? = some o) : g < w.heap.size := by
  rcases Nat.lt_or_ge g w.heap.size with h' | h'
  · exact h'
  · simp [Array.getElem?_eq_none h'] at h
theorem impl_JournalOf_bld_kept {T e : TypeId} {B b : Nat} {bs : List Value} {w w' : World} (h : Lib.IsBuilder T e B b bs w) (hk : ∀ k, k < w.heap.size → w'.heap[k]? = w.heap[k]?) : Lib.IsBuilder T e B b bs w' := by
  have key : ∀ p, Lib.BuilderAt T e B b p bs w → Lib.BuilderAt T e B b p bs w' := by
    rintro p ⟨hB, v, hb, hown, hne⟩
    refine ⟨hB, v, (hk b (impl_JournalOf_heap_lt hb)).trans hb, ⟨hown.1, ?_⟩, hne⟩
    rcases hown.2 with hn | ⟨g, cap, cur, hv, hbg, hgg, rest⟩
    · exact .inl hn
    · exact .inr ⟨g, cap, cur, hv, hbg, (hk g (impl_JournalOf_heap_lt hgg)).trans hgg, rest⟩
  exact h.elim (fun h => .inl (key _ h)) fun h => .inr (key _ h)
theorem impl_JournalOf_below_le {B C : Nat} {w w' : World} (h : Below C w w') (hBC : B ≤ C) : Below B w w' := ⟨h.os, h.tape, h.output, h.size, fun k hk => h.block k (Nat.lt_of_lt_of_le hk hBC)⟩
set_option maxHeartbeats 4000000 in
theorem impl_JournalOf_jn_walk {ts : List (Nat × Obj)} {l0 : List (List UInt8)} {r : List UInt8} {z : Bool} (hj : impl_JournalOfJ ts l0 [] 0 0 r z) (hl : l0.length ≤ 2 ^ 40) (a : Option Addr) (cap : Nat) (w : World)
    (hcells : ∀ (j : Nat) x, (l0.map pk)[j]? = some x → ∃ bk o, a = some ⟨bk, o, none⟩ ∧ bk < w.heap.size ∧ w.cell? ⟨bk, o + j, none⟩ = some (.string x)) (hts : ∀ x ∈ ts, w.heap[x.1]? = some x.2 ∧ x.1 < w.heap.size) :
    Calls Tryd.prog 8 #[.slice a l0.length cap] w fun e w' => e = .returned (.tuple #[.string (pk r), .bool z]) ∧ Below w.heap.size w w' := by
  have HC := impl_JournalOf_hidN hcells
  have HJ := impl_JournalOf_hidN hj
  have HT := impl_JournalOf_hidN hts
  clear hcells hj hts
  have h0 := Lib.fresh_isBuilder 62 5 w
  have b0 : Below w.heap.size w (w.alloc (.cells #[.pointer none, .slice none 0 0] 62)) := (Below.refl _ w).alloc (Nat.le_refl _) _
  have H0 := impl_JournalOf_hidN h0
  have B0 := impl_JournalOf_hidN b0
  clear h0 b0
  go_enter Tryd.func8, Tryd.ntmps8
  go_wp2
  go_loopw [5, 11] (fun c i wr => ∃ (k : Nat) (cv : Int) (b : List UInt8), k ≤ l0.length ∧ i = .int .i64 k ∧ c = .int .i64 cv ∧ Hid (impl_JournalOfJ ts l0 b cv k r z) ∧ Hid (Lib.IsBuilder 62 5 w.heap.size w.heap.size (Lib.byteCells b) wr) ∧ Hid (Below w.heap.size w wr)) (fun _ i _ => l0.length - (intOf i).toNat)
  case atStart => exact ⟨0, 0, [], Nat.zero_le _, rfl, rfl, HJ, H0, B0⟩
  case round =>
    obtain ⟨k, cv, b, hk, rfl, rfl, HJ, HB, HW⟩ := hrel
    have hBw : w.heap.size ≤ wr.heap.size := HW.out.size
    have hts : Hid (∀ x ∈ ts, wr.heap[x.1]? = some x.2) := impl_JournalOf_hidN fun x hx => (HW.out.block x.1 (HT.out x hx).2).trans (HT.out x hx).1
    have hjj := HJ.out
    clear HJ
    cases hjj with
    | fin h =>
      have cs : Calls Tryd.prog 34 #[.pointer (some ⟨w.heap.size, 0, none⟩)] wr (fun e w' => e = .returned (.string (pk r)) ∧ Below w.heap.size wr w') := Any.Builder_String_any Tryd.lays169 impl_JournalOf_bX w.heap.size w.heap.size r wr HB.out hBw
      go_wp2_with fail
      refine cs.mono ?_
      rintro e w5 ⟨rfl, hb5⟩
      have Hb5 := impl_JournalOf_hidN (HW.out.trans hb5)
      clear hb5
      go_wp2
      go_ret2
      exact ⟨rfl, Hb5.out⟩
    | nl h h1 =>
      have hx : (l0.map pk)[k]? = some (pk (l0.getD k [])) := by
        rw [List.getElem?_map, List.getD_eq_getElem?_getD, List.getElem?_eq_getElem h]; rfl
      obtain ⟨bk, o, rfl, hbk, hc⟩ := HC.out k _ hx
      have hcy : wr.cell? ⟨bk, o + k, none⟩ = some (.string (pk (l0.getD k []))) := (HW.out.cell (p := ⟨bk, o + k, none⟩) hbk).trans hc
      have cc : Calls Tryd.prog 29 #[.string (pk (l0.getD k [])), .string ⟨#[10]⟩] wr (fun e w' => e = .returned (.bool true) ∧ Below wr.heap.size wr w') := calls_tabs (us := [.string (pk (l0.getD k [])), .string ⟨#[10]⟩]) h1 Tryd.call29 (fun β => ⟨rfl, rfl, trivial⟩) (tvr_bool _) hts.out
      clear hx hc h1
      generalize l0.getD k [] = ln at hcy cc
      go_wp2_with fail
      refine cc.mono ?_
      rintro e w1 ⟨rfl, hb1⟩
      have Hb1 := impl_JournalOf_hidN (HW.out.trans (impl_JournalOf_below_le hb1 hBw))
      clear hb1
      go_wp2
      go_ret2
      exact ⟨rfl, Hb1.out⟩
    | @long _ _ c2 y d _ h hb h1 h2 h3 h4 =>
      have hx : (l0.map pk)[k]? = some (pk (l0.getD k [])) := by
        rw [List.getElem?_map, List.getD_eq_getElem?_getD, List.getElem?_eq_getElem h]; rfl
      obtain ⟨bk, o, rfl, hbk, hc⟩ := HC.out k _ hx
      have hcy : wr.cell? ⟨bk, o + k, none⟩ = some (.string (pk (l0.getD k []))) := (HW.out.cell (p := ⟨bk, o + k, none⟩) hbk).trans hc
      unfold impl_JournalOf_jLine at h4
      clear hx hc
      generalize l0.getD k [] = ln at hcy h1 h2 h3 h4 hb
      have cc : Calls Tryd.prog 29 #[.string (pk ln), .string ⟨#[10]⟩] wr (fun e w' => e = .returned (.bool false) ∧ Below wr.heap.size wr w') := calls_tabs (us := [.string (pk ln), .string ⟨#[10]⟩]) h1 Tryd.call29 (fun β => ⟨rfl, rfl, trivial⟩) (tvr_bool _) hts.out
      clear h1
      have H2 := impl_JournalOf_hidN h2
      have H3 := impl_JournalOf_hidN h3
      have H4 := impl_JournalOf_hidN h4
      have Hbb := impl_JournalOf_hidN hb
      clear h2 h3 h4 hb
      go_wp2_with fail
      refine cc.mono ?_
      rintro e w1 ⟨rfl, hb1⟩
      have hts1 : Hid (∀ x ∈ ts, w1.heap[x.1]? = some x.2) := impl_JournalOf_hidN fun x hx => (hb1.block x.1 (impl_JournalOf_heap_lt (hts.out x hx))).trans (hts.out x hx)
      have HB1 := impl_JournalOf_hidN (impl_JournalOf_bld_kept HB.out hb1.block)
      have Hb1 := impl_JournalOf_hidN (HW.out.trans (impl_JournalOf_below_le hb1 hBw))
      have hBw1 : w.heap.size ≤ w1.heap.size := Nat.le_trans hBw hb1.size
      clear hb1 cc
      have cc : Calls Tryd.prog 30 #[.int .i64 cv, .string (pk ln)] w1 (fun e w' => e = .returned (.tuple #[.int .i64 c2, .bool y]) ∧ Below w1.heap.size w1 w') := calls_tabs (us := [.int .i64 cv, .string (pk ln)]) H2.out Tryd.call30 (fun β => ⟨rfl, rfl, trivial⟩) (tvr_int_bool _ _) hts1.out
      go_wp2_with fail
      refine cc.mono ?_
      rintro e w2 ⟨rfl, hb2⟩
      have hts2 : Hid (∀ x ∈ ts, w2.heap[x.1]? = some x.2) := impl_JournalOf_hidN fun x hx => (hb2.block x.1 (impl_JournalOf_heap_lt (hts1.out x hx))).trans (hts1.out x hx)
      have HB2 := impl_JournalOf_hidN (impl_JournalOf_bld_kept HB1.out hb2.block)
      have Hb2 := impl_JournalOf_hidN (Hb1.out.trans (impl_JournalOf_below_le hb2 hBw1))
      have hBw2 : w.heap.size ≤ w2.heap.size := Nat.le_trans hBw1 hb2.size
      clear hb2 cc
      have cc : Calls Tryd.prog 32 #[.int .i64 c2] w2 (fun e w' => e = .returned (.string (pk d)) ∧ Below w2.heap.size w2 w') := calls_tabs (us := [.int .i64 c2]) H3.out Tryd.call32 (fun β => ⟨rfl, trivial⟩) (tvr_str _) hts2.out
      go_wp2_with fail
      refine cc.mono ?_
      rintro e w3 ⟨rfl, hb3⟩
      have HB3 := impl_JournalOf_hidN (impl_JournalOf_bld_kept HB2.out hb3.block)
      have Hb3 := impl_JournalOf_hidN (Hb2.out.trans (impl_JournalOf_below_le hb3 hBw2))
      have hBw3 : w.heap.size ≤ w3.heap.size := Nat.le_trans hBw2 hb3.size
      clear hb3 cc
      have hb := Hbb.out
      have q1 : ¬ 9223372036854775807 < (pk d).size + 1 := by rw [pk_size]; omega
      have q2 : ¬ 9223372036854775807 < (pk d).size + (1 + (pk ln).size) := by rw [pk_size, pk_size]; omega
      have q3 : ¬ 9223372036854775807 < (pk d).size + (1 + ((pk ln).size + 1)) := by rw [pk_size, pk_size]; omega
      have cW : ∀ s : ByteArray, s = pk (d ++ [32] ++ ln ++ [10]) → Calls Tryd.prog 31 #[.pointer (some ⟨w.heap.size, 0, none⟩), .string s] w3 (fun e w' => (∃ v, e = .returned (.tuple #[v, .nilIface])) ∧ Hid (Lib.IsBuilder 62 5 w.heap.size w.heap.size (Lib.byteCells (b ++ (d ++ [32] ++ ln ++ [10]))) w' ∧ Below w.heap.size w3 w')) := by
        rintro s rfl
        refine (impl_JournalOf_ws_any w.heap.size w.heap.size (Lib.byteCells b) (pk (d ++ [32] ++ ln ++ [10])) w3 HB3.out (by rw [Lib.byteCells_length, pk_size]; simp only [List.length_append, List.length_cons, List.length_nil]; omega) hBw3).mono ?_
        rintro e w' ⟨he, h5, h6⟩
        rw [Lib.strCells_eq, pk_data, ← Lib.byteCells_append] at h5
        exact ⟨⟨_, he⟩, impl_JournalOf_hidN ⟨Or.inr h5, h6⟩⟩
      go_wp2_with fail
      refine (cW _ ?_).mono ?_
      · exact impl_JournalOf_jn_cat d ln
      rintro e w4 ⟨⟨v, rfl⟩, h5⟩
      have HB4 := impl_JournalOf_hidN h5.out.1
      have Hb4 := impl_JournalOf_hidN (Hb3.out.trans h5.out.2)
      clear h5 cW q1 q2 q3
      have cL : Calls Tryd.prog 33 #[.pointer (some ⟨w.heap.size, 0, none⟩)] w4 (fun e w' => e = .returned (.int .i64 ((b ++ (d ++ [32] ++ ln ++ [10])).length : Int)) ∧ w' = w4) := by
        have := Any.Builder_Len Tryd.lays170 w.heap.size w.heap.size _ w4 HB4.out
        rw [Lib.byteCells_length] at this
        exact this
      have h4 := H4.out
      clear H4
      generalize hN : (b ++ (d ++ [32] ++ ln ++ [10])).length = N at h4 cL
      have HN := impl_JournalOf_hidN hN
      clear hN
      go_wp2_with fail
      refine cL.mono ?_
      rintro e w5 ⟨rfl, rfl⟩
      go_wp2
      go_ret2
      exact ⟨rfl, Hb4.out⟩
    | @more _ _ c2 y d _ _ _ h hb h1 h2 h3 h4 hj5 =>
      have hx : (l0.map pk)[k]? = some (pk (l0.getD k [])) := by
        rw [List.getElem?_map, List.getD_eq_getElem?_getD, List.getElem?_eq_getElem h]; rfl
      obtain ⟨bk, o, rfl, hbk, hc⟩ := HC.out k _ hx
      have hcy : wr.cell? ⟨bk, o + k, none⟩ = some (.string (pk (l0.getD k []))) := (HW.out.cell (p := ⟨bk, o + k, none⟩) hbk).trans hc
      unfold impl_JournalOf_jLine at h4 hj5
      clear hx hc
      generalize l0.getD k [] = ln at hcy h1 h2 h3 h4 hb hj5
      have HJ5 := impl_JournalOf_hidN hj5
      clear hj5
      have cc : Calls Tryd.prog 29 #[.string (pk ln), .string ⟨#[10]⟩] wr (fun e w' => e = .returned (.bool false) ∧ Below wr.heap.size wr w') := calls_tabs (us := [.string (pk ln), .string ⟨#[10]⟩]) h1 Tryd.call29 (fun β => ⟨rfl, rfl, trivial⟩) (tvr_bool _) hts.out
      clear h1
      have H2 := impl_JournalOf_hidN h2
      have H3 := impl_JournalOf_hidN h3
      have H4 := impl_JournalOf_hidN h4
      have Hbb := impl_JournalOf_hidN hb
      clear h2 h3 h4 hb
      go_wp2_with fail
      refine cc.mono ?_
      rintro e w1 ⟨rfl, hb1⟩
      have hts1 : Hid (∀ x ∈ ts, w1.heap[x.1]? = some x.2) := impl_JournalOf_hidN fun x hx => (hb1.block x.1 (impl_JournalOf_heap_lt (hts.out x hx))).trans (hts.out x hx)
      have HB1 := impl_JournalOf_hidN (impl_JournalOf_bld_kept HB.out hb1.block)
      have Hb1 := impl_JournalOf_hidN (HW.out.trans (impl_JournalOf_below_le hb1 hBw))
      have hBw1 : w.heap.size ≤ w1.heap.size := Nat.le_trans hBw hb1.size
      clear hb1 cc
      have cc : Calls Tryd.prog 30 #[.int .i64 cv, .string (pk ln)] w1 (fun e w' => e = .returned (.tuple #[.int .i64 c2, .bool y]) ∧ Below w1.heap.size w1 w') := calls_tabs (us := [.int .i64 cv, .string (pk ln)]) H2.out Tryd.call30 (fun β => ⟨rfl, rfl, trivial⟩) (tvr_int_bool _ _) hts1.out
      go_wp2_with fail
      refine cc.mono ?_
      rintro e w2 ⟨rfl, hb2⟩
      have hts2 : Hid (∀ x ∈ ts, w2.heap[x.1]? = some x.2) := impl_JournalOf_hidN fun x hx => (hb2.block x.1 (impl_JournalOf_heap_lt (hts1.out x hx))).trans (hts1.out x hx)
      have HB2 := impl_JournalOf_hidN (impl_JournalOf_bld_kept HB1.out hb2.block)
      have Hb2 := impl_JournalOf_hidN (Hb1.out.trans (impl_JournalOf_below_le hb2 hBw1))
      have hBw2 : w.heap.size ≤ w2.heap.size := Nat.le_trans hBw1 hb2.size
      clear hb2 cc
      have cc : Calls Tryd.prog 32 #[.int .i64 c2] w2 (fun e w' => e = .returned (.string (pk d)) ∧ Below w2.heap.size w2 w') := calls_tabs (us := [.int .i64 c2]) H3.out Tryd.call32 (fun β => ⟨rfl, trivial⟩) (tvr_str _) hts2.out
      go_wp2_with fail
      refine cc.mono ?_
      rintro e w3 ⟨rfl, hb3⟩
      have HB3 := impl_JournalOf_hidN (impl_JournalOf_bld_kept HB2.out hb3.block)
      have Hb3 := impl_JournalOf_hidN (Hb2.out.trans (impl_JournalOf_below_le hb3 hBw2))
      have hBw3 : w.heap.size ≤ w3.heap.size := Nat.le_trans hBw2 hb3.size
      clear hb3 cc
      have hb := Hbb.out
      have q1 : ¬ 9223372036854775807 < (pk d).size + 1 := by rw [pk_size]; omega
      have q2 : ¬ 9223372036854775807 < (pk d).size + (1 + (pk ln).size) := by rw [pk_size, pk_size]; omega
      have q3 : ¬ 9223372036854775807 < (pk d).size + (1 + ((pk ln).size + 1)) := by rw [pk_size, pk_size]; omega
      have cW : ∀ s : ByteArray, s = pk (d ++ [32] ++ ln ++ [10]) → Calls Tryd.prog 31 #[.pointer (some ⟨w.heap.size, 0, none⟩), .string s] w3 (fun e w' => (∃ v, e = .returned (.tuple #[v, .nilIface])) ∧ Hid (Lib.IsBuilder 62 5 w.heap.size w.heap.size (Lib.byteCells (b ++ (d ++ [32] ++ ln ++ [10]))) w' ∧ Below w.heap.size w3 w')) := by
        rintro s rfl
        refine (impl_JournalOf_ws_any w.heap.size w.heap.size (Lib.byteCells b) (pk (d ++ [32] ++ ln ++ [10])) w3 HB3.out (by rw [Lib.byteCells_length, pk_size]; simp only [List.length_append, List.length_cons, List.length_nil]; omega) hBw3).mono ?_
        rintro e w' ⟨he, h5, h6⟩
        rw [Lib.strCells_eq, pk_data, ← Lib.byteCells_append] at h5
        exact ⟨⟨_, he⟩, impl_JournalOf_hidN ⟨Or.inr h5, h6⟩⟩
      go_wp2_with fail
      refine (cW _ ?_).mono ?_
      · exact impl_JournalOf_jn_cat d ln
      rintro e w4 ⟨⟨v, rfl⟩, h5⟩
      have HB4 := impl_JournalOf_hidN h5.out.1
      have Hb4 := impl_JournalOf_hidN (Hb3.out.trans h5.out.2)
      clear h5 cW q1 q2 q3
      have cL : Calls Tryd.prog 33 #[.pointer (some ⟨w.heap.size, 0, none⟩)] w4 (fun e w' => e = .returned (.int .i64 ((b ++ (d ++ [32] ++ ln ++ [10])).length : Int)) ∧ w' = w4) := by
        have := Any.Builder_Len Tryd.lays170 w.heap.size w.heap.size _ w4 HB4.out
        rw [Lib.byteCells_length] at this
        exact this
      have h4 := H4.out
      clear H4
      generalize hN : (b ++ (d ++ [32] ++ ln ++ [10])).length = N at h4 cL
      have HN := impl_JournalOf_hidN hN
      clear hN
      go_wp2_with fail
      refine cL.mono ?_
      rintro e w5 ⟨rfl, rfl⟩
      go_wp2
      exact ⟨⟨k + 1, c2, _, by omega, by go_num, rfl, HJ5, HB4, Hb4⟩, by simp [intOf]; omega⟩
end
theorem impl_JournalOf_runs {ts : List (Nat × Obj)} {l0 : List (List UInt8)} {K : List UInt8 → Bool → Prop}
    (hC : ∀ a0 a1 (K : Bool → Prop), strings_Contains.wp a0 a1 K → ∃ y, K y ∧ Ok Tryd.prog 29 [.v (.str (pk a0)), .v (.str (pk a1))] (tabs ts) (.v (.bool y)) (tabs ts))
    (hK : ∀ a0 a1 (K : Int → Bool → Prop), impl_CheckOf.wp a0 a1 K → ∃ y z, K y z ∧ Ok Tryd.prog 30 [.v (.int .i64 a0), .v (.str (pk a1))] (tabs ts) (.t [.v (.int .i64 y), .v (.bool z)]) (tabs ts))
    (hD : ∀ a0 (K : List UInt8 → Prop), impl_Decimal.wp a0 K → ∃ y, K y ∧ Ok Tryd.prog 32 [.v (.int .i64 a0)] (tabs ts) (.v (.str (pk y))) (tabs ts))
    (h : impl_JournalOf.wp l0 K) : ∃ r z, impl_JournalOfJ ts l0 [] 0 0 r z ∧ K r z := by
  refine h.2 (fun b c i => ∃ r z, impl_JournalOfJ ts l0 b c i r z ∧ K r z) fun b c i ⟨h1, h2⟩ => ?_
  by_cases hi : i < l0.length
  · obtain ⟨⟨hb, hn⟩, h3⟩ := h1 hi
    obtain ⟨y, ⟨hy1, hy2⟩, k1⟩ := hC _ _ _ h3
    cases y with
    | true => exact ⟨[], false, .nl hi k1, hy1 rfl⟩
    | false =>
      obtain ⟨c2, z2, h4, k2⟩ := hK _ _ _ (hy2 rfl)
      obtain ⟨d, ⟨hd, h5, h6⟩, k3⟩ := hD _ _ h4
      by_cases hl : (16000 : Int) < ((b ++ (d ++ [32] ++ l0.getD i [] ++ [10])).length : Int)
      · exact ⟨[], false, .long hi ⟨hb, hd, hn⟩ k1 k2 k3 hl, h5 hl⟩
      · obtain ⟨r, z, k4, k5⟩ := h6 hl
        exact ⟨r, z, .more hi ⟨hb, hd, hn⟩ k1 k2 k3 hl k4, k5⟩
  · exact ⟨b, true, .fin hi, h2 hi⟩
theorem impl_JournalOf_ok {fr : List Pc} {H : Heap} (v0 : AV) (l0 : List (List UInt8)) (hs : Sep H fr) (g0 : ∀ H, Sep H fr → Shows H v0 1 (enc eStr l0)) (gt2 : ∀ H, Sep H fr → HasTab 2 F.tab2 H) (gt6 : ∀ H, Sep H fr → HasTab 6 F.tab6 H) (K : List UInt8 → Bool → Prop) (h : impl_JournalOf.wp l0 K) : OkQ Tryd.prog 8 [.v v0] H (fun r H2 => ∃ (y0 : List UInt8) (y1 : Bool), K y0 y1 ∧ r = (.t [(.v (.str (pk y0))), (.v (.bool y1))]) ∧ H = H2) := by
  obtain ⟨i1, o1, a1, a2, a3⟩ := gt2 H hs
  obtain ⟨i2, o2, b1, b2, b3⟩ := gt6 H hs
  have t1 : HasTab 2 F.tab2 (tabs [(2, o1), (6, o2)]) := tabs_has (i := 0) rfl a3
  have t2 : HasTab 6 F.tab6 (tabs [(2, o1), (6, o2)]) := tabs_has (i := 1) rfl b3
  obtain ⟨r, z, hj, hk⟩ := impl_JournalOf_runs (ts := [(2, o1), (6, o2)])
    (fun a0 a1 K h => by
      obtain ⟨r, H2, k1, y, k2, rfl, rfl⟩ := strings_Contains_ok a0 a1 (came_sep (tabs [(2, o1), (6, o2)])) K h
      exact ⟨y, k2, k1⟩)
    (fun a0 a1 K h => by
      obtain ⟨r, H2, k1, y, z, k2, rfl, rfl⟩ := impl_CheckOf_ok a0 a1 (came_sep (tabs [(2, o1), (6, o2)])) K h
      exact ⟨y, z, k2, k1⟩)
    (fun a0 K h => by
      obtain ⟨r, H2, k1, y, k2, rfl, rfl⟩ := impl_Decimal_ok a0 (came_sep (tabs [(2, o1), (6, o2)])) (came_tab t1) (came_tab t2) K h
      exact ⟨y, k2, k1⟩) h
  refine ⟨.t [.v (.str (pk r)), .v (.bool z)], H, ok_libB (.tuple #[.string (pk r), .bool z]) Tryd.call8 (fun β => ⟨[.string (pk r), .bool z], rfl, rfl, rfl, trivial⟩) (fun β w us hw ha => ?_), r, z, hk, rfl, rfl⟩
  match us, ha with
  | [u], ⟨hu, _⟩ =>
    have w1 : w.heap[2]? = some o1 := by
      obtain ⟨L, hL⟩ := hw.tot i1 a1 (by rw [a2]; exact fun e => Blk.noConfusion e)
      have := hw.row i1 L hL
      rw [a2] at this; exact this.2
    have w2 : w.heap[6]? = some o2 := by
      obtain ⟨L, hL⟩ := hw.tot i2 b1 (by rw [b2]; exact fun e => Blk.noConfusion e)
      have := hw.row i2 L hL
      rw [b2] at this; exact this.2
    have hts : ∀ x ∈ [(2, o1), (6, o2)], w.heap[x.1]? = some x.2 ∧ x.1 < w.heap.size := by
      intro x hx
      rcases List.mem_cons.1 hx with rfl | hx
      · exact ⟨w1, impl_JournalOf_heap_lt w1⟩
      · rw [List.mem_singleton.1 hx]; exact ⟨w2, impl_JournalOf_heap_lt w2⟩
    rcases shows_strs (g0 H hs) hw hu with ⟨rfl, a, c, rfl⟩ | ⟨bk, o, c, rfl, k1, k2, k3⟩
    · exact impl_JournalOf_jn_walk hj h.1 a c w (fun j x hx => by simp at hx) hts
    · exact impl_JournalOf_jn_walk hj h.1 (some ⟨bk, o, none⟩) c w (fun j x hx => ⟨bk, o, rfl, k2, k3 j x hx⟩) hts

end Go.Proofs.YtecdkjnomkdbkaaDoor.G

namespace Go.Proofs.YtecdkjnomkdbkaaDoor.G
open Go Go.Ab Go.Proofs Go.Proofs.YtecdkjnomkdbkaaDoor
set_option maxRecDepth 100000
set_option linter.unusedVariables false
set_option linter.unusedSimpArgs false
set_option maxHeartbeats 1000000
attribute [local irreducible] wops wopf Go.Ab.Fin
theorem F9.ag9 : tagg Tryd.prog 9 = some false := by kernel_rfl
theorem F9.ti22 : (telem Tryd.prog 22).isSome = true := by kernel_rfl
theorem F9.tl22 : (telem Tryd.prog 22).bind (tsz Tryd.prog) = some 1 := by kernel_rfl
theorem laws_eqStringS_ok {fr : List Pc} {H : Heap} (v0 : AV) (l0 : List (List UInt8)) (v1 : AV) (l1 : List (List UInt8)) (hs : Sep H (fr)) (g0 : ∀ H, Sep H fr → Shows H v0 1 (enc eStr l0)) (g1 : ∀ H, Sep H fr → Shows H v1 1 (enc eStr l1)) (K : Bool → Prop) (h : laws_eqStringS.wp l0 l1 K) : OkQ Tryd.prog 9 [(.v v0), (.v v1)] H (fun r H2 => ∃ (y0 : Bool), K y0 ∧ r = (.v (.bool y0)) ∧ H = H2) := by
  unfold laws_eqStringS.wp at h
  refine of_body Tryd.f9 F.hm Tryd.func9 rfl Tryd.call9 (by kernel_rfl) (by simp) ?_
  refine fi_seq ?_
  refine fi_region ?_
  refine so_assign (v := (.v (.bool false))) rfl ?_
  refine so_nil ?_
  refine fi_seq ?_
  refine fi_seq ?_
  refine fi_region ?_
  refine so_move (v := (.v v0)) rfl ?_
  refine sv_len (g0 _ hs) (fun _ => rfl) (by decide) rfl F9.ti22 ?_
  refine so_move (v := (.v v1)) rfl ?_
  refine sv_len (g1 _ hs) (fun _ => rfl) (by decide) rfl F9.ti22 ?_
  refine so_bin rfl rfl ab_neq ?_
  refine so_nil ?_
  replace h := ofP h; rcases h with ⟨c101, h⟩ | ⟨c101, h⟩
  · refine fi_false rfl (not_f (decide_eq_true c101)) ?_
    refine fi_skip ?_
    refine fi_seq ?_
    refine fi_seq ?_
    refine fi_region ?_
    refine so_assign (v := (.v (.int .i64 (0 : Int)))) rfl ?_
    refine so_nil ?_
    refine fi_block ?_
    refine fi_loop ?_
    refine fi_at [(0, (.v v0)), (1, (.v v1)), (5, (.v (.int .i64 (0 : Int))))] ⟨rfl, rfl, rfl, trivial⟩ ?_
    refine h (fun (i103 : Int) => ∀ (s : Nat → TV), Fin _ _ (updL s [(0, (.v v0)), (1, (.v v1)), (5, (.v (.int .i64 i103)))]) _ _) ?_ _
    intro i103 h s108
    refine fi_inLoop ?_
    refine fi_seq ?_
    refine fi_seq ?_
    refine fi_region ?_
    refine so_move (v := (.v (.int .i64 i103))) rfl ?_
    refine so_move (v := (.v v0)) rfl ?_
    refine sv_len (g0 _ hs) (fun _ => rfl) (by decide) rfl F9.ti22 ?_
    refine so_bin rfl rfl ab_lss ?_
    refine so_nil ?_
    replace h := ofP h; rcases h with ⟨c104, h⟩ | ⟨c104, h⟩
    · refine fi_true rfl (decide_eq_true c104) ?_
      refine fi_skip ?_
      refine fi_seq ?_
      refine fi_block ?_
      refine fi_seq ?_
      refine fi_region ?_
      refine so_move (v := (.v v0)) rfl ?_
      refine so_move (v := (.v (.int .i64 i103))) rfl ?_
      obtain ⟨c105, h⟩ := h
      refine sv_idx (g0 _ hs) c105 (fun _ => rfl) (by decide) rfl rfl F9.tl22 ?_
      refine sv_cell (g0 _ hs) c105 ([] : List UInt8) 0 (fun x => (AV.str (pk x))) (fun _ => rfl) (fun _ => rfl) rfl F9.ag9 ?_
      refine so_move (v := (.v v1)) rfl ?_
      refine so_move (v := (.v (.int .i64 i103))) rfl ?_
      obtain ⟨c106, h⟩ := h
      refine sv_idx (g1 _ hs) c106 (fun _ => rfl) (by decide) rfl rfl F9.tl22 ?_
      refine sv_cell (g1 _ hs) c106 ([] : List UInt8) 0 (fun x => (AV.str (pk x))) (fun _ => rfl) (fun _ => rfl) rfl F9.ag9 ?_
      refine so_bin rfl rfl ab_sneq ?_
      refine so_nil ?_
      replace h := ofP h; rcases h with ⟨c107, h⟩ | ⟨c107, h⟩
      · refine fi_false rfl (not_f (decide_eq_true c107)) ?_
        refine fi_skip ?_
        refine fi_inBlock ?_
        refine fi_region ?_
        refine so_move (v := (.v (.int .i64 i103))) rfl ?_
        refine so_bin rfl rfl ab_add ?_
        refine so_assign (v := (.v (.int .i64 (IntKind.i64.wrap (i103 + (1 : Int)))))) rfl ?_
        refine so_nil ?_
        exact fi_at [(0, (.v v0)), (1, (.v v1)), (5, (.v (.int .i64 (IntKind.i64.wrap (i103 + (1 : Int))))))] ⟨rfl, rfl, rfl, trivial⟩ (h _)
      · refine fi_true rfl (not_t (decide_eq_false c107)) ?_
        refine fi_seq ?_
        refine fi_region ?_
        refine so_assign (v := (.v (.bool false))) rfl ?_
        refine so_nil ?_
        exact by_ret rfl ⟨_, h, rfl, rfl⟩
    · refine fi_false rfl (decide_eq_false c104) ?_
      refine fi_exit rfl ?_
      refine fi_seq ?_
      refine fi_region ?_
      refine so_assign (v := (.v (.bool true))) rfl ?_
      refine so_nil ?_
      exact by_ret rfl ⟨_, h, rfl, rfl⟩
  · refine fi_true rfl (not_t (decide_eq_false c101)) ?_
    refine fi_seq ?_
    refine fi_region ?_
    refine so_assign (v := (.v (.bool false))) rfl ?_
    refine so_nil ?_
    exact by_ret rfl ⟨_, h, rfl, rfl⟩

end Go.Proofs.YtecdkjnomkdbkaaDoor.G

namespace Go.Proofs.YtecdkjnomkdbkaaDoor.G
open Go Go.Ab Go.Proofs Go.Proofs.YtecdkjnomkdbkaaDoor
set_option maxRecDepth 100000
set_option linter.unusedVariables false
set_option linter.unusedSimpArgs false
set_option maxHeartbeats 1000000
attribute [local irreducible] wops wopf Go.Ab.Fin
theorem F3.tb4 : tbool Tryd.prog 4 = true := by kernel_rfl
theorem laws_FnExactJournalOf_ok {fr : List Pc} {H : Heap} (v0 : AV) (l0 : List (List UInt8)) (hs : Sep H (fr)) (g0 : ∀ H, Sep H fr → Shows H v0 1 (enc eStr l0)) (gt2 : ∀ H, Sep H fr → HasTab 2 F.tab2 H) (gt6 : ∀ H, Sep H fr → HasTab 6 F.tab6 H) (K : Bool → Prop) (h : laws_FnExactJournalOf.wp l0 K) : OkQ Tryd.prog 3 [(.v v0)] H (fun r H2 => ∃ (y0 : Bool), K y0 ∧ r = (.v (.bool y0)) ∧ Sep H2 (fr)) := by
  unfold laws_FnExactJournalOf.wp at h
  refine of_body Tryd.f3 F.hm Tryd.func3 rfl Tryd.call3 (by kernel_rfl) (by simp) ?_
  refine fi_seq ?_
  refine fi_region ?_
  refine so_assign (v := (.v (.bool false))) rfl ?_
  refine so_nil ?_
  refine fi_seq ?_
  refine fi_region ?_
  refine so_assign (v := (.v (.int .i64 (1048576 : Int)))) rfl ?_
  refine so_nil ?_
  refine fi_seq ?_
  refine fi_region ?_
  refine so_move (v := (.v v0)) rfl ?_
  refine so_move (v := (.v (.int .i64 (1048576 : Int)))) rfl ?_
  refine sv_callS (laws_szStringS_ok v0 l0 (1048576 : Int) hs (fun _ hs => (g0 _ hs)) _ h) (fun _ _ ⟨_, _, _, e⟩ => e) rfl rfl ?_
  clear h
  rintro _ _ ⟨y101, h, rfl, rfl⟩
  refine so_assign (v := (.v (.int .i64 y101))) rfl ?_
  refine so_nil ?_
  refine fi_seq ?_
  refine fi_seq ?_
  refine fi_region ?_
  refine so_move (v := (.v (.int .i64 y101))) rfl ?_
  refine so_bin rfl rfl ab_lss ?_
  refine so_nil ?_
  replace h := ofP h; rcases h with ⟨c103, h⟩ | ⟨c103, h⟩
  · refine fi_true rfl (decide_eq_true c103) ?_
    refine fi_seq ?_
    refine fi_region ?_
    refine so_assign (v := (.v (.bool true))) rfl ?_
    refine so_nil ?_
    exact by_ret rfl ⟨_, h, rfl, hs⟩
  · refine fi_false rfl (decide_eq_false c103) ?_
    refine fi_skip ?_
    refine fi_seq ?_
    refine fi_region ?_
    refine so_move (v := (.v v0)) rfl ?_
    refine sv_call (laws_toStringS_ok v0 l0 hs (fun _ hs => (g0 _ hs)) _ h) rfl rfl nofun ?_
    clear h hs
    rintro _ H107 ⟨y104, h, v105, rfl, hs⟩
    refine sv_callS (spec_JournalOf_ok v105 y104 hs (fun _ hs => (hs.shows 0 rfl)) _ h) (fun _ _ ⟨_, _, _, _, e⟩ => e) rfl rfl ?_
    clear h
    rintro _ _ ⟨y108, y109, h, rfl, rfl⟩
    refine so_move (v := (.t [(.v (.str (pk y108))), (.v (.bool y109))])) rfl ?_
    refine so_extract rfl rfl rfl ?_
    refine so_extract rfl rfl rfl ?_
    refine so_assign (v := (.v (.str (pk y108)))) rfl ?_
    refine so_assign (v := (.v (.bool y109))) rfl ?_
    refine so_nil ?_
    refine fi_seq ?_
    refine fi_region ?_
    refine so_move (v := (.v v0)) rfl ?_
    refine sv_call (laws_toStringS_ok v0 l0 hs (fun _ hs => (g0 _ hs.tl)) _ h) rfl rfl nofun ?_
    clear h hs
    rintro _ H114 ⟨y111, h, v112, rfl, hs⟩
    refine so_assign (v := (.v v112)) rfl ?_
    refine so_nil ?_
    refine fi_seq ?_
    refine fi_region ?_
    refine so_move (v := (.v v112)) rfl ?_
    refine sv_callS (impl_JournalOf_ok v112 y111 hs (fun _ hs => (hs.shows 0 rfl)) (fun _ hs => gt2 _ hs.tl.tl) (fun _ hs => gt6 _ hs.tl.tl) _ h) (fun _ _ ⟨_, _, _, _, e⟩ => e) rfl rfl ?_
    clear h
    rintro _ _ ⟨y115, y116, h, rfl, rfl⟩
    refine so_move (v := (.t [(.v (.str (pk y115))), (.v (.bool y116))])) rfl ?_
    refine so_extract rfl rfl rfl ?_
    refine so_extract rfl rfl rfl ?_
    refine so_assign (v := (.v (.str (pk y115)))) rfl ?_
    refine so_assign (v := (.v (.bool y116))) rfl ?_
    refine so_nil ?_
    refine fi_seq ?_
    refine fi_seq ?_
    refine fi_region ?_
    refine so_move (v := (.v (.str (pk y115)))) rfl ?_
    refine so_move (v := (.v (.str (pk y108)))) rfl ?_
    refine so_bin rfl rfl ab_sneq ?_
    refine so_move (v := (.v (.bool (!(decide (y115 = y108)))))) rfl ?_
    replace h := ofP h; rcases h with ⟨c118, h⟩ | ⟨c118, h⟩
    · refine so_gyes rfl (not_f (decide_eq_true c118)) ?_
      refine so_move (v := (.v (.bool y116))) rfl ?_
      refine so_gyes rfl (not_f (decide_eq_true c118)) ?_
      refine so_move (v := (.v (.bool y109))) rfl ?_
      refine so_gyes rfl (not_f (decide_eq_true c118)) ?_
      refine so_bin rfl rfl (ab_bneq F3.tb4) ?_
      refine so_pick_f (v := (.v (.bool (!(y116 == y109))))) rfl (not_f (decide_eq_true c118)) rfl ?_
      refine so_nil ?_
      replace h := ofT h; rcases h with ⟨c119, h⟩ | ⟨c119, h⟩
      · refine fi_false rfl (not_f c119) ?_
        refine fi_skip ?_
        refine fi_seq ?_
        refine fi_seq ?_
        refine fi_region ?_
        refine so_move (v := (.v v112)) rfl ?_
        refine so_move (v := (.v v0)) rfl ?_
        refine sv_call (laws_toStringS_ok v0 l0 hs (fun _ hs => (g0 _ hs.tl.tl)) _ h) rfl rfl nofun ?_
        clear h hs
        rintro _ H123 ⟨y120, h, v121, rfl, hs⟩
        refine sv_callS (laws_eqStringS_ok v112 y111 v121 y120 hs (fun _ hs => (hs.shows 1 rfl)) (fun _ hs => (hs.shows 0 rfl)) _ h) (fun _ _ ⟨_, _, _, e⟩ => e) rfl rfl ?_
        clear h
        rintro _ _ ⟨y124, h, rfl, rfl⟩
        refine so_un rfl au_not ?_
        refine so_nil ?_
        replace h := ofT h; rcases h with ⟨c126, h⟩ | ⟨c126, h⟩
        · refine fi_false rfl (not_f c126) ?_
          refine fi_skip ?_
          refine fi_seq ?_
          refine fi_region ?_
          refine so_assign (v := (.v (.bool true))) rfl ?_
          refine so_nil ?_
          exact by_ret rfl ⟨_, h, rfl, (Sep.del 0 (Sep.del 0 (Sep.del 0 hs)))⟩
        · refine fi_true rfl (not_t c126) ?_
          refine fi_seq ?_
          refine fi_region ?_
          refine so_assign (v := (.v (.bool false))) rfl ?_
          refine so_nil ?_
          exact by_ret rfl ⟨_, h, rfl, (Sep.del 0 (Sep.del 0 (Sep.del 0 hs)))⟩
      · refine fi_true rfl (not_t c119) ?_
        refine fi_seq ?_
        refine fi_region ?_
        refine so_assign (v := (.v (.bool false))) rfl ?_
        refine so_nil ?_
        exact by_ret rfl ⟨_, h, rfl, (Sep.del 0 (Sep.del 0 hs))⟩
    · refine so_gno rfl (not_t (decide_eq_false c118)) ?_
      refine so_gno rfl (not_t (decide_eq_false c118)) ?_
      refine so_gno rfl (not_t (decide_eq_false c118)) ?_
      refine so_pick_t (v := (.v (.bool true))) rfl (not_t (decide_eq_false c118)) rfl ?_
      refine so_nil ?_
      refine fi_true rfl rfl ?_
      refine fi_seq ?_
      refine fi_region ?_
      refine so_assign (v := (.v (.bool false))) rfl ?_
      refine so_nil ?_
      exact by_ret rfl ⟨_, h, rfl, (Sep.del 0 (Sep.del 0 hs))⟩

end Go.Proofs.YtecdkjnomkdbkaaDoor.G

