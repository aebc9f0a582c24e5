/-
  The model ends so. Printed by a program of the session; nothing here is trusted.
-/
import Derived.Test.YtkaidcgelbhofaaProg
import Derived.KernelRfl
import Derived.Test.YtkaidcgelbhofaaMExactListFromWa
namespace Go.Proofs.Ytkaidcgelbhofaa.F
open Go Go.Ab Go.Proofs
set_option maxRecDepth 100000
set_option linter.unusedVariables false
set_option linter.unusedSimpArgs false
set_option maxHeartbeats 1000000
theorem hm : Try.prog.follows .mixedOrders = true := by kernel_rfl
end Go.Proofs.Ytkaidcgelbhofaa.F

namespace Go.Proofs.Ytkaidcgelbhofaa.G
open Go Go.Ab Go.Proofs Go.Proofs.Ytkaidcgelbhofaa
set_option maxRecDepth 100000
set_option linter.unusedVariables false
set_option linter.unusedSimpArgs false
set_option maxHeartbeats 1000000
attribute [local irreducible] wops wopf Go.Ab.Fin
theorem F81.ti22 : (telem Try.prog 22).isSome = true := by kernel_rfl
theorem laws_szBoolS_ok {fr : List Pc} {H : Heap} (v0 : AV) (l0 : List (Bool)) (a1 : Int) (hs : Sep H (fr)) (g0 : ∀ H, Sep H fr → Shows H v0 1 (enc eBool l0)) (K : Int → Prop) (h : laws_szBoolS.wp l0 a1 K) : OkQ Try.prog 81 [(.v v0), (.v (.int .i64 a1))] H (fun r H2 => ∃ (y0 : Int), K y0 ∧ r = (.v (.int .i64 y0)) ∧ H = H2) := by
  unfold laws_szBoolS.wp at h
  refine of_body Try.f81 F.hm Try.func81 rfl Try.call81 (by kernel_rfl) (by simp) ?_
  refine fi_seq ?_
  refine fi_region ?_
  refine so_assign (v := (.v (.int .i64 (0 : Int)))) rfl ?_
  refine so_nil ?_
  refine fi_seq ?_
  refine fi_region ?_
  refine so_move (v := (.v (.int .i64 a1))) rfl ?_
  refine so_move (v := (.v v0)) rfl ?_
  refine sv_len (g0 _ hs) (fun _ => rfl) (by decide) rfl F81.ti22 ?_
  refine so_bin rfl rfl ab_sub ?_
  refine so_assign (v := (.v (.int .i64 (IntKind.i64.wrap (a1 - (l0.length : Int)))))) rfl ?_
  refine so_nil ?_
  refine fi_seq ?_
  refine fi_seq ?_
  refine fi_region ?_
  refine so_move (v := (.v (.int .i64 (IntKind.i64.wrap (a1 - (l0.length : Int)))))) rfl ?_
  refine so_bin rfl rfl ab_lss ?_
  refine so_nil ?_
  replace h := ofP h; rcases h with ⟨c101, h⟩ | ⟨c101, h⟩
  · refine fi_true rfl (decide_eq_true c101) ?_
    refine fi_seq ?_
    refine fi_region ?_
    refine so_assign (v := (.v (.int .i64 (-1 : Int)))) rfl ?_
    refine so_nil ?_
    exact by_ret rfl ⟨_, h, rfl, rfl⟩
  · refine fi_false rfl (decide_eq_false c101) ?_
    refine fi_skip ?_
    refine fi_seq ?_
    refine fi_region ?_
    refine so_move (v := (.v (.int .i64 (IntKind.i64.wrap (a1 - (l0.length : Int)))))) rfl ?_
    refine so_assign (v := (.v (.int .i64 (IntKind.i64.wrap (a1 - (l0.length : Int)))))) rfl ?_
    refine so_nil ?_
    exact by_ret rfl ⟨_, h, rfl, rfl⟩

end Go.Proofs.Ytkaidcgelbhofaa.G

namespace Go.Proofs.Ytkaidcgelbhofaa.G
open Go Go.Ab Go.Proofs Go.Proofs.Ytkaidcgelbhofaa
set_option maxRecDepth 100000
set_option linter.unusedVariables false
set_option linter.unusedSimpArgs false
set_option maxHeartbeats 1000000
attribute [local irreducible] wops wopf Go.Ab.Fin
theorem F13.ag22 : tagg Try.prog 22 = some false := by kernel_rfl
theorem F13.fd24_2 : tfield Try.prog 24 2 = some (2, 1, false) := by kernel_rfl
theorem F13.inf24 : (Try.prog.info? 24).isSome = true := by kernel_rfl
theorem laws_szCoded_ok {fr : List Pc} {H : Heap} (a0 : Int) (a1 : Int) (v2 : AV) (l2 : List (Bool)) (a3 : Int) (hs : Sep H (fr)) (g2 : ∀ H, Sep H fr → Shows H v2 1 (enc eBool l2)) (K : Int → Prop) (h : laws_szCoded.wp a0 a1 l2 a3 K) : OkQ Try.prog 13 [(.g [(.int .i64 a0), (.int .i64 a1), v2]), (.v (.int .i64 a3))] H (fun r H2 => ∃ (y0 : Int), K y0 ∧ r = (.v (.int .i64 y0)) ∧ Sep H2 (fr)) := by
  unfold laws_szCoded.wp at h
  refine of_body Try.f13 F.hm Try.func13 rfl Try.call13 (by kernel_rfl) (by simp) ?_
  refine fi_seq ?_
  refine fi_region ?_
  refine sv_box hs rfl (c := [(.int .i64 a0), (.int .i64 a1), v2]) rfl F13.inf24 (stc rfl (stc rfl (stc (g2 _ hs).stor stn))) nofun (fun id101 H102 hs => ?_)
  refine so_assign (v := (.v (.int .i64 (0 : Int)))) rfl ?_
  refine so_nil ?_
  refine fi_seq ?_
  refine fi_region ?_
  refine so_fieldAddr rfl F13.fd24_2 ?_
  refine sv_ld hs 0 rfl rfl rfl F13.ag22 ?_
  refine so_move (v := (.v (.int .i64 a3))) rfl ?_
  refine sv_callS (laws_szBoolS_ok v2 l2 a3 hs (fun _ hs => (g2 _ hs.tl)) _ h) (fun _ _ ⟨_, _, _, e⟩ => e) rfl rfl ?_
  clear h
  rintro _ _ ⟨y104, h, rfl, rfl⟩
  refine so_assign (v := (.v (.int .i64 y104))) rfl ?_
  refine so_nil ?_
  refine fi_seq ?_
  refine fi_seq ?_
  refine fi_region ?_
  refine so_move (v := (.v (.int .i64 y104))) rfl ?_
  refine so_bin rfl rfl ab_lss ?_
  refine so_nil ?_
  replace h := ofP h; rcases h with ⟨c106, h⟩ | ⟨c106, h⟩
  · refine fi_true rfl (decide_eq_true c106) ?_
    refine fi_seq ?_
    refine fi_region ?_
    refine so_assign (v := (.v (.int .i64 (-1 : Int)))) rfl ?_
    refine so_nil ?_
    exact by_ret rfl ⟨_, h, rfl, (Sep.del 0 hs)⟩
  · refine fi_false rfl (decide_eq_false c106) ?_
    refine fi_skip ?_
    refine fi_seq ?_
    refine fi_region ?_
    refine so_move (v := (.v (.int .i64 y104))) rfl ?_
    refine so_assign (v := (.v (.int .i64 y104))) rfl ?_
    refine so_nil ?_
    exact by_ret rfl ⟨_, h, rfl, (Sep.del 0 hs)⟩

end Go.Proofs.Ytkaidcgelbhofaa.G

namespace Go.Proofs.Ytkaidcgelbhofaa.G
open Go Go.Ab Go.Proofs Go.Proofs.Ytkaidcgelbhofaa
set_option maxRecDepth 100000
set_option linter.unusedVariables false
set_option linter.unusedSimpArgs false
set_option maxHeartbeats 1000000
attribute [local irreducible] wops wopf Go.Ab.Fin
theorem spec_l00In_ok {fr : List Pc} {H : Heap} (a0 : Int) (a1 : Int) (a2 : Int) (hs : Sep H (fr))  (K : Bool → Prop) (h : spec_l00In.wp a0 a1 a2 K) : OkQ Try.prog 102 [(.v (.int .i64 a0)), (.v (.int .i64 a1)), (.v (.int .i64 a2))] H (fun r H2 => ∃ (y0 : Bool), K y0 ∧ r = (.v (.bool y0)) ∧ H = H2) := by
  unfold spec_l00In.wp at h
  refine of_body Try.f102 F.hm Try.func102 rfl Try.call102 (by kernel_rfl) (by simp) ?_
  refine fi_seq ?_
  refine fi_region ?_
  refine so_assign (v := (.v (.bool false))) rfl ?_
  refine so_nil ?_
  refine fi_seq ?_
  refine fi_region ?_
  refine so_move (v := (.v (.int .i64 a0))) rfl ?_
  refine so_move (v := (.v (.int .i64 a1))) rfl ?_
  refine so_bin rfl rfl ab_geq ?_
  refine so_move (v := (.v (.bool (decide (a1 ≤ a0))))) rfl ?_
  replace h := ofP h; rcases h with ⟨c101, h⟩ | ⟨c101, h⟩
  · refine so_gyes rfl (decide_eq_true c101) ?_
    refine so_move (v := (.v (.int .i64 a0))) rfl ?_
    refine so_gyes rfl (decide_eq_true c101) ?_
    refine so_move (v := (.v (.int .i64 a2))) rfl ?_
    refine so_gyes rfl (decide_eq_true c101) ?_
    refine so_bin rfl rfl ab_leq ?_
    refine so_pick_t (v := (.v (.bool (decide (a0 ≤ a2))))) rfl (decide_eq_true c101) rfl ?_
    refine so_assign (v := (.v (.bool (decide (a0 ≤ a2))))) rfl ?_
    refine so_nil ?_
    exact by_ret rfl ⟨_, h, rfl, rfl⟩
  · refine so_gno rfl (decide_eq_false c101) ?_
    refine so_gno rfl (decide_eq_false c101) ?_
    refine so_gno rfl (decide_eq_false c101) ?_
    refine so_pick_f (v := (.v (.bool false))) rfl (decide_eq_false c101) rfl ?_
    refine so_assign (v := (.v (.bool false))) rfl ?_
    refine so_nil ?_
    exact by_ret rfl ⟨_, h, rfl, rfl⟩

end Go.Proofs.Ytkaidcgelbhofaa.G

namespace Go.Proofs.Ytkaidcgelbhofaa.G
open Go Go.Ab Go.Proofs Go.Proofs.Ytkaidcgelbhofaa
set_option maxRecDepth 100000
set_option linter.unusedVariables false
set_option linter.unusedSimpArgs false
set_option maxHeartbeats 1000000
attribute [local irreducible] wops wopf Go.Ab.Fin
theorem F82.ag2 : tagg Try.prog 2 = some false := by kernel_rfl
theorem F82.ag22 : tagg Try.prog 22 = some false := by kernel_rfl
theorem F82.fd29_0 : tfield Try.prog 29 0 = some (0, 1, false) := by kernel_rfl
theorem F82.fd29_1 : tfield Try.prog 29 1 = some (1, 1, false) := by kernel_rfl
theorem F82.fd29_2 : tfield Try.prog 29 2 = some (2, 1, false) := by kernel_rfl
theorem F82.ti22 : (telem Try.prog 22).isSome = true := by kernel_rfl
theorem spec_l06Is_ok {fr : List Pc} {H : Heap} (i0 o0 : Nat) (a0 : Int) (a1 : Int) (v2 : AV) (l2 : List (Bool)) (hs : Sep H (fr)) (g2 : ∀ H, Sep H fr → Shows H v2 1 (enc eBool l2)) (q0 : ∀ H, Sep H fr → PtAt H i0 o0 [(.int .i64 a0), (.int .i64 a1), v2]) (K : Bool → Prop) (h : spec_l06Is.wp a0 a1 l2 K) : OkQ Try.prog 82 [(.v (.ptr i0 o0))] H (fun r H2 => ∃ (y0 : Bool), K y0 ∧ r = (.v (.bool y0)) ∧ H = H2) := by
  unfold spec_l06Is.wp at h
  refine of_body Try.f82 F.hm Try.func82 rfl Try.call82 (by kernel_rfl) (by simp) ?_
  refine fi_seq ?_
  refine fi_region ?_
  refine so_assign (v := (.v (.bool false))) rfl ?_
  refine so_nil ?_
  refine fi_seq ?_
  refine fi_region ?_
  refine so_move (v := (.v (.ptr i0 o0))) rfl ?_
  refine so_nilCheck rfl ?_
  refine so_fieldAddr rfl F82.fd29_0 ?_
  refine su_ld (q0 _ hs) 0 rfl rfl F82.ag2 ?_
  refine sv_callS (spec_l00In_ok a0 (1 : Int) (128 : Int) hs  _ h) (fun _ _ ⟨_, _, _, e⟩ => e) rfl rfl ?_
  clear h
  rintro _ _ ⟨y101, h, rfl, rfl⟩
  refine so_move (v := (.v (.bool y101))) rfl ?_
  replace h := ofT h; rcases h with ⟨c103, h⟩ | ⟨c103, h⟩
  · refine so_gyes rfl c103 ?_
    refine so_move (v := (.v (.ptr i0 o0))) rfl ?_
    refine so_gyes rfl c103 ?_
    refine so_nilCheck rfl ?_
    refine so_gyes rfl c103 ?_
    refine so_fieldAddr rfl F82.fd29_1 ?_
    refine so_gyes rfl c103 ?_
    refine su_ld (q0 _ hs) 1 rfl rfl F82.ag2 ?_
    refine so_gyes rfl c103 ?_
    refine sv_callS (spec_l00In_ok a1 (0 : Int) (24 : Int) hs  _ h) (fun _ _ ⟨_, _, _, e⟩ => e) rfl rfl ?_
    clear h
    rintro _ _ ⟨y104, h, rfl, rfl⟩
    refine so_pick_t (v := (.v (.bool y104))) rfl c103 rfl ?_
    refine so_move (v := (.v (.bool y104))) rfl ?_
    replace h := ofT h; rcases h with ⟨c106, h⟩ | ⟨c106, h⟩
    · refine so_gyes rfl c106 ?_
      refine so_move (v := (.v (.ptr i0 o0))) rfl ?_
      refine so_gyes rfl c106 ?_
      refine so_nilCheck rfl ?_
      refine so_gyes rfl c106 ?_
      refine so_fieldAddr rfl F82.fd29_2 ?_
      refine so_gyes rfl c106 ?_
      refine su_ld (q0 _ hs) 2 rfl rfl F82.ag22 ?_
      refine so_gyes rfl c106 ?_
      refine sv_len (g2 _ hs) (fun _ => rfl) (by decide) rfl F82.ti22 ?_
      refine so_gyes rfl c106 ?_
      refine so_bin rfl rfl ab_leq ?_
      refine so_pick_t (v := (.v (.bool (decide ((l2.length : Int) ≤ (32768 : Int)))))) rfl c106 rfl ?_
      refine so_assign (v := (.v (.bool (decide ((l2.length : Int) ≤ (32768 : Int)))))) rfl ?_
      refine so_nil ?_
      exact by_ret rfl ⟨_, h, rfl, rfl⟩
    · refine so_gno rfl c106 ?_
      refine so_gno rfl c106 ?_
      refine so_gno rfl c106 ?_
      refine so_gno rfl c106 ?_
      refine so_gno rfl c106 ?_
      refine so_gno rfl c106 ?_
      refine so_pick_f (v := (.v (.bool false))) rfl c106 rfl ?_
      refine so_assign (v := (.v (.bool false))) rfl ?_
      refine so_nil ?_
      exact by_ret rfl ⟨_, h, rfl, rfl⟩
  · refine so_gno rfl c103 ?_
    refine so_gno rfl c103 ?_
    refine so_gno rfl c103 ?_
    refine so_gno rfl c103 ?_
    refine so_gno rfl c103 ?_
    refine so_pick_f (v := (.v (.bool false))) rfl c103 rfl ?_
    refine so_move (v := (.v (.bool false))) rfl ?_
    refine so_gno rfl rfl ?_
    refine so_gno rfl rfl ?_
    refine so_gno rfl rfl ?_
    refine so_gno rfl rfl ?_
    refine so_gno rfl rfl ?_
    refine so_gno rfl rfl ?_
    refine so_pick_f (v := (.v (.bool false))) rfl rfl rfl ?_
    refine so_assign (v := (.v (.bool false))) rfl ?_
    refine so_nil ?_
    exact by_ret rfl ⟨_, h, rfl, rfl⟩

end Go.Proofs.Ytkaidcgelbhofaa.G

namespace Go.Proofs.Ytkaidcgelbhofaa.G
open Go Go.Ab Go.Proofs Go.Proofs.Ytkaidcgelbhofaa
set_option maxRecDepth 100000
set_option linter.unusedVariables false
set_option linter.unusedSimpArgs false
set_option maxHeartbeats 1000000
attribute [local irreducible] wops wopf Go.Ab.Fin
theorem F159.ag2 : tagg Try.prog 2 = some false := by kernel_rfl
theorem F159.ti26 : (telem Try.prog 26).isSome = true := by kernel_rfl
theorem F159.tl26 : (telem Try.prog 26).bind (tsz Try.prog) = some 1 := by kernel_rfl
theorem spec_l02Bound_ok {fr : List Pc} {H : Heap} (v0 : AV) (l0 : List (Int)) (a1 : Int) (hs : Sep H (fr)) (g0 : ∀ H, Sep H fr → Shows H v0 1 (enc (eInt .i64) l0)) (K : Bool → Prop) (h : spec_l02Bound.wp l0 a1 K) : OkQ Try.prog 159 [(.v v0), (.v (.int .i64 a1))] H (fun r H2 => ∃ (y0 : Bool), K y0 ∧ r = (.v (.bool y0)) ∧ H = H2) := by
  unfold spec_l02Bound.wp at h
  refine of_body Try.f159 F.hm Try.func159 rfl Try.call159 (by kernel_rfl) (by simp) ?_
  refine fi_seq ?_
  refine fi_region ?_
  refine so_assign (v := (.v (.bool false))) rfl ?_
  refine so_nil ?_
  refine fi_seq ?_
  refine fi_seq ?_
  refine fi_region ?_
  refine so_assign (v := (.v (.int .i64 (0 : Int)))) rfl ?_
  refine so_nil ?_
  refine fi_block ?_
  refine fi_loop ?_
  refine fi_at [(0, (.v v0)), (1, (.v (.int .i64 a1))), (5, (.v (.int .i64 (0 : Int))))] ⟨rfl, rfl, rfl, trivial⟩ ?_
  refine h (fun (i102 : Int) => ∀ (s : Nat → TV), Fin _ _ (updL s [(0, (.v v0)), (1, (.v (.int .i64 a1))), (5, (.v (.int .i64 i102)))]) _ _) ?_ _
  intro i102 h s108
  refine fi_inLoop ?_
  refine fi_seq ?_
  refine fi_seq ?_
  refine fi_region ?_
  refine so_move (v := (.v (.int .i64 i102))) rfl ?_
  refine so_move (v := (.v v0)) rfl ?_
  refine sv_len (g0 _ hs) (fun _ => rfl) (by decide) rfl F159.ti26 ?_
  refine so_bin rfl rfl ab_lss ?_
  refine so_nil ?_
  replace h := ofP h; rcases h with ⟨c103, h⟩ | ⟨c103, h⟩
  · refine fi_true rfl (decide_eq_true c103) ?_
    refine fi_skip ?_
    refine fi_seq ?_
    refine fi_block ?_
    refine fi_seq ?_
    refine fi_region ?_
    refine so_move (v := (.v v0)) rfl ?_
    refine so_move (v := (.v (.int .i64 i102))) rfl ?_
    obtain ⟨c104, h⟩ := h
    refine sv_idx (g0 _ hs) c104 (fun _ => rfl) (by decide) rfl rfl F159.tl26 ?_
    refine sv_cell (g0 _ hs) c104 (0 : Int) 0 (fun x => (AV.int .i64 x)) (fun _ => rfl) (fun _ => rfl) rfl F159.ag2 ?_
    refine so_move (v := (.v (.int .i64 a1))) rfl ?_
    refine so_un rfl au_neg ?_
    refine so_move (v := (.v (.int .i64 a1))) rfl ?_
    refine sv_callS (spec_l00In_ok (l0.getD (i102).toNat (0 : Int)) (IntKind.i64.wrap (0 - a1)) a1 hs  _ h) (fun _ _ ⟨_, _, _, e⟩ => e) rfl rfl ?_
    clear h
    rintro _ _ ⟨y105, h, rfl, rfl⟩
    refine so_un rfl au_not ?_
    refine so_nil ?_
    replace h := ofT h; rcases h with ⟨c107, h⟩ | ⟨c107, h⟩
    · refine fi_false rfl (not_f c107) ?_
      refine fi_skip ?_
      refine fi_inBlock ?_
      refine fi_region ?_
      refine so_move (v := (.v (.int .i64 i102))) rfl ?_
      refine so_bin rfl rfl ab_add ?_
      refine so_assign (v := (.v (.int .i64 (IntKind.i64.wrap (i102 + (1 : Int)))))) rfl ?_
      refine so_nil ?_
      exact fi_at [(0, (.v v0)), (1, (.v (.int .i64 a1))), (5, (.v (.int .i64 (IntKind.i64.wrap (i102 + (1 : Int))))))] ⟨rfl, rfl, rfl, trivial⟩ (h _)
    · refine fi_true rfl (not_t c107) ?_
      refine fi_seq ?_
      refine fi_region ?_
      refine so_assign (v := (.v (.bool false))) rfl ?_
      refine so_nil ?_
      exact by_ret rfl ⟨_, h, rfl, rfl⟩
  · refine fi_false rfl (decide_eq_false c103) ?_
    refine fi_exit rfl ?_
    refine fi_seq ?_
    refine fi_region ?_
    refine so_assign (v := (.v (.bool true))) rfl ?_
    refine so_nil ?_
    exact by_ret rfl ⟨_, h, rfl, rfl⟩

end Go.Proofs.Ytkaidcgelbhofaa.G

namespace Go.Proofs.Ytkaidcgelbhofaa.G
open Go Go.Ab Go.Proofs Go.Proofs.Ytkaidcgelbhofaa
set_option maxRecDepth 100000
set_option linter.unusedVariables false
set_option linter.unusedSimpArgs false
set_option maxHeartbeats 1000000
attribute [local irreducible] wops wopf Go.Ab.Fin
theorem F83.ti26 : (telem Try.prog 26).isSome = true := by kernel_rfl
theorem spec_l02Integers_ok {fr : List Pc} {H : Heap} (v0 : AV) (l0 : List (Int)) (hs : Sep H (fr)) (g0 : ∀ H, Sep H fr → Shows H v0 1 (enc (eInt .i64) l0)) (K : Bool → Prop) (h : spec_l02Integers.wp l0 K) : OkQ Try.prog 83 [(.v v0)] H (fun r H2 => ∃ (y0 : Bool), K y0 ∧ r = (.v (.bool y0)) ∧ H = H2) := by
  unfold spec_l02Integers.wp at h
  refine of_body Try.f83 F.hm Try.func83 rfl Try.call83 (by kernel_rfl) (by simp) ?_
  refine fi_seq ?_
  refine fi_region ?_
  refine so_assign (v := (.v (.bool false))) rfl ?_
  refine so_nil ?_
  refine fi_seq ?_
  refine fi_region ?_
  refine so_move (v := (.v v0)) rfl ?_
  refine sv_len (g0 _ hs) (fun _ => rfl) (by decide) rfl F83.ti26 ?_
  refine so_bin rfl rfl ab_geq ?_
  refine so_move (v := (.v (.bool (decide ((1 : Int) ≤ (l0.length : Int)))))) rfl ?_
  replace h := ofP h; rcases h with ⟨c101, h⟩ | ⟨c101, h⟩
  · refine so_gyes rfl (decide_eq_true c101) ?_
    refine so_move (v := (.v v0)) rfl ?_
    refine so_gyes rfl (decide_eq_true c101) ?_
    refine sv_len (g0 _ hs) (fun _ => rfl) (by decide) rfl F83.ti26 ?_
    refine so_gyes rfl (decide_eq_true c101) ?_
    refine so_bin rfl rfl ab_leq ?_
    refine so_pick_t (v := (.v (.bool (decide ((l0.length : Int) ≤ (128 : Int)))))) rfl (decide_eq_true c101) rfl ?_
    refine so_move (v := (.v (.bool (decide ((l0.length : Int) ≤ (128 : Int)))))) rfl ?_
    replace h := ofP h; rcases h with ⟨c102, h⟩ | ⟨c102, h⟩
    · refine so_gyes rfl (decide_eq_true c102) ?_
      refine so_move (v := (.v v0)) rfl ?_
      refine so_gyes rfl (decide_eq_true c102) ?_
      refine sv_callS (spec_l02Bound_ok v0 l0 (1000000 : Int) hs (fun _ hs => (g0 _ hs)) _ h) (fun _ _ ⟨_, _, _, e⟩ => e) rfl rfl ?_
      clear h
      rintro _ _ ⟨y103, h, rfl, rfl⟩
      refine so_pick_t (v := (.v (.bool y103))) rfl (decide_eq_true c102) rfl ?_
      refine so_assign (v := (.v (.bool y103))) rfl ?_
      refine so_nil ?_
      exact by_ret rfl ⟨_, h, rfl, rfl⟩
    · refine so_gno rfl (decide_eq_false c102) ?_
      refine so_gno rfl (decide_eq_false c102) ?_
      refine so_pick_f (v := (.v (.bool false))) rfl (decide_eq_false c102) rfl ?_
      refine so_assign (v := (.v (.bool false))) rfl ?_
      refine so_nil ?_
      exact by_ret rfl ⟨_, h, rfl, rfl⟩
  · refine so_gno rfl (decide_eq_false c101) ?_
    refine so_gno rfl (decide_eq_false c101) ?_
    refine so_gno rfl (decide_eq_false c101) ?_
    refine so_pick_f (v := (.v (.bool false))) rfl (decide_eq_false c101) rfl ?_
    refine so_move (v := (.v (.bool false))) rfl ?_
    refine so_gno rfl rfl ?_
    refine so_gno rfl rfl ?_
    refine so_pick_f (v := (.v (.bool false))) rfl rfl rfl ?_
    refine so_assign (v := (.v (.bool false))) rfl ?_
    refine so_nil ?_
    exact by_ret rfl ⟨_, h, rfl, rfl⟩

end Go.Proofs.Ytkaidcgelbhofaa.G

namespace Go.Proofs.Ytkaidcgelbhofaa.G
open Go Go.Ab Go.Proofs Go.Proofs.Ytkaidcgelbhofaa
set_option maxRecDepth 100000
set_option linter.unusedVariables false
set_option linter.unusedSimpArgs false
set_option maxHeartbeats 1000000
attribute [local irreducible] wops wopf Go.Ab.Fin
theorem F14.ag2 : tagg Try.prog 2 = some false := by kernel_rfl
theorem F14.ag22 : tagg Try.prog 22 = some false := by kernel_rfl
theorem F14.ag4 : tagg Try.prog 4 = some false := by kernel_rfl
theorem F14.by2 : tbytes Try.prog 2 = some 8 := by kernel_rfl
theorem F14.fd29_0 : tfield Try.prog 29 0 = some (0, 1, false) := by kernel_rfl
theorem F14.fd29_1 : tfield Try.prog 29 1 = some (1, 1, false) := by kernel_rfl
theorem F14.fd29_2 : tfield Try.prog 29 2 = some (2, 1, false) := by kernel_rfl
theorem F14.inf29 : (Try.prog.info? 29).isSome = true := by kernel_rfl
theorem F14.it113 : tint Try.prog 113 = some .u64 := by kernel_rfl
theorem F14.sz2 : tsz Try.prog 2 = some 1 := by kernel_rfl
theorem F14.ta26_26 : tapp Try.prog 26 26 = some (1, 8) := by kernel_rfl
theorem F14.te26 : telem Try.prog 26 = some 2 := by kernel_rfl
theorem F14.ti22 : (telem Try.prog 22).isSome = true := by kernel_rfl
theorem F14.tl22 : (telem Try.prog 22).bind (tsz Try.prog) = some 1 := by kernel_rfl
theorem F14.tl26 : (telem Try.prog 26).bind (tsz Try.prog) = some 1 := by kernel_rfl
theorem F14.us2 : (Try.prog.underlying 2).isSome = true := by kernel_rfl
theorem F14.ze2 : tzero Try.prog 2 = some [(.int .i64 (0 : Int))] := by kernel_rfl
theorem spec_ListFrom_ok {fr : List Pc} {H : Heap} (a0 : Int) (a1 : Int) (v2 : AV) (l2 : List (Bool)) (hs : Sep H (fr)) (g2 : ∀ H, Sep H fr → Shows H v2 1 (enc eBool l2)) (K : (List (Int)) → Bool → Prop) (h : spec_ListFrom.wp a0 a1 l2 K) : OkQ Try.prog 14 [(.g [(.int .i64 a0), (.int .i64 a1), v2])] H (fun r H2 => ∃ (y0 : List (Int)) (y1 : Bool), K y0 y1 ∧ ∃ (w0_ : AV), r = (.t [(.v w0_), (.v (.bool y1))]) ∧ Sep H2 (Pc.osl w0_ 1 (enc (eInt .i64) y0) :: fr)) := by
  unfold spec_ListFrom.wp at h
  refine of_body Try.f14 F.hm Try.func14 rfl Try.call14 (by kernel_rfl) (by simp) ?_
  refine fi_seq ?_
  refine fi_region ?_
  refine sv_box hs rfl (c := [(.int .i64 a0), (.int .i64 a1), v2]) rfl F14.inf29 (stc rfl (stc rfl (stc (g2 _ hs).stor stn))) nofun (fun id101 H102 hs => ?_)
  refine so_assign (v := (.v .nilsl)) rfl ?_
  refine so_assign (v := (.v (.bool false))) rfl ?_
  refine so_nil ?_
  refine fi_seq ?_
  refine fi_seq ?_
  refine fi_region ?_
  refine sv_callS (spec_l06Is_ok id101 0 a0 a1 v2 l2 hs (fun _ hs => (g2 _ hs.tl)) (fun _ hs => (hs.ptat 0 rfl)) _ h) (fun _ _ ⟨_, _, _, e⟩ => e) rfl rfl ?_
  clear h
  rintro _ _ ⟨y104, h, rfl, rfl⟩
  refine so_un rfl au_not ?_
  refine so_nil ?_
  replace h := ofT h; rcases h with ⟨c106, h⟩ | ⟨c106, h⟩
  · refine fi_false rfl (not_f c106) ?_
    refine fi_skip ?_
    refine fi_seq ?_
    refine fi_region ?_
    refine so_fieldAddr rfl F14.fd29_0 ?_
    refine sv_ld hs 0 rfl rfl rfl F14.ag2 ?_
    obtain ⟨c107, h⟩ := h
    refine sv_make hs (eInt .i64) (0 : Int) c107 (fun _ => rfl) rfl rfl F14.te26 F14.sz2 F14.by2 F14.ze2 rfl rfl nofun (fun v108 H109 nv108 hs => ?_)
    refine so_assign (v := (.v v108)) rfl ?_
    refine so_nil ?_
    refine fi_seq ?_
    refine fi_region ?_
    refine so_fieldAddr rfl F14.fd29_0 ?_
    refine sv_ld hs 1 rfl rfl rfl F14.ag2 ?_
    refine sv_make hs (eInt .i64) (0 : Int) c107 (fun _ => rfl) rfl rfl F14.te26 F14.sz2 F14.by2 F14.ze2 rfl rfl nofun (fun v111 H112 nv111 hs => ?_)
    refine so_assign (v := (.v v111)) rfl ?_
    refine so_nil ?_
    refine fi_seq ?_
    refine fi_region ?_
    refine so_assign (v := (.v (.int .i64 (0 : Int)))) rfl ?_
    refine so_nil ?_
    refine fi_seq ?_
    refine fi_seq ?_
    refine fi_region ?_
    refine so_fieldAddr rfl F14.fd29_1 ?_
    refine sv_ld hs 2 rfl rfl rfl F14.ag2 ?_
    refine so_bin rfl rfl ab_sub ?_
    refine so_assign (v := (.v (.int .i64 (IntKind.i64.wrap (a1 - (1 : Int)))))) rfl ?_
    refine so_nil ?_
    refine fi_block ?_
    refine fi_loop ?_
    refine fi_at [(1, (.v (.ptr id101 0))), (4, (.v v108)), (5, (.v v111)), (6, (.v (.int .i64 (0 : Int)))), (7, (.v (.int .i64 (IntKind.i64.wrap (a1 - (1 : Int))))))] ⟨rfl, rfl, rfl, rfl, rfl, trivial⟩ ?_
    refine h (fun (signs202 : List (Int)) (sizes203 : List (Int)) (atq204 : Int) (k205 : Int) => ∀ (s : Nat → TV) (H : Heap), Sep H (Pc.osl v111 1 (enc (eInt .i64) signs202) :: Pc.osl v108 1 (enc (eInt .i64) sizes203) :: Pc.box id101 [(.int .i64 a0), (.int .i64 a1), v2] :: fr) → Fin _ _ (updL s [(1, (.v (.ptr id101 0))), (4, (.v v108)), (5, (.v v111)), (6, (.v (.int .i64 atq204))), (7, (.v (.int .i64 k205)))]) H _) ?_ _ _ hs
    intro signs202 sizes203 atq204 k205 h s293 H294 hs
    refine fi_inLoop ?_
    refine fi_seq ?_
    refine fi_seq ?_
    refine fi_region ?_
    refine so_move (v := (.v (.int .i64 k205))) rfl ?_
    refine so_bin rfl rfl ab_geq ?_
    refine so_nil ?_
    replace h := ofP h; rcases h with ⟨c206, h⟩ | ⟨c206, h⟩
    · refine fi_true rfl (decide_eq_true c206) ?_
      refine fi_skip ?_
      refine fi_seq ?_
      refine fi_block ?_
      refine fi_seq ?_
      refine fi_region ?_
      refine so_assign (v := (.v (.int .i64 (0 : Int)))) rfl ?_
      refine so_nil ?_
      refine fi_block ?_
      refine fi_loop ?_
      refine fi_at [(1, (.v (.ptr id101 0))), (4, (.v v108)), (5, (.v v111)), (6, (.v (.int .i64 atq204))), (7, (.v (.int .i64 k205))), (8, (.v (.int .i64 (0 : Int))))] ⟨rfl, rfl, rfl, rfl, rfl, rfl, trivial⟩ ?_
      refine h (fun (signs230 : List (Int)) (sizes231 : List (Int)) (atq232 : Int) (i233 : Int) => ∀ (s : Nat → TV) (H : Heap), Sep H (Pc.osl v111 1 (enc (eInt .i64) signs230) :: Pc.osl v108 1 (enc (eInt .i64) sizes231) :: Pc.box id101 [(.int .i64 a0), (.int .i64 a1), v2] :: fr) → Fin _ _ (updL s [(1, (.v (.ptr id101 0))), (4, (.v v108)), (5, (.v v111)), (6, (.v (.int .i64 atq232))), (7, (.v (.int .i64 k205))), (8, (.v (.int .i64 i233)))]) H _) ?_ _ _ hs
      intro signs230 sizes231 atq232 i233 h s253 H254 hs
      refine fi_inLoop ?_
      refine fi_seq ?_
      refine fi_seq ?_
      refine fi_region ?_
      refine so_move (v := (.v (.int .i64 i233))) rfl ?_
      refine so_fieldAddr rfl F14.fd29_0 ?_
      refine sv_ld hs 2 rfl rfl rfl F14.ag2 ?_
      refine so_bin rfl rfl ab_lss ?_
      refine so_move (v := (.v (.bool (decide (i233 < a0))))) rfl ?_
      replace h := ofP h; rcases h with ⟨c234, h⟩ | ⟨c234, h⟩
      · refine so_gyes rfl (decide_eq_true c234) ?_
        refine so_move (v := (.v (.int .i64 atq232))) rfl ?_
        refine so_gyes rfl (decide_eq_true c234) ?_
        refine so_fieldAddr rfl F14.fd29_2 ?_
        refine so_gyes rfl (decide_eq_true c234) ?_
        refine sv_ld hs 2 rfl rfl rfl F14.ag22 ?_
        refine so_gyes rfl (decide_eq_true c234) ?_
        refine sv_len (g2 _ hs.tl.tl.tl) (fun _ => rfl) (by decide) rfl F14.ti22 ?_
        refine so_gyes rfl (decide_eq_true c234) ?_
        refine so_bin rfl rfl ab_lss ?_
        refine so_pick_t (v := (.v (.bool (decide (atq232 < (l2.length : Int)))))) rfl (decide_eq_true c234) rfl ?_
        refine so_nil ?_
        replace h := ofP h; rcases h with ⟨c235, h⟩ | ⟨c235, h⟩
        · refine fi_true rfl (decide_eq_true c235) ?_
          refine fi_skip ?_
          refine fi_seq ?_
          refine fi_block ?_
          refine fi_seq ?_
          refine fi_region ?_
          refine so_fieldAddr rfl F14.fd29_2 ?_
          refine sv_ld hs 2 rfl rfl rfl F14.ag22 ?_
          refine so_move (v := (.v (.int .i64 atq232))) rfl ?_
          obtain ⟨c236, h⟩ := h
          refine sv_idx (g2 _ hs.tl.tl.tl) c236 (fun _ => rfl) (by decide) rfl rfl F14.tl22 ?_
          refine sv_cell (g2 _ hs.tl.tl.tl) c236 false 0 (fun x => (AV.bool x)) (fun _ => rfl) (fun _ => rfl) rfl F14.ag4 ?_
          refine so_assign (v := (.v (.bool (l2.getD (atq232).toNat false)))) rfl ?_
          refine so_nil ?_
          refine fi_seq ?_
          refine fi_region ?_
          refine so_move (v := (.v (.int .i64 atq232))) rfl ?_
          refine so_bin rfl rfl ab_add ?_
          refine so_assign (v := (.v (.int .i64 (IntKind.i64.wrap (atq232 + (1 : Int)))))) rfl ?_
          refine so_nil ?_
          refine fi_seq ?_
          refine fi_seq ?_
          refine fi_region ?_
          refine so_move (v := (.v (.bool (l2.getD (atq232).toNat false)))) rfl ?_
          refine so_un rfl au_not ?_
          refine so_nil ?_
          replace h := ofT h; rcases h with ⟨c237, h⟩ | ⟨c237, h⟩
          · refine fi_false rfl (not_f c237) ?_
            refine fi_skip ?_
            refine fi_seq ?_
            refine fi_seq ?_
            refine fi_region ?_
            refine so_move (v := (.v v108)) rfl ?_
            refine so_move (v := (.v (.int .i64 i233))) rfl ?_
            obtain ⟨c238, h⟩ := h
            refine sv_idx (hs.shows 1 rfl) c238 (fun _ => rfl) (by decide) rfl rfl F14.tl26 ?_
            refine sv_cell (hs.shows 1 rfl) c238 (0 : Int) 0 (fun x => (AV.int .i64 x)) (fun _ => rfl) (fun _ => rfl) rfl F14.ag2 ?_
            refine so_bin rfl rfl ab_eql ?_
            refine so_nil ?_
            replace h := ofP h; rcases h with ⟨c239, h⟩ | ⟨c239, h⟩
            · refine fi_true rfl (decide_eq_true c239) ?_
              refine fi_seq ?_
              refine fi_seq ?_
              refine fi_region ?_
              refine so_move (v := (.v (.int .i64 (IntKind.i64.wrap (atq232 + (1 : Int)))))) rfl ?_
              refine so_fieldAddr rfl F14.fd29_2 ?_
              refine sv_ld hs 2 rfl rfl rfl F14.ag22 ?_
              refine sv_len (g2 _ hs.tl.tl.tl) (fun _ => rfl) (by decide) rfl F14.ti22 ?_
              refine so_bin rfl rfl ab_eql ?_
              refine so_nil ?_
              replace h := ofP h; rcases h with ⟨c240, h⟩ | ⟨c240, h⟩
              · refine fi_true rfl (decide_eq_true c240) ?_
                refine fi_exit rfl ?_
                refine fi_inBlock ?_
                refine fi_region ?_
                refine so_move (v := (.v (.int .i64 k205))) rfl ?_
                refine so_bin rfl rfl ab_sub ?_
                refine so_assign (v := (.v (.int .i64 (IntKind.i64.wrap (k205 - (1 : Int)))))) rfl ?_
                refine so_nil ?_
                exact fi_at [(1, (.v (.ptr id101 0))), (4, (.v v108)), (5, (.v v111)), (6, (.v (.int .i64 (IntKind.i64.wrap (atq232 + (1 : Int)))))), (7, (.v (.int .i64 (IntKind.i64.wrap (k205 - (1 : Int))))))] ⟨rfl, rfl, rfl, rfl, rfl, trivial⟩ (h _ _  hs)
              · refine fi_false rfl (decide_eq_false c240) ?_
                refine fi_skip ?_
                refine fi_seq ?_
                refine fi_region ?_
                refine so_move (v := (.v v111)) rfl ?_
                refine so_move (v := (.v (.int .i64 i233))) rfl ?_
                obtain ⟨c241, h⟩ := h
                refine sv_idx (hs.shows 0 rfl) c241 (fun _ => rfl) (by decide) rfl rfl F14.tl26 ?_
                refine sv_set hs 0 rfl c241 (1 : Int) (fun _ => rfl) (by decide) rfl rfl rfl rfl F14.sz2 nofun (fun H242 hs => ?_)
                refine so_nil ?_
                refine fi_seq ?_
                refine fi_seq ?_
                refine fi_region ?_
                refine so_fieldAddr rfl F14.fd29_2 ?_
                refine sv_ld hs 2 rfl rfl rfl F14.ag22 ?_
                refine so_move (v := (.v (.int .i64 (IntKind.i64.wrap (atq232 + (1 : Int)))))) rfl ?_
                obtain ⟨c243, h⟩ := h
                refine sv_idx (g2 _ hs.tl.tl.tl) c243 (fun _ => rfl) (by decide) rfl rfl F14.tl22 ?_
                refine sv_cell (g2 _ hs.tl.tl.tl) c243 false 0 (fun x => (AV.bool x)) (fun _ => rfl) (fun _ => rfl) rfl F14.ag4 ?_
                refine so_nil ?_
                replace h := ofT h; rcases h with ⟨c244, h⟩ | ⟨c244, h⟩
                · refine fi_true rfl c244 ?_
                  refine fi_region ?_
                  refine so_move (v := (.v v111)) rfl ?_
                  refine so_move (v := (.v (.int .i64 i233))) rfl ?_
                  obtain ⟨c245, h⟩ := h
                  refine sv_idx (hs.shows 0 rfl) c245 (fun _ => rfl) (by decide) rfl rfl F14.tl26 ?_
                  refine sv_set hs 0 rfl c245 (-1 : Int) (fun _ => rfl) (by decide) rfl rfl rfl rfl F14.sz2 nofun (fun H246 hs => ?_)
                  refine so_nil ?_
                  refine fi_region ?_
                  refine so_move (v := (.v (.int .i64 (IntKind.i64.wrap (atq232 + (1 : Int)))))) rfl ?_
                  refine so_bin rfl rfl ab_add ?_
                  refine so_assign (v := (.v (.int .i64 (IntKind.i64.wrap ((IntKind.i64.wrap (atq232 + (1 : Int))) + (1 : Int)))))) rfl ?_
                  refine so_nil ?_
                  refine fi_region ?_
                  refine so_move (v := (.v v108)) rfl ?_
                  refine so_move (v := (.v (.int .i64 i233))) rfl ?_
                  refine sv_idx (hs.shows 1 rfl) c238 (fun _ => rfl) (by decide) rfl rfl F14.tl26 ?_
                  refine sv_cell (hs.shows 1 rfl) c238 (0 : Int) 0 (fun x => (AV.int .i64 x)) (fun _ => rfl) (fun _ => rfl) rfl F14.ag2 ?_
                  refine so_move (v := (.v (.int .i64 k205))) rfl ?_
                  refine sv_ii rfl F14.us2 F14.it113 ?_
                  obtain ⟨c247, h⟩ := h
                  refine so_bin rfl rfl (ab_shl c247) ?_
                  refine so_bin rfl rfl ab_add ?_
                  refine sv_idx (hs.shows 1 rfl) c238 (fun _ => rfl) (by decide) rfl rfl F14.tl26 ?_
                  refine sv_set hs 1 rfl c238 (IntKind.i64.wrap ((sizes231.getD (i233).toNat (0 : Int)) + (IntKind.i64.wrap ((1 : Int) * (2 ^ (min ((IntKind.u64.wrap k205)).toNat IntKind.i64.bits)))))) (fun _ => rfl) (by decide) rfl rfl rfl rfl F14.sz2 nofun (fun H248 hs => ?_)
                  refine so_nil ?_
                  refine fi_inBlock ?_
                  refine fi_region ?_
                  refine so_move (v := (.v (.int .i64 i233))) rfl ?_
                  refine so_bin rfl rfl ab_add ?_
                  refine so_assign (v := (.v (.int .i64 (IntKind.i64.wrap (i233 + (1 : Int)))))) rfl ?_
                  refine so_nil ?_
                  exact fi_at [(1, (.v (.ptr id101 0))), (4, (.v v108)), (5, (.v v111)), (6, (.v (.int .i64 (IntKind.i64.wrap ((IntKind.i64.wrap (atq232 + (1 : Int))) + (1 : Int)))))), (7, (.v (.int .i64 k205))), (8, (.v (.int .i64 (IntKind.i64.wrap (i233 + (1 : Int))))))] ⟨rfl, rfl, rfl, rfl, rfl, rfl, trivial⟩ (h _ _  hs)
                · refine fi_false rfl c244 ?_
                  refine fi_skip ?_
                  refine fi_region ?_
                  refine so_move (v := (.v (.int .i64 (IntKind.i64.wrap (atq232 + (1 : Int)))))) rfl ?_
                  refine so_bin rfl rfl ab_add ?_
                  refine so_assign (v := (.v (.int .i64 (IntKind.i64.wrap ((IntKind.i64.wrap (atq232 + (1 : Int))) + (1 : Int)))))) rfl ?_
                  refine so_nil ?_
                  refine fi_region ?_
                  refine so_move (v := (.v v108)) rfl ?_
                  refine so_move (v := (.v (.int .i64 i233))) rfl ?_
                  refine sv_idx (hs.shows 1 rfl) c238 (fun _ => rfl) (by decide) rfl rfl F14.tl26 ?_
                  refine sv_cell (hs.shows 1 rfl) c238 (0 : Int) 0 (fun x => (AV.int .i64 x)) (fun _ => rfl) (fun _ => rfl) rfl F14.ag2 ?_
                  refine so_move (v := (.v (.int .i64 k205))) rfl ?_
                  refine sv_ii rfl F14.us2 F14.it113 ?_
                  obtain ⟨c249, h⟩ := h
                  refine so_bin rfl rfl (ab_shl c249) ?_
                  refine so_bin rfl rfl ab_add ?_
                  refine sv_idx (hs.shows 1 rfl) c238 (fun _ => rfl) (by decide) rfl rfl F14.tl26 ?_
                  refine sv_set hs 1 rfl c238 (IntKind.i64.wrap ((sizes231.getD (i233).toNat (0 : Int)) + (IntKind.i64.wrap ((1 : Int) * (2 ^ (min ((IntKind.u64.wrap k205)).toNat IntKind.i64.bits)))))) (fun _ => rfl) (by decide) rfl rfl rfl rfl F14.sz2 nofun (fun H250 hs => ?_)
                  refine so_nil ?_
                  refine fi_inBlock ?_
                  refine fi_region ?_
                  refine so_move (v := (.v (.int .i64 i233))) rfl ?_
                  refine so_bin rfl rfl ab_add ?_
                  refine so_assign (v := (.v (.int .i64 (IntKind.i64.wrap (i233 + (1 : Int)))))) rfl ?_
                  refine so_nil ?_
                  exact fi_at [(1, (.v (.ptr id101 0))), (4, (.v v108)), (5, (.v v111)), (6, (.v (.int .i64 (IntKind.i64.wrap ((IntKind.i64.wrap (atq232 + (1 : Int))) + (1 : Int)))))), (7, (.v (.int .i64 k205))), (8, (.v (.int .i64 (IntKind.i64.wrap (i233 + (1 : Int))))))] ⟨rfl, rfl, rfl, rfl, rfl, rfl, trivial⟩ (h _ _  hs)
            · refine fi_false rfl (decide_eq_false c239) ?_
              refine fi_skip ?_
              refine fi_region ?_
              refine so_move (v := (.v v108)) rfl ?_
              refine so_move (v := (.v (.int .i64 i233))) rfl ?_
              refine sv_idx (hs.shows 1 rfl) c238 (fun _ => rfl) (by decide) rfl rfl F14.tl26 ?_
              refine sv_cell (hs.shows 1 rfl) c238 (0 : Int) 0 (fun x => (AV.int .i64 x)) (fun _ => rfl) (fun _ => rfl) rfl F14.ag2 ?_
              refine so_move (v := (.v (.int .i64 k205))) rfl ?_
              refine sv_ii rfl F14.us2 F14.it113 ?_
              obtain ⟨c251, h⟩ := h
              refine so_bin rfl rfl (ab_shl c251) ?_
              refine so_bin rfl rfl ab_add ?_
              refine sv_idx (hs.shows 1 rfl) c238 (fun _ => rfl) (by decide) rfl rfl F14.tl26 ?_
              refine sv_set hs 1 rfl c238 (IntKind.i64.wrap ((sizes231.getD (i233).toNat (0 : Int)) + (IntKind.i64.wrap ((1 : Int) * (2 ^ (min ((IntKind.u64.wrap k205)).toNat IntKind.i64.bits)))))) (fun _ => rfl) (by decide) rfl rfl rfl rfl F14.sz2 nofun (fun H252 hs => ?_)
              refine so_nil ?_
              refine fi_inBlock ?_
              refine fi_region ?_
              refine so_move (v := (.v (.int .i64 i233))) rfl ?_
              refine so_bin rfl rfl ab_add ?_
              refine so_assign (v := (.v (.int .i64 (IntKind.i64.wrap (i233 + (1 : Int)))))) rfl ?_
              refine so_nil ?_
              exact fi_at [(1, (.v (.ptr id101 0))), (4, (.v v108)), (5, (.v v111)), (6, (.v (.int .i64 (IntKind.i64.wrap (atq232 + (1 : Int)))))), (7, (.v (.int .i64 k205))), (8, (.v (.int .i64 (IntKind.i64.wrap (i233 + (1 : Int))))))] ⟨rfl, rfl, rfl, rfl, rfl, rfl, trivial⟩ (h _ _  hs)
          · refine fi_true rfl (not_t c237) ?_
            refine fi_exit rfl ?_
            refine fi_region ?_
            refine so_move (v := (.v (.int .i64 i233))) rfl ?_
            refine so_bin rfl rfl ab_add ?_
            refine so_assign (v := (.v (.int .i64 (IntKind.i64.wrap (i233 + (1 : Int)))))) rfl ?_
            refine so_nil ?_
            exact fi_at [(1, (.v (.ptr id101 0))), (4, (.v v108)), (5, (.v v111)), (6, (.v (.int .i64 (IntKind.i64.wrap (atq232 + (1 : Int)))))), (7, (.v (.int .i64 k205))), (8, (.v (.int .i64 (IntKind.i64.wrap (i233 + (1 : Int))))))] ⟨rfl, rfl, rfl, rfl, rfl, rfl, trivial⟩ (h _ _  hs)
        · refine fi_false rfl (decide_eq_false c235) ?_
          refine fi_exit rfl ?_
          refine fi_inBlock ?_
          refine fi_region ?_
          refine so_move (v := (.v (.int .i64 k205))) rfl ?_
          refine so_bin rfl rfl ab_sub ?_
          refine so_assign (v := (.v (.int .i64 (IntKind.i64.wrap (k205 - (1 : Int)))))) rfl ?_
          refine so_nil ?_
          exact fi_at [(1, (.v (.ptr id101 0))), (4, (.v v108)), (5, (.v v111)), (6, (.v (.int .i64 atq232))), (7, (.v (.int .i64 (IntKind.i64.wrap (k205 - (1 : Int))))))] ⟨rfl, rfl, rfl, rfl, rfl, trivial⟩ (h _ _  hs)
      · refine so_gno rfl (decide_eq_false c234) ?_
        refine so_gno rfl (decide_eq_false c234) ?_
        refine so_gno rfl (decide_eq_false c234) ?_
        refine so_gno rfl (decide_eq_false c234) ?_
        refine so_gno rfl (decide_eq_false c234) ?_
        refine so_pick_f (v := (.v (.bool false))) rfl (decide_eq_false c234) rfl ?_
        refine so_nil ?_
        refine fi_false rfl rfl ?_
        refine fi_exit rfl ?_
        refine fi_inBlock ?_
        refine fi_region ?_
        refine so_move (v := (.v (.int .i64 k205))) rfl ?_
        refine so_bin rfl rfl ab_sub ?_
        refine so_assign (v := (.v (.int .i64 (IntKind.i64.wrap (k205 - (1 : Int)))))) rfl ?_
        refine so_nil ?_
        exact fi_at [(1, (.v (.ptr id101 0))), (4, (.v v108)), (5, (.v v111)), (6, (.v (.int .i64 atq232))), (7, (.v (.int .i64 (IntKind.i64.wrap (k205 - (1 : Int))))))] ⟨rfl, rfl, rfl, rfl, rfl, trivial⟩ (h _ _  hs)
    · refine fi_false rfl (decide_eq_false c206) ?_
      refine fi_exit rfl ?_
      refine fi_seq ?_
      refine fi_seq ?_
      refine fi_region ?_
      refine so_move (v := (.v (.int .i64 atq204))) rfl ?_
      refine so_fieldAddr rfl F14.fd29_2 ?_
      refine sv_ld hs 2 rfl rfl rfl F14.ag22 ?_
      refine sv_len (g2 _ hs.tl.tl.tl) (fun _ => rfl) (by decide) rfl F14.ti22 ?_
      refine so_bin rfl rfl ab_lss ?_
      refine so_nil ?_
      replace h := ofP h; rcases h with ⟨c255, h⟩ | ⟨c255, h⟩
      · refine fi_true rfl (decide_eq_true c255) ?_
        refine fi_seq ?_
        refine fi_region ?_
        refine so_assign (v := (.v .nilsl)) rfl ?_
        refine so_assign (v := (.v (.bool false))) rfl ?_
        refine so_nil ?_
        exact by_ret rfl ⟨_, _, h, _, rfl, (Sep.nil (Sep.del 0 (Sep.del 0 (Sep.del 0 hs))) 1)⟩
      · refine fi_false rfl (decide_eq_false c255) ?_
        refine fi_skip ?_
        refine fi_seq ?_
        refine fi_region ?_
        refine sv_bslice hs (eInt .i64) ([] : List (Int)) [] F14.te26 F14.sz2 F14.ze2 rfl rfl rfl rfl (fun _ => rfl) rfl (by decide) nofun (fun v256 H257 nv256 hs => ?_)
        refine so_assign (v := (.v v256)) rfl ?_
        refine so_nil ?_
        refine fi_seq ?_
        refine fi_seq ?_
        refine fi_region ?_
        refine so_assign (v := (.v (.int .i64 (0 : Int)))) rfl ?_
        refine so_nil ?_
        refine fi_block ?_
        refine fi_loop ?_
        refine fi_at [(1, (.v (.ptr id101 0))), (4, (.v v108)), (5, (.v v111)), (10, (.v v256)), (11, (.v (.int .i64 (0 : Int))))] ⟨rfl, rfl, rfl, rfl, rfl, trivial⟩ ?_
        refine h (fun (out276 : List (Int)) (i278 : Int) => ∀ (s : Nat → TV) (H : Heap) (v277 : AV) (nv277 : v277 ≠ .nilsl), Sep H (Pc.osl v277 1 (enc (eInt .i64) out276) :: Pc.osl v111 1 (enc (eInt .i64) signs202) :: Pc.osl v108 1 (enc (eInt .i64) sizes203) :: Pc.box id101 [(.int .i64 a0), (.int .i64 a1), v2] :: fr) → Fin _ _ (updL s [(1, (.v (.ptr id101 0))), (4, (.v v108)), (5, (.v v111)), (10, (.v v277)), (11, (.v (.int .i64 i278)))]) H _) ?_ _ _ _ nv256 hs
        intro out276 i278 h s291 H292 v277 nv277 hs
        refine fi_inLoop ?_
        refine fi_seq ?_
        refine fi_seq ?_
        refine fi_region ?_
        refine so_move (v := (.v (.int .i64 i278))) rfl ?_
        refine so_fieldAddr rfl F14.fd29_0 ?_
        refine sv_ld hs 3 rfl rfl rfl F14.ag2 ?_
        refine so_bin rfl rfl ab_lss ?_
        refine so_nil ?_
        replace h := ofP h; rcases h with ⟨c279, h⟩ | ⟨c279, h⟩
        · refine fi_true rfl (decide_eq_true c279) ?_
          refine fi_skip ?_
          refine fi_seq ?_
          refine fi_block ?_
          refine fi_region ?_
          refine so_move (v := (.v v277)) rfl ?_
          refine so_move (v := (.v v108)) rfl ?_
          refine so_move (v := (.v (.int .i64 i278))) rfl ?_
          obtain ⟨c280, h⟩ := h
          refine sv_idx (hs.shows 2 rfl) c280 (fun _ => rfl) (by decide) rfl rfl F14.tl26 ?_
          refine sv_cell (hs.shows 2 rfl) c280 (0 : Int) 0 (fun x => (AV.int .i64 x)) (fun _ => rfl) (fun _ => rfl) rfl F14.ag2 ?_
          refine so_move (v := (.v v111)) rfl ?_
          refine so_move (v := (.v (.int .i64 i278))) rfl ?_
          obtain ⟨c281, h⟩ := h
          refine sv_idx (hs.shows 1 rfl) c281 (fun _ => rfl) (by decide) rfl rfl F14.tl26 ?_
          refine sv_cell (hs.shows 1 rfl) c281 (0 : Int) 0 (fun x => (AV.int .i64 x)) (fun _ => rfl) (fun _ => rfl) rfl F14.ag2 ?_
          refine so_bin rfl rfl ab_mul ?_
          refine sv_bslice hs (eInt .i64) ([(IntKind.i64.wrap ((sizes203.getD (i278).toNat (0 : Int)) * (signs202.getD (i278).toNat (0 : Int))))] : List (Int)) [[(.int .i64 (IntKind.i64.wrap ((sizes203.getD (i278).toNat (0 : Int)) * (signs202.getD (i278).toNat (0 : Int)))))]] F14.te26 F14.sz2 F14.ze2 rfl rfl rfl rfl (fun _ => rfl) rfl (by decide) (fun _ => by kernel_rfl) (fun v282 H283 nv282 hs => ?_)
          obtain ⟨c287, h⟩ := h
          refine sv_app hs 1 rfl (hs.shows 0 rfl) (fun _ => rfl) (by decide) F14.ta26_26 (by decide) c287 rfl rfl (fun _ => by kernel_rfl) (fun v285 H286 kv285 hs => ?_)
          replace hs := hs.del 0
          have nv285 := kv285 nv277
          refine so_assign (v := (.v v285)) rfl ?_
          refine so_nil ?_
          refine fi_inBlock ?_
          refine fi_region ?_
          refine so_move (v := (.v (.int .i64 i278))) rfl ?_
          refine so_bin rfl rfl ab_add ?_
          refine so_assign (v := (.v (.int .i64 (IntKind.i64.wrap (i278 + (1 : Int)))))) rfl ?_
          refine so_nil ?_
          exact fi_at [(1, (.v (.ptr id101 0))), (4, (.v v108)), (5, (.v v111)), (10, (.v v285)), (11, (.v (.int .i64 (IntKind.i64.wrap (i278 + (1 : Int))))))] ⟨rfl, rfl, rfl, rfl, rfl, trivial⟩ (h _ _ _ nv285 hs)
        · refine fi_false rfl (decide_eq_false c279) ?_
          refine fi_exit rfl ?_
          refine fi_seq ?_
          refine fi_seq ?_
          refine fi_region ?_
          refine so_move (v := (.v v277)) rfl ?_
          refine sv_callS (spec_l02Integers_ok v277 out276 hs (fun _ hs => (hs.shows 0 rfl)) _ h) (fun _ _ ⟨_, _, _, e⟩ => e) rfl rfl ?_
          clear h
          rintro _ _ ⟨y288, h, rfl, rfl⟩
          refine so_un rfl au_not ?_
          refine so_nil ?_
          replace h := ofT h; rcases h with ⟨c290, h⟩ | ⟨c290, h⟩
          · refine fi_false rfl (not_f c290) ?_
            refine fi_skip ?_
            refine fi_seq ?_
            refine fi_region ?_
            refine so_move (v := (.v v277)) rfl ?_
            refine so_assign (v := (.v v277)) rfl ?_
            refine so_assign (v := (.v (.bool true))) rfl ?_
            refine so_nil ?_
            exact by_ret rfl ⟨_, _, h, _, rfl, (Sep.del 1 (Sep.del 1 (Sep.del 1 hs)))⟩
          · refine fi_true rfl (not_t c290) ?_
            refine fi_seq ?_
            refine fi_region ?_
            refine so_assign (v := (.v .nilsl)) rfl ?_
            refine so_assign (v := (.v (.bool false))) rfl ?_
            refine so_nil ?_
            exact by_ret rfl ⟨_, _, h, _, rfl, (Sep.nil (Sep.dropn 4 hs) 1)⟩
  · refine fi_true rfl (not_t c106) ?_
    refine fi_seq ?_
    refine fi_region ?_
    refine so_assign (v := (.v .nilsl)) rfl ?_
    refine so_assign (v := (.v (.bool false))) rfl ?_
    refine so_nil ?_
    exact by_ret rfl ⟨_, _, h, _, rfl, (Sep.nil (Sep.del 0 hs) 1)⟩

end Go.Proofs.Ytkaidcgelbhofaa.G

namespace Go.Proofs.Ytkaidcgelbhofaa.G
open Go Go.Ab Go.Proofs Go.Proofs.Ytkaidcgelbhofaa
set_option maxRecDepth 100000
set_option linter.unusedVariables false
set_option linter.unusedSimpArgs false
set_option maxHeartbeats 1000000
attribute [local irreducible] wops wopf Go.Ab.Fin
theorem F84.ag4 : tagg Try.prog 4 = some false := by kernel_rfl
theorem F84.by4 : tbytes Try.prog 4 = some 1 := by kernel_rfl
theorem F84.sz4 : tsz Try.prog 4 = some 1 := by kernel_rfl
theorem F84.te22 : telem Try.prog 22 = some 4 := by kernel_rfl
theorem F84.ti22 : (telem Try.prog 22).isSome = true := by kernel_rfl
theorem F84.tl22 : (telem Try.prog 22).bind (tsz Try.prog) = some 1 := by kernel_rfl
theorem F84.ze4 : tzero Try.prog 4 = some [(.bool false)] := by kernel_rfl
theorem laws_toBoolS_ok {fr : List Pc} {H : Heap} (v0 : AV) (l0 : List (Bool)) (hs : Sep H (fr)) (g0 : ∀ H, Sep H fr → Shows H v0 1 (enc eBool l0)) (K : (List (Bool)) → Prop) (h : laws_toBoolS.wp l0 K) : OkQ Try.prog 84 [(.v v0)] H (fun r H2 => ∃ (y0 : List (Bool)), K y0 ∧ ∃ (w0_ : AV), r = (.v w0_) ∧ Sep H2 (Pc.osl w0_ 1 (enc eBool y0) :: fr)) := by
  unfold laws_toBoolS.wp at h
  refine of_body Try.f84 F.hm Try.func84 rfl Try.call84 (by kernel_rfl) (by simp) ?_
  refine fi_seq ?_
  refine fi_region ?_
  refine so_assign (v := (.v .nilsl)) rfl ?_
  refine so_nil ?_
  refine fi_seq ?_
  refine fi_region ?_
  refine so_move (v := (.v v0)) rfl ?_
  refine sv_len (g0 _ hs) (fun _ => rfl) (by decide) rfl F84.ti22 ?_
  obtain ⟨c101, h⟩ := h
  refine sv_make hs eBool false c101 (fun _ => rfl) rfl rfl F84.te22 F84.sz4 F84.by4 F84.ze4 rfl rfl nofun (fun v102 H103 nv102 hs => ?_)
  refine so_assign (v := (.v v102)) rfl ?_
  refine so_nil ?_
  refine fi_seq ?_
  refine fi_seq ?_
  refine fi_region ?_
  refine so_assign (v := (.v (.int .i64 (0 : Int)))) rfl ?_
  refine so_nil ?_
  refine fi_block ?_
  refine fi_loop ?_
  refine fi_at [(0, (.v v0)), (3, (.v v102)), (4, (.v (.int .i64 (0 : Int))))] ⟨rfl, rfl, rfl, trivial⟩ ?_
  refine h (fun (out112 : List (Bool)) (i113 : Int) => ∀ (s : Nat → TV) (H : Heap), Sep H (Pc.osl v102 1 (enc eBool out112) :: fr) → Fin _ _ (updL s [(0, (.v v0)), (3, (.v v102)), (4, (.v (.int .i64 i113)))]) H _) ?_ _ _ hs
  intro out112 i113 h s118 H119 hs
  refine fi_inLoop ?_
  refine fi_seq ?_
  refine fi_seq ?_
  refine fi_region ?_
  refine so_move (v := (.v (.int .i64 i113))) rfl ?_
  refine so_move (v := (.v v0)) rfl ?_
  refine sv_len (g0 _ hs.tl) (fun _ => rfl) (by decide) rfl F84.ti22 ?_
  refine so_bin rfl rfl ab_lss ?_
  refine so_nil ?_
  replace h := ofP h; rcases h with ⟨c114, h⟩ | ⟨c114, h⟩
  · refine fi_true rfl (decide_eq_true c114) ?_
    refine fi_skip ?_
    refine fi_seq ?_
    refine fi_block ?_
    refine fi_region ?_
    refine so_move (v := (.v v102)) rfl ?_
    refine so_move (v := (.v (.int .i64 i113))) rfl ?_
    refine so_move (v := (.v v0)) rfl ?_
    refine so_move (v := (.v (.int .i64 i113))) rfl ?_
    obtain ⟨c115, h⟩ := h
    refine sv_idx (g0 _ hs.tl) c115 (fun _ => rfl) (by decide) rfl rfl F84.tl22 ?_
    refine sv_cell (g0 _ hs.tl) c115 false 0 (fun x => (AV.bool x)) (fun _ => rfl) (fun _ => rfl) rfl F84.ag4 ?_
    obtain ⟨c116, h⟩ := h
    refine sv_idx (hs.shows 0 rfl) c116 (fun _ => rfl) (by decide) rfl rfl F84.tl22 ?_
    refine sv_set hs 0 rfl c116 (l0.getD (i113).toNat false) (fun _ => rfl) (by decide) rfl rfl rfl rfl F84.sz4 nofun (fun H117 hs => ?_)
    refine so_nil ?_
    refine fi_inBlock ?_
    refine fi_region ?_
    refine so_move (v := (.v (.int .i64 i113))) rfl ?_
    refine so_bin rfl rfl ab_add ?_
    refine so_assign (v := (.v (.int .i64 (IntKind.i64.wrap (i113 + (1 : Int)))))) rfl ?_
    refine so_nil ?_
    exact fi_at [(0, (.v v0)), (3, (.v v102)), (4, (.v (.int .i64 (IntKind.i64.wrap (i113 + (1 : Int))))))] ⟨rfl, rfl, rfl, trivial⟩ (h _ _  hs)
  · refine fi_false rfl (decide_eq_false c114) ?_
    refine fi_exit rfl ?_
    refine fi_seq ?_
    refine fi_region ?_
    refine so_move (v := (.v v102)) rfl ?_
    refine so_assign (v := (.v v102)) rfl ?_
    refine so_nil ?_
    exact by_ret rfl ⟨_, h, _, rfl, hs⟩

end Go.Proofs.Ytkaidcgelbhofaa.G

namespace Go.Proofs.Ytkaidcgelbhofaa.G
open Go Go.Ab Go.Proofs Go.Proofs.Ytkaidcgelbhofaa
set_option maxRecDepth 100000
set_option linter.unusedVariables false
set_option linter.unusedSimpArgs false
set_option maxHeartbeats 1000000
attribute [local irreducible] wops wopf Go.Ab.Fin
theorem F15.ag2 : tagg Try.prog 2 = some false := by kernel_rfl
theorem F15.ag22 : tagg Try.prog 22 = some false := by kernel_rfl
theorem F15.ag29 : tagg Try.prog 29 = some true := by kernel_rfl
theorem F15.fd24_0 : tfield Try.prog 24 0 = some (0, 1, false) := by kernel_rfl
theorem F15.fd24_1 : tfield Try.prog 24 1 = some (1, 1, false) := by kernel_rfl
theorem F15.fd24_2 : tfield Try.prog 24 2 = some (2, 1, false) := by kernel_rfl
theorem F15.fd29_0 : tfield Try.prog 29 0 = some (0, 1, false) := by kernel_rfl
theorem F15.fd29_1 : tfield Try.prog 29 1 = some (1, 1, false) := by kernel_rfl
theorem F15.fd29_2 : tfield Try.prog 29 2 = some (2, 1, false) := by kernel_rfl
theorem F15.inf24 : (Try.prog.info? 24).isSome = true := by kernel_rfl
theorem F15.sz2 : tsz Try.prog 2 = some 1 := by kernel_rfl
theorem F15.sz22 : tsz Try.prog 22 = some 1 := by kernel_rfl
theorem F15.sz29 : tsz Try.prog 29 = some 3 := by kernel_rfl
theorem F15.ze29 : tzero Try.prog 29 = some [(.int .i64 (0 : Int)), (.int .i64 (0 : Int)), .nilsl] := by kernel_rfl
theorem laws_toCoded_ok {fr : List Pc} {H : Heap} (a0 : Int) (a1 : Int) (v2 : AV) (l2 : List (Bool)) (hs : Sep H (fr)) (g2 : ∀ H, Sep H fr → Shows H v2 1 (enc eBool l2)) (K : Int → Int → (List (Bool)) → Prop) (h : laws_toCoded.wp a0 a1 l2 K) : OkQ Try.prog 15 [(.g [(.int .i64 a0), (.int .i64 a1), v2])] H (fun r H2 => ∃ (y0 : Int) (y1 : Int) (y2 : List (Bool)), K y0 y1 y2 ∧ ∃ (w0_ : AV), r = (.g [(.int .i64 y0), (.int .i64 y1), w0_]) ∧ Sep H2 (Pc.osl w0_ 1 (enc eBool y2) :: fr)) := by
  unfold laws_toCoded.wp at h
  refine of_body Try.f15 F.hm Try.func15 rfl Try.call15 (by kernel_rfl) (by simp) ?_
  refine fi_seq ?_
  refine fi_region ?_
  refine sv_box hs rfl (c := [(.int .i64 a0), (.int .i64 a1), v2]) rfl F15.inf24 (stc rfl (stc rfl (stc (g2 _ hs).stor stn))) nofun (fun id101 H102 hs => ?_)
  refine sv_alloc hs F15.ze29 rfl nofun (fun id104 H105 hs => ?_)
  refine so_nil ?_
  refine fi_seq ?_
  refine fi_region ?_
  refine sv_alloc hs F15.ze29 rfl nofun (fun id107 H108 hs => ?_)
  refine so_nil ?_
  refine fi_seq ?_
  refine fi_region ?_
  refine so_fieldAddr rfl F15.fd24_0 ?_
  refine sv_ld hs 2 rfl rfl rfl F15.ag2 ?_
  refine so_fieldAddr rfl F15.fd29_0 ?_
  refine sv_st hs 0 rfl rfl rfl (c := [(.int .i64 a0)]) rfl F15.sz2 rfl (stc rfl stn) (leb rfl) (cs' := [(.int .i64 a0), (.int .i64 (0 : Int)), .nilsl]) rfl nofun (fun H110 hs => ?_)
  refine so_nil ?_
  refine fi_seq ?_
  refine fi_region ?_
  refine so_fieldAddr rfl F15.fd24_1 ?_
  refine sv_ld hs 2 rfl rfl rfl F15.ag2 ?_
  refine so_fieldAddr rfl F15.fd29_1 ?_
  refine sv_st hs 0 rfl rfl rfl (c := [(.int .i64 a1)]) rfl F15.sz2 rfl (stc rfl stn) (leb rfl) (cs' := [(.int .i64 a0), (.int .i64 a1), .nilsl]) rfl nofun (fun H111 hs => ?_)
  refine so_nil ?_
  refine fi_seq ?_
  refine fi_region ?_
  refine so_fieldAddr rfl F15.fd24_2 ?_
  refine sv_ld hs 2 rfl rfl rfl F15.ag22 ?_
  refine sv_call (laws_toBoolS_ok v2 l2 hs (fun _ hs => (g2 _ hs.tl.tl.tl)) _ h) rfl rfl nofun ?_
  clear h hs
  rintro _ H115 ⟨y112, h, v113, rfl, hs⟩
  refine so_fieldAddr rfl F15.fd29_2 ?_
  refine sv_st hs 1 rfl rfl rfl (c := [v113]) rfl F15.sz22 rfl (stc (hs.shows 0 rfl).stor stn) (leb rfl) (cs' := [(.int .i64 a0), (.int .i64 a1), v113]) rfl nofun (fun H116 hs => ?_)
  refine so_nil ?_
  refine fi_seq ?_
  refine fi_region ?_
  refine sv_lds hs 1 rfl rfl (leb rfl) rfl F15.ag29 F15.sz29 ?_
  refine sv_st hs 2 rfl rfl rfl (c := [(.int .i64 a0), (.int .i64 a1), v113]) rfl F15.sz29 rfl (stc rfl (stc rfl (stc (hs.shows 0 rfl).stor stn))) (leb rfl) (cs' := [(.int .i64 a0), (.int .i64 a1), v113]) rfl nofun (fun H117 hs => ?_)
  refine so_nil ?_
  exact by_ret (res_mk (ar_cells rfl F15.ag29 F15.sz29 (hs.lds 2 rfl (leb rfl) rfl) ar_nil) rfl) ⟨_, _, _, h, _, rfl, (Sep.del 1 (Sep.del 1 (Sep.del 1 hs)))⟩

end Go.Proofs.Ytkaidcgelbhofaa.G

namespace Go.Proofs.Ytkaidcgelbhofaa.G
open Go Go.Ab Go.Proofs Go.Proofs.Ytkaidcgelbhofaa
set_option maxRecDepth 100000
set_option linter.unusedVariables false
set_option linter.unusedSimpArgs false
set_option maxHeartbeats 1000000
attribute [local irreducible] wops wopf Go.Ab.Fin
theorem impl_within_ok {fr : List Pc} {H : Heap} (a0 : Int) (a1 : Int) (a2 : Int) (hs : Sep H (fr))  (K : Bool → Prop) (h : impl_within.wp a0 a1 a2 K) : OkQ Try.prog 106 [(.v (.int .i64 a0)), (.v (.int .i64 a1)), (.v (.int .i64 a2))] H (fun r H2 => ∃ (y0 : Bool), K y0 ∧ r = (.v (.bool y0)) ∧ H = H2) := by
  unfold impl_within.wp at h
  refine of_body Try.f106 F.hm Try.func106 rfl Try.call106 (by kernel_rfl) (by simp) ?_
  refine fi_seq ?_
  refine fi_region ?_
  refine so_assign (v := (.v (.bool false))) rfl ?_
  refine so_nil ?_
  refine fi_seq ?_
  refine fi_region ?_
  refine so_move (v := (.v (.int .i64 a0))) rfl ?_
  refine so_move (v := (.v (.int .i64 a1))) rfl ?_
  refine so_bin rfl rfl ab_geq ?_
  refine so_move (v := (.v (.bool (decide (a1 ≤ a0))))) rfl ?_
  replace h := ofP h; rcases h with ⟨c101, h⟩ | ⟨c101, h⟩
  · refine so_gyes rfl (decide_eq_true c101) ?_
    refine so_move (v := (.v (.int .i64 a0))) rfl ?_
    refine so_gyes rfl (decide_eq_true c101) ?_
    refine so_move (v := (.v (.int .i64 a2))) rfl ?_
    refine so_gyes rfl (decide_eq_true c101) ?_
    refine so_bin rfl rfl ab_leq ?_
    refine so_pick_t (v := (.v (.bool (decide (a0 ≤ a2))))) rfl (decide_eq_true c101) rfl ?_
    refine so_assign (v := (.v (.bool (decide (a0 ≤ a2))))) rfl ?_
    refine so_nil ?_
    exact by_ret rfl ⟨_, h, rfl, rfl⟩
  · refine so_gno rfl (decide_eq_false c101) ?_
    refine so_gno rfl (decide_eq_false c101) ?_
    refine so_gno rfl (decide_eq_false c101) ?_
    refine so_pick_f (v := (.v (.bool false))) rfl (decide_eq_false c101) rfl ?_
    refine so_assign (v := (.v (.bool false))) rfl ?_
    refine so_nil ?_
    exact by_ret rfl ⟨_, h, rfl, rfl⟩

end Go.Proofs.Ytkaidcgelbhofaa.G

namespace Go.Proofs.Ytkaidcgelbhofaa.G
open Go Go.Ab Go.Proofs Go.Proofs.Ytkaidcgelbhofaa
set_option maxRecDepth 100000
set_option linter.unusedVariables false
set_option linter.unusedSimpArgs false
set_option maxHeartbeats 1000000
attribute [local irreducible] wops wopf Go.Ab.Fin
theorem F85.ag2 : tagg Try.prog 2 = some false := by kernel_rfl
theorem F85.ag22 : tagg Try.prog 22 = some false := by kernel_rfl
theorem F85.fd29_0 : tfield Try.prog 29 0 = some (0, 1, false) := by kernel_rfl
theorem F85.fd29_1 : tfield Try.prog 29 1 = some (1, 1, false) := by kernel_rfl
theorem F85.fd29_2 : tfield Try.prog 29 2 = some (2, 1, false) := by kernel_rfl
theorem F85.inf29 : (Try.prog.info? 29).isSome = true := by kernel_rfl
theorem F85.ti22 : (telem Try.prog 22).isSome = true := by kernel_rfl
theorem impl_ValidCoded_ok {fr : List Pc} {H : Heap} (a0 : Int) (a1 : Int) (v2 : AV) (l2 : List (Bool)) (hs : Sep H (fr)) (g2 : ∀ H, Sep H fr → Shows H v2 1 (enc eBool l2)) (K : Bool → Prop) (h : impl_ValidCoded.wp a0 a1 l2 K) : OkQ Try.prog 85 [(.g [(.int .i64 a0), (.int .i64 a1), v2])] H (fun r H2 => ∃ (y0 : Bool), K y0 ∧ r = (.v (.bool y0)) ∧ Sep H2 (fr)) := by
  unfold impl_ValidCoded.wp at h
  refine of_body Try.f85 F.hm Try.func85 rfl Try.call85 (by kernel_rfl) (by simp) ?_
  refine fi_seq ?_
  refine fi_region ?_
  refine sv_box hs rfl (c := [(.int .i64 a0), (.int .i64 a1), v2]) rfl F85.inf29 (stc rfl (stc rfl (stc (g2 _ hs).stor stn))) nofun (fun id101 H102 hs => ?_)
  refine so_assign (v := (.v (.bool false))) rfl ?_
  refine so_nil ?_
  refine fi_seq ?_
  refine fi_region ?_
  refine so_fieldAddr rfl F85.fd29_0 ?_
  refine sv_ld hs 0 rfl rfl rfl F85.ag2 ?_
  refine sv_callS (impl_within_ok a0 (1 : Int) (128 : Int) hs  _ h) (fun _ _ ⟨_, _, _, e⟩ => e) rfl rfl ?_
  clear h
  rintro _ _ ⟨y104, h, rfl, rfl⟩
  refine so_move (v := (.v (.bool y104))) rfl ?_
  replace h := ofT h; rcases h with ⟨c106, h⟩ | ⟨c106, h⟩
  · refine so_gyes rfl c106 ?_
    refine so_fieldAddr rfl F85.fd29_1 ?_
    refine so_gyes rfl c106 ?_
    refine sv_ld hs 0 rfl rfl rfl F85.ag2 ?_
    refine so_gyes rfl c106 ?_
    refine sv_callS (impl_within_ok a1 (0 : Int) (24 : Int) hs  _ h) (fun _ _ ⟨_, _, _, e⟩ => e) rfl rfl ?_
    clear h
    rintro _ _ ⟨y107, h, rfl, rfl⟩
    refine so_pick_t (v := (.v (.bool y107))) rfl c106 rfl ?_
    refine so_move (v := (.v (.bool y107))) rfl ?_
    replace h := ofT h; rcases h with ⟨c109, h⟩ | ⟨c109, h⟩
    · refine so_gyes rfl c109 ?_
      refine so_fieldAddr rfl F85.fd29_2 ?_
      refine so_gyes rfl c109 ?_
      refine sv_ld hs 0 rfl rfl rfl F85.ag22 ?_
      refine so_gyes rfl c109 ?_
      refine sv_len (g2 _ hs.tl) (fun _ => rfl) (by decide) rfl F85.ti22 ?_
      refine so_gyes rfl c109 ?_
      refine so_bin rfl rfl ab_leq ?_
      refine so_pick_t (v := (.v (.bool (decide ((l2.length : Int) ≤ (32768 : Int)))))) rfl c109 rfl ?_
      refine so_assign (v := (.v (.bool (decide ((l2.length : Int) ≤ (32768 : Int)))))) rfl ?_
      refine so_nil ?_
      exact by_ret rfl ⟨_, h, rfl, (Sep.del 0 hs)⟩
    · refine so_gno rfl c109 ?_
      refine so_gno rfl c109 ?_
      refine so_gno rfl c109 ?_
      refine so_gno rfl c109 ?_
      refine so_pick_f (v := (.v (.bool false))) rfl c109 rfl ?_
      refine so_assign (v := (.v (.bool false))) rfl ?_
      refine so_nil ?_
      exact by_ret rfl ⟨_, h, rfl, (Sep.del 0 hs)⟩
  · refine so_gno rfl c106 ?_
    refine so_gno rfl c106 ?_
    refine so_gno rfl c106 ?_
    refine so_pick_f (v := (.v (.bool false))) rfl c106 rfl ?_
    refine so_move (v := (.v (.bool false))) rfl ?_
    refine so_gno rfl rfl ?_
    refine so_gno rfl rfl ?_
    refine so_gno rfl rfl ?_
    refine so_gno rfl rfl ?_
    refine so_pick_f (v := (.v (.bool false))) rfl rfl rfl ?_
    refine so_assign (v := (.v (.bool false))) rfl ?_
    refine so_nil ?_
    exact by_ret rfl ⟨_, h, rfl, (Sep.del 0 hs)⟩

end Go.Proofs.Ytkaidcgelbhofaa.G

namespace Go.Proofs.Ytkaidcgelbhofaa.G
open Go Go.Ab Go.Proofs Go.Proofs.Ytkaidcgelbhofaa
set_option maxRecDepth 100000
set_option linter.unusedVariables false
set_option linter.unusedSimpArgs false
set_option maxHeartbeats 1000000
attribute [local irreducible] wops wopf Go.Ab.Fin
theorem F160.ag2 : tagg Try.prog 2 = some false := by kernel_rfl
theorem F160.ti26 : (telem Try.prog 26).isSome = true := by kernel_rfl
theorem F160.tl26 : (telem Try.prog 26).bind (tsz Try.prog) = some 1 := by kernel_rfl
theorem impl_areWithin_ok {fr : List Pc} {H : Heap} (v0 : AV) (l0 : List (Int)) (a1 : Int) (hs : Sep H (fr)) (g0 : ∀ H, Sep H fr → Shows H v0 1 (enc (eInt .i64) l0)) (K : Bool → Prop) (h : impl_areWithin.wp l0 a1 K) : OkQ Try.prog 160 [(.v v0), (.v (.int .i64 a1))] H (fun r H2 => ∃ (y0 : Bool), K y0 ∧ r = (.v (.bool y0)) ∧ H = H2) := by
  unfold impl_areWithin.wp at h
  refine of_body Try.f160 F.hm Try.func160 rfl Try.call160 (by kernel_rfl) (by simp) ?_
  refine fi_seq ?_
  refine fi_region ?_
  refine so_assign (v := (.v (.bool false))) rfl ?_
  refine so_nil ?_
  refine fi_seq ?_
  refine fi_seq ?_
  refine fi_region ?_
  refine so_move (v := (.v v0)) rfl ?_
  refine sv_len (g0 _ hs) (fun _ => rfl) (by decide) rfl F160.ti26 ?_
  refine so_move (v := (.v (.int .i64 (0 : Int)))) rfl ?_
  refine so_nil ?_
  refine fi_block ?_
  refine fi_loop ?_
  refine fi_at [(1, (.v (.int .i64 a1))), (7, (.v v0)), (8, (.v (.int .i64 (l0.length : Int)))), (9, (.v (.int .i64 (0 : Int))))] ⟨rfl, rfl, rfl, rfl, trivial⟩ ?_
  refine h (fun (x102 : Int) => ∀ (s : Nat → TV), Fin _ _ (updL s [(1, (.v (.int .i64 a1))), (7, (.v v0)), (8, (.v (.int .i64 (l0.length : Int)))), (9, (.v (.int .i64 x102)))]) _ _) ?_ _
  intro x102 h s108
  refine fi_inLoop ?_
  refine fi_seq ?_
  refine fi_region ?_
  refine so_bin rfl rfl ab_lss ?_
  refine so_nil ?_
  refine fi_seq ?_
  replace h := ofP h; rcases h with ⟨c103, h⟩ | ⟨c103, h⟩
  · refine fi_true rfl (decide_eq_true c103) ?_
    refine fi_skip ?_
    refine fi_seq ?_
    refine fi_block ?_
    refine fi_seq ?_
    refine fi_region ?_
    obtain ⟨c104, h⟩ := h
    refine sv_idx (g0 _ hs) c104 (fun _ => rfl) (by decide) rfl rfl F160.tl26 ?_
    refine sv_cell (g0 _ hs) c104 (0 : Int) 0 (fun x => (AV.int .i64 x)) (fun _ => rfl) (fun _ => rfl) rfl F160.ag2 ?_
    refine so_assign (v := (.v (.int .i64 (l0.getD (x102).toNat (0 : Int))))) rfl ?_
    refine so_nil ?_
    refine fi_seq ?_
    refine fi_region ?_
    refine so_move (v := (.v (.int .i64 (l0.getD (x102).toNat (0 : Int))))) rfl ?_
    refine so_move (v := (.v (.int .i64 a1))) rfl ?_
    refine so_un rfl au_neg ?_
    refine so_move (v := (.v (.int .i64 a1))) rfl ?_
    refine sv_callS (impl_within_ok (l0.getD (x102).toNat (0 : Int)) (IntKind.i64.wrap (0 - a1)) a1 hs  _ h) (fun _ _ ⟨_, _, _, e⟩ => e) rfl rfl ?_
    clear h
    rintro _ _ ⟨y105, h, rfl, rfl⟩
    refine so_un rfl au_not ?_
    refine so_nil ?_
    replace h := ofT h; rcases h with ⟨c107, h⟩ | ⟨c107, h⟩
    · refine fi_false rfl (not_f c107) ?_
      refine fi_skip ?_
      refine fi_inBlock ?_
      refine fi_region ?_
      refine so_bin rfl rfl ab_add ?_
      refine so_move (v := (.v (.int .i64 (IntKind.i64.wrap (x102 + (1 : Int)))))) rfl ?_
      refine so_nil ?_
      exact fi_at [(1, (.v (.int .i64 a1))), (7, (.v v0)), (8, (.v (.int .i64 (l0.length : Int)))), (9, (.v (.int .i64 (IntKind.i64.wrap (x102 + (1 : Int))))))] ⟨rfl, rfl, rfl, rfl, trivial⟩ (h _)
    · refine fi_true rfl (not_t c107) ?_
      refine fi_seq ?_
      refine fi_region ?_
      refine so_assign (v := (.v (.bool false))) rfl ?_
      refine so_nil ?_
      exact by_ret rfl ⟨_, h, rfl, rfl⟩
  · refine fi_false rfl (decide_eq_false c103) ?_
    refine fi_exit rfl ?_
    refine fi_seq ?_
    refine fi_region ?_
    refine so_assign (v := (.v (.bool true))) rfl ?_
    refine so_nil ?_
    exact by_ret rfl ⟨_, h, rfl, rfl⟩

end Go.Proofs.Ytkaidcgelbhofaa.G

namespace Go.Proofs.Ytkaidcgelbhofaa.G
open Go Go.Ab Go.Proofs Go.Proofs.Ytkaidcgelbhofaa
set_option maxRecDepth 100000
set_option linter.unusedVariables false
set_option linter.unusedSimpArgs false
set_option maxHeartbeats 1000000
attribute [local irreducible] wops wopf Go.Ab.Fin
theorem F86.ti26 : (telem Try.prog 26).isSome = true := by kernel_rfl
theorem impl_AreIntegers_ok {fr : List Pc} {H : Heap} (v0 : AV) (l0 : List (Int)) (hs : Sep H (fr)) (g0 : ∀ H, Sep H fr → Shows H v0 1 (enc (eInt .i64) l0)) (K : Bool → Prop) (h : impl_AreIntegers.wp l0 K) : OkQ Try.prog 86 [(.v v0)] H (fun r H2 => ∃ (y0 : Bool), K y0 ∧ r = (.v (.bool y0)) ∧ H = H2) := by
  unfold impl_AreIntegers.wp at h
  refine of_body Try.f86 F.hm Try.func86 rfl Try.call86 (by kernel_rfl) (by simp) ?_
  refine fi_seq ?_
  refine fi_region ?_
  refine so_assign (v := (.v (.bool false))) rfl ?_
  refine so_nil ?_
  refine fi_seq ?_
  refine fi_region ?_
  refine so_move (v := (.v v0)) rfl ?_
  refine sv_len (g0 _ hs) (fun _ => rfl) (by decide) rfl F86.ti26 ?_
  refine sv_callS (impl_within_ok (l0.length : Int) (1 : Int) (128 : Int) hs  _ h) (fun _ _ ⟨_, _, _, e⟩ => e) rfl rfl ?_
  clear h
  rintro _ _ ⟨y101, h, rfl, rfl⟩
  refine so_move (v := (.v (.bool y101))) rfl ?_
  replace h := ofT h; rcases h with ⟨c103, h⟩ | ⟨c103, h⟩
  · refine so_gyes rfl c103 ?_
    refine so_move (v := (.v v0)) rfl ?_
    refine so_gyes rfl c103 ?_
    refine sv_callS (impl_areWithin_ok v0 l0 (1000000 : Int) hs (fun _ hs => (g0 _ hs)) _ h) (fun _ _ ⟨_, _, _, e⟩ => e) rfl rfl ?_
    clear h
    rintro _ _ ⟨y104, h, rfl, rfl⟩
    refine so_pick_t (v := (.v (.bool y104))) rfl c103 rfl ?_
    refine so_assign (v := (.v (.bool y104))) rfl ?_
    refine so_nil ?_
    exact by_ret rfl ⟨_, h, rfl, rfl⟩
  · refine so_gno rfl c103 ?_
    refine so_gno rfl c103 ?_
    refine so_pick_f (v := (.v (.bool false))) rfl c103 rfl ?_
    refine so_assign (v := (.v (.bool false))) rfl ?_
    refine so_nil ?_
    exact by_ret rfl ⟨_, h, rfl, rfl⟩

end Go.Proofs.Ytkaidcgelbhofaa.G

namespace Go.Proofs.Ytkaidcgelbhofaa.G
open Go Go.Ab Go.Proofs Go.Proofs.Ytkaidcgelbhofaa
set_option maxRecDepth 100000
set_option linter.unusedVariables false
set_option linter.unusedSimpArgs false
set_option maxHeartbeats 1000000
attribute [local irreducible] wops wopf Go.Ab.Fin
theorem F16.ag2 : tagg Try.prog 2 = some false := by kernel_rfl
theorem F16.ag22 : tagg Try.prog 22 = some false := by kernel_rfl
theorem F16.ag29 : tagg Try.prog 29 = some true := by kernel_rfl
theorem F16.ag4 : tagg Try.prog 4 = some false := by kernel_rfl
theorem F16.by2 : tbytes Try.prog 2 = some 8 := by kernel_rfl
theorem F16.fd29_0 : tfield Try.prog 29 0 = some (0, 1, false) := by kernel_rfl
theorem F16.fd29_1 : tfield Try.prog 29 1 = some (1, 1, false) := by kernel_rfl
theorem F16.fd29_2 : tfield Try.prog 29 2 = some (2, 1, false) := by kernel_rfl
theorem F16.inf29 : (Try.prog.info? 29).isSome = true := by kernel_rfl
theorem F16.sz2 : tsz Try.prog 2 = some 1 := by kernel_rfl
theorem F16.sz29 : tsz Try.prog 29 = some 3 := by kernel_rfl
theorem F16.ta26_26 : tapp Try.prog 26 26 = some (1, 8) := by kernel_rfl
theorem F16.te26 : telem Try.prog 26 = some 2 := by kernel_rfl
theorem F16.ti22 : (telem Try.prog 22).isSome = true := by kernel_rfl
theorem F16.ti26 : (telem Try.prog 26).isSome = true := by kernel_rfl
theorem F16.tl22 : (telem Try.prog 22).bind (tsz Try.prog) = some 1 := by kernel_rfl
theorem F16.tl26 : (telem Try.prog 26).bind (tsz Try.prog) = some 1 := by kernel_rfl
theorem F16.ze2 : tzero Try.prog 2 = some [(.int .i64 (0 : Int))] := by kernel_rfl
theorem impl_ListFrom_ok {fr : List Pc} {H : Heap} (a0 : Int) (a1 : Int) (v2 : AV) (l2 : List (Bool)) (hs : Sep H (fr)) (g2 : ∀ H, Sep H fr → Shows H v2 1 (enc eBool l2)) (K : (List (Int)) → Bool → Prop) (h : impl_ListFrom.wp a0 a1 l2 K) : OkQ Try.prog 16 [(.g [(.int .i64 a0), (.int .i64 a1), v2])] H (fun r H2 => ∃ (y0 : List (Int)) (y1 : Bool), K y0 y1 ∧ ∃ (w0_ : AV), r = (.t [(.v w0_), (.v (.bool y1))]) ∧ Sep H2 (Pc.osl w0_ 1 (enc (eInt .i64) y0) :: fr)) := by
  unfold impl_ListFrom.wp at h
  refine of_body Try.f16 F.hm Try.func16 rfl Try.call16 (by kernel_rfl) (by simp) ?_
  refine fi_seq ?_
  refine fi_region ?_
  refine sv_box hs rfl (c := [(.int .i64 a0), (.int .i64 a1), v2]) rfl F16.inf29 (stc rfl (stc rfl (stc (g2 _ hs).stor stn))) nofun (fun id101 H102 hs => ?_)
  refine so_assign (v := (.v .nilsl)) rfl ?_
  refine so_assign (v := (.v (.bool false))) rfl ?_
  refine so_nil ?_
  refine fi_seq ?_
  refine fi_seq ?_
  refine fi_region ?_
  refine sv_lds hs 0 rfl rfl (leb rfl) rfl F16.ag29 F16.sz29 ?_
  refine sv_call (impl_ValidCoded_ok a0 a1 v2 l2 hs (fun _ hs => (g2 _ hs.tl)) _ h) rfl rfl nofun ?_
  clear h hs
  rintro _ H105 ⟨y104, h, rfl, hs⟩
  refine so_un rfl au_not ?_
  refine so_nil ?_
  replace h := ofT h; rcases h with ⟨c106, h⟩ | ⟨c106, h⟩
  · refine fi_false rfl (not_f c106) ?_
    refine fi_skip ?_
    refine fi_seq ?_
    obtain ⟨c112, h⟩ := h
    obtain ⟨G116, k107, eG116, ek107, hs117_⟩ := hs.newHole
    obtain ⟨G118, k108, eG118, ek108, hs119_⟩ := hs117_.newHole
    obtain ⟨v111, ev111⟩ : ∃ v : AV, v = .sl k107 0 (a0).toNat 1 := ⟨_, rfl⟩
    have nv111 := sl_nn ev111
    obtain ⟨v114, ev114⟩ : ∃ v : AV, v = .sl k108 0 (a0).toNat 1 := ⟨_, rfl⟩
    have nv114 := sl_nn ev114
    have := hs119_.neH 1 0 rfl rfl
    obtain ⟨G120, eG120, hs121_⟩ := hs119_.fill 1 rfl (enc (eInt .i64) (List.replicate (a0).toNat (0 : Int))) (by rw [enc_length (e := (eInt .i64)) (n := 1) (fun _ => rfl)]; first | rfl | simp | (rw [List.length_append])) ev111
    obtain ⟨G122, eG122, hs123_⟩ := hs119_.fill 0 rfl (enc (eInt .i64) (List.replicate (a0).toNat (0 : Int))) (by rw [enc_length (e := (eInt .i64)) (n := 1) (fun _ => rfl)]; first | rfl | simp | (rw [List.length_append])) ev114
    obtain ⟨G124, eG124, hs125_⟩ := hs121_.fill 0 rfl (enc (eInt .i64) (List.replicate (a0).toNat (0 : Int))) (by rw [enc_length (e := (eInt .i64)) (n := 1) (fun _ => rfl)]; first | rfl | simp | (rw [List.length_append])) ev114
    refine fi_many [2, 5] (tblH G118 [([false, false], G118), ([true, false], G120), ([false, true], G122), ([true, true], G124)]) 2 (by decide +kernel) (Eq.trans (b := G118) rfl (by rw [eG118, eG116]; rfl)) ?_
    refine wm_pure (G := G118) rfl (by kernel_rfl) ?_
    refine so_fieldAddr rfl F16.fd29_0 ?_
    refine so_end ?_
    refine wm_step (.v (.int .i64 a0)) rfl (ms := [[false, false], [false, true]]) (by kernel_rfl) (fac (stepr (i := 0) rfl (by refine sv_ld hs119_ 2 rfl rfl rfl F16.ag2 ?_; exact so_end ⟨rfl, rfl⟩)) (fac (stepr (i := 0) rfl (by refine sv_ld hs123_ 2 rfl rfl rfl F16.ag2 ?_; exact so_end ⟨rfl, rfl⟩)) fan)) ?_
    refine wm_step (.v v111) rfl (ms := [[false, false], [false, true]]) (by kernel_rfl) (fac (sm_make hs119_ 1 rfl (eInt .i64) (0 : Int) c112 rfl rfl F16.te26 F16.sz2 F16.by2 F16.ze2 (fun _ => rfl) rfl (refs_int .i64) ev111 eG120) (fac (sm_make hs123_ 1 rfl (eInt .i64) (0 : Int) c112 rfl rfl F16.te26 F16.sz2 F16.by2 F16.ze2 (fun _ => rfl) rfl (refs_int .i64) ev111 (show G124 = (G122).put k107 (.own (enc (eInt .i64) (List.replicate (a0).toNat (0 : Int)))) from heap_ext (by simp only [eG124, eG120, eG122]; rfl) (fun i => by simp only [eG124, eG120, eG122, put_f]; (repeat' split) <;> first | rfl | (exfalso; omega)))) fan)) ?_
    refine wm_pure (G := G120) rfl (by kernel_rfl) ?_
    refine so_fieldAddr rfl F16.fd29_0 ?_
    refine so_end ?_
    refine wm_step (.v (.int .i64 a0)) rfl (ms := [[false, false], [true, false]]) (by kernel_rfl) (fac (stepr (i := 0) rfl (by refine sv_ld hs119_ 2 rfl rfl rfl F16.ag2 ?_; exact so_end ⟨rfl, rfl⟩)) (fac (stepr (i := 0) rfl (by refine sv_ld hs121_ 2 rfl rfl rfl F16.ag2 ?_; exact so_end ⟨rfl, rfl⟩)) fan)) ?_
    refine wm_step (.v v114) rfl (ms := [[false, false], [true, false]]) (by kernel_rfl) (fac (sm_make hs119_ 0 rfl (eInt .i64) (0 : Int) c112 rfl rfl F16.te26 F16.sz2 F16.by2 F16.ze2 (fun _ => rfl) rfl (refs_int .i64) ev114 eG122) (fac (sm_make hs121_ 0 rfl (eInt .i64) (0 : Int) c112 rfl rfl F16.te26 F16.sz2 F16.by2 F16.ze2 (fun _ => rfl) rfl (refs_int .i64) ev114 eG124) fan)) ?_
    refine wm_pure (G := G124) rfl (by kernel_rfl) ?_
    refine so_assign (v := (.v v111)) rfl ?_
    refine so_end ?_
    refine wm_pure (G := G124) rfl (by kernel_rfl) ?_
    refine so_assign (v := (.v v114)) rfl ?_
    refine so_end ?_
    replace hs := hs125_
    refine wm_nil (G := G124) rfl ?_
    refine fi_seq ?_
    refine fi_region ?_
    refine so_assign (v := (.v (.int .i64 (0 : Int)))) rfl ?_
    refine so_nil ?_
    refine fi_seq ?_
    refine fi_seq ?_
    refine fi_region ?_
    refine so_fieldAddr rfl F16.fd29_1 ?_
    refine sv_ld hs 2 rfl rfl rfl F16.ag2 ?_
    refine so_bin rfl rfl ab_sub ?_
    refine so_assign (v := (.v (.int .i64 (IntKind.i64.wrap (a1 - (1 : Int)))))) rfl ?_
    refine so_nil ?_
    refine fi_block ?_
    refine fi_loop ?_
    refine fi_at [(1, (.v (.ptr id101 0))), (4, (.v v111)), (5, (.v v114)), (6, (.v (.int .i64 (0 : Int)))), (7, (.v (.int .i64 (IntKind.i64.wrap (a1 - (1 : Int))))))] ⟨rfl, rfl, rfl, rfl, rfl, trivial⟩ ?_
    refine h (fun (signs206 : List (Int)) (sizes207 : List (Int)) (atq208 : Int) (plane209 : Int) => ∀ (s : Nat → TV) (H : Heap), Sep H (Pc.osl v114 1 (enc (eInt .i64) signs206) :: Pc.osl v111 1 (enc (eInt .i64) sizes207) :: Pc.box id101 [(.int .i64 a0), (.int .i64 a1), v2] :: fr) → Fin _ _ (updL s [(1, (.v (.ptr id101 0))), (4, (.v v111)), (5, (.v v114)), (6, (.v (.int .i64 atq208))), (7, (.v (.int .i64 plane209)))]) H _) ?_ _ _ hs
    intro signs206 sizes207 atq208 plane209 h s289 H290 hs
    refine fi_inLoop ?_
    refine fi_seq ?_
    refine fi_seq ?_
    refine fi_region ?_
    refine so_move (v := (.v (.int .i64 plane209))) rfl ?_
    refine so_bin rfl rfl ab_geq ?_
    refine so_nil ?_
    replace h := ofP h; rcases h with ⟨c210, h⟩ | ⟨c210, h⟩
    · refine fi_true rfl (decide_eq_true c210) ?_
      refine fi_skip ?_
      refine fi_seq ?_
      refine fi_block ?_
      refine fi_seq ?_
      refine fi_region ?_
      refine so_move (v := (.v v111)) rfl ?_
      refine sv_len (hs.shows 1 rfl) (fun _ => rfl) (by decide) rfl F16.ti26 ?_
      refine so_move (v := (.v (.int .i64 (0 : Int)))) rfl ?_
      refine so_nil ?_
      refine fi_block ?_
      refine fi_loop ?_
      refine fi_at [(1, (.v (.ptr id101 0))), (4, (.v v111)), (5, (.v v114)), (6, (.v (.int .i64 atq208))), (7, (.v (.int .i64 plane209))), (30, (.v (.int .i64 (sizes207.length : Int)))), (31, (.v (.int .i64 (0 : Int))))] ⟨rfl, rfl, rfl, rfl, rfl, rfl, rfl, trivial⟩ ?_
      refine h (fun (signs230 : List (Int)) (sizes231 : List (Int)) (atq232 : Int) (x233 : Int) => ∀ (s : Nat → TV) (H : Heap), Sep H (Pc.osl v114 1 (enc (eInt .i64) signs230) :: Pc.osl v111 1 (enc (eInt .i64) sizes231) :: Pc.box id101 [(.int .i64 a0), (.int .i64 a1), v2] :: fr) → Fin _ _ (updL s [(1, (.v (.ptr id101 0))), (4, (.v v111)), (5, (.v v114)), (6, (.v (.int .i64 atq232))), (7, (.v (.int .i64 plane209))), (30, (.v (.int .i64 (sizes207.length : Int)))), (31, (.v (.int .i64 x233)))]) H _) ?_ _ _ hs
      intro signs230 sizes231 atq232 x233 h s249 H250 hs
      refine fi_inLoop ?_
      refine fi_seq ?_
      refine fi_region ?_
      refine so_bin rfl rfl ab_lss ?_
      refine so_nil ?_
      refine fi_seq ?_
      replace h := ofP h; rcases h with ⟨c234, h⟩ | ⟨c234, h⟩
      · refine fi_true rfl (decide_eq_true c234) ?_
        refine fi_skip ?_
        refine fi_seq ?_
        refine fi_block ?_
        refine fi_seq ?_
        refine fi_region ?_
        refine so_move (v := (.v (.int .i64 x233))) rfl ?_
        refine so_assign (v := (.v (.int .i64 x233))) rfl ?_
        refine so_nil ?_
        refine fi_seq ?_
        refine fi_seq ?_
        refine fi_region ?_
        refine so_move (v := (.v (.int .i64 atq232))) rfl ?_
        refine so_fieldAddr rfl F16.fd29_2 ?_
        refine sv_ld hs 2 rfl rfl rfl F16.ag22 ?_
        refine sv_len (g2 _ hs.tl.tl.tl) (fun _ => rfl) (by decide) rfl F16.ti22 ?_
        refine so_bin rfl rfl ab_eql ?_
        refine so_nil ?_
        replace h := ofP h; rcases h with ⟨c235, h⟩ | ⟨c235, h⟩
        · refine fi_true rfl (decide_eq_true c235) ?_
          refine fi_exit rfl ?_
          refine fi_inBlock ?_
          refine fi_region ?_
          refine so_move (v := (.v (.int .i64 plane209))) rfl ?_
          refine so_bin rfl rfl ab_sub ?_
          refine so_assign (v := (.v (.int .i64 (IntKind.i64.wrap (plane209 - (1 : Int)))))) rfl ?_
          refine so_nil ?_
          exact fi_at [(1, (.v (.ptr id101 0))), (4, (.v v111)), (5, (.v v114)), (6, (.v (.int .i64 atq232))), (7, (.v (.int .i64 (IntKind.i64.wrap (plane209 - (1 : Int))))))] ⟨rfl, rfl, rfl, rfl, rfl, trivial⟩ (h _ _  hs)
        · refine fi_false rfl (decide_eq_false c235) ?_
          refine fi_skip ?_
          refine fi_seq ?_
          refine fi_region ?_
          refine so_fieldAddr rfl F16.fd29_2 ?_
          refine sv_ld hs 2 rfl rfl rfl F16.ag22 ?_
          refine so_move (v := (.v (.int .i64 atq232))) rfl ?_
          obtain ⟨c236, h⟩ := h
          refine sv_idx (g2 _ hs.tl.tl.tl) c236 (fun _ => rfl) (by decide) rfl rfl F16.tl22 ?_
          refine sv_cell (g2 _ hs.tl.tl.tl) c236 false 0 (fun x => (AV.bool x)) (fun _ => rfl) (fun _ => rfl) rfl F16.ag4 ?_
          refine so_assign (v := (.v (.bool (l2.getD (atq232).toNat false)))) rfl ?_
          refine so_nil ?_
          refine fi_seq ?_
          refine fi_region ?_
          refine so_move (v := (.v (.int .i64 atq232))) rfl ?_
          refine so_bin rfl rfl ab_add ?_
          refine so_assign (v := (.v (.int .i64 (IntKind.i64.wrap (atq232 + (1 : Int)))))) rfl ?_
          refine so_nil ?_
          refine fi_seq ?_
          refine fi_seq ?_
          refine fi_region ?_
          refine so_move (v := (.v (.bool (l2.getD (atq232).toNat false)))) rfl ?_
          refine so_un rfl au_not ?_
          refine so_nil ?_
          replace h := ofT h; rcases h with ⟨c237, h⟩ | ⟨c237, h⟩
          · refine fi_false rfl (not_f c237) ?_
            refine fi_skip ?_
            refine fi_seq ?_
            refine fi_region ?_
            refine so_move (v := (.v v111)) rfl ?_
            refine so_move (v := (.v (.int .i64 x233))) rfl ?_
            obtain ⟨c238, h⟩ := h
            refine sv_idx (hs.shows 1 rfl) c238 (fun _ => rfl) (by decide) rfl rfl F16.tl26 ?_
            refine sv_cell (hs.shows 1 rfl) c238 (0 : Int) 0 (fun x => (AV.int .i64 x)) (fun _ => rfl) (fun _ => rfl) rfl F16.ag2 ?_
            refine so_move (v := (.v (.int .i64 plane209))) rfl ?_
            obtain ⟨c239, h⟩ := h
            refine so_bin rfl rfl (ab_shl c239) ?_
            refine so_bin rfl rfl ab_or ?_
            refine sv_idx (hs.shows 1 rfl) c238 (fun _ => rfl) (by decide) rfl rfl F16.tl26 ?_
            refine sv_set hs 1 rfl c238 (ibits .or .i64 (sizes231.getD (x233).toNat (0 : Int)) (IntKind.i64.wrap ((1 : Int) * (2 ^ (min (plane209).toNat IntKind.i64.bits))))) (fun _ => rfl) (by decide) rfl rfl rfl rfl F16.sz2 (fun _ => by kernel_rfl) (fun H240 hs => ?_)
            refine so_nil ?_
            refine fi_seq ?_
            refine fi_region ?_
            refine so_move (v := (.v v114)) rfl ?_
            refine so_move (v := (.v (.int .i64 x233))) rfl ?_
            obtain ⟨c241, h⟩ := h
            refine sv_idx (hs.shows 0 rfl) c241 (fun _ => rfl) (by decide) rfl rfl F16.tl26 ?_
            refine sv_cell (hs.shows 0 rfl) c241 (0 : Int) 0 (fun x => (AV.int .i64 x)) (fun _ => rfl) (fun _ => rfl) rfl F16.ag2 ?_
            refine so_bin rfl rfl ab_eql ?_
            refine so_move (v := (.v (.bool (decide ((signs230.getD (x233).toNat (0 : Int)) = (0 : Int)))))) rfl ?_
            replace h := ofP h; rcases h with ⟨c242, h⟩ | ⟨c242, h⟩
            · refine so_gyes rfl (decide_eq_true c242) ?_
              refine so_move (v := (.v (.int .i64 (IntKind.i64.wrap (atq232 + (1 : Int)))))) rfl ?_
              refine so_gyes rfl (decide_eq_true c242) ?_
              refine so_fieldAddr rfl F16.fd29_2 ?_
              refine so_gyes rfl (decide_eq_true c242) ?_
              refine sv_ld hs 2 rfl rfl rfl F16.ag22 ?_
              refine so_gyes rfl (decide_eq_true c242) ?_
              refine sv_len (g2 _ hs.tl.tl.tl) (fun _ => rfl) (by decide) rfl F16.ti22 ?_
              refine so_gyes rfl (decide_eq_true c242) ?_
              refine so_bin rfl rfl ab_lss ?_
              refine so_pick_t (v := (.v (.bool (decide ((IntKind.i64.wrap (atq232 + (1 : Int))) < (l2.length : Int)))))) rfl (decide_eq_true c242) rfl ?_
              refine so_nil ?_
              replace h := ofP h; rcases h with ⟨c243, h⟩ | ⟨c243, h⟩
              · refine fi_true rfl (decide_eq_true c243) ?_
                refine fi_seq ?_
                refine fi_region ?_
                refine so_move (v := (.v v114)) rfl ?_
                refine so_move (v := (.v (.int .i64 x233))) rfl ?_
                refine sv_idx (hs.shows 0 rfl) c241 (fun _ => rfl) (by decide) rfl rfl F16.tl26 ?_
                refine sv_set hs 0 rfl c241 (1 : Int) (fun _ => rfl) (by decide) rfl rfl rfl rfl F16.sz2 nofun (fun H244 hs => ?_)
                refine so_nil ?_
                refine fi_seq ?_
                refine fi_seq ?_
                refine fi_region ?_
                refine so_fieldAddr rfl F16.fd29_2 ?_
                refine sv_ld hs 2 rfl rfl rfl F16.ag22 ?_
                refine so_move (v := (.v (.int .i64 (IntKind.i64.wrap (atq232 + (1 : Int)))))) rfl ?_
                obtain ⟨c245, h⟩ := h
                refine sv_idx (g2 _ hs.tl.tl.tl) c245 (fun _ => rfl) (by decide) rfl rfl F16.tl22 ?_
                refine sv_cell (g2 _ hs.tl.tl.tl) c245 false 0 (fun x => (AV.bool x)) (fun _ => rfl) (fun _ => rfl) rfl F16.ag4 ?_
                refine so_nil ?_
                replace h := ofT h; rcases h with ⟨c246, h⟩ | ⟨c246, h⟩
                · refine fi_true rfl c246 ?_
                  refine fi_region ?_
                  refine so_move (v := (.v v114)) rfl ?_
                  refine so_move (v := (.v (.int .i64 x233))) rfl ?_
                  obtain ⟨c247, h⟩ := h
                  refine sv_idx (hs.shows 0 rfl) c247 (fun _ => rfl) (by decide) rfl rfl F16.tl26 ?_
                  refine sv_set hs 0 rfl c247 (-1 : Int) (fun _ => rfl) (by decide) rfl rfl rfl rfl F16.sz2 nofun (fun H248 hs => ?_)
                  refine so_nil ?_
                  refine fi_region ?_
                  refine so_move (v := (.v (.int .i64 (IntKind.i64.wrap (atq232 + (1 : Int)))))) rfl ?_
                  refine so_bin rfl rfl ab_add ?_
                  refine so_assign (v := (.v (.int .i64 (IntKind.i64.wrap ((IntKind.i64.wrap (atq232 + (1 : Int))) + (1 : Int)))))) rfl ?_
                  refine so_nil ?_
                  refine fi_inBlock ?_
                  refine fi_region ?_
                  refine so_bin rfl rfl ab_add ?_
                  refine so_move (v := (.v (.int .i64 (IntKind.i64.wrap (x233 + (1 : Int)))))) rfl ?_
                  refine so_nil ?_
                  exact fi_at [(1, (.v (.ptr id101 0))), (4, (.v v111)), (5, (.v v114)), (6, (.v (.int .i64 (IntKind.i64.wrap ((IntKind.i64.wrap (atq232 + (1 : Int))) + (1 : Int)))))), (7, (.v (.int .i64 plane209))), (30, (.v (.int .i64 (sizes207.length : Int)))), (31, (.v (.int .i64 (IntKind.i64.wrap (x233 + (1 : Int))))))] ⟨rfl, rfl, rfl, rfl, rfl, rfl, rfl, trivial⟩ (h _ _  hs)
                · refine fi_false rfl c246 ?_
                  refine fi_skip ?_
                  refine fi_region ?_
                  refine so_move (v := (.v (.int .i64 (IntKind.i64.wrap (atq232 + (1 : Int)))))) rfl ?_
                  refine so_bin rfl rfl ab_add ?_
                  refine so_assign (v := (.v (.int .i64 (IntKind.i64.wrap ((IntKind.i64.wrap (atq232 + (1 : Int))) + (1 : Int)))))) rfl ?_
                  refine so_nil ?_
                  refine fi_inBlock ?_
                  refine fi_region ?_
                  refine so_bin rfl rfl ab_add ?_
                  refine so_move (v := (.v (.int .i64 (IntKind.i64.wrap (x233 + (1 : Int)))))) rfl ?_
                  refine so_nil ?_
                  exact fi_at [(1, (.v (.ptr id101 0))), (4, (.v v111)), (5, (.v v114)), (6, (.v (.int .i64 (IntKind.i64.wrap ((IntKind.i64.wrap (atq232 + (1 : Int))) + (1 : Int)))))), (7, (.v (.int .i64 plane209))), (30, (.v (.int .i64 (sizes207.length : Int)))), (31, (.v (.int .i64 (IntKind.i64.wrap (x233 + (1 : Int))))))] ⟨rfl, rfl, rfl, rfl, rfl, rfl, rfl, trivial⟩ (h _ _  hs)
              · refine fi_false rfl (decide_eq_false c243) ?_
                refine fi_skip ?_
                refine fi_inBlock ?_
                refine fi_region ?_
                refine so_bin rfl rfl ab_add ?_
                refine so_move (v := (.v (.int .i64 (IntKind.i64.wrap (x233 + (1 : Int)))))) rfl ?_
                refine so_nil ?_
                exact fi_at [(1, (.v (.ptr id101 0))), (4, (.v v111)), (5, (.v v114)), (6, (.v (.int .i64 (IntKind.i64.wrap (atq232 + (1 : Int)))))), (7, (.v (.int .i64 plane209))), (30, (.v (.int .i64 (sizes207.length : Int)))), (31, (.v (.int .i64 (IntKind.i64.wrap (x233 + (1 : Int))))))] ⟨rfl, rfl, rfl, rfl, rfl, rfl, rfl, trivial⟩ (h _ _  hs)
            · refine so_gno rfl (decide_eq_false c242) ?_
              refine so_gno rfl (decide_eq_false c242) ?_
              refine so_gno rfl (decide_eq_false c242) ?_
              refine so_gno rfl (decide_eq_false c242) ?_
              refine so_gno rfl (decide_eq_false c242) ?_
              refine so_pick_f (v := (.v (.bool false))) rfl (decide_eq_false c242) rfl ?_
              refine so_nil ?_
              refine fi_false rfl rfl ?_
              refine fi_skip ?_
              refine fi_inBlock ?_
              refine fi_region ?_
              refine so_bin rfl rfl ab_add ?_
              refine so_move (v := (.v (.int .i64 (IntKind.i64.wrap (x233 + (1 : Int)))))) rfl ?_
              refine so_nil ?_
              exact fi_at [(1, (.v (.ptr id101 0))), (4, (.v v111)), (5, (.v v114)), (6, (.v (.int .i64 (IntKind.i64.wrap (atq232 + (1 : Int)))))), (7, (.v (.int .i64 plane209))), (30, (.v (.int .i64 (sizes207.length : Int)))), (31, (.v (.int .i64 (IntKind.i64.wrap (x233 + (1 : Int))))))] ⟨rfl, rfl, rfl, rfl, rfl, rfl, rfl, trivial⟩ (h _ _  hs)
          · refine fi_true rfl (not_t c237) ?_
            refine fi_exit rfl ?_
            refine fi_region ?_
            refine so_bin rfl rfl ab_add ?_
            refine so_move (v := (.v (.int .i64 (IntKind.i64.wrap (x233 + (1 : Int)))))) rfl ?_
            refine so_nil ?_
            exact fi_at [(1, (.v (.ptr id101 0))), (4, (.v v111)), (5, (.v v114)), (6, (.v (.int .i64 (IntKind.i64.wrap (atq232 + (1 : Int)))))), (7, (.v (.int .i64 plane209))), (30, (.v (.int .i64 (sizes207.length : Int)))), (31, (.v (.int .i64 (IntKind.i64.wrap (x233 + (1 : Int))))))] ⟨rfl, rfl, rfl, rfl, rfl, rfl, rfl, trivial⟩ (h _ _  hs)
      · refine fi_false rfl (decide_eq_false c234) ?_
        refine fi_exit rfl ?_
        refine fi_inBlock ?_
        refine fi_region ?_
        refine so_move (v := (.v (.int .i64 plane209))) rfl ?_
        refine so_bin rfl rfl ab_sub ?_
        refine so_assign (v := (.v (.int .i64 (IntKind.i64.wrap (plane209 - (1 : Int)))))) rfl ?_
        refine so_nil ?_
        exact fi_at [(1, (.v (.ptr id101 0))), (4, (.v v111)), (5, (.v v114)), (6, (.v (.int .i64 atq232))), (7, (.v (.int .i64 (IntKind.i64.wrap (plane209 - (1 : Int))))))] ⟨rfl, rfl, rfl, rfl, rfl, trivial⟩ (h _ _  hs)
    · refine fi_false rfl (decide_eq_false c210) ?_
      refine fi_exit rfl ?_
      refine fi_seq ?_
      refine fi_seq ?_
      refine fi_region ?_
      refine so_move (v := (.v (.int .i64 atq208))) rfl ?_
      refine so_fieldAddr rfl F16.fd29_2 ?_
      refine sv_ld hs 2 rfl rfl rfl F16.ag22 ?_
      refine sv_len (g2 _ hs.tl.tl.tl) (fun _ => rfl) (by decide) rfl F16.ti22 ?_
      refine so_bin rfl rfl ab_lss ?_
      refine so_nil ?_
      replace h := ofP h; rcases h with ⟨c251, h⟩ | ⟨c251, h⟩
      · refine fi_true rfl (decide_eq_true c251) ?_
        refine fi_seq ?_
        refine fi_region ?_
        refine so_assign (v := (.v .nilsl)) rfl ?_
        refine so_assign (v := (.v (.bool false))) rfl ?_
        refine so_nil ?_
        exact by_ret rfl ⟨_, _, h, _, rfl, (Sep.nil (Sep.del 0 (Sep.del 0 (Sep.del 0 hs))) 1)⟩
      · refine fi_false rfl (decide_eq_false c251) ?_
        refine fi_skip ?_
        refine fi_seq ?_
        refine fi_region ?_
        refine sv_bslice hs (eInt .i64) ([] : List (Int)) [] F16.te26 F16.sz2 F16.ze2 rfl rfl rfl rfl (fun _ => rfl) rfl (by decide) nofun (fun v252 H253 nv252 hs => ?_)
        refine so_assign (v := (.v v252)) rfl ?_
        refine so_nil ?_
        refine fi_seq ?_
        refine fi_seq ?_
        refine fi_region ?_
        refine so_move (v := (.v v111)) rfl ?_
        refine sv_len (hs.shows 2 rfl) (fun _ => rfl) (by decide) rfl F16.ti26 ?_
        refine so_move (v := (.v (.int .i64 (0 : Int)))) rfl ?_
        refine so_nil ?_
        refine fi_block ?_
        refine fi_loop ?_
        replace hs := hs.del 3
        refine fi_at [(5, (.v v114)), (10, (.v v252)), (88, (.v v111)), (89, (.v (.int .i64 (sizes207.length : Int)))), (90, (.v (.int .i64 (0 : Int))))] ⟨rfl, rfl, rfl, rfl, rfl, trivial⟩ ?_
        refine h (fun (out272 : List (Int)) (x274 : Int) => ∀ (s : Nat → TV) (H : Heap) (v273 : AV) (nv273 : v273 ≠ .nilsl), Sep H (Pc.osl v273 1 (enc (eInt .i64) out272) :: Pc.osl v114 1 (enc (eInt .i64) signs206) :: Pc.osl v111 1 (enc (eInt .i64) sizes207) :: fr) → Fin _ _ (updL s [(5, (.v v114)), (10, (.v v273)), (88, (.v v111)), (89, (.v (.int .i64 (sizes207.length : Int)))), (90, (.v (.int .i64 x274)))]) H _) ?_ _ _ _ nv252 hs
        intro out272 x274 h s287 H288 v273 nv273 hs
        refine fi_inLoop ?_
        refine fi_seq ?_
        refine fi_region ?_
        refine so_bin rfl rfl ab_lss ?_
        refine so_nil ?_
        refine fi_seq ?_
        replace h := ofP h; rcases h with ⟨c275, h⟩ | ⟨c275, h⟩
        · refine fi_true rfl (decide_eq_true c275) ?_
          refine fi_skip ?_
          refine fi_seq ?_
          refine fi_block ?_
          refine fi_seq ?_
          refine fi_region ?_
          refine so_move (v := (.v (.int .i64 x274))) rfl ?_
          obtain ⟨c276, h⟩ := h
          refine sv_idx (hs.shows 2 rfl) c276 (fun _ => rfl) (by decide) rfl rfl F16.tl26 ?_
          refine sv_cell (hs.shows 2 rfl) c276 (0 : Int) 0 (fun x => (AV.int .i64 x)) (fun _ => rfl) (fun _ => rfl) rfl F16.ag2 ?_
          refine so_assign (v := (.v (.int .i64 x274))) rfl ?_
          refine so_assign (v := (.v (.int .i64 (sizes207.getD (x274).toNat (0 : Int))))) rfl ?_
          refine so_nil ?_
          refine fi_region ?_
          refine so_move (v := (.v v273)) rfl ?_
          refine so_move (v := (.v (.int .i64 (sizes207.getD (x274).toNat (0 : Int))))) rfl ?_
          refine so_move (v := (.v v114)) rfl ?_
          refine so_move (v := (.v (.int .i64 x274))) rfl ?_
          obtain ⟨c277, h⟩ := h
          refine sv_idx (hs.shows 1 rfl) c277 (fun _ => rfl) (by decide) rfl rfl F16.tl26 ?_
          refine sv_cell (hs.shows 1 rfl) c277 (0 : Int) 0 (fun x => (AV.int .i64 x)) (fun _ => rfl) (fun _ => rfl) rfl F16.ag2 ?_
          refine so_bin rfl rfl ab_mul ?_
          refine sv_bslice hs (eInt .i64) ([(IntKind.i64.wrap ((sizes207.getD (x274).toNat (0 : Int)) * (signs206.getD (x274).toNat (0 : Int))))] : List (Int)) [[(.int .i64 (IntKind.i64.wrap ((sizes207.getD (x274).toNat (0 : Int)) * (signs206.getD (x274).toNat (0 : Int)))))]] F16.te26 F16.sz2 F16.ze2 rfl rfl rfl rfl (fun _ => rfl) rfl (by decide) nofun (fun v278 H279 nv278 hs => ?_)
          obtain ⟨c283, h⟩ := h
          refine sv_app hs 1 rfl (hs.shows 0 rfl) (fun _ => rfl) (by decide) F16.ta26_26 (by decide) c283 rfl rfl nofun (fun v281 H282 kv281 hs => ?_)
          replace hs := hs.del 0
          have nv281 := kv281 nv273
          refine so_assign (v := (.v v281)) rfl ?_
          refine so_nil ?_
          refine fi_inBlock ?_
          refine fi_region ?_
          refine so_bin rfl rfl ab_add ?_
          refine so_move (v := (.v (.int .i64 (IntKind.i64.wrap (x274 + (1 : Int)))))) rfl ?_
          refine so_nil ?_
          exact fi_at [(5, (.v v114)), (10, (.v v281)), (88, (.v v111)), (89, (.v (.int .i64 (sizes207.length : Int)))), (90, (.v (.int .i64 (IntKind.i64.wrap (x274 + (1 : Int))))))] ⟨rfl, rfl, rfl, rfl, rfl, trivial⟩ (h _ _ _ nv281 hs)
        · refine fi_false rfl (decide_eq_false c275) ?_
          refine fi_exit rfl ?_
          refine fi_seq ?_
          refine fi_seq ?_
          refine fi_region ?_
          refine so_move (v := (.v v273)) rfl ?_
          refine sv_callS (impl_AreIntegers_ok v273 out272 hs (fun _ hs => (hs.shows 0 rfl)) _ h) (fun _ _ ⟨_, _, _, e⟩ => e) rfl rfl ?_
          clear h
          rintro _ _ ⟨y284, h, rfl, rfl⟩
          refine so_un rfl au_not ?_
          refine so_nil ?_
          replace h := ofT h; rcases h with ⟨c286, h⟩ | ⟨c286, h⟩
          · refine fi_false rfl (not_f c286) ?_
            refine fi_skip ?_
            refine fi_seq ?_
            refine fi_region ?_
            refine so_move (v := (.v v273)) rfl ?_
            refine so_assign (v := (.v v273)) rfl ?_
            refine so_assign (v := (.v (.bool true))) rfl ?_
            refine so_nil ?_
            exact by_ret rfl ⟨_, _, h, _, rfl, (Sep.del 1 (Sep.del 1 hs))⟩
          · refine fi_true rfl (not_t c286) ?_
            refine fi_seq ?_
            refine fi_region ?_
            refine so_assign (v := (.v .nilsl)) rfl ?_
            refine so_assign (v := (.v (.bool false))) rfl ?_
            refine so_nil ?_
            exact by_ret rfl ⟨_, _, h, _, rfl, (Sep.nil (Sep.del 0 (Sep.del 0 (Sep.del 0 hs))) 1)⟩
  · refine fi_true rfl (not_t c106) ?_
    refine fi_seq ?_
    refine fi_region ?_
    refine so_assign (v := (.v .nilsl)) rfl ?_
    refine so_assign (v := (.v (.bool false))) rfl ?_
    refine so_nil ?_
    exact by_ret rfl ⟨_, _, h, _, rfl, (Sep.nil (Sep.del 0 hs) 1)⟩

end Go.Proofs.Ytkaidcgelbhofaa.G

namespace Go.Proofs.Ytkaidcgelbhofaa.G
open Go Go.Ab Go.Proofs Go.Proofs.Ytkaidcgelbhofaa
set_option maxRecDepth 100000
set_option linter.unusedVariables false
set_option linter.unusedSimpArgs false
set_option maxHeartbeats 1000000
attribute [local irreducible] wops wopf Go.Ab.Fin
theorem F17.ag2 : tagg Try.prog 2 = some false := by kernel_rfl
theorem F17.ti26 : (telem Try.prog 26).isSome = true := by kernel_rfl
theorem F17.tl26 : (telem Try.prog 26).bind (tsz Try.prog) = some 1 := by kernel_rfl
theorem laws_eqInt64S_ok {fr : List Pc} {H : Heap} (v0 : AV) (l0 : List (Int)) (v1 : AV) (l1 : List (Int)) (hs : Sep H (fr)) (g0 : ∀ H, Sep H fr → Shows H v0 1 (enc (eInt .i64) l0)) (g1 : ∀ H, Sep H fr → Shows H v1 1 (enc (eInt .i64) l1)) (K : Bool → Prop) (h : laws_eqInt64S.wp l0 l1 K) : OkQ Try.prog 17 [(.v v0), (.v v1)] H (fun r H2 => ∃ (y0 : Bool), K y0 ∧ r = (.v (.bool y0)) ∧ H = H2) := by
  unfold laws_eqInt64S.wp at h
  refine of_body Try.f17 F.hm Try.func17 rfl Try.call17 (by kernel_rfl) (by simp) ?_
  refine fi_seq ?_
  refine fi_region ?_
  refine so_assign (v := (.v (.bool false))) rfl ?_
  refine so_nil ?_
  refine fi_seq ?_
  refine fi_seq ?_
  refine fi_region ?_
  refine so_move (v := (.v v0)) rfl ?_
  refine sv_len (g0 _ hs) (fun _ => rfl) (by decide) rfl F17.ti26 ?_
  refine so_move (v := (.v v1)) rfl ?_
  refine sv_len (g1 _ hs) (fun _ => rfl) (by decide) rfl F17.ti26 ?_
  refine so_bin rfl rfl ab_neq ?_
  refine so_nil ?_
  replace h := ofP h; rcases h with ⟨c101, h⟩ | ⟨c101, h⟩
  · refine fi_false rfl (not_f (decide_eq_true c101)) ?_
    refine fi_skip ?_
    refine fi_seq ?_
    refine fi_seq ?_
    refine fi_region ?_
    refine so_assign (v := (.v (.int .i64 (0 : Int)))) rfl ?_
    refine so_nil ?_
    refine fi_block ?_
    refine fi_loop ?_
    refine fi_at [(0, (.v v0)), (1, (.v v1)), (5, (.v (.int .i64 (0 : Int))))] ⟨rfl, rfl, rfl, trivial⟩ ?_
    refine h (fun (i103 : Int) => ∀ (s : Nat → TV), Fin _ _ (updL s [(0, (.v v0)), (1, (.v v1)), (5, (.v (.int .i64 i103)))]) _ _) ?_ _
    intro i103 h s108
    refine fi_inLoop ?_
    refine fi_seq ?_
    refine fi_seq ?_
    refine fi_region ?_
    refine so_move (v := (.v (.int .i64 i103))) rfl ?_
    refine so_move (v := (.v v0)) rfl ?_
    refine sv_len (g0 _ hs) (fun _ => rfl) (by decide) rfl F17.ti26 ?_
    refine so_bin rfl rfl ab_lss ?_
    refine so_nil ?_
    replace h := ofP h; rcases h with ⟨c104, h⟩ | ⟨c104, h⟩
    · refine fi_true rfl (decide_eq_true c104) ?_
      refine fi_skip ?_
      refine fi_seq ?_
      refine fi_block ?_
      refine fi_seq ?_
      refine fi_region ?_
      refine so_move (v := (.v v0)) rfl ?_
      refine so_move (v := (.v (.int .i64 i103))) rfl ?_
      obtain ⟨c105, h⟩ := h
      refine sv_idx (g0 _ hs) c105 (fun _ => rfl) (by decide) rfl rfl F17.tl26 ?_
      refine sv_cell (g0 _ hs) c105 (0 : Int) 0 (fun x => (AV.int .i64 x)) (fun _ => rfl) (fun _ => rfl) rfl F17.ag2 ?_
      refine so_move (v := (.v v1)) rfl ?_
      refine so_move (v := (.v (.int .i64 i103))) rfl ?_
      obtain ⟨c106, h⟩ := h
      refine sv_idx (g1 _ hs) c106 (fun _ => rfl) (by decide) rfl rfl F17.tl26 ?_
      refine sv_cell (g1 _ hs) c106 (0 : Int) 0 (fun x => (AV.int .i64 x)) (fun _ => rfl) (fun _ => rfl) rfl F17.ag2 ?_
      refine so_bin rfl rfl ab_neq ?_
      refine so_nil ?_
      replace h := ofP h; rcases h with ⟨c107, h⟩ | ⟨c107, h⟩
      · refine fi_false rfl (not_f (decide_eq_true c107)) ?_
        refine fi_skip ?_
        refine fi_inBlock ?_
        refine fi_region ?_
        refine so_move (v := (.v (.int .i64 i103))) rfl ?_
        refine so_bin rfl rfl ab_add ?_
        refine so_assign (v := (.v (.int .i64 (IntKind.i64.wrap (i103 + (1 : Int)))))) rfl ?_
        refine so_nil ?_
        exact fi_at [(0, (.v v0)), (1, (.v v1)), (5, (.v (.int .i64 (IntKind.i64.wrap (i103 + (1 : Int))))))] ⟨rfl, rfl, rfl, trivial⟩ (h _)
      · refine fi_true rfl (not_t (decide_eq_false c107)) ?_
        refine fi_seq ?_
        refine fi_region ?_
        refine so_assign (v := (.v (.bool false))) rfl ?_
        refine so_nil ?_
        exact by_ret rfl ⟨_, h, rfl, rfl⟩
    · refine fi_false rfl (decide_eq_false c104) ?_
      refine fi_exit rfl ?_
      refine fi_seq ?_
      refine fi_region ?_
      refine so_assign (v := (.v (.bool true))) rfl ?_
      refine so_nil ?_
      exact by_ret rfl ⟨_, h, rfl, rfl⟩
  · refine fi_true rfl (not_t (decide_eq_false c101)) ?_
    refine fi_seq ?_
    refine fi_region ?_
    refine so_assign (v := (.v (.bool false))) rfl ?_
    refine so_nil ?_
    exact by_ret rfl ⟨_, h, rfl, rfl⟩

end Go.Proofs.Ytkaidcgelbhofaa.G

namespace Go.Proofs.Ytkaidcgelbhofaa.G
open Go Go.Ab Go.Proofs Go.Proofs.Ytkaidcgelbhofaa
set_option maxRecDepth 100000
set_option linter.unusedVariables false
set_option linter.unusedSimpArgs false
set_option maxHeartbeats 1000000
attribute [local irreducible] wops wopf Go.Ab.Fin
theorem F87.ag4 : tagg Try.prog 4 = some false := by kernel_rfl
theorem F87.tb4 : tbool Try.prog 4 = true := by kernel_rfl
theorem F87.ti22 : (telem Try.prog 22).isSome = true := by kernel_rfl
theorem F87.tl22 : (telem Try.prog 22).bind (tsz Try.prog) = some 1 := by kernel_rfl
theorem laws_eqBoolS_ok {fr : List Pc} {H : Heap} (v0 : AV) (l0 : List (Bool)) (v1 : AV) (l1 : List (Bool)) (hs : Sep H (fr)) (g0 : ∀ H, Sep H fr → Shows H v0 1 (enc eBool l0)) (g1 : ∀ H, Sep H fr → Shows H v1 1 (enc eBool l1)) (K : Bool → Prop) (h : laws_eqBoolS.wp l0 l1 K) : OkQ Try.prog 87 [(.v v0), (.v v1)] H (fun r H2 => ∃ (y0 : Bool), K y0 ∧ r = (.v (.bool y0)) ∧ H = H2) := by
  unfold laws_eqBoolS.wp at h
  refine of_body Try.f87 F.hm Try.func87 rfl Try.call87 (by kernel_rfl) (by simp) ?_
  refine fi_seq ?_
  refine fi_region ?_
  refine so_assign (v := (.v (.bool false))) rfl ?_
  refine so_nil ?_
  refine fi_seq ?_
  refine fi_seq ?_
  refine fi_region ?_
  refine so_move (v := (.v v0)) rfl ?_
  refine sv_len (g0 _ hs) (fun _ => rfl) (by decide) rfl F87.ti22 ?_
  refine so_move (v := (.v v1)) rfl ?_
  refine sv_len (g1 _ hs) (fun _ => rfl) (by decide) rfl F87.ti22 ?_
  refine so_bin rfl rfl ab_neq ?_
  refine so_nil ?_
  replace h := ofP h; rcases h with ⟨c101, h⟩ | ⟨c101, h⟩
  · refine fi_false rfl (not_f (decide_eq_true c101)) ?_
    refine fi_skip ?_
    refine fi_seq ?_
    refine fi_seq ?_
    refine fi_region ?_
    refine so_assign (v := (.v (.int .i64 (0 : Int)))) rfl ?_
    refine so_nil ?_
    refine fi_block ?_
    refine fi_loop ?_
    refine fi_at [(0, (.v v0)), (1, (.v v1)), (5, (.v (.int .i64 (0 : Int))))] ⟨rfl, rfl, rfl, trivial⟩ ?_
    refine h (fun (i103 : Int) => ∀ (s : Nat → TV), Fin _ _ (updL s [(0, (.v v0)), (1, (.v v1)), (5, (.v (.int .i64 i103)))]) _ _) ?_ _
    intro i103 h s108
    refine fi_inLoop ?_
    refine fi_seq ?_
    refine fi_seq ?_
    refine fi_region ?_
    refine so_move (v := (.v (.int .i64 i103))) rfl ?_
    refine so_move (v := (.v v0)) rfl ?_
    refine sv_len (g0 _ hs) (fun _ => rfl) (by decide) rfl F87.ti22 ?_
    refine so_bin rfl rfl ab_lss ?_
    refine so_nil ?_
    replace h := ofP h; rcases h with ⟨c104, h⟩ | ⟨c104, h⟩
    · refine fi_true rfl (decide_eq_true c104) ?_
      refine fi_skip ?_
      refine fi_seq ?_
      refine fi_block ?_
      refine fi_seq ?_
      refine fi_region ?_
      refine so_move (v := (.v v0)) rfl ?_
      refine so_move (v := (.v (.int .i64 i103))) rfl ?_
      obtain ⟨c105, h⟩ := h
      refine sv_idx (g0 _ hs) c105 (fun _ => rfl) (by decide) rfl rfl F87.tl22 ?_
      refine sv_cell (g0 _ hs) c105 false 0 (fun x => (AV.bool x)) (fun _ => rfl) (fun _ => rfl) rfl F87.ag4 ?_
      refine so_move (v := (.v v1)) rfl ?_
      refine so_move (v := (.v (.int .i64 i103))) rfl ?_
      obtain ⟨c106, h⟩ := h
      refine sv_idx (g1 _ hs) c106 (fun _ => rfl) (by decide) rfl rfl F87.tl22 ?_
      refine sv_cell (g1 _ hs) c106 false 0 (fun x => (AV.bool x)) (fun _ => rfl) (fun _ => rfl) rfl F87.ag4 ?_
      refine so_bin rfl rfl (ab_bneq F87.tb4) ?_
      refine so_nil ?_
      replace h := ofT h; rcases h with ⟨c107, h⟩ | ⟨c107, h⟩
      · refine fi_false rfl (not_f c107) ?_
        refine fi_skip ?_
        refine fi_inBlock ?_
        refine fi_region ?_
        refine so_move (v := (.v (.int .i64 i103))) rfl ?_
        refine so_bin rfl rfl ab_add ?_
        refine so_assign (v := (.v (.int .i64 (IntKind.i64.wrap (i103 + (1 : Int)))))) rfl ?_
        refine so_nil ?_
        exact fi_at [(0, (.v v0)), (1, (.v v1)), (5, (.v (.int .i64 (IntKind.i64.wrap (i103 + (1 : Int))))))] ⟨rfl, rfl, rfl, trivial⟩ (h _)
      · refine fi_true rfl (not_t c107) ?_
        refine fi_seq ?_
        refine fi_region ?_
        refine so_assign (v := (.v (.bool false))) rfl ?_
        refine so_nil ?_
        exact by_ret rfl ⟨_, h, rfl, rfl⟩
    · refine fi_false rfl (decide_eq_false c104) ?_
      refine fi_exit rfl ?_
      refine fi_seq ?_
      refine fi_region ?_
      refine so_assign (v := (.v (.bool true))) rfl ?_
      refine so_nil ?_
      exact by_ret rfl ⟨_, h, rfl, rfl⟩
  · refine fi_true rfl (not_t (decide_eq_false c101)) ?_
    refine fi_seq ?_
    refine fi_region ?_
    refine so_assign (v := (.v (.bool false))) rfl ?_
    refine so_nil ?_
    exact by_ret rfl ⟨_, h, rfl, rfl⟩

end Go.Proofs.Ytkaidcgelbhofaa.G

namespace Go.Proofs.Ytkaidcgelbhofaa.G
open Go Go.Ab Go.Proofs Go.Proofs.Ytkaidcgelbhofaa
set_option maxRecDepth 100000
set_option linter.unusedVariables false
set_option linter.unusedSimpArgs false
set_option maxHeartbeats 1000000
attribute [local irreducible] wops wopf Go.Ab.Fin
theorem F18.ag2 : tagg Try.prog 2 = some false := by kernel_rfl
theorem F18.ag22 : tagg Try.prog 22 = some false := by kernel_rfl
theorem F18.fd29_0 : tfield Try.prog 29 0 = some (0, 1, false) := by kernel_rfl
theorem F18.fd29_1 : tfield Try.prog 29 1 = some (1, 1, false) := by kernel_rfl
theorem F18.fd29_2 : tfield Try.prog 29 2 = some (2, 1, false) := by kernel_rfl
theorem F18.inf29 : (Try.prog.info? 29).isSome = true := by kernel_rfl
theorem laws_eqCoded_ok {fr : List Pc} {H : Heap} (a0 : Int) (a1 : Int) (v2 : AV) (l2 : List (Bool)) (a3 : Int) (a4 : Int) (v5 : AV) (l5 : List (Bool)) (hs : Sep H (fr)) (g2 : ∀ H, Sep H fr → Shows H v2 1 (enc eBool l2)) (g5 : ∀ H, Sep H fr → Shows H v5 1 (enc eBool l5)) (K : Bool → Prop) (h : laws_eqCoded.wp a0 a1 l2 a3 a4 l5 K) : OkQ Try.prog 18 [(.g [(.int .i64 a0), (.int .i64 a1), v2]), (.g [(.int .i64 a3), (.int .i64 a4), v5])] H (fun r H2 => ∃ (y0 : Bool), K y0 ∧ r = (.v (.bool y0)) ∧ Sep H2 (fr)) := by
  unfold laws_eqCoded.wp at h
  refine of_body Try.f18 F.hm Try.func18 rfl Try.call18 (by kernel_rfl) (by simp) ?_
  refine fi_seq ?_
  refine fi_region ?_
  refine sv_box hs rfl (c := [(.int .i64 a0), (.int .i64 a1), v2]) rfl F18.inf29 (stc rfl (stc rfl (stc (g2 _ hs).stor stn))) nofun (fun id101 H102 hs => ?_)
  refine sv_box hs rfl (c := [(.int .i64 a3), (.int .i64 a4), v5]) rfl F18.inf29 (stc rfl (stc rfl (stc (g5 _ hs.tl).stor stn))) nofun (fun id104 H105 hs => ?_)
  refine so_assign (v := (.v (.bool false))) rfl ?_
  refine so_nil ?_
  refine fi_seq ?_
  refine fi_seq ?_
  refine fi_region ?_
  refine so_fieldAddr rfl F18.fd29_0 ?_
  refine sv_ld hs 1 rfl rfl rfl F18.ag2 ?_
  refine so_fieldAddr rfl F18.fd29_0 ?_
  refine sv_ld hs 0 rfl rfl rfl F18.ag2 ?_
  refine so_bin rfl rfl ab_neq ?_
  refine so_nil ?_
  replace h := ofP h; rcases h with ⟨c107, h⟩ | ⟨c107, h⟩
  · refine fi_false rfl (not_f (decide_eq_true c107)) ?_
    refine fi_skip ?_
    refine fi_seq ?_
    refine fi_seq ?_
    refine fi_region ?_
    refine so_fieldAddr rfl F18.fd29_1 ?_
    refine sv_ld hs 1 rfl rfl rfl F18.ag2 ?_
    refine so_fieldAddr rfl F18.fd29_1 ?_
    refine sv_ld hs 0 rfl rfl rfl F18.ag2 ?_
    refine so_bin rfl rfl ab_neq ?_
    refine so_nil ?_
    replace h := ofP h; rcases h with ⟨c108, h⟩ | ⟨c108, h⟩
    · refine fi_false rfl (not_f (decide_eq_true c108)) ?_
      refine fi_skip ?_
      refine fi_seq ?_
      refine fi_seq ?_
      refine fi_region ?_
      refine so_fieldAddr rfl F18.fd29_2 ?_
      refine sv_ld hs 1 rfl rfl rfl F18.ag22 ?_
      refine so_fieldAddr rfl F18.fd29_2 ?_
      refine sv_ld hs 0 rfl rfl rfl F18.ag22 ?_
      refine sv_callS (laws_eqBoolS_ok v2 l2 v5 l5 hs (fun _ hs => (g2 _ hs.tl.tl)) (fun _ hs => (g5 _ hs.tl.tl)) _ h) (fun _ _ ⟨_, _, _, e⟩ => e) rfl rfl ?_
      clear h
      rintro _ _ ⟨y109, h, rfl, rfl⟩
      refine so_un rfl au_not ?_
      refine so_nil ?_
      replace h := ofT h; rcases h with ⟨c111, h⟩ | ⟨c111, h⟩
      · refine fi_false rfl (not_f c111) ?_
        refine fi_skip ?_
        refine fi_seq ?_
        refine fi_region ?_
        refine so_assign (v := (.v (.bool true))) rfl ?_
        refine so_nil ?_
        exact by_ret rfl ⟨_, h, rfl, (Sep.del 0 (Sep.del 0 hs))⟩
      · refine fi_true rfl (not_t c111) ?_
        refine fi_seq ?_
        refine fi_region ?_
        refine so_assign (v := (.v (.bool false))) rfl ?_
        refine so_nil ?_
        exact by_ret rfl ⟨_, h, rfl, (Sep.del 0 (Sep.del 0 hs))⟩
    · refine fi_true rfl (not_t (decide_eq_false c108)) ?_
      refine fi_seq ?_
      refine fi_region ?_
      refine so_assign (v := (.v (.bool false))) rfl ?_
      refine so_nil ?_
      exact by_ret rfl ⟨_, h, rfl, (Sep.del 0 (Sep.del 0 hs))⟩
  · refine fi_true rfl (not_t (decide_eq_false c107)) ?_
    refine fi_seq ?_
    refine fi_region ?_
    refine so_assign (v := (.v (.bool false))) rfl ?_
    refine so_nil ?_
    exact by_ret rfl ⟨_, h, rfl, (Sep.del 0 (Sep.del 0 hs))⟩

end Go.Proofs.Ytkaidcgelbhofaa.G

namespace Go.Proofs.Ytkaidcgelbhofaa.G
open Go Go.Ab Go.Proofs Go.Proofs.Ytkaidcgelbhofaa
set_option maxRecDepth 100000
set_option linter.unusedVariables false
set_option linter.unusedSimpArgs false
set_option maxHeartbeats 1000000
attribute [local irreducible] wops wopf Go.Ab.Fin
theorem F88.sz4 : tsz Try.prog 4 = some 1 := by kernel_rfl
theorem F88.ti22 : (telem Try.prog 22).isSome = true := by kernel_rfl
theorem F88.tl22 : (telem Try.prog 22).bind (tsz Try.prog) = some 1 := by kernel_rfl
theorem laws_markBoolS_ok {fr : List Pc} {H : Heap} (v0 : AV) (l0 : List (Bool)) (a1 : Int) (hs : Sep H (Pc.osl v0 1 (enc eBool l0) :: fr))  (K : Int → (List (Bool)) → Prop) (h : laws_markBoolS.wp l0 a1 K) : OkQ Try.prog 88 [(.v v0), (.v (.int .i64 a1))] H (fun r H2 => ∃ (y0 : Int) (y1 : List (Bool)), K y0 y1 ∧ r = (.v (.int .i64 y0)) ∧ Sep H2 (Pc.osl v0 1 (enc eBool y1) :: fr)) := by
  unfold laws_markBoolS.wp at h
  refine of_body Try.f88 F.hm Try.func88 rfl Try.call88 (by kernel_rfl) (by simp) ?_
  refine fi_seq ?_
  refine fi_region ?_
  refine so_assign (v := (.v (.int .i64 (0 : Int)))) rfl ?_
  refine so_nil ?_
  refine fi_seq ?_
  refine fi_seq ?_
  refine fi_region ?_
  refine so_assign (v := (.v (.int .i64 (0 : Int)))) rfl ?_
  refine so_nil ?_
  refine fi_block ?_
  refine fi_loop ?_
  refine fi_at [(0, (.v v0)), (1, (.v (.int .i64 a1))), (5, (.v (.int .i64 (0 : Int))))] ⟨rfl, rfl, rfl, trivial⟩ ?_
  refine h (fun (a109 : List (Bool)) (k110 : Int) (i111 : Int) => ∀ (s : Nat → TV) (H : Heap), Sep H (Pc.osl v0 1 (enc eBool a109) :: fr) → Fin _ _ (updL s [(0, (.v v0)), (1, (.v (.int .i64 k110))), (5, (.v (.int .i64 i111)))]) H _) ?_ _ _ hs
  intro a109 k110 i111 h s115 H116 hs
  refine fi_inLoop ?_
  refine fi_seq ?_
  refine fi_seq ?_
  refine fi_region ?_
  refine so_move (v := (.v (.int .i64 i111))) rfl ?_
  refine so_move (v := (.v v0)) rfl ?_
  refine sv_len (hs.shows 0 rfl) (fun _ => rfl) (by decide) rfl F88.ti22 ?_
  refine so_bin rfl rfl ab_lss ?_
  refine so_nil ?_
  replace h := ofP h; rcases h with ⟨c112, h⟩ | ⟨c112, h⟩
  · refine fi_true rfl (decide_eq_true c112) ?_
    refine fi_skip ?_
    refine fi_seq ?_
    refine fi_block ?_
    refine fi_seq ?_
    refine fi_region ?_
    refine so_move (v := (.v v0)) rfl ?_
    refine so_move (v := (.v (.int .i64 i111))) rfl ?_
    refine so_move (v := (.v (.int .i64 k110))) rfl ?_
    refine so_bin rfl rfl (ab_rem (by decide)) ?_
    refine so_bin rfl rfl ab_eql ?_
    obtain ⟨c113, h⟩ := h
    refine sv_idx (hs.shows 0 rfl) c113 (fun _ => rfl) (by decide) rfl rfl F88.tl22 ?_
    refine sv_set hs 0 rfl c113 (decide ((Int.tmod k110 (3 : Int)) = (0 : Int))) (fun _ => rfl) (by decide) rfl rfl rfl rfl F88.sz4 nofun (fun H114 hs => ?_)
    refine so_nil ?_
    refine fi_region ?_
    refine so_move (v := (.v (.int .i64 k110))) rfl ?_
    refine so_bin rfl rfl ab_add ?_
    refine so_assign (v := (.v (.int .i64 (IntKind.i64.wrap (k110 + (1 : Int)))))) rfl ?_
    refine so_nil ?_
    refine fi_inBlock ?_
    refine fi_region ?_
    refine so_move (v := (.v (.int .i64 i111))) rfl ?_
    refine so_bin rfl rfl ab_add ?_
    refine so_assign (v := (.v (.int .i64 (IntKind.i64.wrap (i111 + (1 : Int)))))) rfl ?_
    refine so_nil ?_
    exact fi_at [(0, (.v v0)), (1, (.v (.int .i64 (IntKind.i64.wrap (k110 + (1 : Int)))))), (5, (.v (.int .i64 (IntKind.i64.wrap (i111 + (1 : Int))))))] ⟨rfl, rfl, rfl, trivial⟩ (h _ _  hs)
  · refine fi_false rfl (decide_eq_false c112) ?_
    refine fi_exit rfl ?_
    refine fi_seq ?_
    refine fi_region ?_
    refine so_move (v := (.v (.int .i64 k110))) rfl ?_
    refine so_assign (v := (.v (.int .i64 k110))) rfl ?_
    refine so_nil ?_
    exact by_ret rfl ⟨_, _, h, rfl, hs⟩

end Go.Proofs.Ytkaidcgelbhofaa.G

namespace Go.Proofs.Ytkaidcgelbhofaa.G
open Go Go.Ab Go.Proofs Go.Proofs.Ytkaidcgelbhofaa
set_option maxRecDepth 100000
set_option linter.unusedVariables false
set_option linter.unusedSimpArgs false
set_option maxHeartbeats 1000000
attribute [local irreducible] wops wopf Go.Ab.Fin
theorem F19.ag22 : tagg Try.prog 22 = some false := by kernel_rfl
theorem F19.fd29_2 : tfield Try.prog 29 2 = some (2, 1, false) := by kernel_rfl
theorem F19.inf29 : (Try.prog.info? 29).isSome = true := by kernel_rfl
theorem laws_markCoded_ok {fr : List Pc} {H : Heap} (a0 : Int) (a1 : Int) (v2 : AV) (l2 : List (Bool)) (a3 : Int) (hs : Sep H (Pc.osl v2 1 (enc eBool l2) :: fr))  (K : Int → (List (Bool)) → Prop) (h : laws_markCoded.wp a0 a1 l2 a3 K) : OkQ Try.prog 19 [(.g [(.int .i64 a0), (.int .i64 a1), v2]), (.v (.int .i64 a3))] H (fun r H2 => ∃ (y0 : Int) (y1 : List (Bool)), K y0 y1 ∧ r = (.v (.int .i64 y0)) ∧ Sep H2 (Pc.osl v2 1 (enc eBool y1) :: fr)) := by
  unfold laws_markCoded.wp at h
  refine of_body Try.f19 F.hm Try.func19 rfl Try.call19 (by kernel_rfl) (by simp) ?_
  refine fi_seq ?_
  refine fi_region ?_
  refine sv_box hs rfl (c := [(.int .i64 a0), (.int .i64 a1), v2]) rfl F19.inf29 (stc rfl (stc rfl (stc (hs.shows 0 rfl).stor stn))) nofun (fun id102 H103 hs => ?_)
  refine so_assign (v := (.v (.int .i64 (0 : Int)))) rfl ?_
  refine so_nil ?_
  refine fi_seq ?_
  refine fi_region ?_
  refine so_fieldAddr rfl F19.fd29_2 ?_
  refine sv_ld hs 0 rfl rfl rfl F19.ag22 ?_
  refine so_move (v := (.v (.int .i64 a3))) rfl ?_
  replace hs := (Sep.front 1 hs rfl)
  refine sv_call (laws_markBoolS_ok v2 l2 a3 hs  _ h) rfl rfl nofun ?_
  clear h hs
  rintro _ H107 ⟨y105, y106, h, rfl, hs⟩
  refine so_assign (v := (.v (.int .i64 y105))) rfl ?_
  refine so_nil ?_
  refine fi_seq ?_
  refine fi_region ?_
  refine so_move (v := (.v (.int .i64 y105))) rfl ?_
  refine so_assign (v := (.v (.int .i64 y105))) rfl ?_
  refine so_nil ?_
  exact by_ret rfl ⟨_, _, h, rfl, (Sep.del 1 hs)⟩

end Go.Proofs.Ytkaidcgelbhofaa.G

namespace Go.Proofs.Ytkaidcgelbhofaa.G
open Go Go.Ab Go.Proofs Go.Proofs.Ytkaidcgelbhofaa
set_option maxRecDepth 100000
set_option linter.unusedVariables false
set_option linter.unusedSimpArgs false
set_option maxHeartbeats 1000000
attribute [local irreducible] wops wopf Go.Ab.Fin
theorem F20.sz2 : tsz Try.prog 2 = some 1 := by kernel_rfl
theorem F20.ti26 : (telem Try.prog 26).isSome = true := by kernel_rfl
theorem F20.tl26 : (telem Try.prog 26).bind (tsz Try.prog) = some 1 := by kernel_rfl
theorem laws_markInt64S_ok {fr : List Pc} {H : Heap} (v0 : AV) (l0 : List (Int)) (a1 : Int) (hs : Sep H (Pc.osl v0 1 (enc (eInt .i64) l0) :: fr))  (K : Int → (List (Int)) → Prop) (h : laws_markInt64S.wp l0 a1 K) : OkQ Try.prog 20 [(.v v0), (.v (.int .i64 a1))] H (fun r H2 => ∃ (y0 : Int) (y1 : List (Int)), K y0 y1 ∧ r = (.v (.int .i64 y0)) ∧ Sep H2 (Pc.osl v0 1 (enc (eInt .i64) y1) :: fr)) := by
  unfold laws_markInt64S.wp at h
  refine of_body Try.f20 F.hm Try.func20 rfl Try.call20 (by kernel_rfl) (by simp) ?_
  refine fi_seq ?_
  refine fi_region ?_
  refine so_assign (v := (.v (.int .i64 (0 : Int)))) rfl ?_
  refine so_nil ?_
  refine fi_seq ?_
  refine fi_seq ?_
  refine fi_region ?_
  refine so_assign (v := (.v (.int .i64 (0 : Int)))) rfl ?_
  refine so_nil ?_
  refine fi_block ?_
  refine fi_loop ?_
  refine fi_at [(0, (.v v0)), (1, (.v (.int .i64 a1))), (5, (.v (.int .i64 (0 : Int))))] ⟨rfl, rfl, rfl, trivial⟩ ?_
  refine h (fun (a109 : List (Int)) (k110 : Int) (i111 : Int) => ∀ (s : Nat → TV) (H : Heap), Sep H (Pc.osl v0 1 (enc (eInt .i64) a109) :: fr) → Fin _ _ (updL s [(0, (.v v0)), (1, (.v (.int .i64 k110))), (5, (.v (.int .i64 i111)))]) H _) ?_ _ _ hs
  intro a109 k110 i111 h s115 H116 hs
  refine fi_inLoop ?_
  refine fi_seq ?_
  refine fi_seq ?_
  refine fi_region ?_
  refine so_move (v := (.v (.int .i64 i111))) rfl ?_
  refine so_move (v := (.v v0)) rfl ?_
  refine sv_len (hs.shows 0 rfl) (fun _ => rfl) (by decide) rfl F20.ti26 ?_
  refine so_bin rfl rfl ab_lss ?_
  refine so_nil ?_
  replace h := ofP h; rcases h with ⟨c112, h⟩ | ⟨c112, h⟩
  · refine fi_true rfl (decide_eq_true c112) ?_
    refine fi_skip ?_
    refine fi_seq ?_
    refine fi_block ?_
    refine fi_seq ?_
    refine fi_region ?_
    refine so_move (v := (.v v0)) rfl ?_
    refine so_move (v := (.v (.int .i64 i111))) rfl ?_
    refine so_move (v := (.v (.int .i64 k110))) rfl ?_
    obtain ⟨c113, h⟩ := h
    refine sv_idx (hs.shows 0 rfl) c113 (fun _ => rfl) (by decide) rfl rfl F20.tl26 ?_
    refine sv_set hs 0 rfl c113 k110 (fun _ => rfl) (by decide) rfl rfl rfl rfl F20.sz2 nofun (fun H114 hs => ?_)
    refine so_nil ?_
    refine fi_region ?_
    refine so_move (v := (.v (.int .i64 k110))) rfl ?_
    refine so_bin rfl rfl ab_add ?_
    refine so_assign (v := (.v (.int .i64 (IntKind.i64.wrap (k110 + (1 : Int)))))) rfl ?_
    refine so_nil ?_
    refine fi_inBlock ?_
    refine fi_region ?_
    refine so_move (v := (.v (.int .i64 i111))) rfl ?_
    refine so_bin rfl rfl ab_add ?_
    refine so_assign (v := (.v (.int .i64 (IntKind.i64.wrap (i111 + (1 : Int)))))) rfl ?_
    refine so_nil ?_
    exact fi_at [(0, (.v v0)), (1, (.v (.int .i64 (IntKind.i64.wrap (k110 + (1 : Int)))))), (5, (.v (.int .i64 (IntKind.i64.wrap (i111 + (1 : Int))))))] ⟨rfl, rfl, rfl, trivial⟩ (h _ _  hs)
  · refine fi_false rfl (decide_eq_false c112) ?_
    refine fi_exit rfl ?_
    refine fi_seq ?_
    refine fi_region ?_
    refine so_move (v := (.v (.int .i64 k110))) rfl ?_
    refine so_assign (v := (.v (.int .i64 k110))) rfl ?_
    refine so_nil ?_
    exact by_ret rfl ⟨_, _, h, rfl, hs⟩

end Go.Proofs.Ytkaidcgelbhofaa.G

namespace Go.Proofs.Ytkaidcgelbhofaa.G
open Go Go.Ab Go.Proofs Go.Proofs.Ytkaidcgelbhofaa
set_option maxRecDepth 100000
set_option linter.unusedVariables false
set_option linter.unusedSimpArgs false
set_option maxHeartbeats 1000000
attribute [local irreducible] wops wopf Go.Ab.Fin
theorem F21.ag2 : tagg Try.prog 2 = some false := by kernel_rfl
theorem F21.ti26 : (telem Try.prog 26).isSome = true := by kernel_rfl
theorem F21.tl26 : (telem Try.prog 26).bind (tsz Try.prog) = some 1 := by kernel_rfl
theorem laws_heldInt64S_ok {fr : List Pc} {H : Heap} (v0 : AV) (l0 : List (Int)) (a1 : Int) (hs : Sep H (fr)) (g0 : ∀ H, Sep H fr → Shows H v0 1 (enc (eInt .i64) l0)) (K : Int → Prop) (h : laws_heldInt64S.wp l0 a1 K) : OkQ Try.prog 21 [(.v v0), (.v (.int .i64 a1))] H (fun r H2 => ∃ (y0 : Int), K y0 ∧ r = (.v (.int .i64 y0)) ∧ H = H2) := by
  unfold laws_heldInt64S.wp at h
  refine of_body Try.f21 F.hm Try.func21 rfl Try.call21 (by kernel_rfl) (by simp) ?_
  refine fi_seq ?_
  refine fi_region ?_
  refine so_assign (v := (.v (.int .i64 (0 : Int)))) rfl ?_
  refine so_nil ?_
  refine fi_seq ?_
  refine fi_seq ?_
  refine fi_region ?_
  refine so_assign (v := (.v (.int .i64 (0 : Int)))) rfl ?_
  refine so_nil ?_
  refine fi_block ?_
  refine fi_loop ?_
  refine fi_at [(0, (.v v0)), (1, (.v (.int .i64 a1))), (5, (.v (.int .i64 (0 : Int))))] ⟨rfl, rfl, rfl, trivial⟩ ?_
  refine h (fun (k102 : Int) (i103 : Int) => ∀ (s : Nat → TV), Fin _ _ (updL s [(0, (.v v0)), (1, (.v (.int .i64 k102))), (5, (.v (.int .i64 i103)))]) _ _) ?_ _
  intro k102 i103 h s107
  refine fi_inLoop ?_
  refine fi_seq ?_
  refine fi_seq ?_
  refine fi_region ?_
  refine so_move (v := (.v (.int .i64 i103))) rfl ?_
  refine so_move (v := (.v v0)) rfl ?_
  refine sv_len (g0 _ hs) (fun _ => rfl) (by decide) rfl F21.ti26 ?_
  refine so_bin rfl rfl ab_lss ?_
  refine so_nil ?_
  replace h := ofP h; rcases h with ⟨c104, h⟩ | ⟨c104, h⟩
  · refine fi_true rfl (decide_eq_true c104) ?_
    refine fi_skip ?_
    refine fi_seq ?_
    refine fi_block ?_
    refine fi_seq ?_
    refine fi_seq ?_
    refine fi_region ?_
    refine so_move (v := (.v v0)) rfl ?_
    refine so_move (v := (.v (.int .i64 i103))) rfl ?_
    obtain ⟨c105, h⟩ := h
    refine sv_idx (g0 _ hs) c105 (fun _ => rfl) (by decide) rfl rfl F21.tl26 ?_
    refine sv_cell (g0 _ hs) c105 (0 : Int) 0 (fun x => (AV.int .i64 x)) (fun _ => rfl) (fun _ => rfl) rfl F21.ag2 ?_
    refine so_move (v := (.v (.int .i64 k102))) rfl ?_
    refine so_bin rfl rfl ab_neq ?_
    refine so_nil ?_
    replace h := ofP h; rcases h with ⟨c106, h⟩ | ⟨c106, h⟩
    · refine fi_false rfl (not_f (decide_eq_true c106)) ?_
      refine fi_skip ?_
      refine fi_region ?_
      refine so_move (v := (.v (.int .i64 k102))) rfl ?_
      refine so_bin rfl rfl ab_add ?_
      refine so_assign (v := (.v (.int .i64 (IntKind.i64.wrap (k102 + (1 : Int)))))) rfl ?_
      refine so_nil ?_
      refine fi_inBlock ?_
      refine fi_region ?_
      refine so_move (v := (.v (.int .i64 i103))) rfl ?_
      refine so_bin rfl rfl ab_add ?_
      refine so_assign (v := (.v (.int .i64 (IntKind.i64.wrap (i103 + (1 : Int)))))) rfl ?_
      refine so_nil ?_
      exact fi_at [(0, (.v v0)), (1, (.v (.int .i64 (IntKind.i64.wrap (k102 + (1 : Int)))))), (5, (.v (.int .i64 (IntKind.i64.wrap (i103 + (1 : Int))))))] ⟨rfl, rfl, rfl, trivial⟩ (h _)
    · refine fi_true rfl (not_t (decide_eq_false c106)) ?_
      refine fi_seq ?_
      refine fi_region ?_
      refine so_assign (v := (.v (.int .i64 (-1 : Int)))) rfl ?_
      refine so_nil ?_
      exact by_ret rfl ⟨_, h, rfl, rfl⟩
  · refine fi_false rfl (decide_eq_false c104) ?_
    refine fi_exit rfl ?_
    refine fi_seq ?_
    refine fi_region ?_
    refine so_move (v := (.v (.int .i64 k102))) rfl ?_
    refine so_assign (v := (.v (.int .i64 k102))) rfl ?_
    refine so_nil ?_
    exact by_ret rfl ⟨_, h, rfl, rfl⟩

end Go.Proofs.Ytkaidcgelbhofaa.G

namespace Go.Proofs.Ytkaidcgelbhofaa.G
open Go Go.Ab Go.Proofs Go.Proofs.Ytkaidcgelbhofaa
set_option maxRecDepth 100000
set_option linter.unusedVariables false
set_option linter.unusedSimpArgs false
set_option maxHeartbeats 1000000
attribute [local irreducible] wops wopf Go.Ab.Fin
theorem F3.ag24 : tagg Try.prog 24 = some true := by kernel_rfl
theorem F3.ag29 : tagg Try.prog 29 = some true := by kernel_rfl
theorem F3.inf24 : (Try.prog.info? 24).isSome = true := by kernel_rfl
theorem F3.sz24 : tsz Try.prog 24 = some 3 := by kernel_rfl
theorem F3.sz29 : tsz Try.prog 29 = some 3 := by kernel_rfl
theorem F3.tb4 : tbool Try.prog 4 = true := by kernel_rfl
theorem F3.ze29 : tzero Try.prog 29 = some [(.int .i64 (0 : Int)), (.int .i64 (0 : Int)), .nilsl] := by kernel_rfl
theorem laws_FnExactListFrom_ok {fr : List Pc} {H : Heap} (a0 : Int) (a1 : Int) (v2 : AV) (l2 : List (Bool)) (hs : Sep H (fr)) (g2 : ∀ H, Sep H fr → Shows H v2 1 (enc eBool l2)) (K : Bool → Prop) (h : laws_FnExactListFrom.wp a0 a1 l2 K) : OkQ Try.prog 3 [(.g [(.int .i64 a0), (.int .i64 a1), v2])] H (fun r H2 => ∃ (y0 : Bool), K y0 ∧ r = (.v (.bool y0)) ∧ Sep H2 (fr)) := by
  unfold laws_FnExactListFrom.wp at h
  refine of_body Try.f3 F.hm Try.func3 rfl Try.call3 (by kernel_rfl) (by simp) ?_
  refine fi_seq ?_
  refine fi_region ?_
  refine sv_box hs rfl (c := [(.int .i64 a0), (.int .i64 a1), v2]) rfl F3.inf24 (stc rfl (stc rfl (stc (g2 _ hs).stor stn))) nofun (fun id101 H102 hs => ?_)
  refine so_assign (v := (.v (.bool false))) rfl ?_
  refine so_nil ?_
  refine fi_seq ?_
  refine fi_region ?_
  refine so_assign (v := (.v (.int .i64 (1048576 : Int)))) rfl ?_
  refine so_nil ?_
  refine fi_seq ?_
  refine fi_region ?_
  refine sv_lds hs 0 rfl rfl (leb rfl) rfl F3.ag24 F3.sz24 ?_
  refine so_move (v := (.v (.int .i64 (1048576 : Int)))) rfl ?_
  refine sv_call (laws_szCoded_ok a0 a1 v2 l2 (1048576 : Int) hs (fun _ hs => (g2 _ hs.tl)) _ h) rfl rfl nofun ?_
  clear h hs
  rintro _ H105 ⟨y104, h, rfl, hs⟩
  refine so_assign (v := (.v (.int .i64 y104))) rfl ?_
  refine so_nil ?_
  refine fi_seq ?_
  refine fi_seq ?_
  refine fi_region ?_
  refine so_move (v := (.v (.int .i64 y104))) rfl ?_
  refine so_bin rfl rfl ab_lss ?_
  refine so_nil ?_
  replace h := ofP h; rcases h with ⟨c106, h⟩ | ⟨c106, h⟩
  · refine fi_true rfl (decide_eq_true c106) ?_
    refine fi_seq ?_
    refine fi_region ?_
    refine so_assign (v := (.v (.bool true))) rfl ?_
    refine so_nil ?_
    exact by_ret rfl ⟨_, h, rfl, (Sep.del 0 hs)⟩
  · refine fi_false rfl (decide_eq_false c106) ?_
    refine fi_skip ?_
    refine fi_seq ?_
    refine fi_region ?_
    refine sv_lds hs 0 rfl rfl (leb rfl) rfl F3.ag24 F3.sz24 ?_
    refine sv_call (laws_toCoded_ok a0 a1 v2 l2 hs (fun _ hs => (g2 _ hs.tl)) _ h) rfl rfl nofun ?_
    clear h hs
    rintro _ H112 ⟨y107, y108, y109, h, v110, rfl, hs⟩
    refine sv_call (spec_ListFrom_ok y107 y108 v110 y109 hs (fun _ hs => (hs.shows 0 rfl)) _ h) rfl rfl nofun ?_
    clear h hs
    rintro _ H117 ⟨y113, y116, h, v114, rfl, hs⟩
    refine so_move (v := (.t [(.v v114), (.v (.bool y116))])) rfl ?_
    refine so_extract rfl rfl rfl ?_
    refine so_extract rfl rfl rfl ?_
    refine so_assign (v := (.v v114)) rfl ?_
    refine so_assign (v := (.v (.bool y116))) rfl ?_
    refine so_nil ?_
    refine fi_seq ?_
    refine fi_region ?_
    refine sv_lds hs 2 rfl rfl (leb rfl) rfl F3.ag24 F3.sz24 ?_
    refine sv_call (laws_toCoded_ok a0 a1 v2 l2 hs (fun _ hs => (g2 _ hs.tl.tl.tl)) _ h) rfl rfl nofun ?_
    clear h hs
    rintro _ H123 ⟨y118, y119, y120, h, v121, rfl, hs⟩
    refine sv_alloc hs F3.ze29 rfl nofun (fun id124 H125 hs => ?_)
    refine sv_st hs 0 rfl rfl rfl (c := [(.int .i64 y118), (.int .i64 y119), v121]) rfl F3.sz29 rfl (stc rfl (stc rfl (stc (hs.shows 1 rfl).stor stn))) (leb rfl) (cs' := [(.int .i64 y118), (.int .i64 y119), v121]) rfl nofun (fun H127 hs => ?_)
    refine so_nil ?_
    refine fi_seq ?_
    refine fi_region ?_
    refine sv_lds hs 0 rfl rfl (leb rfl) rfl F3.ag29 F3.sz29 ?_
    refine sv_call (impl_ListFrom_ok y118 y119 v121 y120 hs (fun _ hs => (hs.shows 1 rfl)) _ h) rfl rfl nofun ?_
    clear h hs
    rintro _ H132 ⟨y128, y131, h, v129, rfl, hs⟩
    refine so_move (v := (.t [(.v v129), (.v (.bool y131))])) rfl ?_
    refine so_extract rfl rfl rfl ?_
    refine so_extract rfl rfl rfl ?_
    refine so_assign (v := (.v v129)) rfl ?_
    refine so_assign (v := (.v (.bool y131))) rfl ?_
    refine so_nil ?_
    refine fi_seq ?_
    refine fi_seq ?_
    refine fi_region ?_
    refine so_move (v := (.v v129)) rfl ?_
    refine so_move (v := (.v v114)) rfl ?_
    refine sv_callS (laws_eqInt64S_ok v129 y128 v114 y113 hs (fun _ hs => (hs.shows 0 rfl)) (fun _ hs => (hs.shows 3 rfl)) _ h) (fun _ _ ⟨_, _, _, e⟩ => e) rfl rfl ?_
    clear h
    rintro _ _ ⟨y133, h, rfl, rfl⟩
    refine so_un rfl au_not ?_
    refine so_move (v := (.v (.bool (!y133)))) rfl ?_
    replace h := ofT h; rcases h with ⟨c135, h⟩ | ⟨c135, h⟩
    · refine so_gyes rfl (not_f c135) ?_
      refine so_move (v := (.v (.bool y131))) rfl ?_
      refine so_gyes rfl (not_f c135) ?_
      refine so_move (v := (.v (.bool y116))) rfl ?_
      refine so_gyes rfl (not_f c135) ?_
      refine so_bin rfl rfl (ab_bneq F3.tb4) ?_
      refine so_pick_f (v := (.v (.bool (!(y131 == y116))))) rfl (not_f c135) rfl ?_
      refine so_nil ?_
      replace h := ofT h; rcases h with ⟨c136, h⟩ | ⟨c136, h⟩
      · refine fi_false rfl (not_f c136) ?_
        refine fi_skip ?_
        refine fi_seq ?_
        refine fi_seq ?_
        refine fi_free [0] ?_
        refine wf_free (.g [(.int .i64 y118), (.int .i64 y119), v121]) rfl (by kernel_rfl) (stepr (i := 0) rfl (by refine sv_lds hs 1 rfl rfl (leb rfl) rfl F3.ag29 F3.sz29 ?_; exact so_end ⟨rfl, rfl⟩)) fan ?_
        refine wf_same (by decide +kernel) (by kernel_rfl) ?_
        refine sv_lds hs 5 rfl rfl (leb rfl) rfl F3.ag24 F3.sz24 ?_
        refine so_end ⟨rfl, ?_⟩
        have hs0_ := hs
        refine wf_chg (by kernel_rfl) ?_
        refine sv_call (laws_toCoded_ok a0 a1 v2 l2 hs (fun _ hs => (g2 _ hs.tl.tl.tl.tl.tl.tl)) _ h) rfl rfl nofun ?_
        clear h
        rintro _ H142 ⟨y137, y138, y139, h, v140, rfl, hs⟩
        refine so_end ⟨(fac (.inr (stepr (i := 0) rfl (by refine sv_lds hs 2 rfl rfl (leb rfl) rfl F3.ag29 F3.sz29 ?_; exact so_end ⟨rfl, rfl⟩))) fan), ?_⟩
        have hs1_ := hs
        refine wf_chg (by kernel_rfl) ?_
        refine sv_call (laws_eqCoded_ok y118 y119 v121 y120 y137 y138 v140 y139 hs (fun _ hs => (hs.shows 3 rfl)) (fun _ hs => (hs.shows 0 rfl)) _ h) rfl rfl nofun ?_
        clear h
        rintro _ H144 ⟨y143, h, rfl, hs⟩
        refine so_end ⟨(fac (.inl ⟨3, by kernel_rfl⟩) fan), ?_⟩
        refine wf_pure rfl (by kernel_rfl) ?_
        refine so_un rfl au_not ?_
        refine so_end ?_
        refine wf_nil ?_
        replace h := ofT h; rcases h with ⟨c145, h⟩ | ⟨c145, h⟩
        · refine fi_false rfl (not_f c145) ?_
          refine fi_skip ?_
          refine fi_seq ?_
          refine fi_region ?_
          refine so_assign (v := (.v (.int .i64 (1 : Int)))) rfl ?_
          refine so_nil ?_
          refine fi_seq ?_
          refine fi_region ?_
          refine sv_lds hs 2 rfl rfl (leb rfl) rfl F3.ag29 F3.sz29 ?_
          refine so_move (v := (.v (.int .i64 (1 : Int)))) rfl ?_
          replace hs := (Sep.front 3 hs rfl)
          refine sv_call (laws_markCoded_ok y118 y119 v121 y120 (1 : Int) hs  _ h) rfl rfl nofun ?_
          clear h hs
          rintro _ H148 ⟨y146, y147, h, rfl, hs⟩
          refine so_assign (v := (.v (.int .i64 y146))) rfl ?_
          refine so_nil ?_
          refine fi_seq ?_
          refine fi_seq ?_
          refine fi_region ?_
          refine so_move (v := (.v (.int .i64 y146))) rfl ?_
          refine so_bin rfl rfl ab_lss ?_
          refine so_move (v := (.v (.bool (decide (y146 < (0 : Int)))))) rfl ?_
          replace h := ofP h; rcases h with ⟨c149, h⟩ | ⟨c149, h⟩
          · refine so_gno rfl (decide_eq_true c149) ?_
            refine so_gno rfl (decide_eq_true c149) ?_
            refine so_gno rfl (decide_eq_true c149) ?_
            refine so_gno rfl (decide_eq_true c149) ?_
            refine so_pick_t (v := (.v (.bool true))) rfl (decide_eq_true c149) rfl ?_
            refine so_move (v := (.v (.bool true))) rfl ?_
            refine so_gno rfl rfl ?_
            refine so_gno rfl rfl ?_
            refine so_gno rfl rfl ?_
            refine so_pick_t (v := (.v (.bool true))) rfl rfl rfl ?_
            refine so_nil ?_
            refine fi_true rfl rfl ?_
            refine fi_seq ?_
            refine fi_region ?_
            refine so_assign (v := (.v (.bool false))) rfl ?_
            refine so_nil ?_
            exact by_ret rfl ⟨_, h, rfl, (Sep.dropn 7 hs)⟩
          · refine so_gyes rfl (decide_eq_false c149) ?_
            refine so_move (v := (.v v129)) rfl ?_
            refine so_gyes rfl (decide_eq_false c149) ?_
            refine so_move (v := (.v v114)) rfl ?_
            refine so_gyes rfl (decide_eq_false c149) ?_
            refine sv_callS (laws_eqInt64S_ok v129 y128 v114 y113 hs (fun _ hs => (hs.shows 2 rfl)) (fun _ hs => (hs.shows 4 rfl)) _ h) (fun _ _ ⟨_, _, _, e⟩ => e) rfl rfl ?_
            clear h
            rintro _ _ ⟨y150, h, rfl, rfl⟩
            refine so_gyes rfl (decide_eq_false c149) ?_
            refine so_un rfl au_not ?_
            refine so_pick_f (v := (.v (.bool (!y150)))) rfl (decide_eq_false c149) rfl ?_
            refine so_move (v := (.v (.bool (!y150)))) rfl ?_
            replace h := ofT h; rcases h with ⟨c152, h⟩ | ⟨c152, h⟩
            · refine so_gyes rfl (not_f c152) ?_
              refine so_move (v := (.v (.bool y131))) rfl ?_
              refine so_gyes rfl (not_f c152) ?_
              refine so_move (v := (.v (.bool y116))) rfl ?_
              refine so_gyes rfl (not_f c152) ?_
              refine so_bin rfl rfl (ab_bneq F3.tb4) ?_
              refine so_pick_f (v := (.v (.bool (!(y131 == y116))))) rfl (not_f c152) rfl ?_
              refine so_nil ?_
              refine fi_false rfl (not_f c136) ?_
              refine fi_skip ?_
              refine fi_seq ?_
              refine fi_region ?_
              refine so_assign (v := (.v (.int .i64 (1 : Int)))) rfl ?_
              refine so_nil ?_
              refine fi_seq ?_
              refine fi_region ?_
              refine so_move (v := (.v v129)) rfl ?_
              refine so_move (v := (.v (.int .i64 (1 : Int)))) rfl ?_
              replace hs := (Sep.front 2 hs rfl)
              refine sv_call (laws_markInt64S_ok v129 y128 (1 : Int) hs  _ h) rfl rfl nofun ?_
              clear h hs
              rintro _ H155 ⟨y153, y154, h, rfl, hs⟩
              refine so_assign (v := (.v (.int .i64 y153))) rfl ?_
              refine so_nil ?_
              refine fi_seq ?_
              refine fi_region ?_
              refine so_assign (v := (.v (.int .i64 (1 : Int)))) rfl ?_
              refine so_nil ?_
              refine fi_seq ?_
              refine fi_region ?_
              refine so_move (v := (.v v129)) rfl ?_
              refine so_move (v := (.v (.int .i64 (1 : Int)))) rfl ?_
              refine sv_callS (laws_heldInt64S_ok v129 y154 (1 : Int) hs (fun _ hs => (hs.shows 0 rfl)) _ h) (fun _ _ ⟨_, _, _, e⟩ => e) rfl rfl ?_
              clear h
              rintro _ _ ⟨y156, h, rfl, rfl⟩
              refine so_assign (v := (.v (.int .i64 y156))) rfl ?_
              refine so_nil ?_
              refine fi_seq ?_
              refine fi_seq ?_
              refine fi_region ?_
              refine so_move (v := (.v (.int .i64 y156))) rfl ?_
              refine so_bin rfl rfl ab_lss ?_
              refine so_nil ?_
              replace h := ofP h; rcases h with ⟨c158, h⟩ | ⟨c158, h⟩
              · refine fi_true rfl (decide_eq_true c158) ?_
                refine fi_seq ?_
                refine fi_region ?_
                refine so_assign (v := (.v (.bool false))) rfl ?_
                refine so_nil ?_
                exact by_ret rfl ⟨_, h, rfl, (Sep.dropn 7 hs)⟩
              · refine fi_false rfl (decide_eq_false c158) ?_
                refine fi_skip ?_
                refine fi_seq ?_
                refine fi_seq ?_
                refine fi_region ?_
                refine so_move (v := (.v (.int .i64 y156))) rfl ?_
                refine so_move (v := (.v (.int .i64 y153))) rfl ?_
                refine so_bin rfl rfl ab_neq ?_
                refine so_nil ?_
                replace h := ofP h; rcases h with ⟨c159, h⟩ | ⟨c159, h⟩
                · refine fi_false rfl (not_f (decide_eq_true c159)) ?_
                  refine fi_skip ?_
                  refine fi_seq ?_
                  refine fi_region ?_
                  refine sv_lds hs 6 rfl rfl (leb rfl) rfl F3.ag24 F3.sz24 ?_
                  refine sv_call (laws_toCoded_ok a0 a1 v2 l2 hs (fun _ hs => (g2 _ hs.tl.tl.tl.tl.tl.tl.tl)) _ h) rfl rfl nofun ?_
                  clear h hs
                  rintro _ H165 ⟨y160, y161, y162, h, v163, rfl, hs⟩
                  refine sv_call (impl_ListFrom_ok y160 y161 v163 y162 hs (fun _ hs => (hs.shows 0 rfl)) _ h) rfl rfl nofun ?_
                  clear h hs
                  rintro _ H170 ⟨y166, y169, h, v167, rfl, hs⟩
                  refine so_move (v := (.t [(.v v167), (.v (.bool y169))])) rfl ?_
                  refine so_extract rfl rfl rfl ?_
                  refine so_extract rfl rfl rfl ?_
                  refine so_assign (v := (.v v167)) rfl ?_
                  refine so_assign (v := (.v (.bool y169))) rfl ?_
                  refine so_nil ?_
                  refine fi_seq ?_
                  refine fi_seq ?_
                  refine fi_region ?_
                  refine so_move (v := (.v v167)) rfl ?_
                  refine so_move (v := (.v v114)) rfl ?_
                  refine sv_callS (laws_eqInt64S_ok v167 y166 v114 y113 hs (fun _ hs => (hs.shows 0 rfl)) (fun _ hs => (hs.shows 6 rfl)) _ h) (fun _ _ ⟨_, _, _, e⟩ => e) rfl rfl ?_
                  clear h
                  rintro _ _ ⟨y171, h, rfl, rfl⟩
                  refine so_un rfl au_not ?_
                  refine so_move (v := (.v (.bool (!y171)))) rfl ?_
                  replace h := ofT h; rcases h with ⟨c173, h⟩ | ⟨c173, h⟩
                  · refine so_gyes rfl (not_f c173) ?_
                    refine so_move (v := (.v (.bool y169))) rfl ?_
                    refine so_gyes rfl (not_f c173) ?_
                    refine so_move (v := (.v (.bool y116))) rfl ?_
                    refine so_gyes rfl (not_f c173) ?_
                    refine so_bin rfl rfl (ab_bneq F3.tb4) ?_
                    refine so_pick_f (v := (.v (.bool (!(y169 == y116))))) rfl (not_f c173) rfl ?_
                    refine so_nil ?_
                    replace h := ofT h; rcases h with ⟨c174, h⟩ | ⟨c174, h⟩
                    · refine fi_false rfl (not_f c174) ?_
                      refine fi_skip ?_
                      refine fi_seq ?_
                      refine fi_region ?_
                      refine so_assign (v := (.v (.int .i64 (1 : Int)))) rfl ?_
                      refine so_nil ?_
                      refine fi_seq ?_
                      refine fi_region ?_
                      refine so_move (v := (.v v129)) rfl ?_
                      refine so_move (v := (.v (.int .i64 (1 : Int)))) rfl ?_
                      refine sv_callS (laws_heldInt64S_ok v129 y154 (1 : Int) hs (fun _ hs => (hs.shows 2 rfl)) _ h) (fun _ _ ⟨_, _, _, e⟩ => e) rfl rfl ?_
                      clear h
                      rintro _ _ ⟨y175, h, rfl, rfl⟩
                      refine so_assign (v := (.v (.int .i64 y175))) rfl ?_
                      refine so_nil ?_
                      refine fi_seq ?_
                      refine fi_seq ?_
                      refine fi_region ?_
                      refine so_move (v := (.v (.int .i64 y175))) rfl ?_
                      refine so_bin rfl rfl ab_lss ?_
                      refine so_nil ?_
                      replace h := ofP h; rcases h with ⟨c177, h⟩ | ⟨c177, h⟩
                      · refine fi_true rfl (decide_eq_true c177) ?_
                        refine fi_seq ?_
                        refine fi_region ?_
                        refine so_assign (v := (.v (.bool false))) rfl ?_
                        refine so_nil ?_
                        exact by_ret rfl ⟨_, h, rfl, (Sep.dropn 9 hs)⟩
                      · refine fi_false rfl (decide_eq_false c177) ?_
                        refine fi_skip ?_
                        refine fi_seq ?_
                        refine fi_seq ?_
                        refine fi_region ?_
                        refine so_move (v := (.v (.int .i64 y175))) rfl ?_
                        refine so_move (v := (.v (.int .i64 y153))) rfl ?_
                        refine so_bin rfl rfl ab_neq ?_
                        refine so_nil ?_
                        replace h := ofP h; rcases h with ⟨c178, h⟩ | ⟨c178, h⟩
                        · refine fi_false rfl (not_f (decide_eq_true c178)) ?_
                          refine fi_skip ?_
                          refine fi_seq ?_
                          refine fi_region ?_
                          refine so_assign (v := (.v (.bool true))) rfl ?_
                          refine so_nil ?_
                          exact by_ret rfl ⟨_, h, rfl, (Sep.dropn 9 hs)⟩
                        · refine fi_true rfl (not_t (decide_eq_false c178)) ?_
                          refine fi_seq ?_
                          refine fi_region ?_
                          refine so_assign (v := (.v (.bool false))) rfl ?_
                          refine so_nil ?_
                          exact by_ret rfl ⟨_, h, rfl, (Sep.dropn 9 hs)⟩
                    · refine fi_true rfl (not_t c174) ?_
                      refine fi_seq ?_
                      refine fi_region ?_
                      refine so_assign (v := (.v (.bool false))) rfl ?_
                      refine so_nil ?_
                      exact by_ret rfl ⟨_, h, rfl, (Sep.dropn 9 hs)⟩
                  · refine so_gno rfl (not_t c173) ?_
                    refine so_gno rfl (not_t c173) ?_
                    refine so_gno rfl (not_t c173) ?_
                    refine so_pick_t (v := (.v (.bool true))) rfl (not_t c173) rfl ?_
                    refine so_nil ?_
                    refine fi_true rfl rfl ?_
                    refine fi_seq ?_
                    refine fi_region ?_
                    refine so_assign (v := (.v (.bool false))) rfl ?_
                    refine so_nil ?_
                    exact by_ret rfl ⟨_, h, rfl, (Sep.dropn 9 hs)⟩
                · refine fi_true rfl (not_t (decide_eq_false c159)) ?_
                  refine fi_seq ?_
                  refine fi_region ?_
                  refine so_assign (v := (.v (.bool false))) rfl ?_
                  refine so_nil ?_
                  exact by_ret rfl ⟨_, h, rfl, (Sep.dropn 7 hs)⟩
            · refine so_gno rfl (not_t c152) ?_
              refine so_gno rfl (not_t c152) ?_
              refine so_gno rfl (not_t c152) ?_
              refine so_pick_t (v := (.v (.bool true))) rfl (not_t c152) rfl ?_
              refine so_nil ?_
              refine fi_true rfl rfl ?_
              refine fi_seq ?_
              refine fi_region ?_
              refine so_assign (v := (.v (.bool false))) rfl ?_
              refine so_nil ?_
              exact by_ret rfl ⟨_, h, rfl, (Sep.dropn 7 hs)⟩
        · refine fi_true rfl (not_t c145) ?_
          refine fi_seq ?_
          refine fi_region ?_
          refine so_assign (v := (.v (.bool false))) rfl ?_
          refine so_nil ?_
          exact by_ret rfl ⟨_, h, rfl, (Sep.dropn 7 hs)⟩
      · refine fi_true rfl (not_t c136) ?_
        refine fi_seq ?_
        refine fi_region ?_
        refine so_assign (v := (.v (.bool false))) rfl ?_
        refine so_nil ?_
        exact by_ret rfl ⟨_, h, rfl, (Sep.dropn 6 hs)⟩
    · refine so_gno rfl (not_t c135) ?_
      refine so_gno rfl (not_t c135) ?_
      refine so_gno rfl (not_t c135) ?_
      refine so_pick_t (v := (.v (.bool true))) rfl (not_t c135) rfl ?_
      refine so_nil ?_
      refine fi_true rfl rfl ?_
      refine fi_seq ?_
      refine fi_region ?_
      refine so_assign (v := (.v (.bool false))) rfl ?_
      refine so_nil ?_
      exact by_ret rfl ⟨_, h, rfl, (Sep.dropn 6 hs)⟩

end Go.Proofs.Ytkaidcgelbhofaa.G

