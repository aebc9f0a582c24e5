/-
  The model ends so. Printed by a program of the session; nothing here is trusted.
-/
import Derived.Test.YtecdkjnomkdbkaaProg
import Derived.KernelRfl
import Derived.Test.YtecdkjnomkdbkaaMExactEntropyOfWa
namespace Go.Proofs.Ytecdkjnomkdbkaa.F
open Go Go.Ab Go.Proofs
set_option maxRecDepth 100000
set_option linter.unusedVariables false
set_option linter.unusedSimpArgs false
set_option maxHeartbeats 1000000
theorem hm : Try.prog.follows .mixedOrders = true := by kernel_rfl
end Go.Proofs.Ytecdkjnomkdbkaa.F

namespace Go.Proofs.Ytecdkjnomkdbkaa.G
open Go Go.Ab Go.Proofs Go.Proofs.Ytecdkjnomkdbkaa
set_option maxRecDepth 100000
set_option linter.unusedVariables false
set_option linter.unusedSimpArgs false
set_option maxHeartbeats 1000000
attribute [local irreducible] wops wopf Go.Ab.Fin
theorem F10.tb4 : tbool Try.prog 4 = true := by kernel_rfl
theorem laws_sameFloat_ok {fr : List Pc} {H : Heap} (a0 : Nat) (a1 : Nat) (hs : Sep H (fr))  (K : Bool → Prop) (h : laws_sameFloat.wp a0 a1 K) : OkQ Try.prog 10 [(.v (.flt .f64 a0)), (.v (.flt .f64 a1))] H (fun r H2 => ∃ (y0 : Bool), K y0 ∧ r = (.v (.bool y0)) ∧ H = H2) := by
  unfold laws_sameFloat.wp at h
  refine of_body Try.f10 F.hm Try.func10 rfl Try.call10 (by kernel_rfl) (by simp) ?_
  refine fi_seq ?_
  refine fi_region ?_
  refine so_assign (v := (.v (.bool false))) rfl ?_
  refine so_nil ?_
  refine fi_seq ?_
  refine fi_seq ?_
  refine fi_region ?_
  refine so_move (v := (.v (.flt .f64 a0))) rfl ?_
  refine so_move (v := (.v (.flt .f64 a0))) rfl ?_
  refine so_bin rfl rfl ab_fneq ?_
  refine so_move (v := (.v (.bool (fcmp .neq .f64 a0 a0)))) rfl ?_
  replace h := ofT h; rcases h with ⟨c101, h⟩ | ⟨c101, h⟩
  · refine so_gno rfl c101 ?_
    refine so_gno rfl c101 ?_
    refine so_gno rfl c101 ?_
    refine so_pick_t (v := (.v (.bool true))) rfl c101 rfl ?_
    refine so_nil ?_
    refine fi_true rfl rfl ?_
    refine fi_seq ?_
    refine fi_region ?_
    refine so_move (v := (.v (.flt .f64 a0))) rfl ?_
    refine so_move (v := (.v (.flt .f64 a0))) rfl ?_
    refine so_bin rfl rfl ab_fneq ?_
    refine so_move (v := (.v (.bool (fcmp .neq .f64 a0 a0)))) rfl ?_
    refine so_gyes rfl c101 ?_
    refine so_move (v := (.v (.flt .f64 a1))) rfl ?_
    refine so_gyes rfl c101 ?_
    refine so_move (v := (.v (.flt .f64 a1))) rfl ?_
    refine so_gyes rfl c101 ?_
    refine so_bin rfl rfl ab_fneq ?_
    refine so_pick_t (v := (.v (.bool (fcmp .neq .f64 a1 a1)))) rfl c101 rfl ?_
    refine so_assign (v := (.v (.bool (fcmp .neq .f64 a1 a1)))) rfl ?_
    refine so_nil ?_
    exact by_ret rfl ⟨_, h, rfl, rfl⟩
  · refine so_gyes rfl c101 ?_
    refine so_move (v := (.v (.flt .f64 a1))) rfl ?_
    refine so_gyes rfl c101 ?_
    refine so_move (v := (.v (.flt .f64 a1))) rfl ?_
    refine so_gyes rfl c101 ?_
    refine so_bin rfl rfl ab_fneq ?_
    refine so_pick_f (v := (.v (.bool (fcmp .neq .f64 a1 a1)))) rfl c101 rfl ?_
    refine so_nil ?_
    replace h := ofT h; rcases h with ⟨c102, h⟩ | ⟨c102, h⟩
    · refine fi_true rfl c102 ?_
      refine fi_seq ?_
      refine fi_region ?_
      refine so_move (v := (.v (.flt .f64 a0))) rfl ?_
      refine so_move (v := (.v (.flt .f64 a0))) rfl ?_
      refine so_bin rfl rfl ab_fneq ?_
      refine so_move (v := (.v (.bool (fcmp .neq .f64 a0 a0)))) rfl ?_
      refine so_gno rfl c101 ?_
      refine so_gno rfl c101 ?_
      refine so_gno rfl c101 ?_
      refine so_pick_f (v := (.v (.bool false))) rfl c101 rfl ?_
      refine so_assign (v := (.v (.bool false))) rfl ?_
      refine so_nil ?_
      exact by_ret rfl ⟨_, h, rfl, rfl⟩
    · refine fi_false rfl c102 ?_
      refine fi_skip ?_
      refine fi_seq ?_
      refine fi_seq ?_
      refine fi_region ?_
      refine so_move (v := (.v (.flt .f64 a0))) rfl ?_
      refine so_bin rfl rfl ab_feql ?_
      refine so_move (v := (.v (.bool (fcmp .eql .f64 a0 (cz .f64 0))))) rfl ?_
      replace h := ofT h; rcases h with ⟨c103, h⟩ | ⟨c103, h⟩
      · refine so_gyes rfl c103 ?_
        refine so_move (v := (.v (.flt .f64 a1))) rfl ?_
        refine so_gyes rfl c103 ?_
        refine so_bin rfl rfl ab_feql ?_
        refine so_pick_t (v := (.v (.bool (fcmp .eql .f64 a1 (cz .f64 0))))) rfl c103 rfl ?_
        refine so_nil ?_
        replace h := ofT h; rcases h with ⟨c104, h⟩ | ⟨c104, h⟩
        · refine fi_true rfl c104 ?_
          refine fi_seq ?_
          refine fi_region ?_
          refine so_move (v := (.v (.flt .f64 a0))) rfl ?_
          refine so_bin rfl rfl ab_fquo ?_
          refine so_bin rfl rfl ab_fgtr ?_
          refine so_move (v := (.v (.flt .f64 a1))) rfl ?_
          refine so_bin rfl rfl ab_fquo ?_
          refine so_bin rfl rfl ab_fgtr ?_
          refine so_bin rfl rfl (ab_beql F10.tb4) ?_
          refine so_assign (v := (.v (.bool ((fcmp .gtr .f64 (fop .quo .f64 (cz .f64 4607182418800017408) a0) (cz .f64 0)) == (fcmp .gtr .f64 (fop .quo .f64 (cz .f64 4607182418800017408) a1) (cz .f64 0)))))) rfl ?_
          refine so_nil ?_
          exact by_ret rfl ⟨_, h, rfl, rfl⟩
        · refine fi_false rfl c104 ?_
          refine fi_skip ?_
          refine fi_seq ?_
          refine fi_region ?_
          refine so_move (v := (.v (.flt .f64 a0))) rfl ?_
          refine so_move (v := (.v (.flt .f64 a1))) rfl ?_
          refine so_bin rfl rfl ab_feql ?_
          refine so_assign (v := (.v (.bool (fcmp .eql .f64 a0 a1)))) rfl ?_
          refine so_nil ?_
          exact by_ret rfl ⟨_, h, rfl, rfl⟩
      · refine so_gno rfl c103 ?_
        refine so_gno rfl c103 ?_
        refine so_pick_f (v := (.v (.bool false))) rfl c103 rfl ?_
        refine so_nil ?_
        refine fi_false rfl rfl ?_
        refine fi_skip ?_
        refine fi_seq ?_
        refine fi_region ?_
        refine so_move (v := (.v (.flt .f64 a0))) rfl ?_
        refine so_move (v := (.v (.flt .f64 a1))) rfl ?_
        refine so_bin rfl rfl ab_feql ?_
        refine so_assign (v := (.v (.bool (fcmp .eql .f64 a0 a1)))) rfl ?_
        refine so_nil ?_
        exact by_ret rfl ⟨_, h, rfl, rfl⟩

end Go.Proofs.Ytecdkjnomkdbkaa.G

namespace Go.Proofs.Ytecdkjnomkdbkaa.G
open Go Go.Ab Go.Proofs Go.Proofs.Ytecdkjnomkdbkaa
set_option maxRecDepth 100000
set_option linter.unusedVariables false
set_option linter.unusedSimpArgs false
set_option maxHeartbeats 1000000
attribute [local irreducible] wops wopf Go.Ab.Fin
theorem F11.ag2 : tagg Try.prog 2 = some false := by kernel_rfl
theorem F11.ti22 : (telem Try.prog 22).isSome = true := by kernel_rfl
theorem F11.tl22 : (telem Try.prog 22).bind (tsz Try.prog) = some 1 := by kernel_rfl
theorem laws_eqInt64S_ok {fr : List Pc} {H : Heap} (v0 : AV) (l0 : List (Int)) (v1 : AV) (l1 : List (Int)) (hs : Sep H (fr)) (g0 : ∀ H, Sep H fr → Shows H v0 1 (enc (eInt .i64) l0)) (g1 : ∀ H, Sep H fr → Shows H v1 1 (enc (eInt .i64) l1)) (K : Bool → Prop) (h : laws_eqInt64S.wp l0 l1 K) : OkQ Try.prog 11 [(.v v0), (.v v1)] H (fun r H2 => ∃ (y0 : Bool), K y0 ∧ r = (.v (.bool y0)) ∧ H = H2) := by
  unfold laws_eqInt64S.wp at h
  refine of_body Try.f11 F.hm Try.func11 rfl Try.call11 (by kernel_rfl) (by simp) ?_
  refine fi_seq ?_
  refine fi_region ?_
  refine so_assign (v := (.v (.bool false))) rfl ?_
  refine so_nil ?_
  refine fi_seq ?_
  refine fi_seq ?_
  refine fi_region ?_
  refine so_move (v := (.v v0)) rfl ?_
  refine sv_len (g0 _ hs) (fun _ => rfl) (by decide) rfl F11.ti22 ?_
  refine so_move (v := (.v v1)) rfl ?_
  refine sv_len (g1 _ hs) (fun _ => rfl) (by decide) rfl F11.ti22 ?_
  refine so_bin rfl rfl ab_neq ?_
  refine so_nil ?_
  replace h := ofP h; rcases h with ⟨c101, h⟩ | ⟨c101, h⟩
  · refine fi_false rfl (not_f (decide_eq_true c101)) ?_
    refine fi_skip ?_
    refine fi_seq ?_
    refine fi_seq ?_
    refine fi_region ?_
    refine so_assign (v := (.v (.int .i64 (0 : Int)))) rfl ?_
    refine so_nil ?_
    refine fi_block ?_
    refine fi_loop ?_
    refine fi_at [(0, (.v v0)), (1, (.v v1)), (5, (.v (.int .i64 (0 : Int))))] ⟨rfl, rfl, rfl, trivial⟩ ?_
    refine h (fun (i103 : Int) => ∀ (s : Nat → TV), Fin _ _ (updL s [(0, (.v v0)), (1, (.v v1)), (5, (.v (.int .i64 i103)))]) _ _) ?_ _
    intro i103 h s108
    refine fi_inLoop ?_
    refine fi_seq ?_
    refine fi_seq ?_
    refine fi_region ?_
    refine so_move (v := (.v (.int .i64 i103))) rfl ?_
    refine so_move (v := (.v v0)) rfl ?_
    refine sv_len (g0 _ hs) (fun _ => rfl) (by decide) rfl F11.ti22 ?_
    refine so_bin rfl rfl ab_lss ?_
    refine so_nil ?_
    replace h := ofP h; rcases h with ⟨c104, h⟩ | ⟨c104, h⟩
    · refine fi_true rfl (decide_eq_true c104) ?_
      refine fi_skip ?_
      refine fi_seq ?_
      refine fi_block ?_
      refine fi_seq ?_
      refine fi_region ?_
      refine so_move (v := (.v v0)) rfl ?_
      refine so_move (v := (.v (.int .i64 i103))) rfl ?_
      obtain ⟨c105, h⟩ := h
      refine sv_idx (g0 _ hs) c105 (fun _ => rfl) (by decide) rfl rfl F11.tl22 ?_
      refine sv_cell (g0 _ hs) c105 (0 : Int) 0 (fun x => (AV.int .i64 x)) (fun _ => rfl) (fun _ => rfl) rfl F11.ag2 ?_
      refine so_move (v := (.v v1)) rfl ?_
      refine so_move (v := (.v (.int .i64 i103))) rfl ?_
      obtain ⟨c106, h⟩ := h
      refine sv_idx (g1 _ hs) c106 (fun _ => rfl) (by decide) rfl rfl F11.tl22 ?_
      refine sv_cell (g1 _ hs) c106 (0 : Int) 0 (fun x => (AV.int .i64 x)) (fun _ => rfl) (fun _ => rfl) rfl F11.ag2 ?_
      refine so_bin rfl rfl ab_neq ?_
      refine so_nil ?_
      replace h := ofP h; rcases h with ⟨c107, h⟩ | ⟨c107, h⟩
      · refine fi_false rfl (not_f (decide_eq_true c107)) ?_
        refine fi_skip ?_
        refine fi_inBlock ?_
        refine fi_region ?_
        refine so_move (v := (.v (.int .i64 i103))) rfl ?_
        refine so_bin rfl rfl ab_add ?_
        refine so_assign (v := (.v (.int .i64 (IntKind.i64.wrap (i103 + (1 : Int)))))) rfl ?_
        refine so_nil ?_
        exact fi_at [(0, (.v v0)), (1, (.v v1)), (5, (.v (.int .i64 (IntKind.i64.wrap (i103 + (1 : Int))))))] ⟨rfl, rfl, rfl, trivial⟩ (h _)
      · refine fi_true rfl (not_t (decide_eq_false c107)) ?_
        refine fi_seq ?_
        refine fi_region ?_
        refine so_assign (v := (.v (.bool false))) rfl ?_
        refine so_nil ?_
        exact by_ret rfl ⟨_, h, rfl, rfl⟩
    · refine fi_false rfl (decide_eq_false c104) ?_
      refine fi_exit rfl ?_
      refine fi_seq ?_
      refine fi_region ?_
      refine so_assign (v := (.v (.bool true))) rfl ?_
      refine so_nil ?_
      exact by_ret rfl ⟨_, h, rfl, rfl⟩
  · refine fi_true rfl (not_t (decide_eq_false c101)) ?_
    refine fi_seq ?_
    refine fi_region ?_
    refine so_assign (v := (.v (.bool false))) rfl ?_
    refine so_nil ?_
    exact by_ret rfl ⟨_, h, rfl, rfl⟩

end Go.Proofs.Ytecdkjnomkdbkaa.G

namespace Go.Proofs.Ytecdkjnomkdbkaa.G
open Go Go.Ab Go.Proofs Go.Proofs.Ytecdkjnomkdbkaa
set_option maxRecDepth 100000
set_option linter.unusedVariables false
set_option linter.unusedSimpArgs false
set_option maxHeartbeats 1000000
attribute [local irreducible] wops wopf Go.Ab.Fin
theorem spec_l00In_ok {fr : List Pc} {H : Heap} (a0 : Int) (a1 : Int) (a2 : Int) (hs : Sep H (fr))  (K : Bool → Prop) (h : spec_l00In.wp a0 a1 a2 K) : OkQ Try.prog 43 [(.v (.int .i64 a0)), (.v (.int .i64 a1)), (.v (.int .i64 a2))] H (fun r H2 => ∃ (y0 : Bool), K y0 ∧ r = (.v (.bool y0)) ∧ H = H2) := by
  unfold spec_l00In.wp at h
  refine of_body Try.f43 F.hm Try.func43 rfl Try.call43 (by kernel_rfl) (by simp) ?_
  refine fi_seq ?_
  refine fi_region ?_
  refine so_assign (v := (.v (.bool false))) rfl ?_
  refine so_nil ?_
  refine fi_seq ?_
  refine fi_region ?_
  refine so_move (v := (.v (.int .i64 a0))) rfl ?_
  refine so_move (v := (.v (.int .i64 a1))) rfl ?_
  refine so_bin rfl rfl ab_geq ?_
  refine so_move (v := (.v (.bool (decide (a1 ≤ a0))))) rfl ?_
  replace h := ofP h; rcases h with ⟨c101, h⟩ | ⟨c101, h⟩
  · refine so_gyes rfl (decide_eq_true c101) ?_
    refine so_move (v := (.v (.int .i64 a0))) rfl ?_
    refine so_gyes rfl (decide_eq_true c101) ?_
    refine so_move (v := (.v (.int .i64 a2))) rfl ?_
    refine so_gyes rfl (decide_eq_true c101) ?_
    refine so_bin rfl rfl ab_leq ?_
    refine so_pick_t (v := (.v (.bool (decide (a0 ≤ a2))))) rfl (decide_eq_true c101) rfl ?_
    refine so_assign (v := (.v (.bool (decide (a0 ≤ a2))))) rfl ?_
    refine so_nil ?_
    exact by_ret rfl ⟨_, h, rfl, rfl⟩
  · refine so_gno rfl (decide_eq_false c101) ?_
    refine so_gno rfl (decide_eq_false c101) ?_
    refine so_gno rfl (decide_eq_false c101) ?_
    refine so_pick_f (v := (.v (.bool false))) rfl (decide_eq_false c101) rfl ?_
    refine so_assign (v := (.v (.bool false))) rfl ?_
    refine so_nil ?_
    exact by_ret rfl ⟨_, h, rfl, rfl⟩

end Go.Proofs.Ytecdkjnomkdbkaa.G

namespace Go.Proofs.Ytecdkjnomkdbkaa.G
open Go Go.Ab Go.Proofs Go.Proofs.Ytecdkjnomkdbkaa
set_option maxRecDepth 100000
set_option linter.unusedVariables false
set_option linter.unusedSimpArgs false
set_option maxHeartbeats 1000000
attribute [local irreducible] wops wopf Go.Ab.Fin
theorem F74.ag2 : tagg Try.prog 2 = some false := by kernel_rfl
theorem F74.ti22 : (telem Try.prog 22).isSome = true := by kernel_rfl
theorem F74.tl22 : (telem Try.prog 22).bind (tsz Try.prog) = some 1 := by kernel_rfl
theorem spec_l02Bound_ok {fr : List Pc} {H : Heap} (v0 : AV) (l0 : List (Int)) (a1 : Int) (hs : Sep H (fr)) (g0 : ∀ H, Sep H fr → Shows H v0 1 (enc (eInt .i64) l0)) (K : Bool → Prop) (h : spec_l02Bound.wp l0 a1 K) : OkQ Try.prog 74 [(.v v0), (.v (.int .i64 a1))] H (fun r H2 => ∃ (y0 : Bool), K y0 ∧ r = (.v (.bool y0)) ∧ H = H2) := by
  unfold spec_l02Bound.wp at h
  refine of_body Try.f74 F.hm Try.func74 rfl Try.call74 (by kernel_rfl) (by simp) ?_
  refine fi_seq ?_
  refine fi_region ?_
  refine so_assign (v := (.v (.bool false))) rfl ?_
  refine so_nil ?_
  refine fi_seq ?_
  refine fi_seq ?_
  refine fi_region ?_
  refine so_assign (v := (.v (.int .i64 (0 : Int)))) rfl ?_
  refine so_nil ?_
  refine fi_block ?_
  refine fi_loop ?_
  refine fi_at [(0, (.v v0)), (1, (.v (.int .i64 a1))), (5, (.v (.int .i64 (0 : Int))))] ⟨rfl, rfl, rfl, trivial⟩ ?_
  refine h (fun (i102 : Int) => ∀ (s : Nat → TV), Fin _ _ (updL s [(0, (.v v0)), (1, (.v (.int .i64 a1))), (5, (.v (.int .i64 i102)))]) _ _) ?_ _
  intro i102 h s108
  refine fi_inLoop ?_
  refine fi_seq ?_
  refine fi_seq ?_
  refine fi_region ?_
  refine so_move (v := (.v (.int .i64 i102))) rfl ?_
  refine so_move (v := (.v v0)) rfl ?_
  refine sv_len (g0 _ hs) (fun _ => rfl) (by decide) rfl F74.ti22 ?_
  refine so_bin rfl rfl ab_lss ?_
  refine so_nil ?_
  replace h := ofP h; rcases h with ⟨c103, h⟩ | ⟨c103, h⟩
  · refine fi_true rfl (decide_eq_true c103) ?_
    refine fi_skip ?_
    refine fi_seq ?_
    refine fi_block ?_
    refine fi_seq ?_
    refine fi_region ?_
    refine so_move (v := (.v v0)) rfl ?_
    refine so_move (v := (.v (.int .i64 i102))) rfl ?_
    obtain ⟨c104, h⟩ := h
    refine sv_idx (g0 _ hs) c104 (fun _ => rfl) (by decide) rfl rfl F74.tl22 ?_
    refine sv_cell (g0 _ hs) c104 (0 : Int) 0 (fun x => (AV.int .i64 x)) (fun _ => rfl) (fun _ => rfl) rfl F74.ag2 ?_
    refine so_move (v := (.v (.int .i64 a1))) rfl ?_
    refine so_un rfl au_neg ?_
    refine so_move (v := (.v (.int .i64 a1))) rfl ?_
    refine sv_callS (spec_l00In_ok (l0.getD (i102).toNat (0 : Int)) (IntKind.i64.wrap (0 - a1)) a1 hs  _ h) (fun _ _ ⟨_, _, _, e⟩ => e) rfl rfl ?_
    clear h
    rintro _ _ ⟨y105, h, rfl, rfl⟩
    refine so_un rfl au_not ?_
    refine so_nil ?_
    replace h := ofT h; rcases h with ⟨c107, h⟩ | ⟨c107, h⟩
    · refine fi_false rfl (not_f c107) ?_
      refine fi_skip ?_
      refine fi_inBlock ?_
      refine fi_region ?_
      refine so_move (v := (.v (.int .i64 i102))) rfl ?_
      refine so_bin rfl rfl ab_add ?_
      refine so_assign (v := (.v (.int .i64 (IntKind.i64.wrap (i102 + (1 : Int)))))) rfl ?_
      refine so_nil ?_
      exact fi_at [(0, (.v v0)), (1, (.v (.int .i64 a1))), (5, (.v (.int .i64 (IntKind.i64.wrap (i102 + (1 : Int))))))] ⟨rfl, rfl, rfl, trivial⟩ (h _)
    · refine fi_true rfl (not_t c107) ?_
      refine fi_seq ?_
      refine fi_region ?_
      refine so_assign (v := (.v (.bool false))) rfl ?_
      refine so_nil ?_
      exact by_ret rfl ⟨_, h, rfl, rfl⟩
  · refine fi_false rfl (decide_eq_false c103) ?_
    refine fi_exit rfl ?_
    refine fi_seq ?_
    refine fi_region ?_
    refine so_assign (v := (.v (.bool true))) rfl ?_
    refine so_nil ?_
    exact by_ret rfl ⟨_, h, rfl, rfl⟩

end Go.Proofs.Ytecdkjnomkdbkaa.G

namespace Go.Proofs.Ytecdkjnomkdbkaa.G
open Go Go.Ab Go.Proofs Go.Proofs.Ytecdkjnomkdbkaa
set_option maxRecDepth 100000
set_option linter.unusedVariables false
set_option linter.unusedSimpArgs false
set_option maxHeartbeats 1000000
attribute [local irreducible] wops wopf Go.Ab.Fin
theorem F35.ti22 : (telem Try.prog 22).isSome = true := by kernel_rfl
theorem spec_l02Integers_ok {fr : List Pc} {H : Heap} (v0 : AV) (l0 : List (Int)) (hs : Sep H (fr)) (g0 : ∀ H, Sep H fr → Shows H v0 1 (enc (eInt .i64) l0)) (K : Bool → Prop) (h : spec_l02Integers.wp l0 K) : OkQ Try.prog 35 [(.v v0)] H (fun r H2 => ∃ (y0 : Bool), K y0 ∧ r = (.v (.bool y0)) ∧ H = H2) := by
  unfold spec_l02Integers.wp at h
  refine of_body Try.f35 F.hm Try.func35 rfl Try.call35 (by kernel_rfl) (by simp) ?_
  refine fi_seq ?_
  refine fi_region ?_
  refine so_assign (v := (.v (.bool false))) rfl ?_
  refine so_nil ?_
  refine fi_seq ?_
  refine fi_region ?_
  refine so_move (v := (.v v0)) rfl ?_
  refine sv_len (g0 _ hs) (fun _ => rfl) (by decide) rfl F35.ti22 ?_
  refine so_bin rfl rfl ab_geq ?_
  refine so_move (v := (.v (.bool (decide ((1 : Int) ≤ (l0.length : Int)))))) rfl ?_
  replace h := ofP h; rcases h with ⟨c101, h⟩ | ⟨c101, h⟩
  · refine so_gyes rfl (decide_eq_true c101) ?_
    refine so_move (v := (.v v0)) rfl ?_
    refine so_gyes rfl (decide_eq_true c101) ?_
    refine sv_len (g0 _ hs) (fun _ => rfl) (by decide) rfl F35.ti22 ?_
    refine so_gyes rfl (decide_eq_true c101) ?_
    refine so_bin rfl rfl ab_leq ?_
    refine so_pick_t (v := (.v (.bool (decide ((l0.length : Int) ≤ (128 : Int)))))) rfl (decide_eq_true c101) rfl ?_
    refine so_move (v := (.v (.bool (decide ((l0.length : Int) ≤ (128 : Int)))))) rfl ?_
    replace h := ofP h; rcases h with ⟨c102, h⟩ | ⟨c102, h⟩
    · refine so_gyes rfl (decide_eq_true c102) ?_
      refine so_move (v := (.v v0)) rfl ?_
      refine so_gyes rfl (decide_eq_true c102) ?_
      refine sv_callS (spec_l02Bound_ok v0 l0 (1000000 : Int) hs (fun _ hs => (g0 _ hs)) _ h) (fun _ _ ⟨_, _, _, e⟩ => e) rfl rfl ?_
      clear h
      rintro _ _ ⟨y103, h, rfl, rfl⟩
      refine so_pick_t (v := (.v (.bool y103))) rfl (decide_eq_true c102) rfl ?_
      refine so_assign (v := (.v (.bool y103))) rfl ?_
      refine so_nil ?_
      exact by_ret rfl ⟨_, h, rfl, rfl⟩
    · refine so_gno rfl (decide_eq_false c102) ?_
      refine so_gno rfl (decide_eq_false c102) ?_
      refine so_pick_f (v := (.v (.bool false))) rfl (decide_eq_false c102) rfl ?_
      refine so_assign (v := (.v (.bool false))) rfl ?_
      refine so_nil ?_
      exact by_ret rfl ⟨_, h, rfl, rfl⟩
  · refine so_gno rfl (decide_eq_false c101) ?_
    refine so_gno rfl (decide_eq_false c101) ?_
    refine so_gno rfl (decide_eq_false c101) ?_
    refine so_pick_f (v := (.v (.bool false))) rfl (decide_eq_false c101) rfl ?_
    refine so_move (v := (.v (.bool false))) rfl ?_
    refine so_gno rfl rfl ?_
    refine so_gno rfl rfl ?_
    refine so_pick_f (v := (.v (.bool false))) rfl rfl rfl ?_
    refine so_assign (v := (.v (.bool false))) rfl ?_
    refine so_nil ?_
    exact by_ret rfl ⟨_, h, rfl, rfl⟩

end Go.Proofs.Ytecdkjnomkdbkaa.G

namespace Go.Proofs.Ytecdkjnomkdbkaa.G
open Go Go.Ab Go.Proofs Go.Proofs.Ytecdkjnomkdbkaa
set_option maxRecDepth 100000
set_option linter.unusedVariables false
set_option linter.unusedSimpArgs false
set_option maxHeartbeats 1000000
attribute [local irreducible] wops wopf Go.Ab.Fin
theorem F75.fl23 : tflt Try.prog 23 = some .f32 := by kernel_rfl
theorem F75.in23 : tint Try.prog 23 = none := by kernel_rfl
theorem F75.us28 : (Try.prog.underlying 28).isSome = true := by kernel_rfl
theorem spec_l01Narrow_ok {fr : List Pc} {H : Heap} (a0 : Nat) (hs : Sep H (fr))  (K : Nat → Prop) (h : spec_l01Narrow.wp a0 K) : OkQ Try.prog 75 [(.v (.flt .f64 a0))] H (fun r H2 => ∃ (y0 : Nat), K y0 ∧ r = (.v (.flt .f32 y0)) ∧ H = H2) := by
  unfold spec_l01Narrow.wp at h
  refine of_body Try.f75 F.hm Try.func75 rfl Try.call75 (by kernel_rfl) (by simp) ?_
  refine fi_seq ?_
  refine fi_region ?_
  refine so_assign (v := (.v (.flt .f32 (cz .f32 0)))) rfl ?_
  refine so_nil ?_
  refine fi_seq ?_
  refine fi_region ?_
  refine so_move (v := (.v (.flt .f64 a0))) rfl ?_
  obtain ⟨c101, h⟩ := h
  refine sv_ffn c101 rfl F75.us28 F75.in23 F75.fl23 ?_
  refine so_assign (v := (.v (.flt .f32 (narrow a0)))) rfl ?_
  refine so_nil ?_
  exact by_ret rfl ⟨_, h, rfl, rfl⟩

end Go.Proofs.Ytecdkjnomkdbkaa.G

namespace Go.Proofs.Ytecdkjnomkdbkaa.G
open Go Go.Ab Go.Proofs Go.Proofs.Ytecdkjnomkdbkaa
set_option maxRecDepth 100000
set_option linter.unusedVariables false
set_option linter.unusedSimpArgs false
set_option maxHeartbeats 1000000
attribute [local irreducible] wops wopf Go.Ab.Fin
theorem F99.xb99 : Try.f99.body = none := rfl
theorem F99.xe99 : Extern.find Try.f99 = some Extern.MathFloatBits.float64frombits := by rfl
theorem F99.xf99 : (Extern.findNext Try.f99).isNone = true := by kernel_rfl
theorem F99.xn99 : (Try.f99.name == "runtime.NumGoroutine") = false := by kernel_rfl
theorem math_Float64frombits_ok {fr : List Pc} {H : Heap} (x : Int) (hs : Sep H fr) (K : Nat → Prop) (h : math_Float64frombits.wp x K) : OkQ Try.prog 99 [(.v (.int .u64 x))] H (fun r H2 => ∃ y0 : Nat, K y0 ∧ r = (.v (.flt .f64 y0)) ∧ H = H2) := ⟨_, _, f64from_ok Try.func99 F99.xn99 F99.xb99 F99.xf99 F99.xe99 x, _, h, rfl, rfl⟩

end Go.Proofs.Ytecdkjnomkdbkaa.G

namespace Go.Proofs.Ytecdkjnomkdbkaa.G
open Go Go.Ab Go.Proofs Go.Proofs.Ytecdkjnomkdbkaa
set_option maxRecDepth 100000
set_option linter.unusedVariables false
set_option linter.unusedSimpArgs false
set_option maxHeartbeats 1000000
attribute [local irreducible] wops wopf Go.Ab.Fin
theorem math_Inf_ok {fr : List Pc} {H : Heap} (a0 : Int) (hs : Sep H (fr))  (K : Nat → Prop) (h : math_Inf.wp a0 K) : OkQ Try.prog 78 [(.v (.int .i64 a0))] H (fun r H2 => ∃ (y0 : Nat), K y0 ∧ r = (.v (.flt .f64 y0)) ∧ H = H2) := by
  unfold math_Inf.wp at h
  refine of_body Try.f78 F.hm Try.func78 rfl Try.call78 (by kernel_rfl) (by simp) ?_
  refine fi_seq ?_
  refine fi_region ?_
  refine so_assign (v := (.v (.flt .f64 (cz .f64 0)))) rfl ?_
  refine so_nil ?_
  refine fi_seq ?_
  refine fi_region ?_
  refine so_assign (v := (.v (.int .u64 (0 : Int)))) rfl ?_
  refine so_nil ?_
  refine fi_seq ?_
  refine fi_seq ?_
  refine fi_region ?_
  refine so_move (v := (.v (.int .i64 a0))) rfl ?_
  refine so_bin rfl rfl ab_geq ?_
  refine so_nil ?_
  replace h := ofP h; rcases h with ⟨c101, h⟩ | ⟨c101, h⟩
  · refine fi_true rfl (decide_eq_true c101) ?_
    refine fi_region ?_
    refine so_assign (v := (.v (.int .u64 (9218868437227405312 : Int)))) rfl ?_
    refine so_nil ?_
    refine fi_seq ?_
    refine fi_region ?_
    refine so_move (v := (.v (.int .u64 (9218868437227405312 : Int)))) rfl ?_
    refine sv_callS (math_Float64frombits_ok (9218868437227405312 : Int) hs  _ h) (fun _ _ ⟨_, _, _, e⟩ => e) rfl rfl ?_
    clear h
    rintro _ _ ⟨y102, h, rfl, rfl⟩
    refine so_assign (v := (.v (.flt .f64 y102))) rfl ?_
    refine so_nil ?_
    exact by_ret rfl ⟨_, h, rfl, rfl⟩
  · refine fi_false rfl (decide_eq_false c101) ?_
    refine fi_region ?_
    refine so_assign (v := (.v (.int .u64 (18442240474082181120 : Int)))) rfl ?_
    refine so_nil ?_
    refine fi_seq ?_
    refine fi_region ?_
    refine so_move (v := (.v (.int .u64 (18442240474082181120 : Int)))) rfl ?_
    refine sv_callS (math_Float64frombits_ok (18442240474082181120 : Int) hs  _ h) (fun _ _ ⟨_, _, _, e⟩ => e) rfl rfl ?_
    clear h
    rintro _ _ ⟨y104, h, rfl, rfl⟩
    refine so_assign (v := (.v (.flt .f64 y104))) rfl ?_
    refine so_nil ?_
    exact by_ret rfl ⟨_, h, rfl, rfl⟩

end Go.Proofs.Ytecdkjnomkdbkaa.G

namespace Go.Proofs.Ytecdkjnomkdbkaa.G
open Go Go.Ab Go.Proofs Go.Proofs.Ytecdkjnomkdbkaa
set_option maxRecDepth 100000
set_option linter.unusedVariables false
set_option linter.unusedSimpArgs false
set_option maxHeartbeats 1000000
attribute [local irreducible] wops wopf Go.Ab.Fin
theorem math_NaN_ok {fr : List Pc} {H : Heap}  (hs : Sep H (fr))  (K : Nat → Prop) (h : math_NaN.wp  K) : OkQ Try.prog 79 [] H (fun r H2 => ∃ (y0 : Nat), K y0 ∧ r = (.v (.flt .f64 y0)) ∧ H = H2) := by
  unfold math_NaN.wp at h
  refine of_body Try.f79 F.hm Try.func79 rfl Try.call79 (by kernel_rfl) (by simp) ?_
  refine fi_seq ?_
  refine fi_region ?_
  refine so_assign (v := (.v (.flt .f64 (cz .f64 0)))) rfl ?_
  refine so_nil ?_
  refine fi_seq ?_
  refine fi_region ?_
  refine sv_callS (math_Float64frombits_ok (9221120237041090561 : Int) hs  _ h) (fun _ _ ⟨_, _, _, e⟩ => e) rfl rfl ?_
  clear h
  rintro _ _ ⟨y101, h, rfl, rfl⟩
  refine so_assign (v := (.v (.flt .f64 y101))) rfl ?_
  refine so_nil ?_
  exact by_ret rfl ⟨_, h, rfl, rfl⟩

end Go.Proofs.Ytecdkjnomkdbkaa.G

namespace Go.Proofs.Ytecdkjnomkdbkaa.G
open Go Go.Ab Go.Proofs Go.Proofs.Ytecdkjnomkdbkaa
set_option maxRecDepth 100000
set_option linter.unusedVariables false
set_option linter.unusedSimpArgs false
set_option maxHeartbeats 1000000
attribute [local irreducible] wops wopf Go.Ab.Fin
theorem F114.xb114 : Try.f114.body = none := rfl
theorem F114.xe114 : Extern.find Try.f114 = some Extern.MathFloatBits.float64bits := by rfl
theorem F114.xf114 : (Extern.findNext Try.f114).isNone = true := by kernel_rfl
theorem F114.xn114 : (Try.f114.name == "runtime.NumGoroutine") = false := by kernel_rfl
theorem math_Float64bits_ok {fr : List Pc} {H : Heap} (x : Nat) (hs : Sep H fr) (K : Int → Prop) (h : math_Float64bits.wp x K) : OkQ Try.prog 114 [(.v (.flt .f64 x))] H (fun r H2 => ∃ y0 : Int, K y0 ∧ r = (.v (.int .u64 y0)) ∧ H = H2) := ⟨_, _, f64bits_ok Try.func114 F114.xn114 F114.xb114 F114.xf114 F114.xe114 x h.1, _, h.2, rfl, rfl⟩

end Go.Proofs.Ytecdkjnomkdbkaa.G

namespace Go.Proofs.Ytecdkjnomkdbkaa.G
open Go Go.Ab Go.Proofs Go.Proofs.Ytecdkjnomkdbkaa
set_option maxRecDepth 100000
set_option linter.unusedVariables false
set_option linter.unusedSimpArgs false
set_option maxHeartbeats 1000000
attribute [local irreducible] wops wopf Go.Ab.Fin
theorem math_Abs_ok {fr : List Pc} {H : Heap} (a0 : Nat) (hs : Sep H (fr))  (K : Nat → Prop) (h : math_Abs.wp a0 K) : OkQ Try.prog 110 [(.v (.flt .f64 a0))] H (fun r H2 => ∃ (y0 : Nat), K y0 ∧ r = (.v (.flt .f64 y0)) ∧ H = H2) := by
  unfold math_Abs.wp at h
  refine of_body Try.f110 F.hm Try.func110 rfl Try.call110 (by kernel_rfl) (by simp) ?_
  refine fi_seq ?_
  refine fi_region ?_
  refine so_assign (v := (.v (.flt .f64 (cz .f64 0)))) rfl ?_
  refine so_nil ?_
  refine fi_seq ?_
  refine fi_region ?_
  refine so_move (v := (.v (.flt .f64 a0))) rfl ?_
  refine sv_callS (math_Float64bits_ok a0 hs  _ h) (fun _ _ ⟨_, _, _, e⟩ => e) rfl rfl ?_
  clear h
  rintro _ _ ⟨y101, h, rfl, rfl⟩
  refine so_bin rfl rfl ab_andNot ?_
  refine sv_callS (math_Float64frombits_ok (ibits .andNot .u64 y101 (9223372036854775808 : Int)) hs  _ h) (fun _ _ ⟨_, _, _, e⟩ => e) rfl rfl ?_
  clear h
  rintro _ _ ⟨y103, h, rfl, rfl⟩
  refine so_assign (v := (.v (.flt .f64 y103))) rfl ?_
  refine so_nil ?_
  exact by_ret rfl ⟨_, h, rfl, rfl⟩

end Go.Proofs.Ytecdkjnomkdbkaa.G

namespace Go.Proofs.Ytecdkjnomkdbkaa.G
open Go Go.Ab Go.Proofs Go.Proofs.Ytecdkjnomkdbkaa
set_option maxRecDepth 100000
set_option linter.unusedVariables false
set_option linter.unusedSimpArgs false
set_option maxHeartbeats 1000000
attribute [local irreducible] wops wopf Go.Ab.Fin
theorem math_IsInf_ok {fr : List Pc} {H : Heap} (a0 : Nat) (a1 : Int) (hs : Sep H (fr))  (K : Bool → Prop) (h : math_IsInf.wp a0 a1 K) : OkQ Try.prog 98 [(.v (.flt .f64 a0)), (.v (.int .i64 a1))] H (fun r H2 => ∃ (y0 : Bool), K y0 ∧ r = (.v (.bool y0)) ∧ H = H2) := by
  unfold math_IsInf.wp at h
  refine of_body Try.f98 F.hm Try.func98 rfl Try.call98 (by kernel_rfl) (by simp) ?_
  refine fi_seq ?_
  refine fi_region ?_
  refine so_assign (v := (.v (.bool false))) rfl ?_
  refine so_nil ?_
  refine fi_seq ?_
  refine fi_seq ?_
  refine fi_region ?_
  refine so_move (v := (.v (.int .i64 a1))) rfl ?_
  refine so_bin rfl rfl ab_eql ?_
  refine so_nil ?_
  replace h := ofP h; rcases h with ⟨c101, h⟩ | ⟨c101, h⟩
  · refine fi_true rfl (decide_eq_true c101) ?_
    refine fi_region ?_
    refine so_move (v := (.v (.flt .f64 a0))) rfl ?_
    refine sv_callS (math_Abs_ok a0 hs  _ h) (fun _ _ ⟨_, _, _, e⟩ => e) rfl rfl ?_
    clear h
    rintro _ _ ⟨y102, h, rfl, rfl⟩
    refine so_assign (v := (.v (.flt .f64 y102))) rfl ?_
    refine so_nil ?_
    refine fi_seq ?_
    refine fi_region ?_
    refine so_move (v := (.v (.flt .f64 y102))) rfl ?_
    refine so_bin rfl rfl ab_fgtr ?_
    refine so_assign (v := (.v (.bool (fcmp .gtr .f64 y102 (cz .f64 9218868437227405311))))) rfl ?_
    refine so_nil ?_
    exact by_ret rfl ⟨_, h, rfl, rfl⟩
  · refine fi_false rfl (decide_eq_false c101) ?_
    refine fi_seq ?_
    refine fi_region ?_
    refine so_move (v := (.v (.int .i64 a1))) rfl ?_
    refine so_bin rfl rfl ab_lss ?_
    refine so_nil ?_
    replace h := ofP h; rcases h with ⟨c104, h⟩ | ⟨c104, h⟩
    · refine fi_true rfl (decide_eq_true c104) ?_
      refine fi_region ?_
      refine so_move (v := (.v (.flt .f64 a0))) rfl ?_
      refine so_un rfl au_fneg' ?_
      refine so_assign (v := (.v (.flt .f64 (fneg .f64 a0)))) rfl ?_
      refine so_nil ?_
      refine fi_seq ?_
      refine fi_region ?_
      refine so_move (v := (.v (.flt .f64 (fneg .f64 a0)))) rfl ?_
      refine so_bin rfl rfl ab_fgtr ?_
      refine so_assign (v := (.v (.bool (fcmp .gtr .f64 (fneg .f64 a0) (cz .f64 9218868437227405311))))) rfl ?_
      refine so_nil ?_
      exact by_ret rfl ⟨_, h, rfl, rfl⟩
    · refine fi_false rfl (decide_eq_false c104) ?_
      refine fi_skip ?_
      refine fi_seq ?_
      refine fi_region ?_
      refine so_move (v := (.v (.flt .f64 a0))) rfl ?_
      refine so_bin rfl rfl ab_fgtr ?_
      refine so_assign (v := (.v (.bool (fcmp .gtr .f64 a0 (cz .f64 9218868437227405311))))) rfl ?_
      refine so_nil ?_
      exact by_ret rfl ⟨_, h, rfl, rfl⟩

end Go.Proofs.Ytecdkjnomkdbkaa.G

namespace Go.Proofs.Ytecdkjnomkdbkaa.G
open Go Go.Ab Go.Proofs Go.Proofs.Ytecdkjnomkdbkaa
set_option maxRecDepth 100000
set_option linter.unusedVariables false
set_option linter.unusedSimpArgs false
set_option maxHeartbeats 1000000
attribute [local irreducible] wops wopf Go.Ab.Fin
theorem F76.fl28 : tflt Try.prog 28 = some .f64 := by kernel_rfl
theorem F76.in28 : tint Try.prog 28 = none := by kernel_rfl
theorem F76.us3 : (Try.prog.underlying 3).isSome = true := by kernel_rfl
theorem spec_l01LogWide_ok {fr : List Pc} {H : Heap} (a0 : Nat) (hs : Sep H (fr))  (K : Nat → Prop) (h : spec_l01LogWide.wp a0 K) : OkQ Try.prog 76 [(.v (.flt .f64 a0))] H (fun r H2 => ∃ (y0 : Nat), K y0 ∧ r = (.v (.flt .f64 y0)) ∧ H = H2) := by
  unfold spec_l01LogWide.wp at h
  refine of_body Try.f76 F.hm Try.func76 rfl Try.call76 (by kernel_rfl) (by simp) ?_
  refine fi_seq ?_
  refine fi_region ?_
  refine so_assign (v := (.v (.flt .f64 (cz .f64 0)))) rfl ?_
  refine so_nil ?_
  refine fi_seq ?_
  refine fi_block ?_
  refine fi_seq ?_
  refine fi_region ?_
  refine so_move (v := (.v (.flt .f64 a0))) rfl ?_
  refine so_move (v := (.v (.flt .f64 a0))) rfl ?_
  refine so_bin rfl rfl ab_fneq ?_
  refine so_move (v := (.v (.bool (fcmp .neq .f64 a0 a0)))) rfl ?_
  replace h := ofT h; rcases h with ⟨c101, h⟩ | ⟨c101, h⟩
  · refine so_gno rfl c101 ?_
    refine so_gno rfl c101 ?_
    refine so_pick_t (v := (.v (.bool true))) rfl c101 rfl ?_
    refine so_assign (v := (.v (.bool true))) rfl ?_
    refine so_nil ?_
    refine fi_true rfl rfl ?_
    refine fi_seq ?_
    refine fi_region ?_
    refine sv_callS (math_NaN_ok  hs  _ h) (fun _ _ ⟨_, _, _, e⟩ => e) rfl rfl ?_
    clear h
    rintro _ _ ⟨y102, h, rfl, rfl⟩
    refine so_assign (v := (.v (.flt .f64 y102))) rfl ?_
    refine so_nil ?_
    exact by_ret rfl ⟨_, h, rfl, rfl⟩
  · refine so_gyes rfl c101 ?_
    refine so_move (v := (.v (.flt .f64 a0))) rfl ?_
    refine so_gyes rfl c101 ?_
    refine so_bin rfl rfl ab_flss ?_
    refine so_pick_f (v := (.v (.bool (fcmp .lss .f64 a0 (cz .f64 0))))) rfl c101 rfl ?_
    refine so_assign (v := (.v (.bool (fcmp .lss .f64 a0 (cz .f64 0))))) rfl ?_
    refine so_nil ?_
    replace h := ofT h; rcases h with ⟨c104, h⟩ | ⟨c104, h⟩
    · refine fi_true rfl c104 ?_
      refine fi_seq ?_
      refine fi_region ?_
      refine sv_callS (math_NaN_ok  hs  _ h) (fun _ _ ⟨_, _, _, e⟩ => e) rfl rfl ?_
      clear h
      rintro _ _ ⟨y105, h, rfl, rfl⟩
      refine so_assign (v := (.v (.flt .f64 y105))) rfl ?_
      refine so_nil ?_
      exact by_ret rfl ⟨_, h, rfl, rfl⟩
    · refine fi_false rfl c104 ?_
      refine fi_seq ?_
      refine fi_region ?_
      refine so_move (v := (.v (.flt .f64 a0))) rfl ?_
      refine so_bin rfl rfl ab_feql ?_
      refine so_assign (v := (.v (.bool (fcmp .eql .f64 a0 (cz .f64 0))))) rfl ?_
      refine so_nil ?_
      replace h := ofT h; rcases h with ⟨c107, h⟩ | ⟨c107, h⟩
      · refine fi_true rfl c107 ?_
        refine fi_seq ?_
        refine fi_region ?_
        refine sv_callS (math_Inf_ok (-1 : Int) hs  _ h) (fun _ _ ⟨_, _, _, e⟩ => e) rfl rfl ?_
        clear h
        rintro _ _ ⟨y108, h, rfl, rfl⟩
        refine so_assign (v := (.v (.flt .f64 y108))) rfl ?_
        refine so_nil ?_
        exact by_ret rfl ⟨_, h, rfl, rfl⟩
      · refine fi_false rfl c107 ?_
        refine fi_seq ?_
        refine fi_region ?_
        refine so_move (v := (.v (.flt .f64 a0))) rfl ?_
        refine sv_callS (math_IsInf_ok a0 (1 : Int) hs  _ h) (fun _ _ ⟨_, _, _, e⟩ => e) rfl rfl ?_
        clear h
        rintro _ _ ⟨y110, h, rfl, rfl⟩
        refine so_assign (v := (.v (.bool y110))) rfl ?_
        refine so_nil ?_
        replace h := ofT h; rcases h with ⟨c112, h⟩ | ⟨c112, h⟩
        · refine fi_true rfl c112 ?_
          refine fi_seq ?_
          refine fi_region ?_
          refine so_move (v := (.v (.flt .f64 a0))) rfl ?_
          refine so_assign (v := (.v (.flt .f64 a0))) rfl ?_
          refine so_nil ?_
          exact by_ret rfl ⟨_, h, rfl, rfl⟩
        · refine fi_false rfl c112 ?_
          refine fi_skip ?_
          refine fi_inBlock ?_
          refine fi_seq ?_
          refine fi_region ?_
          refine so_assign (v := (.v (.int .i64 (0 : Int)))) rfl ?_
          refine so_nil ?_
          refine fi_seq ?_
          refine fi_block ?_
          refine fi_loop ?_
          refine fi_at [(0, (.v (.flt .f64 a0))), (3, (.v (.int .i64 (0 : Int))))] ⟨rfl, rfl, trivial⟩ ?_
          refine h (fun (y114 : Nat) (e115 : Int) => ∀ (s : Nat → TV), Fin _ _ (updL s [(0, (.v (.flt .f64 y114))), (3, (.v (.int .i64 e115)))]) _ _) ?_ _
          intro y114 e115 h s129
          refine fi_inLoop ?_
          refine fi_seq ?_
          refine fi_seq ?_
          refine fi_region ?_
          refine so_move (v := (.v (.flt .f64 y114))) rfl ?_
          refine so_bin rfl rfl ab_fgeq ?_
          refine so_nil ?_
          replace h := ofT h; rcases h with ⟨c116, h⟩ | ⟨c116, h⟩
          · refine fi_true rfl c116 ?_
            refine fi_skip ?_
            refine fi_block ?_
            refine fi_seq ?_
            refine fi_region ?_
            refine so_move (v := (.v (.flt .f64 y114))) rfl ?_
            refine so_bin rfl rfl ab_fquo ?_
            refine so_assign (v := (.v (.flt .f64 (fop .quo .f64 y114 (cz .f64 4611686018427387904))))) rfl ?_
            refine so_nil ?_
            refine fi_region ?_
            refine so_move (v := (.v (.int .i64 e115))) rfl ?_
            refine so_bin rfl rfl ab_add ?_
            refine so_assign (v := (.v (.int .i64 (IntKind.i64.wrap (e115 + (1 : Int)))))) rfl ?_
            refine so_nil ?_
            refine fi_inBlock ?_
            exact fi_at [(0, (.v (.flt .f64 (fop .quo .f64 y114 (cz .f64 4611686018427387904))))), (3, (.v (.int .i64 (IntKind.i64.wrap (e115 + (1 : Int))))))] ⟨rfl, rfl, trivial⟩ (h _)
          · refine fi_false rfl c116 ?_
            refine fi_exit rfl ?_
            refine fi_seq ?_
            refine fi_block ?_
            refine fi_loop ?_
            refine fi_at [(0, (.v (.flt .f64 y114))), (3, (.v (.int .i64 e115)))] ⟨rfl, rfl, trivial⟩ ?_
            refine h (fun (y118 : Nat) (e119 : Int) => ∀ (s : Nat → TV), Fin _ _ (updL s [(0, (.v (.flt .f64 y118))), (3, (.v (.int .i64 e119)))]) _ _) ?_ _
            intro y118 e119 h s127
            refine fi_inLoop ?_
            refine fi_seq ?_
            refine fi_seq ?_
            refine fi_region ?_
            refine so_move (v := (.v (.flt .f64 y118))) rfl ?_
            refine so_bin rfl rfl ab_flss ?_
            refine so_nil ?_
            replace h := ofT h; rcases h with ⟨c120, h⟩ | ⟨c120, h⟩
            · refine fi_true rfl c120 ?_
              refine fi_skip ?_
              refine fi_block ?_
              refine fi_seq ?_
              refine fi_region ?_
              refine so_move (v := (.v (.flt .f64 y118))) rfl ?_
              refine so_bin rfl rfl ab_fmul ?_
              refine so_assign (v := (.v (.flt .f64 (fop .mul .f64 y118 (cz .f64 4611686018427387904))))) rfl ?_
              refine so_nil ?_
              refine fi_region ?_
              refine so_move (v := (.v (.int .i64 e119))) rfl ?_
              refine so_bin rfl rfl ab_sub ?_
              refine so_assign (v := (.v (.int .i64 (IntKind.i64.wrap (e119 - (1 : Int)))))) rfl ?_
              refine so_nil ?_
              refine fi_inBlock ?_
              exact fi_at [(0, (.v (.flt .f64 (fop .mul .f64 y118 (cz .f64 4611686018427387904))))), (3, (.v (.int .i64 (IntKind.i64.wrap (e119 - (1 : Int))))))] ⟨rfl, rfl, trivial⟩ (h _)
            · refine fi_false rfl c120 ?_
              refine fi_exit rfl ?_
              refine fi_seq ?_
              refine fi_region ?_
              refine so_move (v := (.v (.flt .f64 y118))) rfl ?_
              refine so_bin rfl rfl ab_fsub ?_
              refine so_move (v := (.v (.flt .f64 y118))) rfl ?_
              refine so_bin rfl rfl ab_fadd ?_
              refine so_bin rfl rfl ab_fquo ?_
              refine so_assign (v := (.v (.flt .f64 (fop .quo .f64 (fop .sub .f64 y118 (cz .f64 4607182418800017408)) (fop .add .f64 y118 (cz .f64 4607182418800017408)))))) rfl ?_
              refine so_nil ?_
              refine fi_seq ?_
              refine fi_region ?_
              refine so_move (v := (.v (.flt .f64 (fop .quo .f64 (fop .sub .f64 y118 (cz .f64 4607182418800017408)) (fop .add .f64 y118 (cz .f64 4607182418800017408)))))) rfl ?_
              refine so_move (v := (.v (.flt .f64 (fop .quo .f64 (fop .sub .f64 y118 (cz .f64 4607182418800017408)) (fop .add .f64 y118 (cz .f64 4607182418800017408)))))) rfl ?_
              refine so_bin rfl rfl ab_fmul ?_
              refine so_assign (v := (.v (.flt .f64 (fop .mul .f64 (fop .quo .f64 (fop .sub .f64 y118 (cz .f64 4607182418800017408)) (fop .add .f64 y118 (cz .f64 4607182418800017408))) (fop .quo .f64 (fop .sub .f64 y118 (cz .f64 4607182418800017408)) (fop .add .f64 y118 (cz .f64 4607182418800017408))))))) rfl ?_
              refine so_nil ?_
              refine fi_seq ?_
              refine fi_region ?_
              refine so_assign (v := (.v (.flt .f64 (cz .f64 0)))) rfl ?_
              refine so_nil ?_
              refine fi_seq ?_
              refine fi_seq ?_
              refine fi_region ?_
              refine so_assign (v := (.v (.int .i64 (25 : Int)))) rfl ?_
              refine so_nil ?_
              refine fi_block ?_
              refine fi_loop ?_
              refine fi_at [(3, (.v (.int .i64 e119))), (4, (.v (.flt .f64 (fop .quo .f64 (fop .sub .f64 y118 (cz .f64 4607182418800017408)) (fop .add .f64 y118 (cz .f64 4607182418800017408)))))), (5, (.v (.flt .f64 (fop .mul .f64 (fop .quo .f64 (fop .sub .f64 y118 (cz .f64 4607182418800017408)) (fop .add .f64 y118 (cz .f64 4607182418800017408))) (fop .quo .f64 (fop .sub .f64 y118 (cz .f64 4607182418800017408)) (fop .add .f64 y118 (cz .f64 4607182418800017408))))))), (6, (.v (.flt .f64 (cz .f64 0)))), (7, (.v (.int .i64 (25 : Int))))] ⟨rfl, rfl, rfl, rfl, rfl, trivial⟩ ?_
              refine h (fun (q122 : Nat) (k123 : Int) => ∀ (s : Nat → TV), Fin _ _ (updL s [(3, (.v (.int .i64 e119))), (4, (.v (.flt .f64 (fop .quo .f64 (fop .sub .f64 y118 (cz .f64 4607182418800017408)) (fop .add .f64 y118 (cz .f64 4607182418800017408)))))), (5, (.v (.flt .f64 (fop .mul .f64 (fop .quo .f64 (fop .sub .f64 y118 (cz .f64 4607182418800017408)) (fop .add .f64 y118 (cz .f64 4607182418800017408))) (fop .quo .f64 (fop .sub .f64 y118 (cz .f64 4607182418800017408)) (fop .add .f64 y118 (cz .f64 4607182418800017408))))))), (6, (.v (.flt .f64 q122))), (7, (.v (.int .i64 k123)))]) _ _) ?_ _
              intro q122 k123 h s125
              refine fi_inLoop ?_
              refine fi_seq ?_
              refine fi_seq ?_
              refine fi_region ?_
              refine so_move (v := (.v (.int .i64 k123))) rfl ?_
              refine so_bin rfl rfl ab_geq ?_
              refine so_nil ?_
              replace h := ofP h; rcases h with ⟨c124, h⟩ | ⟨c124, h⟩
              · refine fi_true rfl (decide_eq_true c124) ?_
                refine fi_skip ?_
                refine fi_seq ?_
                refine fi_block ?_
                refine fi_region ?_
                refine so_move (v := (.v (.int .i64 k123))) rfl ?_
                refine sv_if rfl F76.us3 F76.in28 F76.fl28 ?_
                refine so_bin rfl rfl ab_fquo ?_
                refine so_move (v := (.v (.flt .f64 (fop .mul .f64 (fop .quo .f64 (fop .sub .f64 y118 (cz .f64 4607182418800017408)) (fop .add .f64 y118 (cz .f64 4607182418800017408))) (fop .quo .f64 (fop .sub .f64 y118 (cz .f64 4607182418800017408)) (fop .add .f64 y118 (cz .f64 4607182418800017408))))))) rfl ?_
                refine so_move (v := (.v (.flt .f64 q122))) rfl ?_
                refine so_bin rfl rfl ab_fmul ?_
                refine so_bin rfl rfl ab_fadd ?_
                refine so_assign (v := (.v (.flt .f64 (fop .add .f64 (fop .quo .f64 (cz .f64 4607182418800017408) (itof .f64 k123)) (fop .mul .f64 (fop .mul .f64 (fop .quo .f64 (fop .sub .f64 y118 (cz .f64 4607182418800017408)) (fop .add .f64 y118 (cz .f64 4607182418800017408))) (fop .quo .f64 (fop .sub .f64 y118 (cz .f64 4607182418800017408)) (fop .add .f64 y118 (cz .f64 4607182418800017408)))) q122))))) rfl ?_
                refine so_nil ?_
                refine fi_inBlock ?_
                refine fi_region ?_
                refine so_move (v := (.v (.int .i64 k123))) rfl ?_
                refine so_bin rfl rfl ab_sub ?_
                refine so_assign (v := (.v (.int .i64 (IntKind.i64.wrap (k123 - (2 : Int)))))) rfl ?_
                refine so_nil ?_
                exact fi_at [(3, (.v (.int .i64 e119))), (4, (.v (.flt .f64 (fop .quo .f64 (fop .sub .f64 y118 (cz .f64 4607182418800017408)) (fop .add .f64 y118 (cz .f64 4607182418800017408)))))), (5, (.v (.flt .f64 (fop .mul .f64 (fop .quo .f64 (fop .sub .f64 y118 (cz .f64 4607182418800017408)) (fop .add .f64 y118 (cz .f64 4607182418800017408))) (fop .quo .f64 (fop .sub .f64 y118 (cz .f64 4607182418800017408)) (fop .add .f64 y118 (cz .f64 4607182418800017408))))))), (6, (.v (.flt .f64 (fop .add .f64 (fop .quo .f64 (cz .f64 4607182418800017408) (itof .f64 k123)) (fop .mul .f64 (fop .mul .f64 (fop .quo .f64 (fop .sub .f64 y118 (cz .f64 4607182418800017408)) (fop .add .f64 y118 (cz .f64 4607182418800017408))) (fop .quo .f64 (fop .sub .f64 y118 (cz .f64 4607182418800017408)) (fop .add .f64 y118 (cz .f64 4607182418800017408)))) q122))))), (7, (.v (.int .i64 (IntKind.i64.wrap (k123 - (2 : Int))))))] ⟨rfl, rfl, rfl, rfl, rfl, trivial⟩ (h _)
              · refine fi_false rfl (decide_eq_false c124) ?_
                refine fi_exit rfl ?_
                refine fi_seq ?_
                refine fi_region ?_
                refine so_move (v := (.v (.flt .f64 (fop .quo .f64 (fop .sub .f64 y118 (cz .f64 4607182418800017408)) (fop .add .f64 y118 (cz .f64 4607182418800017408)))))) rfl ?_
                refine so_move (v := (.v (.flt .f64 q122))) rfl ?_
                refine so_bin rfl rfl ab_fmul ?_
                refine so_bin rfl rfl ab_fmul ?_
                refine so_move (v := (.v (.int .i64 e119))) rfl ?_
                refine sv_if rfl F76.us3 F76.in28 F76.fl28 ?_
                refine so_bin rfl rfl ab_fmul ?_
                refine so_bin rfl rfl ab_fadd ?_
                refine so_assign (v := (.v (.flt .f64 (fop .add .f64 (fop .mul .f64 (cz .f64 4611686018427387904) (fop .mul .f64 (fop .quo .f64 (fop .sub .f64 y118 (cz .f64 4607182418800017408)) (fop .add .f64 y118 (cz .f64 4607182418800017408))) q122)) (fop .mul .f64 (itof .f64 e119) (cz .f64 4604418534313441775)))))) rfl ?_
                refine so_nil ?_
                exact by_ret rfl ⟨_, h, rfl, rfl⟩

end Go.Proofs.Ytecdkjnomkdbkaa.G

namespace Go.Proofs.Ytecdkjnomkdbkaa.G
open Go Go.Ab Go.Proofs Go.Proofs.Ytecdkjnomkdbkaa
set_option maxRecDepth 100000
set_option linter.unusedVariables false
set_option linter.unusedSimpArgs false
set_option maxHeartbeats 1000000
attribute [local irreducible] wops wopf Go.Ab.Fin
theorem F36.fl28 : tflt Try.prog 28 = some .f64 := by kernel_rfl
theorem F36.in28 : tint Try.prog 28 = none := by kernel_rfl
theorem F36.us23 : (Try.prog.underlying 23).isSome = true := by kernel_rfl
theorem spec_l01Log_ok {fr : List Pc} {H : Heap} (a0 : Nat) (hs : Sep H (fr))  (K : Nat → Prop) (h : spec_l01Log.wp a0 K) : OkQ Try.prog 36 [(.v (.flt .f32 a0))] H (fun r H2 => ∃ (y0 : Nat), K y0 ∧ r = (.v (.flt .f32 y0)) ∧ H = H2) := by
  unfold spec_l01Log.wp at h
  refine of_body Try.f36 F.hm Try.func36 rfl Try.call36 (by kernel_rfl) (by simp) ?_
  refine fi_seq ?_
  refine fi_region ?_
  refine so_assign (v := (.v (.flt .f32 (cz .f32 0)))) rfl ?_
  refine so_nil ?_
  refine fi_seq ?_
  refine fi_region ?_
  refine so_move (v := (.v (.flt .f32 a0))) rfl ?_
  refine sv_ffw rfl F36.us23 F36.in28 F36.fl28 ?_
  refine sv_callS (spec_l01LogWide_ok (widen a0) hs  _ h) (fun _ _ ⟨_, _, _, e⟩ => e) rfl rfl ?_
  clear h
  rintro _ _ ⟨y101, h, rfl, rfl⟩
  refine sv_callS (spec_l01Narrow_ok y101 hs  _ h) (fun _ _ ⟨_, _, _, e⟩ => e) rfl rfl ?_
  clear h
  rintro _ _ ⟨y103, h, rfl, rfl⟩
  refine so_assign (v := (.v (.flt .f32 y103))) rfl ?_
  refine so_nil ?_
  exact by_ret rfl ⟨_, h, rfl, rfl⟩

end Go.Proofs.Ytecdkjnomkdbkaa.G

namespace Go.Proofs.Ytecdkjnomkdbkaa.G
open Go Go.Ab Go.Proofs Go.Proofs.Ytecdkjnomkdbkaa
set_option maxRecDepth 100000
set_option linter.unusedVariables false
set_option linter.unusedSimpArgs false
set_option maxHeartbeats 1000000
attribute [local irreducible] wops wopf Go.Ab.Fin
theorem spec_l01Finite_ok {fr : List Pc} {H : Heap} (a0 : Nat) (hs : Sep H (fr))  (K : Bool → Prop) (h : spec_l01Finite.wp a0 K) : OkQ Try.prog 44 [(.v (.flt .f32 a0))] H (fun r H2 => ∃ (y0 : Bool), K y0 ∧ r = (.v (.bool y0)) ∧ H = H2) := by
  unfold spec_l01Finite.wp at h
  refine of_body Try.f44 F.hm Try.func44 rfl Try.call44 (by kernel_rfl) (by simp) ?_
  refine fi_seq ?_
  refine fi_region ?_
  refine so_assign (v := (.v (.bool false))) rfl ?_
  refine so_nil ?_
  refine fi_seq ?_
  refine fi_region ?_
  refine so_move (v := (.v (.flt .f32 a0))) rfl ?_
  refine so_move (v := (.v (.flt .f32 a0))) rfl ?_
  refine so_bin rfl rfl ab_fsub ?_
  refine so_bin rfl rfl ab_feql ?_
  refine so_assign (v := (.v (.bool (fcmp .eql .f32 (fop .sub .f32 a0 a0) (cz .f32 0))))) rfl ?_
  refine so_nil ?_
  exact by_ret rfl ⟨_, h, rfl, rfl⟩

end Go.Proofs.Ytecdkjnomkdbkaa.G

namespace Go.Proofs.Ytecdkjnomkdbkaa.G
open Go Go.Ab Go.Proofs Go.Proofs.Ytecdkjnomkdbkaa
set_option maxRecDepth 100000
set_option linter.unusedVariables false
set_option linter.unusedSimpArgs false
set_option maxHeartbeats 1000000
attribute [local irreducible] wops wopf Go.Ab.Fin
theorem spec_l02Number_ok {fr : List Pc} {H : Heap} (a0 : Nat) (hs : Sep H (fr))  (K : Nat → Bool → Prop) (h : spec_l02Number.wp a0 K) : OkQ Try.prog 37 [(.v (.flt .f32 a0))] H (fun r H2 => ∃ (y0 : Nat) (y1 : Bool), K y0 y1 ∧ r = (.t [(.v (.flt .f32 y0)), (.v (.bool y1))]) ∧ H = H2) := by
  unfold spec_l02Number.wp at h
  refine of_body Try.f37 F.hm Try.func37 rfl Try.call37 (by kernel_rfl) (by simp) ?_
  refine fi_seq ?_
  refine fi_region ?_
  refine so_assign (v := (.v (.flt .f32 (cz .f32 0)))) rfl ?_
  refine so_assign (v := (.v (.bool false))) rfl ?_
  refine so_nil ?_
  refine fi_seq ?_
  refine fi_seq ?_
  refine fi_region ?_
  refine so_move (v := (.v (.flt .f32 a0))) rfl ?_
  refine sv_callS (spec_l01Finite_ok a0 hs  _ h) (fun _ _ ⟨_, _, _, e⟩ => e) rfl rfl ?_
  clear h
  rintro _ _ ⟨y101, h, rfl, rfl⟩
  refine so_un rfl au_not ?_
  refine so_nil ?_
  replace h := ofT h; rcases h with ⟨c103, h⟩ | ⟨c103, h⟩
  · refine fi_false rfl (not_f c103) ?_
    refine fi_skip ?_
    refine fi_seq ?_
    refine fi_region ?_
    refine so_move (v := (.v (.flt .f32 a0))) rfl ?_
    refine so_assign (v := (.v (.flt .f32 a0))) rfl ?_
    refine so_assign (v := (.v (.bool true))) rfl ?_
    refine so_nil ?_
    exact by_ret rfl ⟨_, _, h, rfl, rfl⟩
  · refine fi_true rfl (not_t c103) ?_
    refine fi_seq ?_
    refine fi_region ?_
    refine so_assign (v := (.v (.flt .f32 (cz .f32 0)))) rfl ?_
    refine so_assign (v := (.v (.bool false))) rfl ?_
    refine so_nil ?_
    exact by_ret rfl ⟨_, _, h, rfl, rfl⟩

end Go.Proofs.Ytecdkjnomkdbkaa.G

namespace Go.Proofs.Ytecdkjnomkdbkaa.G
open Go Go.Ab Go.Proofs Go.Proofs.Ytecdkjnomkdbkaa
set_option maxRecDepth 100000
set_option linter.unusedVariables false
set_option linter.unusedSimpArgs false
set_option maxHeartbeats 1000000
attribute [local irreducible] wops wopf Go.Ab.Fin
theorem F7.ag2 : tagg Try.prog 2 = some false := by kernel_rfl
theorem F7.fl23 : tflt Try.prog 23 = some .f32 := by kernel_rfl
theorem F7.in23 : tint Try.prog 23 = none := by kernel_rfl
theorem F7.sz2 : tsz Try.prog 2 = some 1 := by kernel_rfl
theorem F7.ta22_22 : tapp Try.prog 22 22 = some (1, 8) := by kernel_rfl
theorem F7.te22 : telem Try.prog 22 = some 2 := by kernel_rfl
theorem F7.ti22 : (telem Try.prog 22).isSome = true := by kernel_rfl
theorem F7.tl22 : (telem Try.prog 22).bind (tsz Try.prog) = some 1 := by kernel_rfl
theorem F7.us2 : (Try.prog.underlying 2).isSome = true := by kernel_rfl
theorem F7.us3 : (Try.prog.underlying 3).isSome = true := by kernel_rfl
theorem F7.ze2 : tzero Try.prog 2 = some [(.int .i64 (0 : Int))] := by kernel_rfl
theorem spec_EntropyOf_ok {fr : List Pc} {H : Heap} (v0 : AV) (l0 : List (Int)) (hs : Sep H (fr)) (g0 : ∀ H, Sep H fr → Shows H v0 1 (enc (eInt .i64) l0)) (K : Nat → Bool → Prop) (h : spec_EntropyOf.wp l0 K) : OkQ Try.prog 7 [(.v v0)] H (fun r H2 => ∃ (y0 : Nat) (y1 : Bool), K y0 y1 ∧ r = (.t [(.v (.flt .f32 y0)), (.v (.bool y1))]) ∧ Sep H2 (fr)) := by
  unfold spec_EntropyOf.wp at h
  refine of_body Try.f7 F.hm Try.func7 rfl Try.call7 (by kernel_rfl) (by simp) ?_
  refine fi_seq ?_
  refine fi_region ?_
  refine so_assign (v := (.v (.flt .f32 (cz .f32 0)))) rfl ?_
  refine so_assign (v := (.v (.bool false))) rfl ?_
  refine so_nil ?_
  refine fi_seq ?_
  refine fi_seq ?_
  refine fi_region ?_
  refine so_move (v := (.v v0)) rfl ?_
  refine sv_callS (spec_l02Integers_ok v0 l0 hs (fun _ hs => (g0 _ hs)) _ h) (fun _ _ ⟨_, _, _, e⟩ => e) rfl rfl ?_
  clear h
  rintro _ _ ⟨y101, h, rfl, rfl⟩
  refine so_un rfl au_not ?_
  refine so_nil ?_
  replace h := ofT h; rcases h with ⟨c103, h⟩ | ⟨c103, h⟩
  · refine fi_false rfl (not_f c103) ?_
    refine fi_skip ?_
    refine fi_seq ?_
    refine fi_region ?_
    refine sv_bslice hs (eInt .i64) ([] : List (Int)) [] F7.te22 F7.sz2 F7.ze2 rfl rfl rfl rfl (fun _ => rfl) rfl (by decide) nofun (fun v104 H105 nv104 hs => ?_)
    refine so_assign (v := (.v v104)) rfl ?_
    refine so_nil ?_
    refine fi_seq ?_
    refine fi_region ?_
    refine sv_bslice hs (eInt .i64) ([] : List (Int)) [] F7.te22 F7.sz2 F7.ze2 rfl rfl rfl rfl (fun _ => rfl) rfl (by decide) nofun (fun v107 H108 nv107 hs => ?_)
    refine so_assign (v := (.v v107)) rfl ?_
    refine so_nil ?_
    refine fi_seq ?_
    refine fi_seq ?_
    refine fi_region ?_
    refine so_assign (v := (.v (.int .i64 (0 : Int)))) rfl ?_
    refine so_nil ?_
    refine fi_block ?_
    refine fi_loop ?_
    refine fi_at [(0, (.v v0)), (4, (.v v104)), (5, (.v v107)), (6, (.v (.int .i64 (0 : Int))))] ⟨rfl, rfl, rfl, rfl, trivial⟩ ?_
    refine h (fun (counts157 : List (Int)) (values159 : List (Int)) (i161 : Int) => ∀ (s : Nat → TV) (H : Heap) (v158 : AV) (nv158 : v158 ≠ .nilsl) (v160 : AV) (nv160 : v160 ≠ .nilsl), Sep H (Pc.osl v158 1 (enc (eInt .i64) counts157) :: Pc.osl v160 1 (enc (eInt .i64) values159) :: fr) → Fin _ _ (updL s [(0, (.v v0)), (4, (.v v160)), (5, (.v v158)), (6, (.v (.int .i64 i161)))]) H _) ?_ _ _ _ nv107 _ nv104 hs
    intro counts157 values159 i161 h s202 H203 v158 nv158 v160 nv160 hs
    refine fi_inLoop ?_
    refine fi_seq ?_
    refine fi_seq ?_
    refine fi_region ?_
    refine so_move (v := (.v (.int .i64 i161))) rfl ?_
    refine so_move (v := (.v v0)) rfl ?_
    refine sv_len (g0 _ hs.tl.tl) (fun _ => rfl) (by decide) rfl F7.ti22 ?_
    refine so_bin rfl rfl ab_lss ?_
    refine so_nil ?_
    replace h := ofP h; rcases h with ⟨c162, h⟩ | ⟨c162, h⟩
    · refine fi_true rfl (decide_eq_true c162) ?_
      refine fi_skip ?_
      refine fi_seq ?_
      refine fi_block ?_
      refine fi_seq ?_
      refine fi_region ?_
      refine so_assign (v := (.v (.int .i64 (-1 : Int)))) rfl ?_
      refine so_nil ?_
      refine fi_seq ?_
      refine fi_seq ?_
      refine fi_region ?_
      refine so_assign (v := (.v (.int .i64 (0 : Int)))) rfl ?_
      refine so_nil ?_
      refine fi_block ?_
      refine fi_loop ?_
      refine fi_at [(0, (.v v0)), (4, (.v v160)), (5, (.v v158)), (6, (.v (.int .i64 i161))), (7, (.v (.int .i64 (-1 : Int)))), (8, (.v (.int .i64 (0 : Int))))] ⟨rfl, rfl, rfl, rfl, rfl, rfl, trivial⟩ ?_
      refine h (fun (atq164 : Int) (k165 : Int) => ∀ (s : Nat → TV) (H : Heap), Sep H (Pc.osl v158 1 (enc (eInt .i64) counts157) :: Pc.osl v160 1 (enc (eInt .i64) values159) :: fr) → Fin _ _ (updL s [(0, (.v v0)), (4, (.v v160)), (5, (.v v158)), (6, (.v (.int .i64 i161))), (7, (.v (.int .i64 atq164))), (8, (.v (.int .i64 k165)))]) H _) ?_ _ _ hs
      intro atq164 k165 h s188 H189 hs
      refine fi_inLoop ?_
      refine fi_seq ?_
      refine fi_seq ?_
      refine fi_region ?_
      refine so_move (v := (.v (.int .i64 k165))) rfl ?_
      refine so_move (v := (.v v160)) rfl ?_
      refine sv_len (hs.shows 1 rfl) (fun _ => rfl) (by decide) rfl F7.ti22 ?_
      refine so_bin rfl rfl ab_lss ?_
      refine so_nil ?_
      replace h := ofP h; rcases h with ⟨c166, h⟩ | ⟨c166, h⟩
      · refine fi_true rfl (decide_eq_true c166) ?_
        refine fi_skip ?_
        refine fi_seq ?_
        refine fi_block ?_
        refine fi_seq ?_
        refine fi_region ?_
        refine so_move (v := (.v v160)) rfl ?_
        refine so_move (v := (.v (.int .i64 k165))) rfl ?_
        obtain ⟨c167, h⟩ := h
        refine sv_idx (hs.shows 1 rfl) c167 (fun _ => rfl) (by decide) rfl rfl F7.tl22 ?_
        refine sv_cell (hs.shows 1 rfl) c167 (0 : Int) 0 (fun x => (AV.int .i64 x)) (fun _ => rfl) (fun _ => rfl) rfl F7.ag2 ?_
        refine so_move (v := (.v v0)) rfl ?_
        refine so_move (v := (.v (.int .i64 i161))) rfl ?_
        obtain ⟨c168, h⟩ := h
        refine sv_idx (g0 _ hs.tl.tl) c168 (fun _ => rfl) (by decide) rfl rfl F7.tl22 ?_
        refine sv_cell (g0 _ hs.tl.tl) c168 (0 : Int) 0 (fun x => (AV.int .i64 x)) (fun _ => rfl) (fun _ => rfl) rfl F7.ag2 ?_
        refine so_bin rfl rfl ab_eql ?_
        refine so_nil ?_
        replace h := ofP h; rcases h with ⟨c169, h⟩ | ⟨c169, h⟩
        · refine fi_true rfl (decide_eq_true c169) ?_
          refine fi_region ?_
          refine so_move (v := (.v (.int .i64 k165))) rfl ?_
          refine so_assign (v := (.v (.int .i64 k165))) rfl ?_
          refine so_nil ?_
          refine fi_inBlock ?_
          refine fi_region ?_
          refine so_move (v := (.v (.int .i64 k165))) rfl ?_
          refine so_bin rfl rfl ab_add ?_
          refine so_assign (v := (.v (.int .i64 (IntKind.i64.wrap (k165 + (1 : Int)))))) rfl ?_
          refine so_nil ?_
          exact fi_at [(0, (.v v0)), (4, (.v v160)), (5, (.v v158)), (6, (.v (.int .i64 i161))), (7, (.v (.int .i64 k165))), (8, (.v (.int .i64 (IntKind.i64.wrap (k165 + (1 : Int))))))] ⟨rfl, rfl, rfl, rfl, rfl, rfl, trivial⟩ (h _ _  hs)
        · refine fi_false rfl (decide_eq_false c169) ?_
          refine fi_skip ?_
          refine fi_inBlock ?_
          refine fi_region ?_
          refine so_move (v := (.v (.int .i64 k165))) rfl ?_
          refine so_bin rfl rfl ab_add ?_
          refine so_assign (v := (.v (.int .i64 (IntKind.i64.wrap (k165 + (1 : Int)))))) rfl ?_
          refine so_nil ?_
          exact fi_at [(0, (.v v0)), (4, (.v v160)), (5, (.v v158)), (6, (.v (.int .i64 i161))), (7, (.v (.int .i64 atq164))), (8, (.v (.int .i64 (IntKind.i64.wrap (k165 + (1 : Int))))))] ⟨rfl, rfl, rfl, rfl, rfl, rfl, trivial⟩ (h _ _  hs)
      · refine fi_false rfl (decide_eq_false c166) ?_
        refine fi_exit rfl ?_
        refine fi_seq ?_
        refine fi_seq ?_
        refine fi_region ?_
        refine so_move (v := (.v (.int .i64 atq164))) rfl ?_
        refine so_bin rfl rfl ab_lss ?_
        refine so_nil ?_
        replace h := ofP h; rcases h with ⟨c170, h⟩ | ⟨c170, h⟩
        · refine fi_true rfl (decide_eq_true c170) ?_
          refine fi_seq ?_
          refine fi_region ?_
          refine so_move (v := (.v v160)) rfl ?_
          refine sv_len (hs.shows 1 rfl) (fun _ => rfl) (by decide) rfl F7.ti22 ?_
          refine so_assign (v := (.v (.int .i64 (values159.length : Int)))) rfl ?_
          refine so_nil ?_
          refine fi_seq ?_
          refine fi_region ?_
          refine so_move (v := (.v v160)) rfl ?_
          refine so_move (v := (.v v0)) rfl ?_
          refine so_move (v := (.v (.int .i64 i161))) rfl ?_
          obtain ⟨c171, h⟩ := h
          refine sv_idx (g0 _ hs.tl.tl) c171 (fun _ => rfl) (by decide) rfl rfl F7.tl22 ?_
          refine sv_cell (g0 _ hs.tl.tl) c171 (0 : Int) 0 (fun x => (AV.int .i64 x)) (fun _ => rfl) (fun _ => rfl) rfl F7.ag2 ?_
          refine sv_bslice hs (eInt .i64) ([(l0.getD (i161).toNat (0 : Int))] : List (Int)) [[(.int .i64 (l0.getD (i161).toNat (0 : Int)))]] F7.te22 F7.sz2 F7.ze2 rfl rfl rfl rfl (fun _ => rfl) rfl (by decide) nofun (fun v172 H173 nv172 hs => ?_)
          obtain ⟨c177, h⟩ := h
          refine sv_app hs 2 rfl (hs.shows 0 rfl) (fun _ => rfl) (by decide) F7.ta22_22 (by decide) c177 rfl rfl nofun (fun v175 H176 kv175 hs => ?_)
          replace hs := hs.del 0
          have nv175 := kv175 nv160
          refine so_assign (v := (.v v175)) rfl ?_
          refine so_nil ?_
          refine fi_region ?_
          refine so_move (v := (.v v158)) rfl ?_
          refine sv_bslice hs (eInt .i64) ([(0 : Int)] : List (Int)) [[(.int .i64 (0 : Int))]] F7.te22 F7.sz2 F7.ze2 rfl rfl rfl rfl (fun _ => rfl) rfl (by decide) nofun (fun v178 H179 nv178 hs => ?_)
          obtain ⟨c183, h⟩ := h
          refine sv_app hs 1 rfl (hs.shows 0 rfl) (fun _ => rfl) (by decide) F7.ta22_22 (by decide) c183 rfl rfl nofun (fun v181 H182 kv181 hs => ?_)
          replace hs := hs.del 0
          have nv181 := kv181 nv158
          refine so_assign (v := (.v v181)) rfl ?_
          refine so_nil ?_
          refine fi_region ?_
          refine so_move (v := (.v v181)) rfl ?_
          refine so_move (v := (.v (.int .i64 (values159.length : Int)))) rfl ?_
          obtain ⟨c184, h⟩ := h
          refine sv_idx (hs.shows 0 rfl) c184 (fun _ => rfl) (by decide) rfl rfl F7.tl22 ?_
          refine sv_cell (hs.shows 0 rfl) c184 (0 : Int) 0 (fun x => (AV.int .i64 x)) (fun _ => rfl) (fun _ => rfl) rfl F7.ag2 ?_
          refine so_bin rfl rfl ab_add ?_
          refine sv_idx (hs.shows 0 rfl) c184 (fun _ => rfl) (by decide) rfl rfl F7.tl22 ?_
          refine sv_set hs 0 rfl c184 (IntKind.i64.wrap (((counts157 ++ ([(0 : Int)] : List (Int))).getD ((values159.length : Int)).toNat (0 : Int)) + (1 : Int))) (fun _ => rfl) (by decide) rfl rfl rfl rfl F7.sz2 nofun (fun H185 hs => ?_)
          refine so_nil ?_
          refine fi_inBlock ?_
          refine fi_region ?_
          refine so_move (v := (.v (.int .i64 i161))) rfl ?_
          refine so_bin rfl rfl ab_add ?_
          refine so_assign (v := (.v (.int .i64 (IntKind.i64.wrap (i161 + (1 : Int)))))) rfl ?_
          refine so_nil ?_
          exact fi_at [(0, (.v v0)), (4, (.v v175)), (5, (.v v181)), (6, (.v (.int .i64 (IntKind.i64.wrap (i161 + (1 : Int))))))] ⟨rfl, rfl, rfl, rfl, trivial⟩ (h _ _ _ nv181 _ nv175 hs)
        · refine fi_false rfl (decide_eq_false c170) ?_
          refine fi_skip ?_
          refine fi_region ?_
          refine so_move (v := (.v v158)) rfl ?_
          refine so_move (v := (.v (.int .i64 atq164))) rfl ?_
          obtain ⟨c186, h⟩ := h
          refine sv_idx (hs.shows 0 rfl) c186 (fun _ => rfl) (by decide) rfl rfl F7.tl22 ?_
          refine sv_cell (hs.shows 0 rfl) c186 (0 : Int) 0 (fun x => (AV.int .i64 x)) (fun _ => rfl) (fun _ => rfl) rfl F7.ag2 ?_
          refine so_bin rfl rfl ab_add ?_
          refine sv_idx (hs.shows 0 rfl) c186 (fun _ => rfl) (by decide) rfl rfl F7.tl22 ?_
          refine sv_set hs 0 rfl c186 (IntKind.i64.wrap ((counts157.getD (atq164).toNat (0 : Int)) + (1 : Int))) (fun _ => rfl) (by decide) rfl rfl rfl rfl F7.sz2 nofun (fun H187 hs => ?_)
          refine so_nil ?_
          refine fi_inBlock ?_
          refine fi_region ?_
          refine so_move (v := (.v (.int .i64 i161))) rfl ?_
          refine so_bin rfl rfl ab_add ?_
          refine so_assign (v := (.v (.int .i64 (IntKind.i64.wrap (i161 + (1 : Int)))))) rfl ?_
          refine so_nil ?_
          exact fi_at [(0, (.v v0)), (4, (.v v160)), (5, (.v v158)), (6, (.v (.int .i64 (IntKind.i64.wrap (i161 + (1 : Int))))))] ⟨rfl, rfl, rfl, rfl, trivial⟩ (h _ _ _ nv158 _ nv160 hs)
    · refine fi_false rfl (decide_eq_false c162) ?_
      refine fi_exit rfl ?_
      refine fi_seq ?_
      refine fi_region ?_
      refine so_assign (v := (.v (.flt .f32 (cz .f32 0)))) rfl ?_
      refine so_nil ?_
      refine fi_seq ?_
      refine fi_seq ?_
      refine fi_region ?_
      refine so_assign (v := (.v (.int .i64 (0 : Int)))) rfl ?_
      refine so_nil ?_
      refine fi_block ?_
      refine fi_loop ?_
      replace hs := hs.del 1
      refine fi_at [(0, (.v v0)), (5, (.v v158)), (9, (.v (.flt .f32 (cz .f32 0)))), (10, (.v (.int .i64 (0 : Int))))] ⟨rfl, rfl, rfl, rfl, trivial⟩ ?_
      refine h (fun (sum191 : Nat) (k192 : Int) => ∀ (s : Nat → TV) (H : Heap), Sep H (Pc.osl v158 1 (enc (eInt .i64) counts157) :: fr) → Fin _ _ (updL s [(0, (.v v0)), (5, (.v v158)), (9, (.v (.flt .f32 sum191))), (10, (.v (.int .i64 k192)))]) H _) ?_ _ _ hs
      intro sum191 k192 h s200 H201 hs
      refine fi_inLoop ?_
      refine fi_seq ?_
      refine fi_seq ?_
      refine fi_region ?_
      refine so_move (v := (.v (.int .i64 k192))) rfl ?_
      refine so_move (v := (.v v158)) rfl ?_
      refine sv_len (hs.shows 0 rfl) (fun _ => rfl) (by decide) rfl F7.ti22 ?_
      refine so_bin rfl rfl ab_lss ?_
      refine so_nil ?_
      replace h := ofP h; rcases h with ⟨c193, h⟩ | ⟨c193, h⟩
      · refine fi_true rfl (decide_eq_true c193) ?_
        refine fi_skip ?_
        refine fi_seq ?_
        refine fi_block ?_
        refine fi_seq ?_
        refine fi_region ?_
        refine so_move (v := (.v v158)) rfl ?_
        refine so_move (v := (.v (.int .i64 k192))) rfl ?_
        obtain ⟨c194, h⟩ := h
        refine sv_idx (hs.shows 0 rfl) c194 (fun _ => rfl) (by decide) rfl rfl F7.tl22 ?_
        refine sv_cell (hs.shows 0 rfl) c194 (0 : Int) 0 (fun x => (AV.int .i64 x)) (fun _ => rfl) (fun _ => rfl) rfl F7.ag2 ?_
        refine sv_if rfl F7.us2 F7.in23 F7.fl23 ?_
        refine so_move (v := (.v v0)) rfl ?_
        refine sv_len (g0 _ hs.tl) (fun _ => rfl) (by decide) rfl F7.ti22 ?_
        refine sv_if rfl F7.us3 F7.in23 F7.fl23 ?_
        refine so_bin rfl rfl ab_fquo ?_
        refine so_assign (v := (.v (.flt .f32 (fop .quo .f32 (itof .f32 (counts157.getD (k192).toNat (0 : Int))) (itof .f32 (l0.length : Int)))))) rfl ?_
        refine so_nil ?_
        refine fi_region ?_
        refine so_move (v := (.v (.flt .f32 sum191))) rfl ?_
        refine so_move (v := (.v (.flt .f32 (fop .quo .f32 (itof .f32 (counts157.getD (k192).toNat (0 : Int))) (itof .f32 (l0.length : Int)))))) rfl ?_
        refine so_move (v := (.v (.flt .f32 (fop .quo .f32 (itof .f32 (counts157.getD (k192).toNat (0 : Int))) (itof .f32 (l0.length : Int)))))) rfl ?_
        refine sv_callS (spec_l01Log_ok (fop .quo .f32 (itof .f32 (counts157.getD (k192).toNat (0 : Int))) (itof .f32 (l0.length : Int))) hs  _ h) (fun _ _ ⟨_, _, _, e⟩ => e) rfl rfl ?_
        clear h
        rintro _ _ ⟨y195, h, rfl, rfl⟩
        refine so_bin rfl rfl ab_fmul ?_
        refine so_bin rfl rfl ab_fadd ?_
        refine so_assign (v := (.v (.flt .f32 (fop .add .f32 sum191 (fop .mul .f32 (fop .quo .f32 (itof .f32 (counts157.getD (k192).toNat (0 : Int))) (itof .f32 (l0.length : Int))) y195))))) rfl ?_
        refine so_nil ?_
        refine fi_inBlock ?_
        refine fi_region ?_
        refine so_move (v := (.v (.int .i64 k192))) rfl ?_
        refine so_bin rfl rfl ab_add ?_
        refine so_assign (v := (.v (.int .i64 (IntKind.i64.wrap (k192 + (1 : Int)))))) rfl ?_
        refine so_nil ?_
        exact fi_at [(0, (.v v0)), (5, (.v v158)), (9, (.v (.flt .f32 (fop .add .f32 sum191 (fop .mul .f32 (fop .quo .f32 (itof .f32 (counts157.getD (k192).toNat (0 : Int))) (itof .f32 (l0.length : Int))) y195))))), (10, (.v (.int .i64 (IntKind.i64.wrap (k192 + (1 : Int))))))] ⟨rfl, rfl, rfl, rfl, trivial⟩ (h _ _  hs)
      · refine fi_false rfl (decide_eq_false c193) ?_
        refine fi_exit rfl ?_
        refine fi_seq ?_
        refine fi_region ?_
        refine so_move (v := (.v (.flt .f32 sum191))) rfl ?_
        refine so_un rfl au_fneg' ?_
        refine so_bin rfl rfl ab_fquo ?_
        refine sv_callS (spec_l02Number_ok (fop .quo .f32 (fneg .f32 sum191) (cz .f32 1060205080)) hs  _ h) (fun _ _ ⟨_, _, _, _, e⟩ => e) rfl rfl ?_
        clear h
        rintro _ _ ⟨y197, y198, h, rfl, rfl⟩
        refine so_extract rfl rfl rfl ?_
        refine so_extract rfl rfl rfl ?_
        refine so_assign (v := (.v (.flt .f32 y197))) rfl ?_
        refine so_assign (v := (.v (.bool y198))) rfl ?_
        refine so_nil ?_
        exact by_ret rfl ⟨_, _, h, rfl, (Sep.del 0 hs)⟩
  · refine fi_true rfl (not_t c103) ?_
    refine fi_seq ?_
    refine fi_region ?_
    refine so_assign (v := (.v (.flt .f32 (cz .f32 0)))) rfl ?_
    refine so_assign (v := (.v (.bool false))) rfl ?_
    refine so_nil ?_
    exact by_ret rfl ⟨_, _, h, rfl, hs⟩
theorem spec_EntropyOf_okS {fr : List Pc} {H : Heap} (v0 : AV) (l0 : List (Int)) (hs : Sep H fr) (g0 : ∀ H, Sep H fr → Shows H v0 1 (enc (eInt .i64) l0)) (K : Nat → Bool → Prop) (h : spec_EntropyOf.wp l0 K) : OkQ Try.prog 7 [(.v v0)] H (fun r H2 => ∃ (y0 : Nat) (y1 : Bool), K y0 y1 ∧ r = (.t [(.v (.flt .f32 y0)), (.v (.bool y1))]) ∧ H = H2) := by
  obtain ⟨r, H2, h1, y0, y1, hK, hr, hsep⟩ := spec_EntropyOf_ok (fr := came H) (H := H) v0 l0 (came_sep H) (came_shows (g0 H hs)) K h
  have hk : H.n ≤ H2.n ∧ ∀ i, i < H.n → H2.f i = H.f i := hsep.1.2.1
  exact ⟨r, H, h1.forget hk.1 hk.2 (by subst hr; rfl), y0, y1, hK, hr, rfl⟩

end Go.Proofs.Ytecdkjnomkdbkaa.G

namespace Go.Proofs.Ytecdkjnomkdbkaa.G
open Go Go.Ab Go.Proofs Go.Proofs.Ytecdkjnomkdbkaa
set_option maxRecDepth 100000
set_option linter.unusedVariables false
set_option linter.unusedSimpArgs false
set_option maxHeartbeats 1000000
attribute [local irreducible] wops wopf Go.Ab.Fin
theorem F8.ag2 : tagg Try.prog 2 = some false := by kernel_rfl
theorem F8.by2 : tbytes Try.prog 2 = some 8 := by kernel_rfl
theorem F8.sz2 : tsz Try.prog 2 = some 1 := by kernel_rfl
theorem F8.te22 : telem Try.prog 22 = some 2 := by kernel_rfl
theorem F8.ti22 : (telem Try.prog 22).isSome = true := by kernel_rfl
theorem F8.tl22 : (telem Try.prog 22).bind (tsz Try.prog) = some 1 := by kernel_rfl
theorem F8.ze2 : tzero Try.prog 2 = some [(.int .i64 (0 : Int))] := by kernel_rfl
theorem laws_toInt64S_ok {fr : List Pc} {H : Heap} (v0 : AV) (l0 : List (Int)) (hs : Sep H (fr)) (g0 : ∀ H, Sep H fr → Shows H v0 1 (enc (eInt .i64) l0)) (K : (List (Int)) → Prop) (h : laws_toInt64S.wp l0 K) : OkQ Try.prog 8 [(.v v0)] H (fun r H2 => ∃ (y0 : List (Int)), K y0 ∧ ∃ (w0_ : AV), r = (.v w0_) ∧ Sep H2 (Pc.osl w0_ 1 (enc (eInt .i64) y0) :: fr)) := by
  unfold laws_toInt64S.wp at h
  refine of_body Try.f8 F.hm Try.func8 rfl Try.call8 (by kernel_rfl) (by simp) ?_
  refine fi_seq ?_
  refine fi_region ?_
  refine so_assign (v := (.v .nilsl)) rfl ?_
  refine so_nil ?_
  refine fi_seq ?_
  refine fi_region ?_
  refine so_move (v := (.v v0)) rfl ?_
  refine sv_len (g0 _ hs) (fun _ => rfl) (by decide) rfl F8.ti22 ?_
  obtain ⟨c101, h⟩ := h
  refine sv_make hs (eInt .i64) (0 : Int) c101 (fun _ => rfl) rfl rfl F8.te22 F8.sz2 F8.by2 F8.ze2 rfl rfl nofun (fun v102 H103 nv102 hs => ?_)
  refine so_assign (v := (.v v102)) rfl ?_
  refine so_nil ?_
  refine fi_seq ?_
  refine fi_seq ?_
  refine fi_region ?_
  refine so_assign (v := (.v (.int .i64 (0 : Int)))) rfl ?_
  refine so_nil ?_
  refine fi_block ?_
  refine fi_loop ?_
  refine fi_at [(0, (.v v0)), (3, (.v v102)), (4, (.v (.int .i64 (0 : Int))))] ⟨rfl, rfl, rfl, trivial⟩ ?_
  refine h (fun (out112 : List (Int)) (i113 : Int) => ∀ (s : Nat → TV) (H : Heap), Sep H (Pc.osl v102 1 (enc (eInt .i64) out112) :: fr) → Fin _ _ (updL s [(0, (.v v0)), (3, (.v v102)), (4, (.v (.int .i64 i113)))]) H _) ?_ _ _ hs
  intro out112 i113 h s118 H119 hs
  refine fi_inLoop ?_
  refine fi_seq ?_
  refine fi_seq ?_
  refine fi_region ?_
  refine so_move (v := (.v (.int .i64 i113))) rfl ?_
  refine so_move (v := (.v v0)) rfl ?_
  refine sv_len (g0 _ hs.tl) (fun _ => rfl) (by decide) rfl F8.ti22 ?_
  refine so_bin rfl rfl ab_lss ?_
  refine so_nil ?_
  replace h := ofP h; rcases h with ⟨c114, h⟩ | ⟨c114, h⟩
  · refine fi_true rfl (decide_eq_true c114) ?_
    refine fi_skip ?_
    refine fi_seq ?_
    refine fi_block ?_
    refine fi_region ?_
    refine so_move (v := (.v v102)) rfl ?_
    refine so_move (v := (.v (.int .i64 i113))) rfl ?_
    refine so_move (v := (.v v0)) rfl ?_
    refine so_move (v := (.v (.int .i64 i113))) rfl ?_
    obtain ⟨c115, h⟩ := h
    refine sv_idx (g0 _ hs.tl) c115 (fun _ => rfl) (by decide) rfl rfl F8.tl22 ?_
    refine sv_cell (g0 _ hs.tl) c115 (0 : Int) 0 (fun x => (AV.int .i64 x)) (fun _ => rfl) (fun _ => rfl) rfl F8.ag2 ?_
    obtain ⟨c116, h⟩ := h
    refine sv_idx (hs.shows 0 rfl) c116 (fun _ => rfl) (by decide) rfl rfl F8.tl22 ?_
    refine sv_set hs 0 rfl c116 (l0.getD (i113).toNat (0 : Int)) (fun _ => rfl) (by decide) rfl rfl rfl rfl F8.sz2 nofun (fun H117 hs => ?_)
    refine so_nil ?_
    refine fi_inBlock ?_
    refine fi_region ?_
    refine so_move (v := (.v (.int .i64 i113))) rfl ?_
    refine so_bin rfl rfl ab_add ?_
    refine so_assign (v := (.v (.int .i64 (IntKind.i64.wrap (i113 + (1 : Int)))))) rfl ?_
    refine so_nil ?_
    exact fi_at [(0, (.v v0)), (3, (.v v102)), (4, (.v (.int .i64 (IntKind.i64.wrap (i113 + (1 : Int))))))] ⟨rfl, rfl, rfl, trivial⟩ (h _ _  hs)
  · refine fi_false rfl (decide_eq_false c114) ?_
    refine fi_exit rfl ?_
    refine fi_seq ?_
    refine fi_region ?_
    refine so_move (v := (.v v102)) rfl ?_
    refine so_assign (v := (.v v102)) rfl ?_
    refine so_nil ?_
    exact by_ret rfl ⟨_, h, _, rfl, hs⟩

end Go.Proofs.Ytecdkjnomkdbkaa.G

namespace Go.Proofs.Ytecdkjnomkdbkaa.G
open Go Go.Ab Go.Proofs Go.Proofs.Ytecdkjnomkdbkaa
set_option maxRecDepth 100000
set_option linter.unusedVariables false
set_option linter.unusedSimpArgs false
set_option maxHeartbeats 1000000
attribute [local irreducible] wops wopf Go.Ab.Fin
theorem impl_within_ok {fr : List Pc} {H : Heap} (a0 : Int) (a1 : Int) (a2 : Int) (hs : Sep H (fr))  (K : Bool → Prop) (h : impl_within.wp a0 a1 a2 K) : OkQ Try.prog 47 [(.v (.int .i64 a0)), (.v (.int .i64 a1)), (.v (.int .i64 a2))] H (fun r H2 => ∃ (y0 : Bool), K y0 ∧ r = (.v (.bool y0)) ∧ H = H2) := by
  unfold impl_within.wp at h
  refine of_body Try.f47 F.hm Try.func47 rfl Try.call47 (by kernel_rfl) (by simp) ?_
  refine fi_seq ?_
  refine fi_region ?_
  refine so_assign (v := (.v (.bool false))) rfl ?_
  refine so_nil ?_
  refine fi_seq ?_
  refine fi_region ?_
  refine so_move (v := (.v (.int .i64 a0))) rfl ?_
  refine so_move (v := (.v (.int .i64 a1))) rfl ?_
  refine so_bin rfl rfl ab_geq ?_
  refine so_move (v := (.v (.bool (decide (a1 ≤ a0))))) rfl ?_
  replace h := ofP h; rcases h with ⟨c101, h⟩ | ⟨c101, h⟩
  · refine so_gyes rfl (decide_eq_true c101) ?_
    refine so_move (v := (.v (.int .i64 a0))) rfl ?_
    refine so_gyes rfl (decide_eq_true c101) ?_
    refine so_move (v := (.v (.int .i64 a2))) rfl ?_
    refine so_gyes rfl (decide_eq_true c101) ?_
    refine so_bin rfl rfl ab_leq ?_
    refine so_pick_t (v := (.v (.bool (decide (a0 ≤ a2))))) rfl (decide_eq_true c101) rfl ?_
    refine so_assign (v := (.v (.bool (decide (a0 ≤ a2))))) rfl ?_
    refine so_nil ?_
    exact by_ret rfl ⟨_, h, rfl, rfl⟩
  · refine so_gno rfl (decide_eq_false c101) ?_
    refine so_gno rfl (decide_eq_false c101) ?_
    refine so_gno rfl (decide_eq_false c101) ?_
    refine so_pick_f (v := (.v (.bool false))) rfl (decide_eq_false c101) rfl ?_
    refine so_assign (v := (.v (.bool false))) rfl ?_
    refine so_nil ?_
    exact by_ret rfl ⟨_, h, rfl, rfl⟩

end Go.Proofs.Ytecdkjnomkdbkaa.G

namespace Go.Proofs.Ytecdkjnomkdbkaa.G
open Go Go.Ab Go.Proofs Go.Proofs.Ytecdkjnomkdbkaa
set_option maxRecDepth 100000
set_option linter.unusedVariables false
set_option linter.unusedSimpArgs false
set_option maxHeartbeats 1000000
attribute [local irreducible] wops wopf Go.Ab.Fin
theorem F77.ag2 : tagg Try.prog 2 = some false := by kernel_rfl
theorem F77.ti22 : (telem Try.prog 22).isSome = true := by kernel_rfl
theorem F77.tl22 : (telem Try.prog 22).bind (tsz Try.prog) = some 1 := by kernel_rfl
theorem impl_areWithin_ok {fr : List Pc} {H : Heap} (v0 : AV) (l0 : List (Int)) (a1 : Int) (hs : Sep H (fr)) (g0 : ∀ H, Sep H fr → Shows H v0 1 (enc (eInt .i64) l0)) (K : Bool → Prop) (h : impl_areWithin.wp l0 a1 K) : OkQ Try.prog 77 [(.v v0), (.v (.int .i64 a1))] H (fun r H2 => ∃ (y0 : Bool), K y0 ∧ r = (.v (.bool y0)) ∧ H = H2) := by
  unfold impl_areWithin.wp at h
  refine of_body Try.f77 F.hm Try.func77 rfl Try.call77 (by kernel_rfl) (by simp) ?_
  refine fi_seq ?_
  refine fi_region ?_
  refine so_assign (v := (.v (.bool false))) rfl ?_
  refine so_nil ?_
  refine fi_seq ?_
  refine fi_seq ?_
  refine fi_region ?_
  refine so_move (v := (.v v0)) rfl ?_
  refine sv_len (g0 _ hs) (fun _ => rfl) (by decide) rfl F77.ti22 ?_
  refine so_move (v := (.v (.int .i64 (0 : Int)))) rfl ?_
  refine so_nil ?_
  refine fi_block ?_
  refine fi_loop ?_
  refine fi_at [(1, (.v (.int .i64 a1))), (7, (.v v0)), (8, (.v (.int .i64 (l0.length : Int)))), (9, (.v (.int .i64 (0 : Int))))] ⟨rfl, rfl, rfl, rfl, trivial⟩ ?_
  refine h (fun (x102 : Int) => ∀ (s : Nat → TV), Fin _ _ (updL s [(1, (.v (.int .i64 a1))), (7, (.v v0)), (8, (.v (.int .i64 (l0.length : Int)))), (9, (.v (.int .i64 x102)))]) _ _) ?_ _
  intro x102 h s108
  refine fi_inLoop ?_
  refine fi_seq ?_
  refine fi_region ?_
  refine so_bin rfl rfl ab_lss ?_
  refine so_nil ?_
  refine fi_seq ?_
  replace h := ofP h; rcases h with ⟨c103, h⟩ | ⟨c103, h⟩
  · refine fi_true rfl (decide_eq_true c103) ?_
    refine fi_skip ?_
    refine fi_seq ?_
    refine fi_block ?_
    refine fi_seq ?_
    refine fi_region ?_
    obtain ⟨c104, h⟩ := h
    refine sv_idx (g0 _ hs) c104 (fun _ => rfl) (by decide) rfl rfl F77.tl22 ?_
    refine sv_cell (g0 _ hs) c104 (0 : Int) 0 (fun x => (AV.int .i64 x)) (fun _ => rfl) (fun _ => rfl) rfl F77.ag2 ?_
    refine so_assign (v := (.v (.int .i64 (l0.getD (x102).toNat (0 : Int))))) rfl ?_
    refine so_nil ?_
    refine fi_seq ?_
    refine fi_region ?_
    refine so_move (v := (.v (.int .i64 (l0.getD (x102).toNat (0 : Int))))) rfl ?_
    refine so_move (v := (.v (.int .i64 a1))) rfl ?_
    refine so_un rfl au_neg ?_
    refine so_move (v := (.v (.int .i64 a1))) rfl ?_
    refine sv_callS (impl_within_ok (l0.getD (x102).toNat (0 : Int)) (IntKind.i64.wrap (0 - a1)) a1 hs  _ h) (fun _ _ ⟨_, _, _, e⟩ => e) rfl rfl ?_
    clear h
    rintro _ _ ⟨y105, h, rfl, rfl⟩
    refine so_un rfl au_not ?_
    refine so_nil ?_
    replace h := ofT h; rcases h with ⟨c107, h⟩ | ⟨c107, h⟩
    · refine fi_false rfl (not_f c107) ?_
      refine fi_skip ?_
      refine fi_inBlock ?_
      refine fi_region ?_
      refine so_bin rfl rfl ab_add ?_
      refine so_move (v := (.v (.int .i64 (IntKind.i64.wrap (x102 + (1 : Int)))))) rfl ?_
      refine so_nil ?_
      exact fi_at [(1, (.v (.int .i64 a1))), (7, (.v v0)), (8, (.v (.int .i64 (l0.length : Int)))), (9, (.v (.int .i64 (IntKind.i64.wrap (x102 + (1 : Int))))))] ⟨rfl, rfl, rfl, rfl, trivial⟩ (h _)
    · refine fi_true rfl (not_t c107) ?_
      refine fi_seq ?_
      refine fi_region ?_
      refine so_assign (v := (.v (.bool false))) rfl ?_
      refine so_nil ?_
      exact by_ret rfl ⟨_, h, rfl, rfl⟩
  · refine fi_false rfl (decide_eq_false c103) ?_
    refine fi_exit rfl ?_
    refine fi_seq ?_
    refine fi_region ?_
    refine so_assign (v := (.v (.bool true))) rfl ?_
    refine so_nil ?_
    exact by_ret rfl ⟨_, h, rfl, rfl⟩

end Go.Proofs.Ytecdkjnomkdbkaa.G

namespace Go.Proofs.Ytecdkjnomkdbkaa.G
open Go Go.Ab Go.Proofs Go.Proofs.Ytecdkjnomkdbkaa
set_option maxRecDepth 100000
set_option linter.unusedVariables false
set_option linter.unusedSimpArgs false
set_option maxHeartbeats 1000000
attribute [local irreducible] wops wopf Go.Ab.Fin
theorem F38.ti22 : (telem Try.prog 22).isSome = true := by kernel_rfl
theorem impl_AreIntegers_ok {fr : List Pc} {H : Heap} (v0 : AV) (l0 : List (Int)) (hs : Sep H (fr)) (g0 : ∀ H, Sep H fr → Shows H v0 1 (enc (eInt .i64) l0)) (K : Bool → Prop) (h : impl_AreIntegers.wp l0 K) : OkQ Try.prog 38 [(.v v0)] H (fun r H2 => ∃ (y0 : Bool), K y0 ∧ r = (.v (.bool y0)) ∧ H = H2) := by
  unfold impl_AreIntegers.wp at h
  refine of_body Try.f38 F.hm Try.func38 rfl Try.call38 (by kernel_rfl) (by simp) ?_
  refine fi_seq ?_
  refine fi_region ?_
  refine so_assign (v := (.v (.bool false))) rfl ?_
  refine so_nil ?_
  refine fi_seq ?_
  refine fi_region ?_
  refine so_move (v := (.v v0)) rfl ?_
  refine sv_len (g0 _ hs) (fun _ => rfl) (by decide) rfl F38.ti22 ?_
  refine sv_callS (impl_within_ok (l0.length : Int) (1 : Int) (128 : Int) hs  _ h) (fun _ _ ⟨_, _, _, e⟩ => e) rfl rfl ?_
  clear h
  rintro _ _ ⟨y101, h, rfl, rfl⟩
  refine so_move (v := (.v (.bool y101))) rfl ?_
  replace h := ofT h; rcases h with ⟨c103, h⟩ | ⟨c103, h⟩
  · refine so_gyes rfl c103 ?_
    refine so_move (v := (.v v0)) rfl ?_
    refine so_gyes rfl c103 ?_
    refine sv_callS (impl_areWithin_ok v0 l0 (1000000 : Int) hs (fun _ hs => (g0 _ hs)) _ h) (fun _ _ ⟨_, _, _, e⟩ => e) rfl rfl ?_
    clear h
    rintro _ _ ⟨y104, h, rfl, rfl⟩
    refine so_pick_t (v := (.v (.bool y104))) rfl c103 rfl ?_
    refine so_assign (v := (.v (.bool y104))) rfl ?_
    refine so_nil ?_
    exact by_ret rfl ⟨_, h, rfl, rfl⟩
  · refine so_gno rfl c103 ?_
    refine so_gno rfl c103 ?_
    refine so_pick_f (v := (.v (.bool false))) rfl c103 rfl ?_
    refine so_assign (v := (.v (.bool false))) rfl ?_
    refine so_nil ?_
    exact by_ret rfl ⟨_, h, rfl, rfl⟩

end Go.Proofs.Ytecdkjnomkdbkaa.G

namespace Go.Proofs.Ytecdkjnomkdbkaa.G
open Go Go.Ab Go.Proofs Go.Proofs.Ytecdkjnomkdbkaa
set_option maxRecDepth 100000
set_option linter.unusedVariables false
set_option linter.unusedSimpArgs false
set_option maxHeartbeats 1000000
attribute [local irreducible] wops wopf Go.Ab.Fin
theorem impl_IsFinite_ok {fr : List Pc} {H : Heap} (a0 : Nat) (hs : Sep H (fr))  (K : Bool → Prop) (h : impl_IsFinite.wp a0 K) : OkQ Try.prog 48 [(.v (.flt .f32 a0))] H (fun r H2 => ∃ (y0 : Bool), K y0 ∧ r = (.v (.bool y0)) ∧ H = H2) := by
  unfold impl_IsFinite.wp at h
  refine of_body Try.f48 F.hm Try.func48 rfl Try.call48 (by kernel_rfl) (by simp) ?_
  refine fi_seq ?_
  refine fi_region ?_
  refine so_assign (v := (.v (.bool false))) rfl ?_
  refine so_nil ?_
  refine fi_seq ?_
  refine fi_region ?_
  refine so_move (v := (.v (.flt .f32 a0))) rfl ?_
  refine so_move (v := (.v (.flt .f32 a0))) rfl ?_
  refine so_bin rfl rfl ab_fsub ?_
  refine so_bin rfl rfl ab_feql ?_
  refine so_assign (v := (.v (.bool (fcmp .eql .f32 (fop .sub .f32 a0 a0) (cz .f32 0))))) rfl ?_
  refine so_nil ?_
  exact by_ret rfl ⟨_, h, rfl, rfl⟩

end Go.Proofs.Ytecdkjnomkdbkaa.G

namespace Go.Proofs.Ytecdkjnomkdbkaa.G
open Go Go.Ab Go.Proofs Go.Proofs.Ytecdkjnomkdbkaa
set_option maxRecDepth 100000
set_option linter.unusedVariables false
set_option linter.unusedSimpArgs false
set_option maxHeartbeats 1000000
attribute [local irreducible] wops wopf Go.Ab.Fin
theorem impl_naturalLog_ok {fr : List Pc} {H : Heap} (a0 : Nat) (hs : Sep H (fr))  (K : Nat → Prop) (h : impl_naturalLog.wp a0 K) : OkQ Try.prog 80 [(.v (.flt .f64 a0))] H (fun r H2 => ∃ (y0 : Nat), K y0 ∧ r = (.v (.flt .f64 y0)) ∧ H = H2) := by
  unfold impl_naturalLog.wp at h
  refine of_body Try.f80 F.hm Try.func80 rfl Try.call80 (by kernel_rfl) (by simp) ?_
  refine fi_seq ?_
  refine fi_region ?_
  refine so_assign (v := (.v (.flt .f64 (cz .f64 0)))) rfl ?_
  refine so_nil ?_
  refine fi_seq ?_
  refine fi_region ?_
  refine so_assign (v := (.v (.flt .f64 (cz .f64 0)))) rfl ?_
  refine so_nil ?_
  refine fi_seq ?_
  refine fi_block ?_
  refine fi_loop ?_
  refine fi_at [(0, (.v (.flt .f64 a0))), (3, (.v (.flt .f64 (cz .f64 0))))] ⟨rfl, rfl, trivial⟩ ?_
  refine h (fun (x102 : Nat) (e103 : Nat) => ∀ (s : Nat → TV), Fin _ _ (updL s [(0, (.v (.flt .f64 x102))), (3, (.v (.flt .f64 e103)))]) _ _) ?_ _
  intro x102 e103 h s117
  refine fi_inLoop ?_
  refine fi_seq ?_
  refine fi_seq ?_
  refine fi_region ?_
  refine so_move (v := (.v (.flt .f64 x102))) rfl ?_
  refine so_bin rfl rfl ab_fgeq ?_
  refine so_nil ?_
  replace h := ofT h; rcases h with ⟨c104, h⟩ | ⟨c104, h⟩
  · refine fi_true rfl c104 ?_
    refine fi_skip ?_
    refine fi_block ?_
    refine fi_seq ?_
    refine fi_region ?_
    refine so_move (v := (.v (.flt .f64 x102))) rfl ?_
    refine so_bin rfl rfl ab_fquo ?_
    refine so_assign (v := (.v (.flt .f64 (fop .quo .f64 x102 (cz .f64 4611686018427387904))))) rfl ?_
    refine so_nil ?_
    refine fi_region ?_
    refine so_move (v := (.v (.flt .f64 e103))) rfl ?_
    refine so_bin rfl rfl ab_fadd ?_
    refine so_assign (v := (.v (.flt .f64 (fop .add .f64 e103 (cz .f64 4607182418800017408))))) rfl ?_
    refine so_nil ?_
    refine fi_inBlock ?_
    exact fi_at [(0, (.v (.flt .f64 (fop .quo .f64 x102 (cz .f64 4611686018427387904))))), (3, (.v (.flt .f64 (fop .add .f64 e103 (cz .f64 4607182418800017408)))))] ⟨rfl, rfl, trivial⟩ (h _)
  · refine fi_false rfl c104 ?_
    refine fi_exit rfl ?_
    refine fi_seq ?_
    refine fi_block ?_
    refine fi_loop ?_
    refine fi_at [(0, (.v (.flt .f64 x102))), (3, (.v (.flt .f64 e103)))] ⟨rfl, rfl, trivial⟩ ?_
    refine h (fun (x106 : Nat) (e107 : Nat) => ∀ (s : Nat → TV), Fin _ _ (updL s [(0, (.v (.flt .f64 x106))), (3, (.v (.flt .f64 e107)))]) _ _) ?_ _
    intro x106 e107 h s115
    refine fi_inLoop ?_
    refine fi_seq ?_
    refine fi_seq ?_
    refine fi_region ?_
    refine so_move (v := (.v (.flt .f64 x106))) rfl ?_
    refine so_bin rfl rfl ab_flss ?_
    refine so_nil ?_
    replace h := ofT h; rcases h with ⟨c108, h⟩ | ⟨c108, h⟩
    · refine fi_true rfl c108 ?_
      refine fi_skip ?_
      refine fi_block ?_
      refine fi_seq ?_
      refine fi_region ?_
      refine so_move (v := (.v (.flt .f64 x106))) rfl ?_
      refine so_bin rfl rfl ab_fmul ?_
      refine so_assign (v := (.v (.flt .f64 (fop .mul .f64 x106 (cz .f64 4611686018427387904))))) rfl ?_
      refine so_nil ?_
      refine fi_region ?_
      refine so_move (v := (.v (.flt .f64 e107))) rfl ?_
      refine so_bin rfl rfl ab_fsub ?_
      refine so_assign (v := (.v (.flt .f64 (fop .sub .f64 e107 (cz .f64 4607182418800017408))))) rfl ?_
      refine so_nil ?_
      refine fi_inBlock ?_
      exact fi_at [(0, (.v (.flt .f64 (fop .mul .f64 x106 (cz .f64 4611686018427387904))))), (3, (.v (.flt .f64 (fop .sub .f64 e107 (cz .f64 4607182418800017408)))))] ⟨rfl, rfl, trivial⟩ (h _)
    · refine fi_false rfl c108 ?_
      refine fi_exit rfl ?_
      refine fi_seq ?_
      refine fi_region ?_
      refine so_move (v := (.v (.flt .f64 x106))) rfl ?_
      refine so_bin rfl rfl ab_fsub ?_
      refine so_move (v := (.v (.flt .f64 x106))) rfl ?_
      refine so_bin rfl rfl ab_fadd ?_
      refine so_bin rfl rfl ab_fquo ?_
      refine so_assign (v := (.v (.flt .f64 (fop .quo .f64 (fop .sub .f64 x106 (cz .f64 4607182418800017408)) (fop .add .f64 x106 (cz .f64 4607182418800017408)))))) rfl ?_
      refine so_nil ?_
      refine fi_seq ?_
      refine fi_region ?_
      refine so_move (v := (.v (.flt .f64 (fop .quo .f64 (fop .sub .f64 x106 (cz .f64 4607182418800017408)) (fop .add .f64 x106 (cz .f64 4607182418800017408)))))) rfl ?_
      refine so_move (v := (.v (.flt .f64 (fop .quo .f64 (fop .sub .f64 x106 (cz .f64 4607182418800017408)) (fop .add .f64 x106 (cz .f64 4607182418800017408)))))) rfl ?_
      refine so_bin rfl rfl ab_fmul ?_
      refine so_assign (v := (.v (.flt .f64 (fop .mul .f64 (fop .quo .f64 (fop .sub .f64 x106 (cz .f64 4607182418800017408)) (fop .add .f64 x106 (cz .f64 4607182418800017408))) (fop .quo .f64 (fop .sub .f64 x106 (cz .f64 4607182418800017408)) (fop .add .f64 x106 (cz .f64 4607182418800017408))))))) rfl ?_
      refine so_nil ?_
      refine fi_seq ?_
      refine fi_region ?_
      refine so_assign (v := (.v (.flt .f64 (cz .f64 0)))) rfl ?_
      refine so_nil ?_
      refine fi_seq ?_
      refine fi_seq ?_
      refine fi_region ?_
      refine so_assign (v := (.v (.flt .f64 (cz .f64 4627730092099895296)))) rfl ?_
      refine so_nil ?_
      refine fi_block ?_
      refine fi_loop ?_
      refine fi_at [(3, (.v (.flt .f64 e107))), (4, (.v (.flt .f64 (fop .quo .f64 (fop .sub .f64 x106 (cz .f64 4607182418800017408)) (fop .add .f64 x106 (cz .f64 4607182418800017408)))))), (5, (.v (.flt .f64 (fop .mul .f64 (fop .quo .f64 (fop .sub .f64 x106 (cz .f64 4607182418800017408)) (fop .add .f64 x106 (cz .f64 4607182418800017408))) (fop .quo .f64 (fop .sub .f64 x106 (cz .f64 4607182418800017408)) (fop .add .f64 x106 (cz .f64 4607182418800017408))))))), (6, (.v (.flt .f64 (cz .f64 0)))), (7, (.v (.flt .f64 (cz .f64 4627730092099895296))))] ⟨rfl, rfl, rfl, rfl, rfl, trivial⟩ ?_
      refine h (fun (q110 : Nat) (k111 : Nat) => ∀ (s : Nat → TV), Fin _ _ (updL s [(3, (.v (.flt .f64 e107))), (4, (.v (.flt .f64 (fop .quo .f64 (fop .sub .f64 x106 (cz .f64 4607182418800017408)) (fop .add .f64 x106 (cz .f64 4607182418800017408)))))), (5, (.v (.flt .f64 (fop .mul .f64 (fop .quo .f64 (fop .sub .f64 x106 (cz .f64 4607182418800017408)) (fop .add .f64 x106 (cz .f64 4607182418800017408))) (fop .quo .f64 (fop .sub .f64 x106 (cz .f64 4607182418800017408)) (fop .add .f64 x106 (cz .f64 4607182418800017408))))))), (6, (.v (.flt .f64 q110))), (7, (.v (.flt .f64 k111)))]) _ _) ?_ _
      intro q110 k111 h s113
      refine fi_inLoop ?_
      refine fi_seq ?_
      refine fi_seq ?_
      refine fi_region ?_
      refine so_move (v := (.v (.flt .f64 k111))) rfl ?_
      refine so_bin rfl rfl ab_fgeq ?_
      refine so_nil ?_
      replace h := ofT h; rcases h with ⟨c112, h⟩ | ⟨c112, h⟩
      · refine fi_true rfl c112 ?_
        refine fi_skip ?_
        refine fi_seq ?_
        refine fi_block ?_
        refine fi_region ?_
        refine so_move (v := (.v (.flt .f64 k111))) rfl ?_
        refine so_bin rfl rfl ab_fquo ?_
        refine so_move (v := (.v (.flt .f64 (fop .mul .f64 (fop .quo .f64 (fop .sub .f64 x106 (cz .f64 4607182418800017408)) (fop .add .f64 x106 (cz .f64 4607182418800017408))) (fop .quo .f64 (fop .sub .f64 x106 (cz .f64 4607182418800017408)) (fop .add .f64 x106 (cz .f64 4607182418800017408))))))) rfl ?_
        refine so_move (v := (.v (.flt .f64 q110))) rfl ?_
        refine so_bin rfl rfl ab_fmul ?_
        refine so_bin rfl rfl ab_fadd ?_
        refine so_assign (v := (.v (.flt .f64 (fop .add .f64 (fop .quo .f64 (cz .f64 4607182418800017408) k111) (fop .mul .f64 (fop .mul .f64 (fop .quo .f64 (fop .sub .f64 x106 (cz .f64 4607182418800017408)) (fop .add .f64 x106 (cz .f64 4607182418800017408))) (fop .quo .f64 (fop .sub .f64 x106 (cz .f64 4607182418800017408)) (fop .add .f64 x106 (cz .f64 4607182418800017408)))) q110))))) rfl ?_
        refine so_nil ?_
        refine fi_inBlock ?_
        refine fi_region ?_
        refine so_move (v := (.v (.flt .f64 k111))) rfl ?_
        refine so_bin rfl rfl ab_fsub ?_
        refine so_assign (v := (.v (.flt .f64 (fop .sub .f64 k111 (cz .f64 4611686018427387904))))) rfl ?_
        refine so_nil ?_
        exact fi_at [(3, (.v (.flt .f64 e107))), (4, (.v (.flt .f64 (fop .quo .f64 (fop .sub .f64 x106 (cz .f64 4607182418800017408)) (fop .add .f64 x106 (cz .f64 4607182418800017408)))))), (5, (.v (.flt .f64 (fop .mul .f64 (fop .quo .f64 (fop .sub .f64 x106 (cz .f64 4607182418800017408)) (fop .add .f64 x106 (cz .f64 4607182418800017408))) (fop .quo .f64 (fop .sub .f64 x106 (cz .f64 4607182418800017408)) (fop .add .f64 x106 (cz .f64 4607182418800017408))))))), (6, (.v (.flt .f64 (fop .add .f64 (fop .quo .f64 (cz .f64 4607182418800017408) k111) (fop .mul .f64 (fop .mul .f64 (fop .quo .f64 (fop .sub .f64 x106 (cz .f64 4607182418800017408)) (fop .add .f64 x106 (cz .f64 4607182418800017408))) (fop .quo .f64 (fop .sub .f64 x106 (cz .f64 4607182418800017408)) (fop .add .f64 x106 (cz .f64 4607182418800017408)))) q110))))), (7, (.v (.flt .f64 (fop .sub .f64 k111 (cz .f64 4611686018427387904)))))] ⟨rfl, rfl, rfl, rfl, rfl, trivial⟩ (h _)
      · refine fi_false rfl c112 ?_
        refine fi_exit rfl ?_
        refine fi_seq ?_
        refine fi_region ?_
        refine so_move (v := (.v (.flt .f64 (fop .quo .f64 (fop .sub .f64 x106 (cz .f64 4607182418800017408)) (fop .add .f64 x106 (cz .f64 4607182418800017408)))))) rfl ?_
        refine so_move (v := (.v (.flt .f64 q110))) rfl ?_
        refine so_bin rfl rfl ab_fmul ?_
        refine so_bin rfl rfl ab_fmul ?_
        refine so_move (v := (.v (.flt .f64 e107))) rfl ?_
        refine so_bin rfl rfl ab_fmul ?_
        refine so_bin rfl rfl ab_fadd ?_
        refine so_assign (v := (.v (.flt .f64 (fop .add .f64 (fop .mul .f64 (cz .f64 4611686018427387904) (fop .mul .f64 (fop .quo .f64 (fop .sub .f64 x106 (cz .f64 4607182418800017408)) (fop .add .f64 x106 (cz .f64 4607182418800017408))) q110)) (fop .mul .f64 e107 (cz .f64 4604418534313441775)))))) rfl ?_
        refine so_nil ?_
        exact by_ret rfl ⟨_, h, rfl, rfl⟩

end Go.Proofs.Ytecdkjnomkdbkaa.G

namespace Go.Proofs.Ytecdkjnomkdbkaa.G
open Go Go.Ab Go.Proofs Go.Proofs.Ytecdkjnomkdbkaa
set_option maxRecDepth 100000
set_option linter.unusedVariables false
set_option linter.unusedSimpArgs false
set_option maxHeartbeats 1000000
attribute [local irreducible] wops wopf Go.Ab.Fin
theorem F39.fl23 : tflt Try.prog 23 = some .f32 := by kernel_rfl
theorem F39.fl28 : tflt Try.prog 28 = some .f64 := by kernel_rfl
theorem F39.in23 : tint Try.prog 23 = none := by kernel_rfl
theorem F39.in28 : tint Try.prog 28 = none := by kernel_rfl
theorem F39.us23 : (Try.prog.underlying 23).isSome = true := by kernel_rfl
theorem F39.us28 : (Try.prog.underlying 28).isSome = true := by kernel_rfl
theorem impl_LogNumber_ok {fr : List Pc} {H : Heap} (a0 : Nat) (hs : Sep H (fr))  (K : Nat → Prop) (h : impl_LogNumber.wp a0 K) : OkQ Try.prog 39 [(.v (.flt .f32 a0))] H (fun r H2 => ∃ (y0 : Nat), K y0 ∧ r = (.v (.flt .f32 y0)) ∧ H = H2) := by
  unfold impl_LogNumber.wp at h
  refine of_body Try.f39 F.hm Try.func39 rfl Try.call39 (by kernel_rfl) (by simp) ?_
  refine fi_seq ?_
  refine fi_region ?_
  refine so_assign (v := (.v (.flt .f32 (cz .f32 0)))) rfl ?_
  refine so_nil ?_
  refine fi_seq ?_
  refine fi_block ?_
  refine fi_seq ?_
  refine fi_region ?_
  refine so_move (v := (.v (.flt .f32 a0))) rfl ?_
  refine so_bin rfl rfl ab_feql ?_
  refine so_assign (v := (.v (.bool (fcmp .eql .f32 a0 (cz .f32 0))))) rfl ?_
  refine so_nil ?_
  replace h := ofT h; rcases h with ⟨c101, h⟩ | ⟨c101, h⟩
  · refine fi_true rfl c101 ?_
    refine fi_seq ?_
    refine fi_region ?_
    refine sv_callS (math_Inf_ok (-1 : Int) hs  _ h) (fun _ _ ⟨_, _, _, e⟩ => e) rfl rfl ?_
    clear h
    rintro _ _ ⟨y102, h, rfl, rfl⟩
    obtain ⟨c104, h⟩ := h
    refine sv_ffn c104 rfl F39.us28 F39.in23 F39.fl23 ?_
    refine so_assign (v := (.v (.flt .f32 (narrow y102)))) rfl ?_
    refine so_nil ?_
    exact by_ret rfl ⟨_, h, rfl, rfl⟩
  · refine fi_false rfl c101 ?_
    refine fi_seq ?_
    refine fi_region ?_
    refine so_move (v := (.v (.flt .f32 a0))) rfl ?_
    refine so_bin rfl rfl ab_flss ?_
    refine so_move (v := (.v (.bool (fcmp .lss .f32 a0 (cz .f32 0))))) rfl ?_
    replace h := ofT h; rcases h with ⟨c105, h⟩ | ⟨c105, h⟩
    · refine so_gno rfl c105 ?_
      refine so_gno rfl c105 ?_
      refine so_gno rfl c105 ?_
      refine so_pick_t (v := (.v (.bool true))) rfl c105 rfl ?_
      refine so_assign (v := (.v (.bool true))) rfl ?_
      refine so_nil ?_
      refine fi_true rfl rfl ?_
      refine fi_seq ?_
      refine fi_region ?_
      refine sv_callS (math_NaN_ok  hs  _ h) (fun _ _ ⟨_, _, _, e⟩ => e) rfl rfl ?_
      clear h
      rintro _ _ ⟨y106, h, rfl, rfl⟩
      obtain ⟨c108, h⟩ := h
      refine sv_ffn c108 rfl F39.us28 F39.in23 F39.fl23 ?_
      refine so_assign (v := (.v (.flt .f32 (narrow y106)))) rfl ?_
      refine so_nil ?_
      exact by_ret rfl ⟨_, h, rfl, rfl⟩
    · refine so_gyes rfl c105 ?_
      refine so_move (v := (.v (.flt .f32 a0))) rfl ?_
      refine so_gyes rfl c105 ?_
      refine so_move (v := (.v (.flt .f32 a0))) rfl ?_
      refine so_gyes rfl c105 ?_
      refine so_bin rfl rfl ab_fneq ?_
      refine so_pick_f (v := (.v (.bool (fcmp .neq .f32 a0 a0)))) rfl c105 rfl ?_
      refine so_assign (v := (.v (.bool (fcmp .neq .f32 a0 a0)))) rfl ?_
      refine so_nil ?_
      replace h := ofT h; rcases h with ⟨c109, h⟩ | ⟨c109, h⟩
      · refine fi_true rfl c109 ?_
        refine fi_seq ?_
        refine fi_region ?_
        refine sv_callS (math_NaN_ok  hs  _ h) (fun _ _ ⟨_, _, _, e⟩ => e) rfl rfl ?_
        clear h
        rintro _ _ ⟨y110, h, rfl, rfl⟩
        obtain ⟨c112, h⟩ := h
        refine sv_ffn c112 rfl F39.us28 F39.in23 F39.fl23 ?_
        refine so_assign (v := (.v (.flt .f32 (narrow y110)))) rfl ?_
        refine so_nil ?_
        exact by_ret rfl ⟨_, h, rfl, rfl⟩
      · refine fi_false rfl c109 ?_
        refine fi_seq ?_
        refine fi_region ?_
        refine so_move (v := (.v (.flt .f32 a0))) rfl ?_
        refine sv_callS (impl_IsFinite_ok a0 hs  _ h) (fun _ _ ⟨_, _, _, e⟩ => e) rfl rfl ?_
        clear h
        rintro _ _ ⟨y113, h, rfl, rfl⟩
        refine so_un rfl au_not ?_
        refine so_assign (v := (.v (.bool (!y113)))) rfl ?_
        refine so_nil ?_
        replace h := ofT h; rcases h with ⟨c115, h⟩ | ⟨c115, h⟩
        · refine fi_false rfl (not_f c115) ?_
          refine fi_skip ?_
          refine fi_inBlock ?_
          refine fi_seq ?_
          refine fi_region ?_
          refine so_move (v := (.v (.flt .f32 a0))) rfl ?_
          refine sv_ffw rfl F39.us23 F39.in28 F39.fl28 ?_
          refine sv_callS (impl_naturalLog_ok (widen a0) hs  _ h) (fun _ _ ⟨_, _, _, e⟩ => e) rfl rfl ?_
          clear h
          rintro _ _ ⟨y116, h, rfl, rfl⟩
          obtain ⟨c118, h⟩ := h
          refine sv_ffn c118 rfl F39.us28 F39.in23 F39.fl23 ?_
          refine so_assign (v := (.v (.flt .f32 (narrow y116)))) rfl ?_
          refine so_nil ?_
          exact by_ret rfl ⟨_, h, rfl, rfl⟩
        · refine fi_true rfl (not_t c115) ?_
          refine fi_seq ?_
          refine fi_region ?_
          refine so_move (v := (.v (.flt .f32 a0))) rfl ?_
          refine so_assign (v := (.v (.flt .f32 a0))) rfl ?_
          refine so_nil ?_
          exact by_ret rfl ⟨_, h, rfl, rfl⟩

end Go.Proofs.Ytecdkjnomkdbkaa.G

namespace Go.Proofs.Ytecdkjnomkdbkaa.G
open Go Go.Ab Go.Proofs Go.Proofs.Ytecdkjnomkdbkaa
set_option maxRecDepth 100000
set_option linter.unusedVariables false
set_option linter.unusedSimpArgs false
set_option maxHeartbeats 1000000
attribute [local irreducible] wops wopf Go.Ab.Fin
theorem impl_finite_ok {fr : List Pc} {H : Heap} (a0 : Nat) (hs : Sep H (fr))  (K : Nat → Bool → Prop) (h : impl_finite.wp a0 K) : OkQ Try.prog 40 [(.v (.flt .f32 a0))] H (fun r H2 => ∃ (y0 : Nat) (y1 : Bool), K y0 y1 ∧ r = (.t [(.v (.flt .f32 y0)), (.v (.bool y1))]) ∧ H = H2) := by
  unfold impl_finite.wp at h
  refine of_body Try.f40 F.hm Try.func40 rfl Try.call40 (by kernel_rfl) (by simp) ?_
  refine fi_seq ?_
  refine fi_region ?_
  refine so_assign (v := (.v (.flt .f32 (cz .f32 0)))) rfl ?_
  refine so_assign (v := (.v (.bool false))) rfl ?_
  refine so_nil ?_
  refine fi_seq ?_
  refine fi_seq ?_
  refine fi_region ?_
  refine so_move (v := (.v (.flt .f32 a0))) rfl ?_
  refine sv_callS (impl_IsFinite_ok a0 hs  _ h) (fun _ _ ⟨_, _, _, e⟩ => e) rfl rfl ?_
  clear h
  rintro _ _ ⟨y101, h, rfl, rfl⟩
  refine so_un rfl au_not ?_
  refine so_nil ?_
  replace h := ofT h; rcases h with ⟨c103, h⟩ | ⟨c103, h⟩
  · refine fi_false rfl (not_f c103) ?_
    refine fi_skip ?_
    refine fi_seq ?_
    refine fi_region ?_
    refine so_move (v := (.v (.flt .f32 a0))) rfl ?_
    refine so_assign (v := (.v (.flt .f32 a0))) rfl ?_
    refine so_assign (v := (.v (.bool true))) rfl ?_
    refine so_nil ?_
    exact by_ret rfl ⟨_, _, h, rfl, rfl⟩
  · refine fi_true rfl (not_t c103) ?_
    refine fi_seq ?_
    refine fi_region ?_
    refine so_assign (v := (.v (.flt .f32 (cz .f32 0)))) rfl ?_
    refine so_assign (v := (.v (.bool false))) rfl ?_
    refine so_nil ?_
    exact by_ret rfl ⟨_, _, h, rfl, rfl⟩

end Go.Proofs.Ytecdkjnomkdbkaa.G

namespace Go.Proofs.Ytecdkjnomkdbkaa.G
open Go Go.Ab Go.Proofs Go.Proofs.Ytecdkjnomkdbkaa
set_option maxRecDepth 100000
set_option linter.unusedVariables false
set_option linter.unusedSimpArgs false
set_option maxHeartbeats 1000000
attribute [local irreducible] wops wopf Go.Ab.Fin
theorem F9.ag2 : tagg Try.prog 2 = some false := by kernel_rfl
theorem F9.fl23 : tflt Try.prog 23 = some .f32 := by kernel_rfl
theorem F9.in23 : tint Try.prog 23 = none := by kernel_rfl
theorem F9.sz2 : tsz Try.prog 2 = some 1 := by kernel_rfl
theorem F9.ta22_22 : tapp Try.prog 22 22 = some (1, 8) := by kernel_rfl
theorem F9.te22 : telem Try.prog 22 = some 2 := by kernel_rfl
theorem F9.ti22 : (telem Try.prog 22).isSome = true := by kernel_rfl
theorem F9.tl22 : (telem Try.prog 22).bind (tsz Try.prog) = some 1 := by kernel_rfl
theorem F9.tm67 : tmapi Try.prog 67 = some (.i64, .i64) := by kernel_rfl
theorem F9.us3 : (Try.prog.underlying 3).isSome = true := by kernel_rfl
theorem F9.ze2 : tzero Try.prog 2 = some [(.int .i64 (0 : Int))] := by kernel_rfl
theorem impl_EntropyOf_ok {fr : List Pc} {H : Heap} (v0 : AV) (l0 : List (Int)) (hs : Sep H (fr)) (g0 : ∀ H, Sep H fr → Shows H v0 1 (enc (eInt .i64) l0)) (K : Nat → Bool → Prop) (h : impl_EntropyOf.wp l0 K) : OkQ Try.prog 9 [(.v v0)] H (fun r H2 => ∃ (y0 : Nat) (y1 : Bool), K y0 y1 ∧ r = (.t [(.v (.flt .f32 y0)), (.v (.bool y1))]) ∧ Sep H2 (fr)) := by
  unfold impl_EntropyOf.wp at h
  refine of_body Try.f9 F.hm Try.func9 rfl Try.call9 (by kernel_rfl) (by simp) ?_
  refine fi_seq ?_
  refine fi_region ?_
  refine so_assign (v := (.v (.flt .f32 (cz .f32 0)))) rfl ?_
  refine so_assign (v := (.v (.bool false))) rfl ?_
  refine so_nil ?_
  refine fi_seq ?_
  refine fi_seq ?_
  refine fi_region ?_
  refine so_move (v := (.v v0)) rfl ?_
  refine sv_callS (impl_AreIntegers_ok v0 l0 hs (fun _ hs => (g0 _ hs)) _ h) (fun _ _ ⟨_, _, _, e⟩ => e) rfl rfl ?_
  clear h
  rintro _ _ ⟨y101, h, rfl, rfl⟩
  refine so_un rfl au_not ?_
  refine so_nil ?_
  replace h := ofT h; rcases h with ⟨c103, h⟩ | ⟨c103, h⟩
  · refine fi_false rfl (not_f c103) ?_
    refine fi_skip ?_
    refine fi_seq ?_
    refine fi_region ?_
    refine sv_makeMap hs F9.tm67 nofun (fun id104 H105 hs => ?_)
    refine so_assign (v := (.v (.mref id104))) rfl ?_
    refine so_nil ?_
    refine fi_seq ?_
    refine fi_region ?_
    refine sv_bslice hs (eInt .i64) ([] : List (Int)) [] F9.te22 F9.sz2 F9.ze2 rfl rfl rfl rfl (fun _ => rfl) rfl (by decide) nofun (fun v107 H108 nv107 hs => ?_)
    refine so_assign (v := (.v v107)) rfl ?_
    refine so_nil ?_
    refine fi_seq ?_
    refine fi_seq ?_
    refine fi_region ?_
    refine so_move (v := (.v v0)) rfl ?_
    refine sv_len (g0 _ hs.tl.tl) (fun _ => rfl) (by decide) rfl F9.ti22 ?_
    refine so_move (v := (.v (.int .i64 (0 : Int)))) rfl ?_
    refine so_nil ?_
    refine fi_block ?_
    refine fi_loop ?_
    refine fi_at [(0, (.v v0)), (4, (.v (.mref id104))), (5, (.v v107)), (17, (.v v0)), (18, (.v (.int .i64 (l0.length : Int)))), (19, (.v (.int .i64 (0 : Int))))] ⟨rfl, rfl, rfl, rfl, rfl, rfl, trivial⟩ ?_
    refine h (fun (order144 : List (Int)) (m146 : List (Int × Int)) (x147 : Int) => ∀ (s : Nat → TV) (H : Heap) (v145 : AV) (nv145 : v145 ≠ .nilsl), Sep H (Pc.osl v145 1 (enc (eInt .i64) order144) :: Pc.mp id104 .i64 .i64 m146 :: fr) → Fin _ _ (updL s [(0, (.v v0)), (4, (.v (.mref id104))), (5, (.v v145)), (17, (.v v0)), (18, (.v (.int .i64 (l0.length : Int)))), (19, (.v (.int .i64 x147)))]) H _) ?_ _ _ _ nv107 hs
    intro order144 m146 x147 h s177 H178 v145 nv145 hs
    refine fi_inLoop ?_
    refine fi_seq ?_
    refine fi_region ?_
    refine so_bin rfl rfl ab_lss ?_
    refine so_nil ?_
    refine fi_seq ?_
    replace h := ofP h; rcases h with ⟨c148, h⟩ | ⟨c148, h⟩
    · refine fi_true rfl (decide_eq_true c148) ?_
      refine fi_skip ?_
      refine fi_seq ?_
      refine fi_block ?_
      refine fi_seq ?_
      refine fi_region ?_
      obtain ⟨c149, h⟩ := h
      refine sv_idx (g0 _ hs.tl.tl) c149 (fun _ => rfl) (by decide) rfl rfl F9.tl22 ?_
      refine sv_cell (g0 _ hs.tl.tl) c149 (0 : Int) 0 (fun x => (AV.int .i64 x)) (fun _ => rfl) (fun _ => rfl) rfl F9.ag2 ?_
      refine so_assign (v := (.v (.int .i64 (l0.getD (x147).toNat (0 : Int))))) rfl ?_
      refine so_nil ?_
      refine fi_seq ?_
      refine fi_seq ?_
      refine fi_region ?_
      refine so_move (v := (.v (.mref id104))) rfl ?_
      refine so_move (v := (.v (.int .i64 (l0.getD (x147).toNat (0 : Int))))) rfl ?_
      obtain ⟨c150, h⟩ := h
      refine sv_lookup hs 1 rfl F9.tm67 rfl rfl (wf_i64 c150) ?_
      refine so_bin rfl rfl ab_eql ?_
      refine so_nil ?_
      replace h := ofP h; rcases h with ⟨c151, h⟩ | ⟨c151, h⟩
      · refine fi_true rfl (decide_eq_true c151) ?_
        refine fi_region ?_
        refine so_move (v := (.v v145)) rfl ?_
        refine so_move (v := (.v (.int .i64 (l0.getD (x147).toNat (0 : Int))))) rfl ?_
        refine sv_bslice hs (eInt .i64) ([(l0.getD (x147).toNat (0 : Int))] : List (Int)) [[(.int .i64 (l0.getD (x147).toNat (0 : Int)))]] F9.te22 F9.sz2 F9.ze2 rfl rfl rfl rfl (fun _ => rfl) rfl (by decide) nofun (fun v152 H153 nv152 hs => ?_)
        obtain ⟨c157, h⟩ := h
        refine sv_app hs 1 rfl (hs.shows 0 rfl) (fun _ => rfl) (by decide) F9.ta22_22 (by decide) c157 rfl rfl nofun (fun v155 H156 kv155 hs => ?_)
        replace hs := hs.del 0
        have nv155 := kv155 nv145
        refine so_assign (v := (.v v155)) rfl ?_
        refine so_nil ?_
        refine fi_region ?_
        refine so_move (v := (.v (.mref id104))) rfl ?_
        refine so_move (v := (.v (.int .i64 (l0.getD (x147).toNat (0 : Int))))) rfl ?_
        refine sv_lookup hs 1 rfl F9.tm67 rfl rfl (wf_i64 c150) ?_
        refine so_bin rfl rfl ab_add ?_
        obtain ⟨c158, h⟩ := h
        obtain ⟨c159, h⟩ := h
        refine sv_mapUpdate hs 1 rfl F9.tm67 rfl rfl rfl (wf_i64 c150) (wf_i64 c158) c159 nofun (fun H160 hs => ?_)
        refine so_nil ?_
        refine fi_inBlock ?_
        refine fi_region ?_
        refine so_bin rfl rfl ab_add ?_
        refine so_move (v := (.v (.int .i64 (IntKind.i64.wrap (x147 + (1 : Int)))))) rfl ?_
        refine so_nil ?_
        exact fi_at [(0, (.v v0)), (4, (.v (.mref id104))), (5, (.v v155)), (17, (.v v0)), (18, (.v (.int .i64 (l0.length : Int)))), (19, (.v (.int .i64 (IntKind.i64.wrap (x147 + (1 : Int))))))] ⟨rfl, rfl, rfl, rfl, rfl, rfl, trivial⟩ (h _ _ _ nv155 hs)
      · refine fi_false rfl (decide_eq_false c151) ?_
        refine fi_skip ?_
        refine fi_region ?_
        refine so_move (v := (.v (.mref id104))) rfl ?_
        refine so_move (v := (.v (.int .i64 (l0.getD (x147).toNat (0 : Int))))) rfl ?_
        refine sv_lookup hs 1 rfl F9.tm67 rfl rfl (wf_i64 c150) ?_
        refine so_bin rfl rfl ab_add ?_
        obtain ⟨c161, h⟩ := h
        obtain ⟨c162, h⟩ := h
        refine sv_mapUpdate hs 1 rfl F9.tm67 rfl rfl rfl (wf_i64 c150) (wf_i64 c161) c162 nofun (fun H163 hs => ?_)
        refine so_nil ?_
        refine fi_inBlock ?_
        refine fi_region ?_
        refine so_bin rfl rfl ab_add ?_
        refine so_move (v := (.v (.int .i64 (IntKind.i64.wrap (x147 + (1 : Int)))))) rfl ?_
        refine so_nil ?_
        exact fi_at [(0, (.v v0)), (4, (.v (.mref id104))), (5, (.v v145)), (17, (.v v0)), (18, (.v (.int .i64 (l0.length : Int)))), (19, (.v (.int .i64 (IntKind.i64.wrap (x147 + (1 : Int))))))] ⟨rfl, rfl, rfl, rfl, rfl, rfl, trivial⟩ (h _ _ _ nv145 hs)
    · refine fi_false rfl (decide_eq_false c148) ?_
      refine fi_exit rfl ?_
      refine fi_seq ?_
      refine fi_region ?_
      refine so_assign (v := (.v (.flt .f32 (cz .f32 0)))) rfl ?_
      refine so_nil ?_
      refine fi_seq ?_
      refine fi_seq ?_
      refine fi_region ?_
      refine so_move (v := (.v v145)) rfl ?_
      refine sv_len (hs.shows 0 rfl) (fun _ => rfl) (by decide) rfl F9.ti22 ?_
      refine so_move (v := (.v (.int .i64 (0 : Int)))) rfl ?_
      refine so_nil ?_
      refine fi_block ?_
      refine fi_loop ?_
      refine fi_at [(0, (.v v0)), (4, (.v (.mref id104))), (8, (.v (.flt .f32 (cz .f32 0)))), (36, (.v v145)), (37, (.v (.int .i64 (order144.length : Int)))), (38, (.v (.int .i64 (0 : Int))))] ⟨rfl, rfl, rfl, rfl, rfl, rfl, trivial⟩ ?_
      refine h (fun (sum165 : Nat) (x166 : Int) => ∀ (s : Nat → TV) (H : Heap), Sep H (Pc.osl v145 1 (enc (eInt .i64) order144) :: Pc.mp id104 .i64 .i64 m146 :: fr) → Fin _ _ (updL s [(0, (.v v0)), (4, (.v (.mref id104))), (8, (.v (.flt .f32 sum165))), (36, (.v v145)), (37, (.v (.int .i64 (order144.length : Int)))), (38, (.v (.int .i64 x166)))]) H _) ?_ _ _ hs
      intro sum165 x166 h s175 H176 hs
      refine fi_inLoop ?_
      refine fi_seq ?_
      refine fi_region ?_
      refine so_bin rfl rfl ab_lss ?_
      refine so_nil ?_
      refine fi_seq ?_
      replace h := ofP h; rcases h with ⟨c167, h⟩ | ⟨c167, h⟩
      · refine fi_true rfl (decide_eq_true c167) ?_
        refine fi_skip ?_
        refine fi_seq ?_
        refine fi_block ?_
        refine fi_seq ?_
        refine fi_region ?_
        obtain ⟨c168, h⟩ := h
        refine sv_idx (hs.shows 0 rfl) c168 (fun _ => rfl) (by decide) rfl rfl F9.tl22 ?_
        refine sv_cell (hs.shows 0 rfl) c168 (0 : Int) 0 (fun x => (AV.int .i64 x)) (fun _ => rfl) (fun _ => rfl) rfl F9.ag2 ?_
        refine so_assign (v := (.v (.int .i64 (order144.getD (x166).toNat (0 : Int))))) rfl ?_
        refine so_nil ?_
        refine fi_seq ?_
        refine fi_region ?_
        refine so_move (v := (.v (.mref id104))) rfl ?_
        refine so_move (v := (.v (.int .i64 (order144.getD (x166).toNat (0 : Int))))) rfl ?_
        obtain ⟨c169, h⟩ := h
        refine sv_lookup hs 1 rfl F9.tm67 rfl rfl (wf_i64 c169) ?_
        refine sv_if rfl F9.us3 F9.in23 F9.fl23 ?_
        refine so_move (v := (.v v0)) rfl ?_
        refine sv_len (g0 _ hs.tl.tl) (fun _ => rfl) (by decide) rfl F9.ti22 ?_
        refine sv_if rfl F9.us3 F9.in23 F9.fl23 ?_
        refine so_bin rfl rfl ab_fquo ?_
        refine so_assign (v := (.v (.flt .f32 (fop .quo .f32 (itof .f32 (mpGet m146 (order144.getD (x166).toNat (0 : Int)))) (itof .f32 (l0.length : Int)))))) rfl ?_
        refine so_nil ?_
        refine fi_region ?_
        refine so_move (v := (.v (.flt .f32 sum165))) rfl ?_
        refine so_move (v := (.v (.flt .f32 (fop .quo .f32 (itof .f32 (mpGet m146 (order144.getD (x166).toNat (0 : Int)))) (itof .f32 (l0.length : Int)))))) rfl ?_
        refine so_move (v := (.v (.flt .f32 (fop .quo .f32 (itof .f32 (mpGet m146 (order144.getD (x166).toNat (0 : Int)))) (itof .f32 (l0.length : Int)))))) rfl ?_
        refine sv_callS (impl_LogNumber_ok (fop .quo .f32 (itof .f32 (mpGet m146 (order144.getD (x166).toNat (0 : Int)))) (itof .f32 (l0.length : Int))) hs  _ h) (fun _ _ ⟨_, _, _, e⟩ => e) rfl rfl ?_
        clear h
        rintro _ _ ⟨y170, h, rfl, rfl⟩
        refine so_bin rfl rfl ab_fmul ?_
        refine so_bin rfl rfl ab_fadd ?_
        refine so_assign (v := (.v (.flt .f32 (fop .add .f32 sum165 (fop .mul .f32 (fop .quo .f32 (itof .f32 (mpGet m146 (order144.getD (x166).toNat (0 : Int)))) (itof .f32 (l0.length : Int))) y170))))) rfl ?_
        refine so_nil ?_
        refine fi_inBlock ?_
        refine fi_region ?_
        refine so_bin rfl rfl ab_add ?_
        refine so_move (v := (.v (.int .i64 (IntKind.i64.wrap (x166 + (1 : Int)))))) rfl ?_
        refine so_nil ?_
        exact fi_at [(0, (.v v0)), (4, (.v (.mref id104))), (8, (.v (.flt .f32 (fop .add .f32 sum165 (fop .mul .f32 (fop .quo .f32 (itof .f32 (mpGet m146 (order144.getD (x166).toNat (0 : Int)))) (itof .f32 (l0.length : Int))) y170))))), (36, (.v v145)), (37, (.v (.int .i64 (order144.length : Int)))), (38, (.v (.int .i64 (IntKind.i64.wrap (x166 + (1 : Int))))))] ⟨rfl, rfl, rfl, rfl, rfl, rfl, trivial⟩ (h _ _  hs)
      · refine fi_false rfl (decide_eq_false c167) ?_
        refine fi_exit rfl ?_
        refine fi_seq ?_
        refine fi_region ?_
        refine so_move (v := (.v (.flt .f32 sum165))) rfl ?_
        refine so_un rfl au_fneg' ?_
        refine so_bin rfl rfl ab_fquo ?_
        refine sv_callS (impl_finite_ok (fop .quo .f32 (fneg .f32 sum165) (cz .f32 1060205080)) hs  _ h) (fun _ _ ⟨_, _, _, _, e⟩ => e) rfl rfl ?_
        clear h
        rintro _ _ ⟨y172, y173, h, rfl, rfl⟩
        refine so_extract rfl rfl rfl ?_
        refine so_extract rfl rfl rfl ?_
        refine so_assign (v := (.v (.flt .f32 y172))) rfl ?_
        refine so_assign (v := (.v (.bool y173))) rfl ?_
        refine so_nil ?_
        exact by_ret rfl ⟨_, _, h, rfl, (Sep.del 0 (Sep.del 0 hs))⟩
  · refine fi_true rfl (not_t c103) ?_
    refine fi_seq ?_
    refine fi_region ?_
    refine so_assign (v := (.v (.flt .f32 (cz .f32 0)))) rfl ?_
    refine so_assign (v := (.v (.bool false))) rfl ?_
    refine so_nil ?_
    exact by_ret rfl ⟨_, _, h, rfl, hs⟩
theorem impl_EntropyOf_okS {fr : List Pc} {H : Heap} (v0 : AV) (l0 : List (Int)) (hs : Sep H fr) (g0 : ∀ H, Sep H fr → Shows H v0 1 (enc (eInt .i64) l0)) (K : Nat → Bool → Prop) (h : impl_EntropyOf.wp l0 K) : OkQ Try.prog 9 [(.v v0)] H (fun r H2 => ∃ (y0 : Nat) (y1 : Bool), K y0 y1 ∧ r = (.t [(.v (.flt .f32 y0)), (.v (.bool y1))]) ∧ H = H2) := by
  obtain ⟨r, H2, h1, y0, y1, hK, hr, hsep⟩ := impl_EntropyOf_ok (fr := came H) (H := H) v0 l0 (came_sep H) (came_shows (g0 H hs)) K h
  have hk : H.n ≤ H2.n ∧ ∀ i, i < H.n → H2.f i = H.f i := hsep.1.2.1
  exact ⟨r, H, h1.forget hk.1 hk.2 (by subst hr; rfl), y0, y1, hK, hr, rfl⟩

end Go.Proofs.Ytecdkjnomkdbkaa.G

namespace Go.Proofs.Ytecdkjnomkdbkaa.G
open Go Go.Ab Go.Proofs Go.Proofs.Ytecdkjnomkdbkaa
set_option maxRecDepth 100000
set_option linter.unusedVariables false
set_option linter.unusedSimpArgs false
set_option maxHeartbeats 1000000
attribute [local irreducible] wops wopf Go.Ab.Fin
theorem F3.fl28 : tflt Try.prog 28 = some .f64 := by kernel_rfl
theorem F3.in28 : tint Try.prog 28 = none := by kernel_rfl
theorem F3.tb4 : tbool Try.prog 4 = true := by kernel_rfl
theorem F3.ti22 : (telem Try.prog 22).isSome = true := by kernel_rfl
theorem F3.us23 : (Try.prog.underlying 23).isSome = true := by kernel_rfl
theorem laws_FnExactEntropyOf_ok {fr : List Pc} {H : Heap} (v0 : AV) (l0 : List (Int)) (hs : Sep H (fr)) (g0 : ∀ H, Sep H fr → Shows H v0 1 (enc (eInt .i64) l0)) (K : Bool → Prop) (h : laws_FnExactEntropyOf.wp l0 K) : OkQ Try.prog 3 [(.v v0)] H (fun r H2 => ∃ (y0 : Bool), K y0 ∧ r = (.v (.bool y0)) ∧ Sep H2 (fr)) := by
  unfold laws_FnExactEntropyOf.wp at h
  refine of_body Try.f3 F.hm Try.func3 rfl Try.call3 (by kernel_rfl) (by simp) ?_
  refine fi_seq ?_
  refine fi_region ?_
  refine so_assign (v := (.v (.bool false))) rfl ?_
  refine so_nil ?_
  refine fi_seq ?_
  refine fi_seq ?_
  refine fi_region ?_
  refine so_move (v := (.v v0)) rfl ?_
  refine sv_len (g0 _ hs) (fun _ => rfl) (by decide) rfl F3.ti22 ?_
  refine so_bin rfl rfl ab_gtr ?_
  refine so_nil ?_
  replace h := ofP h; rcases h with ⟨c101, h⟩ | ⟨c101, h⟩
  · refine fi_true rfl (decide_eq_true c101) ?_
    refine fi_seq ?_
    refine fi_region ?_
    refine so_assign (v := (.v (.bool true))) rfl ?_
    refine so_nil ?_
    exact by_ret rfl ⟨_, h, rfl, hs⟩
  · refine fi_false rfl (decide_eq_false c101) ?_
    refine fi_skip ?_
    refine fi_seq ?_
    refine fi_region ?_
    refine so_move (v := (.v v0)) rfl ?_
    refine sv_call (laws_toInt64S_ok v0 l0 hs (fun _ hs => (g0 _ hs)) _ h) rfl rfl nofun ?_
    clear h hs
    rintro _ H105 ⟨y102, h, v103, rfl, hs⟩
    refine sv_callS (spec_EntropyOf_okS v103 y102 hs (fun _ hs => (hs.shows 0 rfl)) _ h) (fun _ _ ⟨_, _, _, _, e⟩ => e) rfl rfl ?_
    clear h
    rintro _ _ ⟨y106, y107, h, rfl, rfl⟩
    refine so_move (v := (.t [(.v (.flt .f32 y106)), (.v (.bool y107))])) rfl ?_
    refine so_extract rfl rfl rfl ?_
    refine so_extract rfl rfl rfl ?_
    refine so_assign (v := (.v (.flt .f32 y106))) rfl ?_
    refine so_assign (v := (.v (.bool y107))) rfl ?_
    refine so_nil ?_
    refine fi_seq ?_
    refine fi_region ?_
    refine so_move (v := (.v v0)) rfl ?_
    refine sv_call (laws_toInt64S_ok v0 l0 hs (fun _ hs => (g0 _ hs.tl)) _ h) rfl rfl nofun ?_
    clear h hs
    rintro _ H112 ⟨y109, h, v110, rfl, hs⟩
    refine so_assign (v := (.v v110)) rfl ?_
    refine so_nil ?_
    refine fi_seq ?_
    refine fi_region ?_
    refine so_move (v := (.v v110)) rfl ?_
    refine sv_callS (impl_EntropyOf_okS v110 y109 hs (fun _ hs => (hs.shows 0 rfl)) _ h) (fun _ _ ⟨_, _, _, _, e⟩ => e) rfl rfl ?_
    clear h
    rintro _ _ ⟨y113, y114, h, rfl, rfl⟩
    refine so_move (v := (.t [(.v (.flt .f32 y113)), (.v (.bool y114))])) rfl ?_
    refine so_extract rfl rfl rfl ?_
    refine so_extract rfl rfl rfl ?_
    refine so_assign (v := (.v (.flt .f32 y113))) rfl ?_
    refine so_assign (v := (.v (.bool y114))) rfl ?_
    refine so_nil ?_
    refine fi_seq ?_
    refine fi_seq ?_
    refine fi_region ?_
    refine so_move (v := (.v (.flt .f32 y113))) rfl ?_
    refine sv_ffw rfl F3.us23 F3.in28 F3.fl28 ?_
    refine so_move (v := (.v (.flt .f32 y106))) rfl ?_
    refine sv_ffw rfl F3.us23 F3.in28 F3.fl28 ?_
    refine sv_callS (laws_sameFloat_ok (widen y113) (widen y106) hs  _ h) (fun _ _ ⟨_, _, _, e⟩ => e) rfl rfl ?_
    clear h
    rintro _ _ ⟨y116, h, rfl, rfl⟩
    refine so_un rfl au_not ?_
    refine so_move (v := (.v (.bool (!y116)))) rfl ?_
    replace h := ofT h; rcases h with ⟨c118, h⟩ | ⟨c118, h⟩
    · refine so_gyes rfl (not_f c118) ?_
      refine so_move (v := (.v (.bool y114))) rfl ?_
      refine so_gyes rfl (not_f c118) ?_
      refine so_move (v := (.v (.bool y107))) rfl ?_
      refine so_gyes rfl (not_f c118) ?_
      refine so_bin rfl rfl (ab_bneq F3.tb4) ?_
      refine so_pick_f (v := (.v (.bool (!(y114 == y107))))) rfl (not_f c118) rfl ?_
      refine so_nil ?_
      replace h := ofT h; rcases h with ⟨c119, h⟩ | ⟨c119, h⟩
      · refine fi_false rfl (not_f c119) ?_
        refine fi_skip ?_
        refine fi_seq ?_
        refine fi_seq ?_
        refine fi_region ?_
        refine so_move (v := (.v v110)) rfl ?_
        refine so_move (v := (.v v0)) rfl ?_
        refine sv_call (laws_toInt64S_ok v0 l0 hs (fun _ hs => (g0 _ hs.tl.tl)) _ h) rfl rfl nofun ?_
        clear h hs
        rintro _ H123 ⟨y120, h, v121, rfl, hs⟩
        refine sv_callS (laws_eqInt64S_ok v110 y109 v121 y120 hs (fun _ hs => (hs.shows 1 rfl)) (fun _ hs => (hs.shows 0 rfl)) _ h) (fun _ _ ⟨_, _, _, e⟩ => e) rfl rfl ?_
        clear h
        rintro _ _ ⟨y124, h, rfl, rfl⟩
        refine so_un rfl au_not ?_
        refine so_nil ?_
        replace h := ofT h; rcases h with ⟨c126, h⟩ | ⟨c126, h⟩
        · refine fi_false rfl (not_f c126) ?_
          refine fi_skip ?_
          refine fi_seq ?_
          refine fi_region ?_
          refine so_assign (v := (.v (.bool true))) rfl ?_
          refine so_nil ?_
          exact by_ret rfl ⟨_, h, rfl, (Sep.del 0 (Sep.del 0 (Sep.del 0 hs)))⟩
        · refine fi_true rfl (not_t c126) ?_
          refine fi_seq ?_
          refine fi_region ?_
          refine so_assign (v := (.v (.bool false))) rfl ?_
          refine so_nil ?_
          exact by_ret rfl ⟨_, h, rfl, (Sep.del 0 (Sep.del 0 (Sep.del 0 hs)))⟩
      · refine fi_true rfl (not_t c119) ?_
        refine fi_seq ?_
        refine fi_region ?_
        refine so_assign (v := (.v (.bool false))) rfl ?_
        refine so_nil ?_
        exact by_ret rfl ⟨_, h, rfl, (Sep.del 0 (Sep.del 0 hs))⟩
    · refine so_gno rfl (not_t c118) ?_
      refine so_gno rfl (not_t c118) ?_
      refine so_gno rfl (not_t c118) ?_
      refine so_pick_t (v := (.v (.bool true))) rfl (not_t c118) rfl ?_
      refine so_nil ?_
      refine fi_true rfl rfl ?_
      refine fi_seq ?_
      refine fi_region ?_
      refine so_assign (v := (.v (.bool false))) rfl ?_
      refine so_nil ?_
      exact by_ret rfl ⟨_, h, rfl, (Sep.del 0 (Sep.del 0 hs))⟩

end Go.Proofs.Ytecdkjnomkdbkaa.G

