/-
  The model ends so. Printed by a program of the session; nothing here is trusted.
-/
import Derived.Test.YtecdkjnomkdbkaaProg
import Derived.KernelRfl
import Derived.Test.YtecdkjnomkdbkaaMCutsWa
namespace Go.Proofs.Ytecdkjnomkdbkaa.F
open Go Go.Ab Go.Proofs
set_option maxRecDepth 100000
set_option linter.unusedVariables false
set_option linter.unusedSimpArgs false
set_option maxHeartbeats 1000000
theorem hm : Try.prog.follows .mixedOrders = true := by kernel_rfl
end Go.Proofs.Ytecdkjnomkdbkaa.F

namespace Go.Proofs.Ytecdkjnomkdbkaa.G
open Go Go.Ab Go.Proofs Go.Proofs.Ytecdkjnomkdbkaa
set_option maxRecDepth 100000
set_option linter.unusedVariables false
set_option linter.unusedSimpArgs false
set_option maxHeartbeats 1000000
attribute [local irreducible] wops wopf Go.Ab.Fin
theorem spec_l00In_ok {fr : List Pc} {H : Heap} (a0 : Int) (a1 : Int) (a2 : Int) (hs : Sep H (fr))  (K : Bool → Prop) (h : spec_l00In.wp a0 a1 a2 K) : OkQ Try.prog 43 [(.v (.int .i64 a0)), (.v (.int .i64 a1)), (.v (.int .i64 a2))] H (fun r H2 => ∃ (y0 : Bool), K y0 ∧ r = (.v (.bool y0)) ∧ H = H2) := by
  unfold spec_l00In.wp at h
  refine of_body Try.f43 F.hm Try.func43 rfl Try.call43 (by kernel_rfl) (by simp) ?_
  refine fi_seq ?_
  refine fi_region ?_
  refine so_assign (v := (.v (.bool false))) rfl ?_
  refine so_nil ?_
  refine fi_seq ?_
  refine fi_region ?_
  refine so_move (v := (.v (.int .i64 a0))) rfl ?_
  refine so_move (v := (.v (.int .i64 a1))) rfl ?_
  refine so_bin rfl rfl ab_geq ?_
  refine so_move (v := (.v (.bool (decide (a1 ≤ a0))))) rfl ?_
  replace h := ofP h; rcases h with ⟨c101, h⟩ | ⟨c101, h⟩
  · refine so_gyes rfl (decide_eq_true c101) ?_
    refine so_move (v := (.v (.int .i64 a0))) rfl ?_
    refine so_gyes rfl (decide_eq_true c101) ?_
    refine so_move (v := (.v (.int .i64 a2))) rfl ?_
    refine so_gyes rfl (decide_eq_true c101) ?_
    refine so_bin rfl rfl ab_leq ?_
    refine so_pick_t (v := (.v (.bool (decide (a0 ≤ a2))))) rfl (decide_eq_true c101) rfl ?_
    refine so_assign (v := (.v (.bool (decide (a0 ≤ a2))))) rfl ?_
    refine so_nil ?_
    exact by_ret rfl ⟨_, h, rfl, rfl⟩
  · refine so_gno rfl (decide_eq_false c101) ?_
    refine so_gno rfl (decide_eq_false c101) ?_
    refine so_gno rfl (decide_eq_false c101) ?_
    refine so_pick_f (v := (.v (.bool false))) rfl (decide_eq_false c101) rfl ?_
    refine so_assign (v := (.v (.bool false))) rfl ?_
    refine so_nil ?_
    exact by_ret rfl ⟨_, h, rfl, rfl⟩

end Go.Proofs.Ytecdkjnomkdbkaa.G

namespace Go.Proofs.Ytecdkjnomkdbkaa.G
open Go Go.Ab Go.Proofs Go.Proofs.Ytecdkjnomkdbkaa
set_option maxRecDepth 100000
set_option linter.unusedVariables false
set_option linter.unusedSimpArgs false
set_option maxHeartbeats 1000000
attribute [local irreducible] wops wopf Go.Ab.Fin
theorem spec_l01Finite_ok {fr : List Pc} {H : Heap} (a0 : Nat) (hs : Sep H (fr))  (K : Bool → Prop) (h : spec_l01Finite.wp a0 K) : OkQ Try.prog 44 [(.v (.flt .f32 a0))] H (fun r H2 => ∃ (y0 : Bool), K y0 ∧ r = (.v (.bool y0)) ∧ H = H2) := by
  unfold spec_l01Finite.wp at h
  refine of_body Try.f44 F.hm Try.func44 rfl Try.call44 (by kernel_rfl) (by simp) ?_
  refine fi_seq ?_
  refine fi_region ?_
  refine so_assign (v := (.v (.bool false))) rfl ?_
  refine so_nil ?_
  refine fi_seq ?_
  refine fi_region ?_
  refine so_move (v := (.v (.flt .f32 a0))) rfl ?_
  refine so_move (v := (.v (.flt .f32 a0))) rfl ?_
  refine so_bin rfl rfl ab_fsub ?_
  refine so_bin rfl rfl ab_feql ?_
  refine so_assign (v := (.v (.bool (fcmp .eql .f32 (fop .sub .f32 a0 a0) (cz .f32 0))))) rfl ?_
  refine so_nil ?_
  exact by_ret rfl ⟨_, h, rfl, rfl⟩

end Go.Proofs.Ytecdkjnomkdbkaa.G

namespace Go.Proofs.Ytecdkjnomkdbkaa.G
open Go Go.Ab Go.Proofs Go.Proofs.Ytecdkjnomkdbkaa
set_option maxRecDepth 100000
set_option linter.unusedVariables false
set_option linter.unusedSimpArgs false
set_option maxHeartbeats 1000000
attribute [local irreducible] wops wopf Go.Ab.Fin
theorem spec_l02Least_ok {fr : List Pc} {H : Heap} (a0 : Nat) (hs : Sep H (fr))  (K : Bool → Prop) (h : spec_l02Least.wp a0 K) : OkQ Try.prog 68 [(.v (.flt .f32 a0))] H (fun r H2 => ∃ (y0 : Bool), K y0 ∧ r = (.v (.bool y0)) ∧ H = H2) := by
  unfold spec_l02Least.wp at h
  refine of_body Try.f68 F.hm Try.func68 rfl Try.call68 (by kernel_rfl) (by simp) ?_
  refine fi_seq ?_
  refine fi_region ?_
  refine so_assign (v := (.v (.bool false))) rfl ?_
  refine so_nil ?_
  refine fi_seq ?_
  refine fi_region ?_
  refine so_move (v := (.v (.flt .f32 a0))) rfl ?_
  refine sv_callS (spec_l01Finite_ok a0 hs  _ h) (fun _ _ ⟨_, _, _, e⟩ => e) rfl rfl ?_
  clear h
  rintro _ _ ⟨y101, h, rfl, rfl⟩
  refine so_move (v := (.v (.bool y101))) rfl ?_
  replace h := ofT h; rcases h with ⟨c103, h⟩ | ⟨c103, h⟩
  · refine so_gyes rfl c103 ?_
    refine so_move (v := (.v (.flt .f32 a0))) rfl ?_
    refine so_gyes rfl c103 ?_
    refine so_bin rfl rfl ab_fgeq ?_
    refine so_pick_t (v := (.v (.bool (fcmp .geq .f32 a0 (cz .f32 0))))) rfl c103 rfl ?_
    refine so_assign (v := (.v (.bool (fcmp .geq .f32 a0 (cz .f32 0))))) rfl ?_
    refine so_nil ?_
    exact by_ret rfl ⟨_, h, rfl, rfl⟩
  · refine so_gno rfl c103 ?_
    refine so_gno rfl c103 ?_
    refine so_pick_f (v := (.v (.bool false))) rfl c103 rfl ?_
    refine so_assign (v := (.v (.bool false))) rfl ?_
    refine so_nil ?_
    exact by_ret rfl ⟨_, h, rfl, rfl⟩

end Go.Proofs.Ytecdkjnomkdbkaa.G

namespace Go.Proofs.Ytecdkjnomkdbkaa.G
open Go Go.Ab Go.Proofs Go.Proofs.Ytecdkjnomkdbkaa
set_option maxRecDepth 100000
set_option linter.unusedVariables false
set_option linter.unusedSimpArgs false
set_option maxHeartbeats 1000000
attribute [local irreducible] wops wopf Go.Ab.Fin
theorem F81.ag2 : tagg Try.prog 2 = some false := by kernel_rfl
theorem F81.ag23 : tagg Try.prog 23 = some false := by kernel_rfl
theorem F81.fd49_0 : tfield Try.prog 49 0 = some (0, 1, false) := by kernel_rfl
theorem F81.fd49_1 : tfield Try.prog 49 1 = some (1, 1, false) := by kernel_rfl
theorem F81.ti47 : (telem Try.prog 47).isSome = true := by kernel_rfl
theorem F81.tl47 : (telem Try.prog 47).bind (tsz Try.prog) = some 2 := by kernel_rfl
theorem spec_l07Costs_ok {fr : List Pc} {H : Heap} (v0 : AV) (l0 : List ((Int) × (Nat))) (hs : Sep H (fr)) (g0 : ∀ H, Sep H fr → Shows H v0 2 (enc (ePair (eInt .i64) (eFlt .f32)) l0)) (K : Bool → Prop) (h : spec_l07Costs.wp l0 K) : OkQ Try.prog 81 [(.v v0)] H (fun r H2 => ∃ (y0 : Bool), K y0 ∧ r = (.v (.bool y0)) ∧ H = H2) := by
  unfold spec_l07Costs.wp at h
  refine of_body Try.f81 F.hm Try.func81 rfl Try.call81 (by kernel_rfl) (by simp) ?_
  refine fi_seq ?_
  refine fi_region ?_
  refine so_assign (v := (.v (.bool false))) rfl ?_
  refine so_nil ?_
  refine fi_seq ?_
  refine fi_region ?_
  refine so_move (v := (.v v0)) rfl ?_
  refine sv_len (g0 _ hs) (fun _ => rfl) (by decide) rfl F81.ti47 ?_
  refine so_assign (v := (.v (.int .i64 (l0.length : Int)))) rfl ?_
  refine so_nil ?_
  refine fi_seq ?_
  refine fi_seq ?_
  refine fi_region ?_
  refine so_move (v := (.v (.int .i64 (l0.length : Int)))) rfl ?_
  refine so_bin rfl rfl ab_lss ?_
  refine so_move (v := (.v (.bool (decide ((l0.length : Int) < (1 : Int)))))) rfl ?_
  replace h := ofP h; rcases h with ⟨c101, h⟩ | ⟨c101, h⟩
  · refine so_gno rfl (decide_eq_true c101) ?_
    refine so_gno rfl (decide_eq_true c101) ?_
    refine so_pick_t (v := (.v (.bool true))) rfl (decide_eq_true c101) rfl ?_
    refine so_nil ?_
    refine fi_true rfl rfl ?_
    refine fi_seq ?_
    refine fi_region ?_
    refine so_assign (v := (.v (.bool false))) rfl ?_
    refine so_nil ?_
    exact by_ret rfl ⟨_, h, rfl, rfl⟩
  · refine so_gyes rfl (decide_eq_false c101) ?_
    refine so_move (v := (.v (.int .i64 (l0.length : Int)))) rfl ?_
    refine so_gyes rfl (decide_eq_false c101) ?_
    refine so_bin rfl rfl ab_gtr ?_
    refine so_pick_f (v := (.v (.bool (decide ((16 : Int) < (l0.length : Int)))))) rfl (decide_eq_false c101) rfl ?_
    refine so_nil ?_
    replace h := ofP h; rcases h with ⟨c102, h⟩ | ⟨c102, h⟩
    · refine fi_true rfl (decide_eq_true c102) ?_
      refine fi_seq ?_
      refine fi_region ?_
      refine so_assign (v := (.v (.bool false))) rfl ?_
      refine so_nil ?_
      exact by_ret rfl ⟨_, h, rfl, rfl⟩
    · refine fi_false rfl (decide_eq_false c102) ?_
      refine fi_skip ?_
      refine fi_seq ?_
      refine fi_seq ?_
      refine fi_region ?_
      refine so_move (v := (.v v0)) rfl ?_
      refine sv_len (g0 _ hs) (fun _ => rfl) (by decide) rfl F81.ti47 ?_
      refine so_move (v := (.v (.int .i64 (0 : Int)))) rfl ?_
      refine so_nil ?_
      refine fi_block ?_
      refine fi_loop ?_
      refine fi_at [(0, (.v v0)), (14, (.v (.int .i64 (l0.length : Int)))), (15, (.v (.int .i64 (0 : Int))))] ⟨rfl, rfl, rfl, trivial⟩ ?_
      refine h (fun (x104 : Int) => ∀ (s : Nat → TV), Fin _ _ (updL s [(0, (.v v0)), (14, (.v (.int .i64 (l0.length : Int)))), (15, (.v (.int .i64 x104)))]) _ _) ?_ _
      intro x104 h s117
      refine fi_inLoop ?_
      refine fi_seq ?_
      refine fi_region ?_
      refine so_bin rfl rfl ab_lss ?_
      refine so_nil ?_
      refine fi_seq ?_
      replace h := ofP h; rcases h with ⟨c105, h⟩ | ⟨c105, h⟩
      · refine fi_true rfl (decide_eq_true c105) ?_
        refine fi_skip ?_
        refine fi_seq ?_
        refine fi_block ?_
        refine fi_seq ?_
        refine fi_region ?_
        refine so_move (v := (.v (.int .i64 x104))) rfl ?_
        refine so_assign (v := (.v (.int .i64 x104))) rfl ?_
        refine so_nil ?_
        refine fi_seq ?_
        refine fi_seq ?_
        refine fi_region ?_
        refine so_move (v := (.v v0)) rfl ?_
        refine so_move (v := (.v (.int .i64 x104))) rfl ?_
        obtain ⟨c106, h⟩ := h
        refine sv_idx (g0 _ hs) c106 (fun _ => rfl) (by decide) rfl rfl F81.tl47 ?_
        refine so_fieldAddr rfl F81.fd49_0 ?_
        refine sv_cell (g0 _ hs) c106 ((0 : Int), (0 : Nat)) 0 (fun x => (AV.int .i64 x.1)) (fun _ => rfl) (fun _ => rfl) rfl F81.ag2 ?_
        refine sv_callS (spec_l00In_ok (l0.getD (x104).toNat ((0 : Int), (0 : Nat))).1 (0 : Int) (512 : Int) hs  _ h) (fun _ _ ⟨_, _, _, e⟩ => e) rfl rfl ?_
        clear h
        rintro _ _ ⟨y107, h, rfl, rfl⟩
        refine so_un rfl au_not ?_
        refine so_move (v := (.v (.bool (!y107)))) rfl ?_
        replace h := ofT h; rcases h with ⟨c109, h⟩ | ⟨c109, h⟩
        · refine so_gyes rfl (not_f c109) ?_
          refine so_move (v := (.v v0)) rfl ?_
          refine so_gyes rfl (not_f c109) ?_
          refine so_move (v := (.v (.int .i64 x104))) rfl ?_
          refine so_gyes rfl (not_f c109) ?_
          refine sv_idx (g0 _ hs) c106 (fun _ => rfl) (by decide) rfl rfl F81.tl47 ?_
          refine so_gyes rfl (not_f c109) ?_
          refine so_fieldAddr rfl F81.fd49_1 ?_
          refine so_gyes rfl (not_f c109) ?_
          refine sv_cell (g0 _ hs) c106 ((0 : Int), (0 : Nat)) 1 (fun x => (AV.flt .f32 x.2)) (fun _ => rfl) (fun _ => rfl) rfl F81.ag23 ?_
          refine so_gyes rfl (not_f c109) ?_
          refine sv_callS (spec_l02Least_ok (l0.getD (x104).toNat ((0 : Int), (0 : Nat))).2 hs  _ h) (fun _ _ ⟨_, _, _, e⟩ => e) rfl rfl ?_
          clear h
          rintro _ _ ⟨y110, h, rfl, rfl⟩
          refine so_gyes rfl (not_f c109) ?_
          refine so_un rfl au_not ?_
          refine so_pick_f (v := (.v (.bool (!y110)))) rfl (not_f c109) rfl ?_
          refine so_nil ?_
          replace h := ofT h; rcases h with ⟨c112, h⟩ | ⟨c112, h⟩
          · refine fi_false rfl (not_f c112) ?_
            refine fi_skip ?_
            refine fi_seq ?_
            refine fi_region ?_
            refine so_move (v := (.v (.int .i64 x104))) rfl ?_
            refine so_bin rfl rfl ab_gtr ?_
            refine so_move (v := (.v (.bool (decide ((0 : Int) < x104))))) rfl ?_
            replace h := ofP h; rcases h with ⟨c113, h⟩ | ⟨c113, h⟩
            · refine so_gyes rfl (decide_eq_true c113) ?_
              refine so_move (v := (.v v0)) rfl ?_
              refine so_gyes rfl (decide_eq_true c113) ?_
              refine so_move (v := (.v (.int .i64 x104))) rfl ?_
              refine so_gyes rfl (decide_eq_true c113) ?_
              refine sv_idx (g0 _ hs) c106 (fun _ => rfl) (by decide) rfl rfl F81.tl47 ?_
              refine so_gyes rfl (decide_eq_true c113) ?_
              refine so_fieldAddr rfl F81.fd49_0 ?_
              refine so_gyes rfl (decide_eq_true c113) ?_
              refine sv_cell (g0 _ hs) c106 ((0 : Int), (0 : Nat)) 0 (fun x => (AV.int .i64 x.1)) (fun _ => rfl) (fun _ => rfl) rfl F81.ag2 ?_
              refine so_gyes rfl (decide_eq_true c113) ?_
              refine so_move (v := (.v v0)) rfl ?_
              refine so_gyes rfl (decide_eq_true c113) ?_
              refine so_move (v := (.v (.int .i64 x104))) rfl ?_
              refine so_gyes rfl (decide_eq_true c113) ?_
              refine so_bin rfl rfl ab_sub ?_
              refine so_gyes rfl (decide_eq_true c113) ?_
              obtain ⟨c114, h⟩ := h
              refine sv_idx (g0 _ hs) c114 (fun _ => rfl) (by decide) rfl rfl F81.tl47 ?_
              refine so_gyes rfl (decide_eq_true c113) ?_
              refine so_fieldAddr rfl F81.fd49_0 ?_
              refine so_gyes rfl (decide_eq_true c113) ?_
              refine sv_cell (g0 _ hs) c114 ((0 : Int), (0 : Nat)) 0 (fun x => (AV.int .i64 x.1)) (fun _ => rfl) (fun _ => rfl) rfl F81.ag2 ?_
              refine so_gyes rfl (decide_eq_true c113) ?_
              refine so_bin rfl rfl ab_leq ?_
              refine so_gyes rfl (decide_eq_true c113) ?_
              refine so_move (v := (.v (.bool (decide ((l0.getD (x104).toNat ((0 : Int), (0 : Nat))).1 ≤ (l0.getD ((IntKind.i64.wrap (x104 - (1 : Int)))).toNat ((0 : Int), (0 : Nat))).1))))) rfl ?_
              replace h := ofP h; rcases h with ⟨c115, h⟩ | ⟨c115, h⟩
              · refine so_gno rfl (decide_eq_true c115) ?_
                refine so_gno rfl (decide_eq_true c115) ?_
                refine so_gno rfl (decide_eq_true c115) ?_
                refine so_gno rfl (decide_eq_true c115) ?_
                refine so_gno rfl (decide_eq_true c115) ?_
                refine so_gno rfl (decide_eq_true c115) ?_
                refine so_gno rfl (decide_eq_true c115) ?_
                refine so_gno rfl (decide_eq_true c115) ?_
                refine so_gno rfl (decide_eq_true c115) ?_
                refine so_gno rfl (decide_eq_true c115) ?_
                refine so_gno rfl (decide_eq_true c115) ?_
                refine so_gno rfl (decide_eq_true c115) ?_
                refine so_gyes rfl (decide_eq_true c113) ?_
                refine so_pick_t (v := (.v (.bool true))) rfl (decide_eq_true c115) rfl ?_
                refine so_pick_t (v := (.v (.bool true))) rfl (decide_eq_true c113) rfl ?_
                refine so_nil ?_
                refine fi_true rfl rfl ?_
                refine fi_seq ?_
                refine fi_region ?_
                refine so_assign (v := (.v (.bool false))) rfl ?_
                refine so_nil ?_
                exact by_ret rfl ⟨_, h, rfl, rfl⟩
              · refine so_gyes rfl (decide_eq_false c115) ?_
                refine so_move (v := (.v v0)) rfl ?_
                refine so_gyes rfl (decide_eq_false c115) ?_
                refine so_move (v := (.v (.int .i64 x104))) rfl ?_
                refine so_gyes rfl (decide_eq_false c115) ?_
                refine sv_idx (g0 _ hs) c106 (fun _ => rfl) (by decide) rfl rfl F81.tl47 ?_
                refine so_gyes rfl (decide_eq_false c115) ?_
                refine so_fieldAddr rfl F81.fd49_1 ?_
                refine so_gyes rfl (decide_eq_false c115) ?_
                refine sv_cell (g0 _ hs) c106 ((0 : Int), (0 : Nat)) 1 (fun x => (AV.flt .f32 x.2)) (fun _ => rfl) (fun _ => rfl) rfl F81.ag23 ?_
                refine so_gyes rfl (decide_eq_false c115) ?_
                refine so_move (v := (.v v0)) rfl ?_
                refine so_gyes rfl (decide_eq_false c115) ?_
                refine so_move (v := (.v (.int .i64 x104))) rfl ?_
                refine so_gyes rfl (decide_eq_false c115) ?_
                refine so_bin rfl rfl ab_sub ?_
                refine so_gyes rfl (decide_eq_false c115) ?_
                refine sv_idx (g0 _ hs) c114 (fun _ => rfl) (by decide) rfl rfl F81.tl47 ?_
                refine so_gyes rfl (decide_eq_false c115) ?_
                refine so_fieldAddr rfl F81.fd49_1 ?_
                refine so_gyes rfl (decide_eq_false c115) ?_
                refine sv_cell (g0 _ hs) c114 ((0 : Int), (0 : Nat)) 1 (fun x => (AV.flt .f32 x.2)) (fun _ => rfl) (fun _ => rfl) rfl F81.ag23 ?_
                refine so_gyes rfl (decide_eq_false c115) ?_
                refine so_bin rfl rfl ab_fgeq ?_
                refine so_gyes rfl (decide_eq_true c113) ?_
                refine so_pick_f (v := (.v (.bool (fcmp .geq .f32 (l0.getD (x104).toNat ((0 : Int), (0 : Nat))).2 (l0.getD ((IntKind.i64.wrap (x104 - (1 : Int)))).toNat ((0 : Int), (0 : Nat))).2)))) rfl (decide_eq_false c115) rfl ?_
                refine so_pick_t (v := (.v (.bool (fcmp .geq .f32 (l0.getD (x104).toNat ((0 : Int), (0 : Nat))).2 (l0.getD ((IntKind.i64.wrap (x104 - (1 : Int)))).toNat ((0 : Int), (0 : Nat))).2)))) rfl (decide_eq_true c113) rfl ?_
                refine so_nil ?_
                replace h := ofT h; rcases h with ⟨c116, h⟩ | ⟨c116, h⟩
                · refine fi_true rfl c116 ?_
                  refine fi_seq ?_
                  refine fi_region ?_
                  refine so_assign (v := (.v (.bool false))) rfl ?_
                  refine so_nil ?_
                  exact by_ret rfl ⟨_, h, rfl, rfl⟩
                · refine fi_false rfl c116 ?_
                  refine fi_skip ?_
                  refine fi_inBlock ?_
                  refine fi_region ?_
                  refine so_bin rfl rfl ab_add ?_
                  refine so_move (v := (.v (.int .i64 (IntKind.i64.wrap (x104 + (1 : Int)))))) rfl ?_
                  refine so_nil ?_
                  exact fi_at [(0, (.v v0)), (14, (.v (.int .i64 (l0.length : Int)))), (15, (.v (.int .i64 (IntKind.i64.wrap (x104 + (1 : Int))))))] ⟨rfl, rfl, rfl, trivial⟩ (h _)
            · refine so_gno rfl (decide_eq_false c113) ?_
              refine so_gno rfl (decide_eq_false c113) ?_
              refine so_gno rfl (decide_eq_false c113) ?_
              refine so_gno rfl (decide_eq_false c113) ?_
              refine so_gno rfl (decide_eq_false c113) ?_
              refine so_gno rfl (decide_eq_false c113) ?_
              refine so_gno rfl (decide_eq_false c113) ?_
              refine so_gno rfl (decide_eq_false c113) ?_
              refine so_gno rfl (decide_eq_false c113) ?_
              refine so_gno rfl (decide_eq_false c113) ?_
              refine so_gno rfl (decide_eq_false c113) ?_
              refine so_gno rfl (decide_eq_false c113) ?_
              refine so_gno rfl (decide_eq_false c113) ?_
              refine so_gund rfl ?_
              refine so_gund rfl ?_
              refine so_gund rfl ?_
              refine so_gund rfl ?_
              refine so_gund rfl ?_
              refine so_gund rfl ?_
              refine so_gund rfl ?_
              refine so_gund rfl ?_
              refine so_gund rfl ?_
              refine so_gund rfl ?_
              refine so_gund rfl ?_
              refine so_gund rfl ?_
              refine so_gno rfl (decide_eq_false c113) ?_
              refine so_pick_f (v := (.v (.bool false))) rfl (decide_eq_false c113) rfl ?_
              refine so_nil ?_
              refine fi_false rfl rfl ?_
              refine fi_skip ?_
              refine fi_inBlock ?_
              refine fi_region ?_
              refine so_bin rfl rfl ab_add ?_
              refine so_move (v := (.v (.int .i64 (IntKind.i64.wrap (x104 + (1 : Int)))))) rfl ?_
              refine so_nil ?_
              exact fi_at [(0, (.v v0)), (14, (.v (.int .i64 (l0.length : Int)))), (15, (.v (.int .i64 (IntKind.i64.wrap (x104 + (1 : Int))))))] ⟨rfl, rfl, rfl, trivial⟩ (h _)
          · refine fi_true rfl (not_t c112) ?_
            refine fi_seq ?_
            refine fi_region ?_
            refine so_assign (v := (.v (.bool false))) rfl ?_
            refine so_nil ?_
            exact by_ret rfl ⟨_, h, rfl, rfl⟩
        · refine so_gno rfl (not_t c109) ?_
          refine so_gno rfl (not_t c109) ?_
          refine so_gno rfl (not_t c109) ?_
          refine so_gno rfl (not_t c109) ?_
          refine so_gno rfl (not_t c109) ?_
          refine so_gno rfl (not_t c109) ?_
          refine so_gno rfl (not_t c109) ?_
          refine so_pick_t (v := (.v (.bool true))) rfl (not_t c109) rfl ?_
          refine so_nil ?_
          refine fi_true rfl rfl ?_
          refine fi_seq ?_
          refine fi_region ?_
          refine so_assign (v := (.v (.bool false))) rfl ?_
          refine so_nil ?_
          exact by_ret rfl ⟨_, h, rfl, rfl⟩
      · refine fi_false rfl (decide_eq_false c105) ?_
        refine fi_exit rfl ?_
        refine fi_seq ?_
        refine fi_region ?_
        refine so_assign (v := (.v (.bool true))) rfl ?_
        refine so_nil ?_
        exact by_ret rfl ⟨_, h, rfl, rfl⟩

end Go.Proofs.Ytecdkjnomkdbkaa.G

namespace Go.Proofs.Ytecdkjnomkdbkaa.G
open Go Go.Ab Go.Proofs Go.Proofs.Ytecdkjnomkdbkaa
set_option maxRecDepth 100000
set_option linter.unusedVariables false
set_option linter.unusedSimpArgs false
set_option maxHeartbeats 1000000
attribute [local irreducible] wops wopf Go.Ab.Fin
theorem F42.ag47 : tagg Try.prog 47 = some false := by kernel_rfl
theorem F42.ti35 : (telem Try.prog 35).isSome = true := by kernel_rfl
theorem F42.tl35 : (telem Try.prog 35).bind (tsz Try.prog) = some 1 := by kernel_rfl
theorem spec_l07Blocks_ok {fr : List Pc} {H : Heap} (v0 : AV) (w0 : List (List AV)) (l0 : List (List ((Int) × (Nat)))) (hs : Sep H (fr)) (g0 : ∀ H, Sep H fr → DSh H v0 1 R_LePair_eInt_i64_eFlt_f32_o l0 w0) (K : Bool → Prop) (h : spec_l07Blocks.wp l0 K) : OkQ Try.prog 42 [(.v v0)] H (fun r H2 => ∃ (y0 : Bool), K y0 ∧ r = (.v (.bool y0)) ∧ H = H2) := by
  unfold spec_l07Blocks.wp at h
  refine of_body Try.f42 F.hm Try.func42 rfl Try.call42 (by kernel_rfl) (by simp) ?_
  refine fi_seq ?_
  refine fi_region ?_
  refine so_assign (v := (.v (.bool false))) rfl ?_
  refine so_nil ?_
  refine fi_seq ?_
  refine fi_seq ?_
  refine fi_region ?_
  refine so_move (v := (.v v0)) rfl ?_
  refine sd_len ((g0 _ hs) : DSh _ _ 1 R_LePair_eInt_i64_eFlt_f32_o l0 w0) (by decide) rfl F42.ti35 ?_
  refine so_bin rfl rfl ab_lss ?_
  refine so_move (v := (.v (.bool (decide ((l0.length : Int) < (1 : Int)))))) rfl ?_
  replace h := ofP h; rcases h with ⟨c101, h⟩ | ⟨c101, h⟩
  · refine so_gno rfl (decide_eq_true c101) ?_
    refine so_gno rfl (decide_eq_true c101) ?_
    refine so_gno rfl (decide_eq_true c101) ?_
    refine so_pick_t (v := (.v (.bool true))) rfl (decide_eq_true c101) rfl ?_
    refine so_nil ?_
    refine fi_true rfl rfl ?_
    refine fi_seq ?_
    refine fi_region ?_
    refine so_assign (v := (.v (.bool false))) rfl ?_
    refine so_nil ?_
    exact by_ret rfl ⟨_, h, rfl, rfl⟩
  · refine so_gyes rfl (decide_eq_false c101) ?_
    refine so_move (v := (.v v0)) rfl ?_
    refine so_gyes rfl (decide_eq_false c101) ?_
    refine sd_len ((g0 _ hs) : DSh _ _ 1 R_LePair_eInt_i64_eFlt_f32_o l0 w0) (by decide) rfl F42.ti35 ?_
    refine so_gyes rfl (decide_eq_false c101) ?_
    refine so_bin rfl rfl ab_gtr ?_
    refine so_pick_f (v := (.v (.bool (decide ((8 : Int) < (l0.length : Int)))))) rfl (decide_eq_false c101) rfl ?_
    refine so_nil ?_
    replace h := ofP h; rcases h with ⟨c102, h⟩ | ⟨c102, h⟩
    · refine fi_true rfl (decide_eq_true c102) ?_
      refine fi_seq ?_
      refine fi_region ?_
      refine so_assign (v := (.v (.bool false))) rfl ?_
      refine so_nil ?_
      exact by_ret rfl ⟨_, h, rfl, rfl⟩
    · refine fi_false rfl (decide_eq_false c102) ?_
      refine fi_skip ?_
      refine fi_seq ?_
      refine fi_seq ?_
      refine fi_region ?_
      refine so_move (v := (.v v0)) rfl ?_
      refine sd_len ((g0 _ hs) : DSh _ _ 1 R_LePair_eInt_i64_eFlt_f32_o l0 w0) (by decide) rfl F42.ti35 ?_
      refine so_move (v := (.v (.int .i64 (0 : Int)))) rfl ?_
      refine so_nil ?_
      refine fi_block ?_
      refine fi_loop ?_
      refine fi_at [(0, (.v v0)), (13, (.v (.int .i64 (l0.length : Int)))), (14, (.v (.int .i64 (0 : Int))))] ⟨rfl, rfl, rfl, trivial⟩ ?_
      refine h (fun (x104 : Int) => ∀ (s : Nat → TV), Fin _ _ (updL s [(0, (.v v0)), (13, (.v (.int .i64 (l0.length : Int)))), (14, (.v (.int .i64 x104)))]) _ _) ?_ _
      intro x104 h s110
      refine fi_inLoop ?_
      refine fi_seq ?_
      refine fi_region ?_
      refine so_bin rfl rfl ab_lss ?_
      refine so_nil ?_
      refine fi_seq ?_
      replace h := ofP h; rcases h with ⟨c105, h⟩ | ⟨c105, h⟩
      · refine fi_true rfl (decide_eq_true c105) ?_
        refine fi_skip ?_
        refine fi_seq ?_
        refine fi_block ?_
        refine fi_seq ?_
        refine fi_region ?_
        refine so_move (v := (.v (.int .i64 x104))) rfl ?_
        refine so_assign (v := (.v (.int .i64 x104))) rfl ?_
        refine so_nil ?_
        refine fi_seq ?_
        refine fi_region ?_
        refine so_move (v := (.v v0)) rfl ?_
        refine so_move (v := (.v (.int .i64 x104))) rfl ?_
        obtain ⟨c106, h⟩ := h
        refine sd_idx ((g0 _ hs) : DSh _ _ 1 R_LePair_eInt_i64_eFlt_f32_o l0 w0) c106 ([] : List ((Int) × (Nat))) (by decide) rfl rfl F42.tl35 ?_
        refine su_ld ((((g0 _ hs) : DSh _ _ 1 R_LePair_eInt_i64_eFlt_f32_o l0 w0)).at (by decide) c106 ([] : List ((Int) × (Nat)))).2.2 0 (congrArg (fun c => c[0]?) ((((g0 _ hs) : DSh _ _ 1 R_LePair_eInt_i64_eFlt_f32_o l0 w0)).at (by decide) c106 ([] : List ((Int) × (Nat)))).2.1.1) rfl F42.ag47 ?_
        refine sv_callS (spec_l07Costs_ok ((w0.getD (x104).toNat []).getD 0 .und) (l0.getD (x104).toNat ([] : List ((Int) × (Nat)))) hs (fun _ hs => ((((g0 _ hs) : DSh _ _ 1 R_LePair_eInt_i64_eFlt_f32_o l0 w0)).at (by decide) c106 ([] : List ((Int) × (Nat)))).2.1.2) _ h) (fun _ _ ⟨_, _, _, e⟩ => e) rfl rfl ?_
        clear h
        rintro _ _ ⟨y107, h, rfl, rfl⟩
        refine so_un rfl au_not ?_
        refine so_nil ?_
        replace h := ofT h; rcases h with ⟨c109, h⟩ | ⟨c109, h⟩
        · refine fi_false rfl (not_f c109) ?_
          refine fi_skip ?_
          refine fi_inBlock ?_
          refine fi_region ?_
          refine so_bin rfl rfl ab_add ?_
          refine so_move (v := (.v (.int .i64 (IntKind.i64.wrap (x104 + (1 : Int)))))) rfl ?_
          refine so_nil ?_
          exact fi_at [(0, (.v v0)), (13, (.v (.int .i64 (l0.length : Int)))), (14, (.v (.int .i64 (IntKind.i64.wrap (x104 + (1 : Int))))))] ⟨rfl, rfl, rfl, trivial⟩ (h _)
        · refine fi_true rfl (not_t c109) ?_
          refine fi_seq ?_
          refine fi_region ?_
          refine so_assign (v := (.v (.bool false))) rfl ?_
          refine so_nil ?_
          exact by_ret rfl ⟨_, h, rfl, rfl⟩
      · refine fi_false rfl (decide_eq_false c105) ?_
        refine fi_exit rfl ?_
        refine fi_seq ?_
        refine fi_region ?_
        refine so_assign (v := (.v (.bool true))) rfl ?_
        refine so_nil ?_
        exact by_ret rfl ⟨_, h, rfl, rfl⟩

end Go.Proofs.Ytecdkjnomkdbkaa.G

namespace Go.Proofs.Ytecdkjnomkdbkaa.G
open Go Go.Ab Go.Proofs Go.Proofs.Ytecdkjnomkdbkaa
set_option maxRecDepth 100000
set_option linter.unusedVariables false
set_option linter.unusedSimpArgs false
set_option maxHeartbeats 1000000
attribute [local irreducible] wops wopf Go.Ab.Fin
theorem F13.ag2 : tagg Try.prog 2 = some false := by kernel_rfl
theorem F13.ag22 : tagg Try.prog 22 = some false := by kernel_rfl
theorem F13.ag23 : tagg Try.prog 23 = some false := by kernel_rfl
theorem F13.ag4 : tagg Try.prog 4 = some false := by kernel_rfl
theorem F13.ag47 : tagg Try.prog 47 = some false := by kernel_rfl
theorem F13.by2 : tbytes Try.prog 2 = some 8 := by kernel_rfl
theorem F13.by23 : tbytes Try.prog 23 = some 4 := by kernel_rfl
theorem F13.by4 : tbytes Try.prog 4 = some 1 := by kernel_rfl
theorem F13.fd49_0 : tfield Try.prog 49 0 = some (0, 1, false) := by kernel_rfl
theorem F13.fd49_1 : tfield Try.prog 49 1 = some (1, 1, false) := by kernel_rfl
theorem F13.sz2 : tsz Try.prog 2 = some 1 := by kernel_rfl
theorem F13.sz22 : tsz Try.prog 22 = some 1 := by kernel_rfl
theorem F13.sz23 : tsz Try.prog 23 = some 1 := by kernel_rfl
theorem F13.sz4 : tsz Try.prog 4 = some 1 := by kernel_rfl
theorem F13.ta72_72 : tapp Try.prog 72 72 = some (1, 24) := by kernel_rfl
theorem F13.te22 : telem Try.prog 22 = some 2 := by kernel_rfl
theorem F13.te55 : telem Try.prog 55 = some 23 := by kernel_rfl
theorem F13.te60 : telem Try.prog 60 = some 4 := by kernel_rfl
theorem F13.te72 : telem Try.prog 72 = some 22 := by kernel_rfl
theorem F13.ti35 : (telem Try.prog 35).isSome = true := by kernel_rfl
theorem F13.ti47 : (telem Try.prog 47).isSome = true := by kernel_rfl
theorem F13.ti60 : (telem Try.prog 60).isSome = true := by kernel_rfl
theorem F13.tl22 : (telem Try.prog 22).bind (tsz Try.prog) = some 1 := by kernel_rfl
theorem F13.tl35 : (telem Try.prog 35).bind (tsz Try.prog) = some 1 := by kernel_rfl
theorem F13.tl47 : (telem Try.prog 47).bind (tsz Try.prog) = some 2 := by kernel_rfl
theorem F13.tl55 : (telem Try.prog 55).bind (tsz Try.prog) = some 1 := by kernel_rfl
theorem F13.tl60 : (telem Try.prog 60).bind (tsz Try.prog) = some 1 := by kernel_rfl
theorem F13.tl72 : (telem Try.prog 72).bind (tsz Try.prog) = some 1 := by kernel_rfl
theorem F13.ze2 : tzero Try.prog 2 = some [(.int .i64 (0 : Int))] := by kernel_rfl
theorem F13.ze22 : tzero Try.prog 22 = some [.nilsl] := by kernel_rfl
theorem F13.ze23 : tzero Try.prog 23 = some [(.flt .f32 (0 : Nat))] := by kernel_rfl
theorem F13.ze4 : tzero Try.prog 4 = some [(.bool false)] := by kernel_rfl
theorem spec_BestCuts_ok {fr : List Pc} {H : Heap} (v0 : AV) (w0 : List (List AV)) (l0 : List (List ((Int) × (Nat)))) (a1 : Int) (hs : Sep H (fr)) (g0 : ∀ H, Sep H fr → DSh H v0 1 R_LePair_eInt_i64_eFlt_f32_o l0 w0) (K : (List (Int)) → Nat → Bool → Prop) (h : spec_BestCuts.wp l0 a1 K) : OkQ Try.prog 13 [(.v v0), (.v (.int .i64 a1))] H (fun r H2 => ∃ (y0 : List (Int)) (y1 : Nat) (y2 : Bool), K y0 y1 y2 ∧ ∃ (w0_ : AV), r = (.t [(.v w0_), (.v (.flt .f32 y1)), (.v (.bool y2))]) ∧ Sep H2 (Pc.osl w0_ 1 (enc (eInt .i64) y0) :: fr)) := by
  unfold spec_BestCuts.wp at h
  refine of_body Try.f13 F.hm Try.func13 rfl Try.call13 (by kernel_rfl) (by simp) ?_
  refine fi_seq ?_
  refine fi_region ?_
  refine so_assign (v := (.v .nilsl)) rfl ?_
  refine so_assign (v := (.v (.flt .f32 (cz .f32 0)))) rfl ?_
  refine so_assign (v := (.v (.bool false))) rfl ?_
  refine so_nil ?_
  refine fi_seq ?_
  refine fi_seq ?_
  refine fi_region ?_
  refine so_move (v := (.v v0)) rfl ?_
  refine sv_callS (spec_l07Blocks_ok v0 w0 l0 hs (fun _ hs => (g0 _ hs)) _ h) (fun _ _ ⟨_, _, _, e⟩ => e) rfl rfl ?_
  clear h
  rintro _ _ ⟨y101, h, rfl, rfl⟩
  refine so_un rfl au_not ?_
  refine so_move (v := (.v (.bool (!y101)))) rfl ?_
  replace h := ofT h; rcases h with ⟨c103, h⟩ | ⟨c103, h⟩
  · refine so_gyes rfl (not_f c103) ?_
    refine so_move (v := (.v (.int .i64 a1))) rfl ?_
    refine so_gyes rfl (not_f c103) ?_
    refine sv_callS (spec_l00In_ok a1 (0 : Int) (512 : Int) hs  _ h) (fun _ _ ⟨_, _, _, e⟩ => e) rfl rfl ?_
    clear h
    rintro _ _ ⟨y104, h, rfl, rfl⟩
    refine so_gyes rfl (not_f c103) ?_
    refine so_un rfl au_not ?_
    refine so_pick_f (v := (.v (.bool (!y104)))) rfl (not_f c103) rfl ?_
    refine so_nil ?_
    replace h := ofT h; rcases h with ⟨c106, h⟩ | ⟨c106, h⟩
    · refine fi_false rfl (not_f c106) ?_
      refine fi_skip ?_
      refine fi_seq ?_
      refine fi_region ?_
      refine so_move (v := (.v (.int .i64 a1))) rfl ?_
      refine so_bin rfl rfl ab_add ?_
      obtain ⟨c107, h⟩ := h
      refine sv_make hs (eFlt .f32) (0 : Nat) c107 (fun _ => rfl) rfl rfl F13.te55 F13.sz23 F13.by23 F13.ze23 rfl rfl nofun (fun v108 H109 nv108 hs => ?_)
      refine so_assign (v := (.v v108)) rfl ?_
      refine so_nil ?_
      refine fi_seq ?_
      refine fi_region ?_
      refine so_move (v := (.v (.int .i64 a1))) rfl ?_
      refine so_bin rfl rfl ab_add ?_
      obtain ⟨c111, h⟩ := h
      refine sv_make hs eBool false c111 (fun _ => rfl) rfl rfl F13.te60 F13.sz4 F13.by4 F13.ze4 rfl rfl nofun (fun v112 H113 nv112 hs => ?_)
      refine so_assign (v := (.v v112)) rfl ?_
      refine so_nil ?_
      refine fi_seq ?_
      refine fi_seq ?_
      refine fi_region ?_
      refine so_move (v := (.v v112)) rfl ?_
      refine sv_len (hs.shows 0 rfl) (fun _ => rfl) (by decide) rfl F13.ti60 ?_
      refine so_move (v := (.v (.int .i64 (0 : Int)))) rfl ?_
      refine so_nil ?_
      refine fi_block ?_
      refine fi_loop ?_
      refine fi_at [(0, (.v v0)), (1, (.v (.int .i64 a1))), (7, (.v v108)), (8, (.v v112)), (37, (.v (.int .i64 ((List.replicate ((IntKind.i64.wrap (a1 + (1 : Int)))).toNat false).length : Int)))), (38, (.v (.int .i64 (0 : Int))))] ⟨rfl, rfl, rfl, rfl, rfl, rfl, trivial⟩ ?_
      refine h (fun (can486 : List (Bool)) (x487 : Int) => ∀ (s : Nat → TV) (H : Heap), Sep H (Pc.osl v112 1 (enc eBool can486) :: Pc.osl v108 1 (enc (eFlt .f32) (List.replicate ((IntKind.i64.wrap (a1 + (1 : Int)))).toNat (0 : Nat))) :: fr) → Fin _ _ (updL s [(0, (.v v0)), (1, (.v (.int .i64 a1))), (7, (.v v108)), (8, (.v v112)), (37, (.v (.int .i64 ((List.replicate ((IntKind.i64.wrap (a1 + (1 : Int)))).toNat false).length : Int)))), (38, (.v (.int .i64 x487)))]) H _) ?_ _ _ hs
      intro can486 x487 h s856 H857 hs
      refine fi_inLoop ?_
      refine fi_seq ?_
      refine fi_region ?_
      refine so_bin rfl rfl ab_lss ?_
      refine so_nil ?_
      refine fi_seq ?_
      replace h := ofP h; rcases h with ⟨c488, h⟩ | ⟨c488, h⟩
      · refine fi_true rfl (decide_eq_true c488) ?_
        refine fi_skip ?_
        refine fi_seq ?_
        refine fi_block ?_
        refine fi_seq ?_
        refine fi_region ?_
        refine so_move (v := (.v (.int .i64 x487))) rfl ?_
        refine so_assign (v := (.v (.int .i64 x487))) rfl ?_
        refine so_nil ?_
        refine fi_region ?_
        refine so_move (v := (.v v112)) rfl ?_
        refine so_move (v := (.v (.int .i64 x487))) rfl ?_
        obtain ⟨c489, h⟩ := h
        refine sv_idx (hs.shows 0 rfl) c489 (fun _ => rfl) (by decide) rfl rfl F13.tl60 ?_
        refine sv_set hs 0 rfl c489 true (fun _ => rfl) (by decide) rfl rfl rfl rfl F13.sz4 nofun (fun H490 hs => ?_)
        refine so_nil ?_
        refine fi_inBlock ?_
        refine fi_region ?_
        refine so_bin rfl rfl ab_add ?_
        refine so_move (v := (.v (.int .i64 (IntKind.i64.wrap (x487 + (1 : Int)))))) rfl ?_
        refine so_nil ?_
        exact fi_at [(0, (.v v0)), (1, (.v (.int .i64 a1))), (7, (.v v108)), (8, (.v v112)), (37, (.v (.int .i64 ((List.replicate ((IntKind.i64.wrap (a1 + (1 : Int)))).toNat false).length : Int)))), (38, (.v (.int .i64 (IntKind.i64.wrap (x487 + (1 : Int))))))] ⟨rfl, rfl, rfl, rfl, rfl, rfl, trivial⟩ (h _ _  hs)
      · refine fi_false rfl (decide_eq_false c488) ?_
        refine fi_exit rfl ?_
        refine fi_seq ?_
        refine fi_region ?_
        refine sk_empty hs R_LeInt_i64_o IR_LeInt_i64_o F13.te72 F13.sz22 F13.ze22 rfl nofun (fun v491 ws492 S493 H494 _ hs => ?_)
        refine so_assign (v := (.v v491)) rfl ?_
        refine so_nil ?_
        refine fi_seq ?_
        refine fi_seq ?_
        refine fi_region ?_
        refine so_move (v := (.v v0)) rfl ?_
        refine sd_len ((g0 _ hs.tl.tl.tl) : DSh _ _ 1 R_LePair_eInt_i64_eFlt_f32_o l0 w0) (by decide) rfl F13.ti35 ?_
        refine so_move (v := (.v (.int .i64 (0 : Int)))) rfl ?_
        refine so_nil ?_
        refine fi_block ?_
        refine fi_loop ?_
        refine fi_at [(0, (.v v0)), (1, (.v (.int .i64 a1))), (7, (.v v108)), (8, (.v v112)), (10, (.v v491)), (47, (.v (.int .i64 (l0.length : Int)))), (48, (.v (.int .i64 (0 : Int))))] ⟨rfl, rfl, rfl, rfl, rfl, rfl, rfl, trivial⟩ ?_
        refine h (fun (choices676 : List (List (Int))) (can680 : List (Bool)) (sums682 : List (Nat)) (x684 : Int) => ∀ (s : Nat → TV) (H : Heap) (v677 : AV) (ws678 : List (List AV)) (S679 : Nat → Prop) (v681 : AV) (nv681 : v681 ≠ .nilsl) (v683 : AV) (nv683 : v683 ≠ .nilsl), Sep H (dpc v677 1 R_LeInt_i64_o IR_LeInt_i64_o choices676 ws678 S679 :: Pc.osl v681 1 (enc eBool can680) :: Pc.osl v683 1 (enc (eFlt .f32) sums682) :: fr) → Fin _ _ (updL s [(0, (.v v0)), (1, (.v (.int .i64 a1))), (7, (.v v683)), (8, (.v v681)), (10, (.v v677)), (47, (.v (.int .i64 (l0.length : Int)))), (48, (.v (.int .i64 x684)))]) H _) ?_ _ _ _ _ _ _ nv112 _ nv108 hs
        intro choices676 can680 sums682 x684 h s854 H855 v677 ws678 S679 v681 nv681 v683 nv683 hs
        refine fi_inLoop ?_
        refine fi_seq ?_
        refine fi_region ?_
        refine so_bin rfl rfl ab_lss ?_
        refine so_nil ?_
        refine fi_seq ?_
        replace h := ofP h; rcases h with ⟨c685, h⟩ | ⟨c685, h⟩
        · refine fi_true rfl (decide_eq_true c685) ?_
          refine fi_skip ?_
          refine fi_seq ?_
          refine fi_block ?_
          refine fi_seq ?_
          refine fi_region ?_
          refine so_move (v := (.v (.int .i64 x684))) rfl ?_
          refine so_assign (v := (.v (.int .i64 x684))) rfl ?_
          refine so_nil ?_
          refine fi_seq ?_
          refine fi_region ?_
          refine so_move (v := (.v (.int .i64 a1))) rfl ?_
          refine so_bin rfl rfl ab_add ?_
          refine sv_make hs (eFlt .f32) (0 : Nat) c107 (fun _ => rfl) rfl rfl F13.te55 F13.sz23 F13.by23 F13.ze23 rfl rfl nofun (fun v686 H687 nv686 hs => ?_)
          refine so_assign (v := (.v v686)) rfl ?_
          refine so_nil ?_
          refine fi_seq ?_
          refine fi_region ?_
          refine so_move (v := (.v (.int .i64 a1))) rfl ?_
          refine so_bin rfl rfl ab_add ?_
          refine sv_make hs eBool false c111 (fun _ => rfl) rfl rfl F13.te60 F13.sz4 F13.by4 F13.ze4 rfl rfl nofun (fun v689 H690 nv689 hs => ?_)
          refine so_assign (v := (.v v689)) rfl ?_
          refine so_nil ?_
          refine fi_seq ?_
          refine fi_region ?_
          refine so_move (v := (.v (.int .i64 a1))) rfl ?_
          refine so_bin rfl rfl ab_add ?_
          obtain ⟨c692, h⟩ := h
          refine sv_make hs (eInt .i64) (0 : Int) c692 (fun _ => rfl) rfl rfl F13.te22 F13.sz2 F13.by2 F13.ze2 rfl rfl nofun (fun v693 H694 nv693 hs => ?_)
          refine so_assign (v := (.v v693)) rfl ?_
          refine so_nil ?_
          refine fi_seq ?_
          refine fi_seq ?_
          refine fi_region ?_
          refine so_assign (v := (.v (.int .i64 (0 : Int)))) rfl ?_
          refine so_nil ?_
          refine fi_block ?_
          refine fi_loop ?_
          refine fi_at [(0, (.v v0)), (1, (.v (.int .i64 a1))), (7, (.v v683)), (8, (.v v681)), (10, (.v v677)), (11, (.v (.int .i64 x684))), (12, (.v v686)), (13, (.v v689)), (14, (.v v693)), (15, (.v (.int .i64 (0 : Int)))), (47, (.v (.int .i64 (l0.length : Int)))), (48, (.v (.int .i64 x684)))] ⟨rfl, rfl, rfl, rfl, rfl, rfl, rfl, rfl, rfl, rfl, rfl, rfl, trivial⟩ ?_
          refine h (fun (choice756 : List (Int)) (have757 : List (Bool)) (next758 : List (Nat)) (b759 : Int) => ∀ (s : Nat → TV) (H : Heap), Sep H (Pc.osl v693 1 (enc (eInt .i64) choice756) :: Pc.osl v689 1 (enc eBool have757) :: Pc.osl v686 1 (enc (eFlt .f32) next758) :: dpc v677 1 R_LeInt_i64_o IR_LeInt_i64_o choices676 ws678 S679 :: Pc.osl v681 1 (enc eBool can680) :: Pc.osl v683 1 (enc (eFlt .f32) sums682) :: fr) → Fin _ _ (updL s [(0, (.v v0)), (1, (.v (.int .i64 a1))), (7, (.v v683)), (8, (.v v681)), (10, (.v v677)), (11, (.v (.int .i64 x684))), (12, (.v v686)), (13, (.v v689)), (14, (.v v693)), (15, (.v (.int .i64 b759))), (47, (.v (.int .i64 (l0.length : Int)))), (48, (.v (.int .i64 x684)))]) H _) ?_ _ _ hs
          intro choice756 have757 next758 b759 h s817 H818 hs
          refine fi_inLoop ?_
          refine fi_seq ?_
          refine fi_seq ?_
          refine fi_region ?_
          refine so_move (v := (.v (.int .i64 b759))) rfl ?_
          refine so_move (v := (.v (.int .i64 a1))) rfl ?_
          refine so_bin rfl rfl ab_leq ?_
          refine so_nil ?_
          replace h := ofP h; rcases h with ⟨c760, h⟩ | ⟨c760, h⟩
          · refine fi_true rfl (decide_eq_true c760) ?_
            refine fi_skip ?_
            refine fi_seq ?_
            refine fi_block ?_
            refine fi_seq ?_
            refine fi_region ?_
            refine so_move (v := (.v v0)) rfl ?_
            refine so_move (v := (.v (.int .i64 x684))) rfl ?_
            obtain ⟨c761, h⟩ := h
            refine sd_idx ((g0 _ hs.tl.tl.tl.tl.tl.tl) : DSh _ _ 1 R_LePair_eInt_i64_eFlt_f32_o l0 w0) c761 ([] : List ((Int) × (Nat))) (by decide) rfl rfl F13.tl35 ?_
            refine su_ld ((((g0 _ hs.tl.tl.tl.tl.tl.tl) : DSh _ _ 1 R_LePair_eInt_i64_eFlt_f32_o l0 w0)).at (by decide) c761 ([] : List ((Int) × (Nat)))).2.2 0 (congrArg (fun c => c[0]?) ((((g0 _ hs.tl.tl.tl.tl.tl.tl) : DSh _ _ 1 R_LePair_eInt_i64_eFlt_f32_o l0 w0)).at (by decide) c761 ([] : List ((Int) × (Nat)))).2.1.1) rfl F13.ag47 ?_
            refine sv_len ((((g0 _ hs.tl.tl.tl.tl.tl.tl) : DSh _ _ 1 R_LePair_eInt_i64_eFlt_f32_o l0 w0)).at (by decide) c761 ([] : List ((Int) × (Nat)))).2.1.2 (fun _ => rfl) (by decide) rfl F13.ti47 ?_
            refine so_move (v := (.v (.int .i64 (0 : Int)))) rfl ?_
            refine so_nil ?_
            refine fi_block ?_
            refine fi_loop ?_
            refine fi_at [(0, (.v v0)), (1, (.v (.int .i64 a1))), (7, (.v v683)), (8, (.v v681)), (10, (.v v677)), (11, (.v (.int .i64 x684))), (12, (.v v686)), (13, (.v v689)), (14, (.v v693)), (15, (.v (.int .i64 b759))), (47, (.v (.int .i64 (l0.length : Int)))), (48, (.v (.int .i64 x684))), (69, (.v (.int .i64 ((l0.getD (x684).toNat ([] : List ((Int) × (Nat)))).length : Int)))), (70, (.v (.int .i64 (0 : Int))))] ⟨rfl, rfl, rfl, rfl, rfl, rfl, rfl, rfl, rfl, rfl, rfl, rfl, rfl, rfl, trivial⟩ ?_
            refine h (fun (choice784 : List (Int)) (have785 : List (Bool)) (next786 : List (Nat)) (x787 : Int) => ∀ (s : Nat → TV) (H : Heap), Sep H (Pc.osl v693 1 (enc (eInt .i64) choice784) :: Pc.osl v689 1 (enc eBool have785) :: Pc.osl v686 1 (enc (eFlt .f32) next786) :: dpc v677 1 R_LeInt_i64_o IR_LeInt_i64_o choices676 ws678 S679 :: Pc.osl v681 1 (enc eBool can680) :: Pc.osl v683 1 (enc (eFlt .f32) sums682) :: fr) → Fin _ _ (updL s [(0, (.v v0)), (1, (.v (.int .i64 a1))), (7, (.v v683)), (8, (.v v681)), (10, (.v v677)), (11, (.v (.int .i64 x684))), (12, (.v v686)), (13, (.v v689)), (14, (.v v693)), (15, (.v (.int .i64 b759))), (47, (.v (.int .i64 (l0.length : Int)))), (48, (.v (.int .i64 x684))), (69, (.v (.int .i64 ((l0.getD (x684).toNat ([] : List ((Int) × (Nat)))).length : Int)))), (70, (.v (.int .i64 x787)))]) H _) ?_ _ _ hs
            intro choice784 have785 next786 x787 h s807 H808 hs
            refine fi_inLoop ?_
            refine fi_seq ?_
            refine fi_region ?_
            refine so_bin rfl rfl ab_lss ?_
            refine so_nil ?_
            refine fi_seq ?_
            replace h := ofP h; rcases h with ⟨c788, h⟩ | ⟨c788, h⟩
            · refine fi_true rfl (decide_eq_true c788) ?_
              refine fi_skip ?_
              refine fi_seq ?_
              refine fi_block ?_
              refine fi_seq ?_
              refine fi_region ?_
              refine so_move (v := (.v (.int .i64 x787))) rfl ?_
              refine so_assign (v := (.v (.int .i64 x787))) rfl ?_
              refine so_nil ?_
              refine fi_seq ?_
              refine fi_region ?_
              refine so_move (v := (.v (.int .i64 b759))) rfl ?_
              refine so_move (v := (.v v0)) rfl ?_
              refine so_move (v := (.v (.int .i64 x684))) rfl ?_
              refine sd_idx ((g0 _ hs.tl.tl.tl.tl.tl.tl) : DSh _ _ 1 R_LePair_eInt_i64_eFlt_f32_o l0 w0) c761 ([] : List ((Int) × (Nat))) (by decide) rfl rfl F13.tl35 ?_
              refine su_ld ((((g0 _ hs.tl.tl.tl.tl.tl.tl) : DSh _ _ 1 R_LePair_eInt_i64_eFlt_f32_o l0 w0)).at (by decide) c761 ([] : List ((Int) × (Nat)))).2.2 0 (congrArg (fun c => c[0]?) ((((g0 _ hs.tl.tl.tl.tl.tl.tl) : DSh _ _ 1 R_LePair_eInt_i64_eFlt_f32_o l0 w0)).at (by decide) c761 ([] : List ((Int) × (Nat)))).2.1.1) rfl F13.ag47 ?_
              refine so_move (v := (.v (.int .i64 x787))) rfl ?_
              obtain ⟨c789, h⟩ := h
              refine sv_idx ((((g0 _ hs.tl.tl.tl.tl.tl.tl) : DSh _ _ 1 R_LePair_eInt_i64_eFlt_f32_o l0 w0)).at (by decide) c761 ([] : List ((Int) × (Nat)))).2.1.2 c789 (fun _ => rfl) (by decide) rfl rfl F13.tl47 ?_
              refine so_fieldAddr rfl F13.fd49_0 ?_
              refine sv_cell ((((g0 _ hs.tl.tl.tl.tl.tl.tl) : DSh _ _ 1 R_LePair_eInt_i64_eFlt_f32_o l0 w0)).at (by decide) c761 ([] : List ((Int) × (Nat)))).2.1.2 c789 ((0 : Int), (0 : Nat)) 0 (fun x => (AV.int .i64 x.1)) (fun _ => rfl) (fun _ => rfl) rfl F13.ag2 ?_
              refine so_bin rfl rfl ab_sub ?_
              refine so_assign (v := (.v (.int .i64 (IntKind.i64.wrap (b759 - ((l0.getD (x684).toNat ([] : List ((Int) × (Nat)))).getD (x787).toNat ((0 : Int), (0 : Nat))).1))))) rfl ?_
              refine so_nil ?_
              refine fi_seq ?_
              refine fi_seq ?_
              refine fi_region ?_
              refine so_move (v := (.v (.int .i64 (IntKind.i64.wrap (b759 - ((l0.getD (x684).toNat ([] : List ((Int) × (Nat)))).getD (x787).toNat ((0 : Int), (0 : Nat))).1))))) rfl ?_
              refine so_bin rfl rfl ab_lss ?_
              refine so_move (v := (.v (.bool (decide ((IntKind.i64.wrap (b759 - ((l0.getD (x684).toNat ([] : List ((Int) × (Nat)))).getD (x787).toNat ((0 : Int), (0 : Nat))).1)) < (0 : Int)))))) rfl ?_
              replace h := ofP h; rcases h with ⟨c790, h⟩ | ⟨c790, h⟩
              · refine so_gno rfl (decide_eq_true c790) ?_
                refine so_gno rfl (decide_eq_true c790) ?_
                refine so_gno rfl (decide_eq_true c790) ?_
                refine so_gno rfl (decide_eq_true c790) ?_
                refine so_gno rfl (decide_eq_true c790) ?_
                refine so_pick_t (v := (.v (.bool true))) rfl (decide_eq_true c790) rfl ?_
                refine so_nil ?_
                refine fi_true rfl rfl ?_
                refine fi_exit rfl ?_
                refine fi_region ?_
                refine so_bin rfl rfl ab_add ?_
                refine so_move (v := (.v (.int .i64 (IntKind.i64.wrap (x787 + (1 : Int)))))) rfl ?_
                refine so_nil ?_
                exact fi_at [(0, (.v v0)), (1, (.v (.int .i64 a1))), (7, (.v v683)), (8, (.v v681)), (10, (.v v677)), (11, (.v (.int .i64 x684))), (12, (.v v686)), (13, (.v v689)), (14, (.v v693)), (15, (.v (.int .i64 b759))), (47, (.v (.int .i64 (l0.length : Int)))), (48, (.v (.int .i64 x684))), (69, (.v (.int .i64 ((l0.getD (x684).toNat ([] : List ((Int) × (Nat)))).length : Int)))), (70, (.v (.int .i64 (IntKind.i64.wrap (x787 + (1 : Int))))))] ⟨rfl, rfl, rfl, rfl, rfl, rfl, rfl, rfl, rfl, rfl, rfl, rfl, rfl, rfl, trivial⟩ (h _ _  hs)
              · refine so_gyes rfl (decide_eq_false c790) ?_
                refine so_move (v := (.v v681)) rfl ?_
                refine so_gyes rfl (decide_eq_false c790) ?_
                refine so_move (v := (.v (.int .i64 (IntKind.i64.wrap (b759 - ((l0.getD (x684).toNat ([] : List ((Int) × (Nat)))).getD (x787).toNat ((0 : Int), (0 : Nat))).1))))) rfl ?_
                refine so_gyes rfl (decide_eq_false c790) ?_
                obtain ⟨c791, h⟩ := h
                refine sv_idx (hs.shows 4 rfl) c791 (fun _ => rfl) (by decide) rfl rfl F13.tl60 ?_
                refine so_gyes rfl (decide_eq_false c790) ?_
                refine sv_cell (hs.shows 4 rfl) c791 false 0 (fun x => (AV.bool x)) (fun _ => rfl) (fun _ => rfl) rfl F13.ag4 ?_
                refine so_gyes rfl (decide_eq_false c790) ?_
                refine so_un rfl au_not ?_
                refine so_pick_f (v := (.v (.bool (!(can680.getD ((IntKind.i64.wrap (b759 - ((l0.getD (x684).toNat ([] : List ((Int) × (Nat)))).getD (x787).toNat ((0 : Int), (0 : Nat))).1))).toNat false))))) rfl (decide_eq_false c790) rfl ?_
                refine so_nil ?_
                replace h := ofT h; rcases h with ⟨c792, h⟩ | ⟨c792, h⟩
                · refine fi_false rfl (not_f c792) ?_
                  refine fi_skip ?_
                  refine fi_seq ?_
                  refine fi_region ?_
                  refine so_move (v := (.v v683)) rfl ?_
                  refine so_move (v := (.v (.int .i64 (IntKind.i64.wrap (b759 - ((l0.getD (x684).toNat ([] : List ((Int) × (Nat)))).getD (x787).toNat ((0 : Int), (0 : Nat))).1))))) rfl ?_
                  obtain ⟨c793, h⟩ := h
                  refine sv_idx (hs.shows 5 rfl) c793 (fun _ => rfl) (by decide) rfl rfl F13.tl55 ?_
                  refine sv_cell (hs.shows 5 rfl) c793 (0 : Nat) 0 (fun x => (AV.flt .f32 x)) (fun _ => rfl) (fun _ => rfl) rfl F13.ag23 ?_
                  refine so_move (v := (.v v0)) rfl ?_
                  refine so_move (v := (.v (.int .i64 x684))) rfl ?_
                  refine sd_idx ((g0 _ hs.tl.tl.tl.tl.tl.tl) : DSh _ _ 1 R_LePair_eInt_i64_eFlt_f32_o l0 w0) c761 ([] : List ((Int) × (Nat))) (by decide) rfl rfl F13.tl35 ?_
                  refine su_ld ((((g0 _ hs.tl.tl.tl.tl.tl.tl) : DSh _ _ 1 R_LePair_eInt_i64_eFlt_f32_o l0 w0)).at (by decide) c761 ([] : List ((Int) × (Nat)))).2.2 0 (congrArg (fun c => c[0]?) ((((g0 _ hs.tl.tl.tl.tl.tl.tl) : DSh _ _ 1 R_LePair_eInt_i64_eFlt_f32_o l0 w0)).at (by decide) c761 ([] : List ((Int) × (Nat)))).2.1.1) rfl F13.ag47 ?_
                  refine so_move (v := (.v (.int .i64 x787))) rfl ?_
                  refine sv_idx ((((g0 _ hs.tl.tl.tl.tl.tl.tl) : DSh _ _ 1 R_LePair_eInt_i64_eFlt_f32_o l0 w0)).at (by decide) c761 ([] : List ((Int) × (Nat)))).2.1.2 c789 (fun _ => rfl) (by decide) rfl rfl F13.tl47 ?_
                  refine so_fieldAddr rfl F13.fd49_1 ?_
                  refine sv_cell ((((g0 _ hs.tl.tl.tl.tl.tl.tl) : DSh _ _ 1 R_LePair_eInt_i64_eFlt_f32_o l0 w0)).at (by decide) c761 ([] : List ((Int) × (Nat)))).2.1.2 c789 ((0 : Int), (0 : Nat)) 1 (fun x => (AV.flt .f32 x.2)) (fun _ => rfl) (fun _ => rfl) rfl F13.ag23 ?_
                  refine so_bin rfl rfl ab_fadd ?_
                  refine so_assign (v := (.v (.flt .f32 (fop .add .f32 (sums682.getD ((IntKind.i64.wrap (b759 - ((l0.getD (x684).toNat ([] : List ((Int) × (Nat)))).getD (x787).toNat ((0 : Int), (0 : Nat))).1))).toNat (0 : Nat)) ((l0.getD (x684).toNat ([] : List ((Int) × (Nat)))).getD (x787).toNat ((0 : Int), (0 : Nat))).2)))) rfl ?_
                  refine so_nil ?_
                  refine fi_seq ?_
                  refine fi_region ?_
                  refine so_move (v := (.v v689)) rfl ?_
                  refine so_move (v := (.v (.int .i64 b759))) rfl ?_
                  obtain ⟨c794, h⟩ := h
                  refine sv_idx (hs.shows 1 rfl) c794 (fun _ => rfl) (by decide) rfl rfl F13.tl60 ?_
                  refine sv_cell (hs.shows 1 rfl) c794 false 0 (fun x => (AV.bool x)) (fun _ => rfl) (fun _ => rfl) rfl F13.ag4 ?_
                  refine so_un rfl au_not ?_
                  refine so_move (v := (.v (.bool (!(have785.getD (b759).toNat false))))) rfl ?_
                  replace h := ofT h; rcases h with ⟨c795, h⟩ | ⟨c795, h⟩
                  · refine so_gyes rfl (not_f c795) ?_
                    refine so_move (v := (.v (.flt .f32 (fop .add .f32 (sums682.getD ((IntKind.i64.wrap (b759 - ((l0.getD (x684).toNat ([] : List ((Int) × (Nat)))).getD (x787).toNat ((0 : Int), (0 : Nat))).1))).toNat (0 : Nat)) ((l0.getD (x684).toNat ([] : List ((Int) × (Nat)))).getD (x787).toNat ((0 : Int), (0 : Nat))).2)))) rfl ?_
                    refine so_gyes rfl (not_f c795) ?_
                    refine so_move (v := (.v v686)) rfl ?_
                    refine so_gyes rfl (not_f c795) ?_
                    refine so_move (v := (.v (.int .i64 b759))) rfl ?_
                    refine so_gyes rfl (not_f c795) ?_
                    obtain ⟨c796, h⟩ := h
                    refine sv_idx (hs.shows 2 rfl) c796 (fun _ => rfl) (by decide) rfl rfl F13.tl55 ?_
                    refine so_gyes rfl (not_f c795) ?_
                    refine sv_cell (hs.shows 2 rfl) c796 (0 : Nat) 0 (fun x => (AV.flt .f32 x)) (fun _ => rfl) (fun _ => rfl) rfl F13.ag23 ?_
                    refine so_gyes rfl (not_f c795) ?_
                    refine so_bin rfl rfl ab_flss ?_
                    refine so_pick_f (v := (.v (.bool (fcmp .lss .f32 (fop .add .f32 (sums682.getD ((IntKind.i64.wrap (b759 - ((l0.getD (x684).toNat ([] : List ((Int) × (Nat)))).getD (x787).toNat ((0 : Int), (0 : Nat))).1))).toNat (0 : Nat)) ((l0.getD (x684).toNat ([] : List ((Int) × (Nat)))).getD (x787).toNat ((0 : Int), (0 : Nat))).2) (next786.getD (b759).toNat (0 : Nat)))))) rfl (not_f c795) rfl ?_
                    refine so_nil ?_
                    replace h := ofT h; rcases h with ⟨c797, h⟩ | ⟨c797, h⟩
                    · refine fi_true rfl c797 ?_
                      refine fi_seq ?_
                      refine fi_region ?_
                      refine so_move (v := (.v v689)) rfl ?_
                      refine so_move (v := (.v (.int .i64 b759))) rfl ?_
                      refine sv_idx (hs.shows 1 rfl) c794 (fun _ => rfl) (by decide) rfl rfl F13.tl60 ?_
                      refine sv_set hs 1 rfl c794 true (fun _ => rfl) (by decide) rfl rfl rfl rfl F13.sz4 nofun (fun H798 hs => ?_)
                      refine so_nil ?_
                      refine fi_seq ?_
                      refine fi_region ?_
                      refine so_move (v := (.v v686)) rfl ?_
                      refine so_move (v := (.v (.int .i64 b759))) rfl ?_
                      refine so_move (v := (.v (.flt .f32 (fop .add .f32 (sums682.getD ((IntKind.i64.wrap (b759 - ((l0.getD (x684).toNat ([] : List ((Int) × (Nat)))).getD (x787).toNat ((0 : Int), (0 : Nat))).1))).toNat (0 : Nat)) ((l0.getD (x684).toNat ([] : List ((Int) × (Nat)))).getD (x787).toNat ((0 : Int), (0 : Nat))).2)))) rfl ?_
                      refine sv_idx (hs.shows 2 rfl) c796 (fun _ => rfl) (by decide) rfl rfl F13.tl55 ?_
                      refine sv_set hs 2 rfl c796 (fop .add .f32 (sums682.getD ((IntKind.i64.wrap (b759 - ((l0.getD (x684).toNat ([] : List ((Int) × (Nat)))).getD (x787).toNat ((0 : Int), (0 : Nat))).1))).toNat (0 : Nat)) ((l0.getD (x684).toNat ([] : List ((Int) × (Nat)))).getD (x787).toNat ((0 : Int), (0 : Nat))).2) (fun _ => rfl) (by decide) rfl rfl rfl rfl F13.sz23 nofun (fun H799 hs => ?_)
                      refine so_nil ?_
                      refine fi_region ?_
                      refine so_move (v := (.v v693)) rfl ?_
                      refine so_move (v := (.v (.int .i64 b759))) rfl ?_
                      refine so_move (v := (.v (.int .i64 x787))) rfl ?_
                      obtain ⟨c800, h⟩ := h
                      refine sv_idx (hs.shows 0 rfl) c800 (fun _ => rfl) (by decide) rfl rfl F13.tl22 ?_
                      refine sv_set hs 0 rfl c800 x787 (fun _ => rfl) (by decide) rfl rfl rfl rfl F13.sz2 nofun (fun H801 hs => ?_)
                      refine so_nil ?_
                      refine fi_inBlock ?_
                      refine fi_region ?_
                      refine so_bin rfl rfl ab_add ?_
                      refine so_move (v := (.v (.int .i64 (IntKind.i64.wrap (x787 + (1 : Int)))))) rfl ?_
                      refine so_nil ?_
                      exact fi_at [(0, (.v v0)), (1, (.v (.int .i64 a1))), (7, (.v v683)), (8, (.v v681)), (10, (.v v677)), (11, (.v (.int .i64 x684))), (12, (.v v686)), (13, (.v v689)), (14, (.v v693)), (15, (.v (.int .i64 b759))), (47, (.v (.int .i64 (l0.length : Int)))), (48, (.v (.int .i64 x684))), (69, (.v (.int .i64 ((l0.getD (x684).toNat ([] : List ((Int) × (Nat)))).length : Int)))), (70, (.v (.int .i64 (IntKind.i64.wrap (x787 + (1 : Int))))))] ⟨rfl, rfl, rfl, rfl, rfl, rfl, rfl, rfl, rfl, rfl, rfl, rfl, rfl, rfl, trivial⟩ (h _ _  hs)
                    · refine fi_false rfl c797 ?_
                      refine fi_skip ?_
                      refine fi_inBlock ?_
                      refine fi_region ?_
                      refine so_bin rfl rfl ab_add ?_
                      refine so_move (v := (.v (.int .i64 (IntKind.i64.wrap (x787 + (1 : Int)))))) rfl ?_
                      refine so_nil ?_
                      exact fi_at [(0, (.v v0)), (1, (.v (.int .i64 a1))), (7, (.v v683)), (8, (.v v681)), (10, (.v v677)), (11, (.v (.int .i64 x684))), (12, (.v v686)), (13, (.v v689)), (14, (.v v693)), (15, (.v (.int .i64 b759))), (47, (.v (.int .i64 (l0.length : Int)))), (48, (.v (.int .i64 x684))), (69, (.v (.int .i64 ((l0.getD (x684).toNat ([] : List ((Int) × (Nat)))).length : Int)))), (70, (.v (.int .i64 (IntKind.i64.wrap (x787 + (1 : Int))))))] ⟨rfl, rfl, rfl, rfl, rfl, rfl, rfl, rfl, rfl, rfl, rfl, rfl, rfl, rfl, trivial⟩ (h _ _  hs)
                  · refine so_gno rfl (not_t c795) ?_
                    refine so_gno rfl (not_t c795) ?_
                    refine so_gno rfl (not_t c795) ?_
                    refine so_gno rfl (not_t c795) ?_
                    refine so_gno rfl (not_t c795) ?_
                    refine so_gno rfl (not_t c795) ?_
                    refine so_pick_t (v := (.v (.bool true))) rfl (not_t c795) rfl ?_
                    refine so_nil ?_
                    refine fi_true rfl rfl ?_
                    refine fi_seq ?_
                    refine fi_region ?_
                    refine so_move (v := (.v v689)) rfl ?_
                    refine so_move (v := (.v (.int .i64 b759))) rfl ?_
                    refine sv_idx (hs.shows 1 rfl) c794 (fun _ => rfl) (by decide) rfl rfl F13.tl60 ?_
                    refine sv_set hs 1 rfl c794 true (fun _ => rfl) (by decide) rfl rfl rfl rfl F13.sz4 nofun (fun H802 hs => ?_)
                    refine so_nil ?_
                    refine fi_seq ?_
                    refine fi_region ?_
                    refine so_move (v := (.v v686)) rfl ?_
                    refine so_move (v := (.v (.int .i64 b759))) rfl ?_
                    refine so_move (v := (.v (.flt .f32 (fop .add .f32 (sums682.getD ((IntKind.i64.wrap (b759 - ((l0.getD (x684).toNat ([] : List ((Int) × (Nat)))).getD (x787).toNat ((0 : Int), (0 : Nat))).1))).toNat (0 : Nat)) ((l0.getD (x684).toNat ([] : List ((Int) × (Nat)))).getD (x787).toNat ((0 : Int), (0 : Nat))).2)))) rfl ?_
                    obtain ⟨c803, h⟩ := h
                    refine sv_idx (hs.shows 2 rfl) c803 (fun _ => rfl) (by decide) rfl rfl F13.tl55 ?_
                    refine sv_set hs 2 rfl c803 (fop .add .f32 (sums682.getD ((IntKind.i64.wrap (b759 - ((l0.getD (x684).toNat ([] : List ((Int) × (Nat)))).getD (x787).toNat ((0 : Int), (0 : Nat))).1))).toNat (0 : Nat)) ((l0.getD (x684).toNat ([] : List ((Int) × (Nat)))).getD (x787).toNat ((0 : Int), (0 : Nat))).2) (fun _ => rfl) (by decide) rfl rfl rfl rfl F13.sz23 nofun (fun H804 hs => ?_)
                    refine so_nil ?_
                    refine fi_region ?_
                    refine so_move (v := (.v v693)) rfl ?_
                    refine so_move (v := (.v (.int .i64 b759))) rfl ?_
                    refine so_move (v := (.v (.int .i64 x787))) rfl ?_
                    obtain ⟨c805, h⟩ := h
                    refine sv_idx (hs.shows 0 rfl) c805 (fun _ => rfl) (by decide) rfl rfl F13.tl22 ?_
                    refine sv_set hs 0 rfl c805 x787 (fun _ => rfl) (by decide) rfl rfl rfl rfl F13.sz2 nofun (fun H806 hs => ?_)
                    refine so_nil ?_
                    refine fi_inBlock ?_
                    refine fi_region ?_
                    refine so_bin rfl rfl ab_add ?_
                    refine so_move (v := (.v (.int .i64 (IntKind.i64.wrap (x787 + (1 : Int)))))) rfl ?_
                    refine so_nil ?_
                    exact fi_at [(0, (.v v0)), (1, (.v (.int .i64 a1))), (7, (.v v683)), (8, (.v v681)), (10, (.v v677)), (11, (.v (.int .i64 x684))), (12, (.v v686)), (13, (.v v689)), (14, (.v v693)), (15, (.v (.int .i64 b759))), (47, (.v (.int .i64 (l0.length : Int)))), (48, (.v (.int .i64 x684))), (69, (.v (.int .i64 ((l0.getD (x684).toNat ([] : List ((Int) × (Nat)))).length : Int)))), (70, (.v (.int .i64 (IntKind.i64.wrap (x787 + (1 : Int))))))] ⟨rfl, rfl, rfl, rfl, rfl, rfl, rfl, rfl, rfl, rfl, rfl, rfl, rfl, rfl, trivial⟩ (h _ _  hs)
                · refine fi_true rfl (not_t c792) ?_
                  refine fi_exit rfl ?_
                  refine fi_region ?_
                  refine so_bin rfl rfl ab_add ?_
                  refine so_move (v := (.v (.int .i64 (IntKind.i64.wrap (x787 + (1 : Int)))))) rfl ?_
                  refine so_nil ?_
                  exact fi_at [(0, (.v v0)), (1, (.v (.int .i64 a1))), (7, (.v v683)), (8, (.v v681)), (10, (.v v677)), (11, (.v (.int .i64 x684))), (12, (.v v686)), (13, (.v v689)), (14, (.v v693)), (15, (.v (.int .i64 b759))), (47, (.v (.int .i64 (l0.length : Int)))), (48, (.v (.int .i64 x684))), (69, (.v (.int .i64 ((l0.getD (x684).toNat ([] : List ((Int) × (Nat)))).length : Int)))), (70, (.v (.int .i64 (IntKind.i64.wrap (x787 + (1 : Int))))))] ⟨rfl, rfl, rfl, rfl, rfl, rfl, rfl, rfl, rfl, rfl, rfl, rfl, rfl, rfl, trivial⟩ (h _ _  hs)
            · refine fi_false rfl (decide_eq_false c788) ?_
              refine fi_exit rfl ?_
              refine fi_inBlock ?_
              refine fi_region ?_
              refine so_move (v := (.v (.int .i64 b759))) rfl ?_
              refine so_bin rfl rfl ab_add ?_
              refine so_assign (v := (.v (.int .i64 (IntKind.i64.wrap (b759 + (1 : Int)))))) rfl ?_
              refine so_nil ?_
              exact fi_at [(0, (.v v0)), (1, (.v (.int .i64 a1))), (7, (.v v683)), (8, (.v v681)), (10, (.v v677)), (11, (.v (.int .i64 x684))), (12, (.v v686)), (13, (.v v689)), (14, (.v v693)), (15, (.v (.int .i64 (IntKind.i64.wrap (b759 + (1 : Int)))))), (47, (.v (.int .i64 (l0.length : Int)))), (48, (.v (.int .i64 x684)))] ⟨rfl, rfl, rfl, rfl, rfl, rfl, rfl, rfl, rfl, rfl, rfl, rfl, trivial⟩ (h _ _  hs)
          · refine fi_false rfl (decide_eq_false c760) ?_
            refine fi_exit rfl ?_
            refine fi_seq ?_
            refine fi_region ?_
            refine so_move (v := (.v v686)) rfl ?_
            refine so_assign (v := (.v v686)) rfl ?_
            refine so_nil ?_
            refine fi_seq ?_
            refine fi_region ?_
            refine so_move (v := (.v v689)) rfl ?_
            refine so_assign (v := (.v v689)) rfl ?_
            refine so_nil ?_
            refine fi_region ?_
            refine so_move (v := (.v v677)) rfl ?_
            refine so_move (v := (.v v693)) rfl ?_
            refine sd_bslice hs [[v693]] F13.te72 F13.sz22 F13.ze22 rfl rfl rfl (by simp) (fac (stc (hs.shows 0 rfl).stor stn) fan) (by decide) rfl nofun (fun v809 H810 _ hs => ?_)
            obtain ⟨c812, h⟩ := h
            replace hs := Sep.front 1 hs rfl
            refine sk_app hs 3 rfl choice756 [v693] (hs.tl.shows 0 rfl) (fun _ hh => ⟨rfl, hh⟩) rfl rfl (by decide) F13.ta72_72 (by decide) c812 rfl rfl nofun (fun v813 ws814 S815 H816 hs => ?_)
            replace hs := hs.del 0
            refine so_assign (v := (.v v813)) rfl ?_
            refine so_nil ?_
            refine fi_inBlock ?_
            refine fi_region ?_
            refine so_bin rfl rfl ab_add ?_
            refine so_move (v := (.v (.int .i64 (IntKind.i64.wrap (x684 + (1 : Int)))))) rfl ?_
            refine so_nil ?_
            exact fi_at [(0, (.v v0)), (1, (.v (.int .i64 a1))), (7, (.v v686)), (8, (.v v689)), (10, (.v v813)), (47, (.v (.int .i64 (l0.length : Int)))), (48, (.v (.int .i64 (IntKind.i64.wrap (x684 + (1 : Int))))))] ⟨rfl, rfl, rfl, rfl, rfl, rfl, rfl, trivial⟩ (h _ _ _ _ _ _ nv689 _ nv686 (Sep.front 2 (Sep.front 1 (Sep.front 1 (Sep.del 3 (Sep.del 3 hs)) rfl) rfl) rfl))
        · refine fi_false rfl (decide_eq_false c685) ?_
          refine fi_exit rfl ?_
          refine fi_seq ?_
          refine fi_seq ?_
          refine fi_region ?_
          refine so_move (v := (.v v681)) rfl ?_
          refine so_move (v := (.v (.int .i64 a1))) rfl ?_
          obtain ⟨c819, h⟩ := h
          refine sv_idx (hs.shows 1 rfl) c819 (fun _ => rfl) (by decide) rfl rfl F13.tl60 ?_
          refine sv_cell (hs.shows 1 rfl) c819 false 0 (fun x => (AV.bool x)) (fun _ => rfl) (fun _ => rfl) rfl F13.ag4 ?_
          refine so_un rfl au_not ?_
          refine so_move (v := (.v (.bool (!(can680.getD (a1).toNat false))))) rfl ?_
          replace h := ofT h; rcases h with ⟨c820, h⟩ | ⟨c820, h⟩
          · refine so_gyes rfl (not_f c820) ?_
            refine so_move (v := (.v v683)) rfl ?_
            refine so_gyes rfl (not_f c820) ?_
            refine so_move (v := (.v (.int .i64 a1))) rfl ?_
            refine so_gyes rfl (not_f c820) ?_
            obtain ⟨c821, h⟩ := h
            refine sv_idx (hs.shows 2 rfl) c821 (fun _ => rfl) (by decide) rfl rfl F13.tl55 ?_
            refine so_gyes rfl (not_f c820) ?_
            refine sv_cell (hs.shows 2 rfl) c821 (0 : Nat) 0 (fun x => (AV.flt .f32 x)) (fun _ => rfl) (fun _ => rfl) rfl F13.ag23 ?_
            refine so_gyes rfl (not_f c820) ?_
            refine sv_callS (spec_l01Finite_ok (sums682.getD (a1).toNat (0 : Nat)) hs  _ h) (fun _ _ ⟨_, _, _, e⟩ => e) rfl rfl ?_
            clear h
            rintro _ _ ⟨y822, h, rfl, rfl⟩
            refine so_gyes rfl (not_f c820) ?_
            refine so_un rfl au_not ?_
            refine so_pick_f (v := (.v (.bool (!y822)))) rfl (not_f c820) rfl ?_
            refine so_nil ?_
            replace h := ofT h; rcases h with ⟨c824, h⟩ | ⟨c824, h⟩
            · refine fi_false rfl (not_f c824) ?_
              refine fi_skip ?_
              refine fi_seq ?_
              refine fi_region ?_
              refine so_move (v := (.v v0)) rfl ?_
              refine sd_len ((g0 _ hs.tl.tl.tl) : DSh _ _ 1 R_LePair_eInt_i64_eFlt_f32_o l0 w0) (by decide) rfl F13.ti35 ?_
              obtain ⟨c825, h⟩ := h
              refine sv_make hs (eInt .i64) (0 : Int) c825 (fun _ => rfl) rfl rfl F13.te22 F13.sz2 F13.by2 F13.ze2 rfl rfl nofun (fun v826 H827 nv826 hs => ?_)
              refine so_assign (v := (.v v826)) rfl ?_
              refine so_nil ?_
              refine fi_seq ?_
              refine fi_region ?_
              refine so_move (v := (.v (.int .i64 a1))) rfl ?_
              refine so_assign (v := (.v (.int .i64 a1))) rfl ?_
              refine so_nil ?_
              refine fi_seq ?_
              refine fi_seq ?_
              refine fi_region ?_
              refine so_move (v := (.v v0)) rfl ?_
              refine sd_len ((g0 _ hs.tl.tl.tl.tl) : DSh _ _ 1 R_LePair_eInt_i64_eFlt_f32_o l0 w0) (by decide) rfl F13.ti35 ?_
              refine so_bin rfl rfl ab_sub ?_
              refine so_assign (v := (.v (.int .i64 (IntKind.i64.wrap ((l0.length : Int) - (1 : Int)))))) rfl ?_
              refine so_nil ?_
              refine fi_block ?_
              refine fi_loop ?_
              replace hs := hs.del 2
              refine fi_at [(0, (.v v0)), (1, (.v (.int .i64 a1))), (7, (.v v683)), (10, (.v v677)), (19, (.v v826)), (20, (.v (.int .i64 a1))), (21, (.v (.int .i64 (IntKind.i64.wrap ((l0.length : Int) - (1 : Int))))))] ⟨rfl, rfl, rfl, rfl, rfl, rfl, rfl, trivial⟩ ?_
              refine h (fun (out841 : List (Int)) (atq842 : Int) (i843 : Int) => ∀ (s : Nat → TV) (H : Heap), Sep H (Pc.osl v826 1 (enc (eInt .i64) out841) :: dpc v677 1 R_LeInt_i64_o IR_LeInt_i64_o choices676 ws678 S679 :: Pc.osl v683 1 (enc (eFlt .f32) sums682) :: fr) → Fin _ _ (updL s [(0, (.v v0)), (1, (.v (.int .i64 a1))), (7, (.v v683)), (10, (.v v677)), (19, (.v v826)), (20, (.v (.int .i64 atq842))), (21, (.v (.int .i64 i843)))]) H _) ?_ _ _ hs
              intro out841 atq842 i843 h s852 H853 hs
              refine fi_inLoop ?_
              refine fi_seq ?_
              refine fi_seq ?_
              refine fi_region ?_
              refine so_move (v := (.v (.int .i64 i843))) rfl ?_
              refine so_bin rfl rfl ab_geq ?_
              refine so_nil ?_
              replace h := ofP h; rcases h with ⟨c844, h⟩ | ⟨c844, h⟩
              · refine fi_true rfl (decide_eq_true c844) ?_
                refine fi_skip ?_
                refine fi_seq ?_
                refine fi_block ?_
                refine fi_seq ?_
                refine fi_region ?_
                refine so_move (v := (.v v826)) rfl ?_
                refine so_move (v := (.v (.int .i64 i843))) rfl ?_
                refine so_move (v := (.v v677)) rfl ?_
                refine so_move (v := (.v (.int .i64 i843))) rfl ?_
                obtain ⟨c845, h⟩ := h
                refine sd_idx ((hs.dshows 1 rfl) : DSh _ _ 1 R_LeInt_i64_o choices676 ws678) c845 ([] : List (Int)) (by decide) rfl rfl F13.tl72 ?_
                refine su_ld ((((hs.dshows 1 rfl) : DSh _ _ 1 R_LeInt_i64_o choices676 ws678)).at (by decide) c845 ([] : List (Int))).2.2 0 (congrArg (fun c => c[0]?) ((((hs.dshows 1 rfl) : DSh _ _ 1 R_LeInt_i64_o choices676 ws678)).at (by decide) c845 ([] : List (Int))).2.1.1) rfl F13.ag22 ?_
                refine so_move (v := (.v (.int .i64 atq842))) rfl ?_
                obtain ⟨c846, h⟩ := h
                refine sv_idx ((((hs.dshows 1 rfl) : DSh _ _ 1 R_LeInt_i64_o choices676 ws678)).at (by decide) c845 ([] : List (Int))).2.1.2 c846 (fun _ => rfl) (by decide) rfl rfl F13.tl22 ?_
                refine sv_cell ((((hs.dshows 1 rfl) : DSh _ _ 1 R_LeInt_i64_o choices676 ws678)).at (by decide) c845 ([] : List (Int))).2.1.2 c846 (0 : Int) 0 (fun x => (AV.int .i64 x)) (fun _ => rfl) (fun _ => rfl) rfl F13.ag2 ?_
                obtain ⟨c847, h⟩ := h
                refine sv_idx (hs.shows 0 rfl) c847 (fun _ => rfl) (by decide) rfl rfl F13.tl22 ?_
                refine sv_set hs 0 rfl c847 ((choices676.getD (i843).toNat ([] : List (Int))).getD (atq842).toNat (0 : Int)) (fun _ => rfl) (by decide) rfl rfl rfl rfl F13.sz2 nofun (fun H848 hs => ?_)
                refine so_nil ?_
                refine fi_region ?_
                refine so_move (v := (.v (.int .i64 atq842))) rfl ?_
                refine so_move (v := (.v v0)) rfl ?_
                refine so_move (v := (.v (.int .i64 i843))) rfl ?_
                obtain ⟨c849, h⟩ := h
                refine sd_idx ((g0 _ hs.tl.tl.tl) : DSh _ _ 1 R_LePair_eInt_i64_eFlt_f32_o l0 w0) c849 ([] : List ((Int) × (Nat))) (by decide) rfl rfl F13.tl35 ?_
                refine su_ld ((((g0 _ hs.tl.tl.tl) : DSh _ _ 1 R_LePair_eInt_i64_eFlt_f32_o l0 w0)).at (by decide) c849 ([] : List ((Int) × (Nat)))).2.2 0 (congrArg (fun c => c[0]?) ((((g0 _ hs.tl.tl.tl) : DSh _ _ 1 R_LePair_eInt_i64_eFlt_f32_o l0 w0)).at (by decide) c849 ([] : List ((Int) × (Nat)))).2.1.1) rfl F13.ag47 ?_
                refine so_move (v := (.v v826)) rfl ?_
                refine so_move (v := (.v (.int .i64 i843))) rfl ?_
                obtain ⟨c850, h⟩ := h
                refine sv_idx (hs.shows 0 rfl) c850 (fun _ => rfl) (by decide) rfl rfl F13.tl22 ?_
                refine sv_cell (hs.shows 0 rfl) c850 (0 : Int) 0 (fun x => (AV.int .i64 x)) (fun _ => rfl) (fun _ => rfl) rfl F13.ag2 ?_
                obtain ⟨c851, h⟩ := h
                refine sv_idx ((((g0 _ hs.tl.tl.tl) : DSh _ _ 1 R_LePair_eInt_i64_eFlt_f32_o l0 w0)).at (by decide) c849 ([] : List ((Int) × (Nat)))).2.1.2 c851 (fun _ => rfl) (by decide) rfl rfl F13.tl47 ?_
                refine so_fieldAddr rfl F13.fd49_0 ?_
                refine sv_cell ((((g0 _ hs.tl.tl.tl) : DSh _ _ 1 R_LePair_eInt_i64_eFlt_f32_o l0 w0)).at (by decide) c849 ([] : List ((Int) × (Nat)))).2.1.2 c851 ((0 : Int), (0 : Nat)) 0 (fun x => (AV.int .i64 x.1)) (fun _ => rfl) (fun _ => rfl) rfl F13.ag2 ?_
                refine so_bin rfl rfl ab_sub ?_
                refine so_assign (v := (.v (.int .i64 (IntKind.i64.wrap (atq842 - ((l0.getD (i843).toNat ([] : List ((Int) × (Nat)))).getD (((out841.set (i843).toNat ((choices676.getD (i843).toNat ([] : List (Int))).getD (atq842).toNat (0 : Int))).getD (i843).toNat (0 : Int))).toNat ((0 : Int), (0 : Nat))).1))))) rfl ?_
                refine so_nil ?_
                refine fi_inBlock ?_
                refine fi_region ?_
                refine so_move (v := (.v (.int .i64 i843))) rfl ?_
                refine so_bin rfl rfl ab_sub ?_
                refine so_assign (v := (.v (.int .i64 (IntKind.i64.wrap (i843 - (1 : Int)))))) rfl ?_
                refine so_nil ?_
                exact fi_at [(0, (.v v0)), (1, (.v (.int .i64 a1))), (7, (.v v683)), (10, (.v v677)), (19, (.v v826)), (20, (.v (.int .i64 (IntKind.i64.wrap (atq842 - ((l0.getD (i843).toNat ([] : List ((Int) × (Nat)))).getD (((out841.set (i843).toNat ((choices676.getD (i843).toNat ([] : List (Int))).getD (atq842).toNat (0 : Int))).getD (i843).toNat (0 : Int))).toNat ((0 : Int), (0 : Nat))).1))))), (21, (.v (.int .i64 (IntKind.i64.wrap (i843 - (1 : Int))))))] ⟨rfl, rfl, rfl, rfl, rfl, rfl, rfl, trivial⟩ (h _ _  hs)
              · refine fi_false rfl (decide_eq_false c844) ?_
                refine fi_exit rfl ?_
                refine fi_seq ?_
                refine fi_region ?_
                refine so_move (v := (.v v826)) rfl ?_
                refine so_move (v := (.v v683)) rfl ?_
                refine so_move (v := (.v (.int .i64 a1))) rfl ?_
                refine sv_idx (hs.shows 2 rfl) c821 (fun _ => rfl) (by decide) rfl rfl F13.tl55 ?_
                refine sv_cell (hs.shows 2 rfl) c821 (0 : Nat) 0 (fun x => (AV.flt .f32 x)) (fun _ => rfl) (fun _ => rfl) rfl F13.ag23 ?_
                refine so_assign (v := (.v v826)) rfl ?_
                refine so_assign (v := (.v (.flt .f32 (sums682.getD (a1).toNat (0 : Nat))))) rfl ?_
                refine so_assign (v := (.v (.bool true))) rfl ?_
                refine so_nil ?_
                exact by_ret rfl ⟨_, _, _, h, _, rfl, (Sep.del 1 (Sep.del 1 hs))⟩
            · refine fi_true rfl (not_t c824) ?_
              refine fi_seq ?_
              refine fi_region ?_
              refine so_assign (v := (.v .nilsl)) rfl ?_
              refine so_assign (v := (.v (.flt .f32 (cz .f32 0)))) rfl ?_
              refine so_assign (v := (.v (.bool false))) rfl ?_
              refine so_nil ?_
              exact by_ret rfl ⟨_, _, _, h, _, rfl, (Sep.nil (Sep.del 0 (Sep.del 0 (Sep.del 0 hs))) 1)⟩
          · refine so_gno rfl (not_t c820) ?_
            refine so_gno rfl (not_t c820) ?_
            refine so_gno rfl (not_t c820) ?_
            refine so_gno rfl (not_t c820) ?_
            refine so_gno rfl (not_t c820) ?_
            refine so_gno rfl (not_t c820) ?_
            refine so_pick_t (v := (.v (.bool true))) rfl (not_t c820) rfl ?_
            refine so_nil ?_
            refine fi_true rfl rfl ?_
            refine fi_seq ?_
            refine fi_region ?_
            refine so_assign (v := (.v .nilsl)) rfl ?_
            refine so_assign (v := (.v (.flt .f32 (cz .f32 0)))) rfl ?_
            refine so_assign (v := (.v (.bool false))) rfl ?_
            refine so_nil ?_
            exact by_ret rfl ⟨_, _, _, h, _, rfl, (Sep.nil (Sep.del 0 (Sep.del 0 (Sep.del 0 hs))) 1)⟩
    · refine fi_true rfl (not_t c106) ?_
      refine fi_seq ?_
      refine fi_region ?_
      refine so_assign (v := (.v .nilsl)) rfl ?_
      refine so_assign (v := (.v (.flt .f32 (cz .f32 0)))) rfl ?_
      refine so_assign (v := (.v (.bool false))) rfl ?_
      refine so_nil ?_
      exact by_ret rfl ⟨_, _, _, h, _, rfl, (Sep.nil hs 1)⟩
  · refine so_gno rfl (not_t c103) ?_
    refine so_gno rfl (not_t c103) ?_
    refine so_gno rfl (not_t c103) ?_
    refine so_pick_t (v := (.v (.bool true))) rfl (not_t c103) rfl ?_
    refine so_nil ?_
    refine fi_true rfl rfl ?_
    refine fi_seq ?_
    refine fi_region ?_
    refine so_assign (v := (.v .nilsl)) rfl ?_
    refine so_assign (v := (.v (.flt .f32 (cz .f32 0)))) rfl ?_
    refine so_assign (v := (.v (.bool false))) rfl ?_
    refine so_nil ?_
    exact by_ret rfl ⟨_, _, _, h, _, rfl, (Sep.nil hs 1)⟩

end Go.Proofs.Ytecdkjnomkdbkaa.G

namespace Go.Proofs.Ytecdkjnomkdbkaa.G
open Go Go.Ab Go.Proofs Go.Proofs.Ytecdkjnomkdbkaa
set_option maxRecDepth 100000
set_option linter.unusedVariables false
set_option linter.unusedSimpArgs false
set_option maxHeartbeats 1000000
attribute [local irreducible] wops wopf Go.Ab.Fin
theorem impl_within_ok {fr : List Pc} {H : Heap} (a0 : Int) (a1 : Int) (a2 : Int) (hs : Sep H (fr))  (K : Bool → Prop) (h : impl_within.wp a0 a1 a2 K) : OkQ Try.prog 47 [(.v (.int .i64 a0)), (.v (.int .i64 a1)), (.v (.int .i64 a2))] H (fun r H2 => ∃ (y0 : Bool), K y0 ∧ r = (.v (.bool y0)) ∧ H = H2) := by
  unfold impl_within.wp at h
  refine of_body Try.f47 F.hm Try.func47 rfl Try.call47 (by kernel_rfl) (by simp) ?_
  refine fi_seq ?_
  refine fi_region ?_
  refine so_assign (v := (.v (.bool false))) rfl ?_
  refine so_nil ?_
  refine fi_seq ?_
  refine fi_region ?_
  refine so_move (v := (.v (.int .i64 a0))) rfl ?_
  refine so_move (v := (.v (.int .i64 a1))) rfl ?_
  refine so_bin rfl rfl ab_geq ?_
  refine so_move (v := (.v (.bool (decide (a1 ≤ a0))))) rfl ?_
  replace h := ofP h; rcases h with ⟨c101, h⟩ | ⟨c101, h⟩
  · refine so_gyes rfl (decide_eq_true c101) ?_
    refine so_move (v := (.v (.int .i64 a0))) rfl ?_
    refine so_gyes rfl (decide_eq_true c101) ?_
    refine so_move (v := (.v (.int .i64 a2))) rfl ?_
    refine so_gyes rfl (decide_eq_true c101) ?_
    refine so_bin rfl rfl ab_leq ?_
    refine so_pick_t (v := (.v (.bool (decide (a0 ≤ a2))))) rfl (decide_eq_true c101) rfl ?_
    refine so_assign (v := (.v (.bool (decide (a0 ≤ a2))))) rfl ?_
    refine so_nil ?_
    exact by_ret rfl ⟨_, h, rfl, rfl⟩
  · refine so_gno rfl (decide_eq_false c101) ?_
    refine so_gno rfl (decide_eq_false c101) ?_
    refine so_gno rfl (decide_eq_false c101) ?_
    refine so_pick_f (v := (.v (.bool false))) rfl (decide_eq_false c101) rfl ?_
    refine so_assign (v := (.v (.bool false))) rfl ?_
    refine so_nil ?_
    exact by_ret rfl ⟨_, h, rfl, rfl⟩

end Go.Proofs.Ytecdkjnomkdbkaa.G

namespace Go.Proofs.Ytecdkjnomkdbkaa.G
open Go Go.Ab Go.Proofs Go.Proofs.Ytecdkjnomkdbkaa
set_option maxRecDepth 100000
set_option linter.unusedVariables false
set_option linter.unusedSimpArgs false
set_option maxHeartbeats 1000000
attribute [local irreducible] wops wopf Go.Ab.Fin
theorem impl_IsFinite_ok {fr : List Pc} {H : Heap} (a0 : Nat) (hs : Sep H (fr))  (K : Bool → Prop) (h : impl_IsFinite.wp a0 K) : OkQ Try.prog 48 [(.v (.flt .f32 a0))] H (fun r H2 => ∃ (y0 : Bool), K y0 ∧ r = (.v (.bool y0)) ∧ H = H2) := by
  unfold impl_IsFinite.wp at h
  refine of_body Try.f48 F.hm Try.func48 rfl Try.call48 (by kernel_rfl) (by simp) ?_
  refine fi_seq ?_
  refine fi_region ?_
  refine so_assign (v := (.v (.bool false))) rfl ?_
  refine so_nil ?_
  refine fi_seq ?_
  refine fi_region ?_
  refine so_move (v := (.v (.flt .f32 a0))) rfl ?_
  refine so_move (v := (.v (.flt .f32 a0))) rfl ?_
  refine so_bin rfl rfl ab_fsub ?_
  refine so_bin rfl rfl ab_feql ?_
  refine so_assign (v := (.v (.bool (fcmp .eql .f32 (fop .sub .f32 a0 a0) (cz .f32 0))))) rfl ?_
  refine so_nil ?_
  exact by_ret rfl ⟨_, h, rfl, rfl⟩

end Go.Proofs.Ytecdkjnomkdbkaa.G

namespace Go.Proofs.Ytecdkjnomkdbkaa.G
open Go Go.Ab Go.Proofs Go.Proofs.Ytecdkjnomkdbkaa
set_option maxRecDepth 100000
set_option linter.unusedVariables false
set_option linter.unusedSimpArgs false
set_option maxHeartbeats 1000000
attribute [local irreducible] wops wopf Go.Ab.Fin
theorem impl_isLeast_ok {fr : List Pc} {H : Heap} (a0 : Nat) (hs : Sep H (fr))  (K : Bool → Prop) (h : impl_isLeast.wp a0 K) : OkQ Try.prog 53 [(.v (.flt .f32 a0))] H (fun r H2 => ∃ (y0 : Bool), K y0 ∧ r = (.v (.bool y0)) ∧ H = H2) := by
  unfold impl_isLeast.wp at h
  refine of_body Try.f53 F.hm Try.func53 rfl Try.call53 (by kernel_rfl) (by simp) ?_
  refine fi_seq ?_
  refine fi_region ?_
  refine so_assign (v := (.v (.bool false))) rfl ?_
  refine so_nil ?_
  refine fi_seq ?_
  refine fi_region ?_
  refine so_move (v := (.v (.flt .f32 a0))) rfl ?_
  refine sv_callS (impl_IsFinite_ok a0 hs  _ h) (fun _ _ ⟨_, _, _, e⟩ => e) rfl rfl ?_
  clear h
  rintro _ _ ⟨y101, h, rfl, rfl⟩
  refine so_move (v := (.v (.bool y101))) rfl ?_
  replace h := ofT h; rcases h with ⟨c103, h⟩ | ⟨c103, h⟩
  · refine so_gyes rfl c103 ?_
    refine so_move (v := (.v (.flt .f32 a0))) rfl ?_
    refine so_gyes rfl c103 ?_
    refine so_bin rfl rfl ab_fgeq ?_
    refine so_pick_t (v := (.v (.bool (fcmp .geq .f32 a0 (cz .f32 0))))) rfl c103 rfl ?_
    refine so_assign (v := (.v (.bool (fcmp .geq .f32 a0 (cz .f32 0))))) rfl ?_
    refine so_nil ?_
    exact by_ret rfl ⟨_, h, rfl, rfl⟩
  · refine so_gno rfl c103 ?_
    refine so_gno rfl c103 ?_
    refine so_pick_f (v := (.v (.bool false))) rfl c103 rfl ?_
    refine so_assign (v := (.v (.bool false))) rfl ?_
    refine so_nil ?_
    exact by_ret rfl ⟨_, h, rfl, rfl⟩

end Go.Proofs.Ytecdkjnomkdbkaa.G

namespace Go.Proofs.Ytecdkjnomkdbkaa.G
open Go Go.Ab Go.Proofs Go.Proofs.Ytecdkjnomkdbkaa
set_option maxRecDepth 100000
set_option linter.unusedVariables false
set_option linter.unusedSimpArgs false
set_option maxHeartbeats 1000000
attribute [local irreducible] wops wopf Go.Ab.Fin
theorem F28.ag2 : tagg Try.prog 2 = some false := by kernel_rfl
theorem F28.ag23 : tagg Try.prog 23 = some false := by kernel_rfl
theorem F28.ag49 : tagg Try.prog 49 = some true := by kernel_rfl
theorem F28.fd49_0 : tfield Try.prog 49 0 = some (0, 1, false) := by kernel_rfl
theorem F28.fd49_1 : tfield Try.prog 49 1 = some (1, 1, false) := by kernel_rfl
theorem F28.sz49 : tsz Try.prog 49 = some 2 := by kernel_rfl
theorem F28.ti47 : (telem Try.prog 47).isSome = true := by kernel_rfl
theorem F28.tl47 : (telem Try.prog 47).bind (tsz Try.prog) = some 2 := by kernel_rfl
theorem F28.ze49 : tzero Try.prog 49 = some [(.int .i64 (0 : Int)), (.flt .f32 (0 : Nat))] := by kernel_rfl
theorem impl_AreCosts_ok {fr : List Pc} {H : Heap} (v0 : AV) (l0 : List ((Int) × (Nat))) (hs : Sep H (fr)) (g0 : ∀ H, Sep H fr → Shows H v0 2 (enc (ePair (eInt .i64) (eFlt .f32)) l0)) (K : Bool → Prop) (h : impl_AreCosts.wp l0 K) : OkQ Try.prog 28 [(.v v0)] H (fun r H2 => ∃ (y0 : Bool), K y0 ∧ r = (.v (.bool y0)) ∧ Sep H2 (fr)) := by
  unfold impl_AreCosts.wp at h
  refine of_body Try.f28 F.hm Try.func28 rfl Try.call28 (by kernel_rfl) (by simp) ?_
  refine fi_seq ?_
  refine fi_region ?_
  refine so_assign (v := (.v (.bool false))) rfl ?_
  refine so_nil ?_
  refine fi_seq ?_
  refine fi_seq ?_
  refine fi_region ?_
  refine so_move (v := (.v v0)) rfl ?_
  refine sv_len (g0 _ hs) (fun _ => rfl) (by decide) rfl F28.ti47 ?_
  refine sv_callS (impl_within_ok (l0.length : Int) (1 : Int) (16 : Int) hs  _ h) (fun _ _ ⟨_, _, _, e⟩ => e) rfl rfl ?_
  clear h
  rintro _ _ ⟨y101, h, rfl, rfl⟩
  refine so_un rfl au_not ?_
  refine so_nil ?_
  replace h := ofT h; rcases h with ⟨c103, h⟩ | ⟨c103, h⟩
  · refine fi_false rfl (not_f c103) ?_
    refine fi_skip ?_
    refine fi_seq ?_
    refine fi_seq ?_
    refine fi_region ?_
    refine so_move (v := (.v v0)) rfl ?_
    refine sv_len (g0 _ hs) (fun _ => rfl) (by decide) rfl F28.ti47 ?_
    refine so_move (v := (.v (.int .i64 (0 : Int)))) rfl ?_
    refine so_nil ?_
    refine fi_block ?_
    refine fi_loop ?_
    refine fi_at [(0, (.v v0)), (9, (.v v0)), (10, (.v (.int .i64 (l0.length : Int)))), (11, (.v (.int .i64 (0 : Int))))] ⟨rfl, rfl, rfl, rfl, trivial⟩ ?_
    refine h (fun (x105 : Int) => ∀ (s : Nat → TV) (H : Heap), Sep H (fr) → Fin _ _ (updL s [(0, (.v v0)), (9, (.v v0)), (10, (.v (.int .i64 (l0.length : Int)))), (11, (.v (.int .i64 x105)))]) H _) ?_ _ _ hs
    intro x105 h s122 H123 hs
    refine fi_inLoop ?_
    refine fi_seq ?_
    refine fi_region ?_
    refine so_bin rfl rfl ab_lss ?_
    refine so_nil ?_
    refine fi_seq ?_
    replace h := ofP h; rcases h with ⟨c106, h⟩ | ⟨c106, h⟩
    · refine fi_true rfl (decide_eq_true c106) ?_
      refine fi_skip ?_
      refine fi_seq ?_
      refine fi_block ?_
      refine fi_seq ?_
      refine fi_region ?_
      refine so_move (v := (.v (.int .i64 x105))) rfl ?_
      obtain ⟨c107, h⟩ := h
      refine sv_idx (g0 _ hs) c107 (fun _ => rfl) (by decide) rfl rfl F28.tl47 ?_
      refine sv_elem (g0 _ hs) c107 ((0 : Int), (0 : Nat)) (fun _ => rfl) (by decide) rfl F28.ag49 F28.sz49 ?_
      refine sv_alloc hs F28.ze49 rfl nofun (fun id108 H109 hs => ?_)
      refine so_assign (v := (.v (.int .i64 x105))) rfl ?_
      refine sv_st hs 0 rfl rfl rfl (c := [(.int .i64 (l0.getD (x105).toNat ((0 : Int), (0 : Nat))).1), (.flt .f32 (l0.getD (x105).toNat ((0 : Int), (0 : Nat))).2)]) rfl F28.sz49 rfl (stc rfl (stc rfl stn)) (leb rfl) (cs' := [(.int .i64 (l0.getD (x105).toNat ((0 : Int), (0 : Nat))).1), (.flt .f32 (l0.getD (x105).toNat ((0 : Int), (0 : Nat))).2)]) rfl nofun (fun H111 hs => ?_)
      refine so_nil ?_
      refine fi_seq ?_
      refine fi_seq ?_
      refine fi_region ?_
      refine so_fieldAddr rfl F28.fd49_0 ?_
      refine sv_ld hs 0 rfl rfl rfl F28.ag2 ?_
      refine sv_callS (impl_within_ok (l0.getD (x105).toNat ((0 : Int), (0 : Nat))).1 (0 : Int) (512 : Int) hs  _ h) (fun _ _ ⟨_, _, _, e⟩ => e) rfl rfl ?_
      clear h
      rintro _ _ ⟨y112, h, rfl, rfl⟩
      refine so_un rfl au_not ?_
      refine so_move (v := (.v (.bool (!y112)))) rfl ?_
      replace h := ofT h; rcases h with ⟨c114, h⟩ | ⟨c114, h⟩
      · refine so_gyes rfl (not_f c114) ?_
        refine so_fieldAddr rfl F28.fd49_1 ?_
        refine so_gyes rfl (not_f c114) ?_
        refine sv_ld hs 0 rfl rfl rfl F28.ag23 ?_
        refine so_gyes rfl (not_f c114) ?_
        refine sv_callS (impl_isLeast_ok (l0.getD (x105).toNat ((0 : Int), (0 : Nat))).2 hs  _ h) (fun _ _ ⟨_, _, _, e⟩ => e) rfl rfl ?_
        clear h
        rintro _ _ ⟨y115, h, rfl, rfl⟩
        refine so_gyes rfl (not_f c114) ?_
        refine so_un rfl au_not ?_
        refine so_pick_f (v := (.v (.bool (!y115)))) rfl (not_f c114) rfl ?_
        refine so_nil ?_
        replace h := ofT h; rcases h with ⟨c117, h⟩ | ⟨c117, h⟩
        · refine fi_false rfl (not_f c117) ?_
          refine fi_skip ?_
          refine fi_seq ?_
          refine fi_region ?_
          refine so_move (v := (.v (.int .i64 x105))) rfl ?_
          refine so_bin rfl rfl ab_gtr ?_
          refine so_move (v := (.v (.bool (decide ((0 : Int) < x105))))) rfl ?_
          replace h := ofP h; rcases h with ⟨c118, h⟩ | ⟨c118, h⟩
          · refine so_gyes rfl (decide_eq_true c118) ?_
            refine so_fieldAddr rfl F28.fd49_0 ?_
            refine so_gyes rfl (decide_eq_true c118) ?_
            refine sv_ld hs 0 rfl rfl rfl F28.ag2 ?_
            refine so_gyes rfl (decide_eq_true c118) ?_
            refine so_move (v := (.v v0)) rfl ?_
            refine so_gyes rfl (decide_eq_true c118) ?_
            refine so_move (v := (.v (.int .i64 x105))) rfl ?_
            refine so_gyes rfl (decide_eq_true c118) ?_
            refine so_bin rfl rfl ab_sub ?_
            refine so_gyes rfl (decide_eq_true c118) ?_
            obtain ⟨c119, h⟩ := h
            refine sv_idx (g0 _ hs.tl) c119 (fun _ => rfl) (by decide) rfl rfl F28.tl47 ?_
            refine so_gyes rfl (decide_eq_true c118) ?_
            refine so_fieldAddr rfl F28.fd49_0 ?_
            refine so_gyes rfl (decide_eq_true c118) ?_
            refine sv_cell (g0 _ hs.tl) c119 ((0 : Int), (0 : Nat)) 0 (fun x => (AV.int .i64 x.1)) (fun _ => rfl) (fun _ => rfl) rfl F28.ag2 ?_
            refine so_gyes rfl (decide_eq_true c118) ?_
            refine so_bin rfl rfl ab_leq ?_
            refine so_gyes rfl (decide_eq_true c118) ?_
            refine so_move (v := (.v (.bool (decide ((l0.getD (x105).toNat ((0 : Int), (0 : Nat))).1 ≤ (l0.getD ((IntKind.i64.wrap (x105 - (1 : Int)))).toNat ((0 : Int), (0 : Nat))).1))))) rfl ?_
            replace h := ofP h; rcases h with ⟨c120, h⟩ | ⟨c120, h⟩
            · refine so_gno rfl (decide_eq_true c120) ?_
              refine so_gno rfl (decide_eq_true c120) ?_
              refine so_gno rfl (decide_eq_true c120) ?_
              refine so_gno rfl (decide_eq_true c120) ?_
              refine so_gno rfl (decide_eq_true c120) ?_
              refine so_gno rfl (decide_eq_true c120) ?_
              refine so_gno rfl (decide_eq_true c120) ?_
              refine so_gno rfl (decide_eq_true c120) ?_
              refine so_gno rfl (decide_eq_true c120) ?_
              refine so_gyes rfl (decide_eq_true c118) ?_
              refine so_pick_t (v := (.v (.bool true))) rfl (decide_eq_true c120) rfl ?_
              refine so_pick_t (v := (.v (.bool true))) rfl (decide_eq_true c118) rfl ?_
              refine so_nil ?_
              refine fi_true rfl rfl ?_
              refine fi_seq ?_
              refine fi_region ?_
              refine so_assign (v := (.v (.bool false))) rfl ?_
              refine so_nil ?_
              exact by_ret rfl ⟨_, h, rfl, (Sep.del 0 hs)⟩
            · refine so_gyes rfl (decide_eq_false c120) ?_
              refine so_fieldAddr rfl F28.fd49_1 ?_
              refine so_gyes rfl (decide_eq_false c120) ?_
              refine sv_ld hs 0 rfl rfl rfl F28.ag23 ?_
              refine so_gyes rfl (decide_eq_false c120) ?_
              refine so_move (v := (.v v0)) rfl ?_
              refine so_gyes rfl (decide_eq_false c120) ?_
              refine so_move (v := (.v (.int .i64 x105))) rfl ?_
              refine so_gyes rfl (decide_eq_false c120) ?_
              refine so_bin rfl rfl ab_sub ?_
              refine so_gyes rfl (decide_eq_false c120) ?_
              refine sv_idx (g0 _ hs.tl) c119 (fun _ => rfl) (by decide) rfl rfl F28.tl47 ?_
              refine so_gyes rfl (decide_eq_false c120) ?_
              refine so_fieldAddr rfl F28.fd49_1 ?_
              refine so_gyes rfl (decide_eq_false c120) ?_
              refine sv_cell (g0 _ hs.tl) c119 ((0 : Int), (0 : Nat)) 1 (fun x => (AV.flt .f32 x.2)) (fun _ => rfl) (fun _ => rfl) rfl F28.ag23 ?_
              refine so_gyes rfl (decide_eq_false c120) ?_
              refine so_bin rfl rfl ab_fgeq ?_
              refine so_gyes rfl (decide_eq_true c118) ?_
              refine so_pick_f (v := (.v (.bool (fcmp .geq .f32 (l0.getD (x105).toNat ((0 : Int), (0 : Nat))).2 (l0.getD ((IntKind.i64.wrap (x105 - (1 : Int)))).toNat ((0 : Int), (0 : Nat))).2)))) rfl (decide_eq_false c120) rfl ?_
              refine so_pick_t (v := (.v (.bool (fcmp .geq .f32 (l0.getD (x105).toNat ((0 : Int), (0 : Nat))).2 (l0.getD ((IntKind.i64.wrap (x105 - (1 : Int)))).toNat ((0 : Int), (0 : Nat))).2)))) rfl (decide_eq_true c118) rfl ?_
              refine so_nil ?_
              replace h := ofT h; rcases h with ⟨c121, h⟩ | ⟨c121, h⟩
              · refine fi_true rfl c121 ?_
                refine fi_seq ?_
                refine fi_region ?_
                refine so_assign (v := (.v (.bool false))) rfl ?_
                refine so_nil ?_
                exact by_ret rfl ⟨_, h, rfl, (Sep.del 0 hs)⟩
              · refine fi_false rfl c121 ?_
                refine fi_skip ?_
                refine fi_inBlock ?_
                refine fi_region ?_
                refine so_bin rfl rfl ab_add ?_
                refine so_move (v := (.v (.int .i64 (IntKind.i64.wrap (x105 + (1 : Int)))))) rfl ?_
                refine so_nil ?_
                exact fi_at [(0, (.v v0)), (9, (.v v0)), (10, (.v (.int .i64 (l0.length : Int)))), (11, (.v (.int .i64 (IntKind.i64.wrap (x105 + (1 : Int))))))] ⟨rfl, rfl, rfl, rfl, trivial⟩ (h _ _  (Sep.del 0 hs))
          · refine so_gno rfl (decide_eq_false c118) ?_
            refine so_gno rfl (decide_eq_false c118) ?_
            refine so_gno rfl (decide_eq_false c118) ?_
            refine so_gno rfl (decide_eq_false c118) ?_
            refine so_gno rfl (decide_eq_false c118) ?_
            refine so_gno rfl (decide_eq_false c118) ?_
            refine so_gno rfl (decide_eq_false c118) ?_
            refine so_gno rfl (decide_eq_false c118) ?_
            refine so_gno rfl (decide_eq_false c118) ?_
            refine so_gno rfl (decide_eq_false c118) ?_
            refine so_gund rfl ?_
            refine so_gund rfl ?_
            refine so_gund rfl ?_
            refine so_gund rfl ?_
            refine so_gund rfl ?_
            refine so_gund rfl ?_
            refine so_gund rfl ?_
            refine so_gund rfl ?_
            refine so_gund rfl ?_
            refine so_gno rfl (decide_eq_false c118) ?_
            refine so_pick_f (v := (.v (.bool false))) rfl (decide_eq_false c118) rfl ?_
            refine so_nil ?_
            refine fi_false rfl rfl ?_
            refine fi_skip ?_
            refine fi_inBlock ?_
            refine fi_region ?_
            refine so_bin rfl rfl ab_add ?_
            refine so_move (v := (.v (.int .i64 (IntKind.i64.wrap (x105 + (1 : Int)))))) rfl ?_
            refine so_nil ?_
            exact fi_at [(0, (.v v0)), (9, (.v v0)), (10, (.v (.int .i64 (l0.length : Int)))), (11, (.v (.int .i64 (IntKind.i64.wrap (x105 + (1 : Int))))))] ⟨rfl, rfl, rfl, rfl, trivial⟩ (h _ _  (Sep.del 0 hs))
        · refine fi_true rfl (not_t c117) ?_
          refine fi_seq ?_
          refine fi_region ?_
          refine so_assign (v := (.v (.bool false))) rfl ?_
          refine so_nil ?_
          exact by_ret rfl ⟨_, h, rfl, (Sep.del 0 hs)⟩
      · refine so_gno rfl (not_t c114) ?_
        refine so_gno rfl (not_t c114) ?_
        refine so_gno rfl (not_t c114) ?_
        refine so_gno rfl (not_t c114) ?_
        refine so_pick_t (v := (.v (.bool true))) rfl (not_t c114) rfl ?_
        refine so_nil ?_
        refine fi_true rfl rfl ?_
        refine fi_seq ?_
        refine fi_region ?_
        refine so_assign (v := (.v (.bool false))) rfl ?_
        refine so_nil ?_
        exact by_ret rfl ⟨_, h, rfl, (Sep.del 0 hs)⟩
    · refine fi_false rfl (decide_eq_false c106) ?_
      refine fi_exit rfl ?_
      refine fi_seq ?_
      refine fi_region ?_
      refine so_assign (v := (.v (.bool true))) rfl ?_
      refine so_nil ?_
      exact by_ret rfl ⟨_, h, rfl, hs⟩
  · refine fi_true rfl (not_t c103) ?_
    refine fi_seq ?_
    refine fi_region ?_
    refine so_assign (v := (.v (.bool false))) rfl ?_
    refine so_nil ?_
    exact by_ret rfl ⟨_, h, rfl, hs⟩
theorem impl_AreCosts_okS {fr : List Pc} {H : Heap} (v0 : AV) (l0 : List ((Int) × (Nat))) (hs : Sep H fr) (g0 : ∀ H, Sep H fr → Shows H v0 2 (enc (ePair (eInt .i64) (eFlt .f32)) l0)) (K : Bool → Prop) (h : impl_AreCosts.wp l0 K) : OkQ Try.prog 28 [(.v v0)] H (fun r H2 => ∃ (y0 : Bool), K y0 ∧ r = (.v (.bool y0)) ∧ H = H2) := by
  obtain ⟨r, H2, h1, y0, hK, hr, hsep⟩ := impl_AreCosts_ok (fr := came H) (H := H) v0 l0 (came_sep H) (came_shows (g0 H hs)) K h
  have hk : H.n ≤ H2.n ∧ ∀ i, i < H.n → H2.f i = H.f i := hsep.1.2.1
  exact ⟨r, H, h1.forget hk.1 hk.2 (by subst hr; rfl), y0, hK, hr, rfl⟩

end Go.Proofs.Ytecdkjnomkdbkaa.G

namespace Go.Proofs.Ytecdkjnomkdbkaa.G
open Go Go.Ab Go.Proofs Go.Proofs.Ytecdkjnomkdbkaa
set_option maxRecDepth 100000
set_option linter.unusedVariables false
set_option linter.unusedSimpArgs false
set_option maxHeartbeats 1000000
attribute [local irreducible] wops wopf Go.Ab.Fin
theorem F46.ag47 : tagg Try.prog 47 = some false := by kernel_rfl
theorem F46.ti35 : (telem Try.prog 35).isSome = true := by kernel_rfl
theorem F46.tl35 : (telem Try.prog 35).bind (tsz Try.prog) = some 1 := by kernel_rfl
theorem impl_areBlocks_ok {fr : List Pc} {H : Heap} (v0 : AV) (w0 : List (List AV)) (l0 : List (List ((Int) × (Nat)))) (hs : Sep H (fr)) (g0 : ∀ H, Sep H fr → DSh H v0 1 R_LePair_eInt_i64_eFlt_f32_o l0 w0) (K : Bool → Prop) (h : impl_areBlocks.wp l0 K) : OkQ Try.prog 46 [(.v v0)] H (fun r H2 => ∃ (y0 : Bool), K y0 ∧ r = (.v (.bool y0)) ∧ H = H2) := by
  unfold impl_areBlocks.wp at h
  refine of_body Try.f46 F.hm Try.func46 rfl Try.call46 (by kernel_rfl) (by simp) ?_
  refine fi_seq ?_
  refine fi_region ?_
  refine so_assign (v := (.v (.bool false))) rfl ?_
  refine so_nil ?_
  refine fi_seq ?_
  refine fi_seq ?_
  refine fi_region ?_
  refine so_move (v := (.v v0)) rfl ?_
  refine sd_len ((g0 _ hs) : DSh _ _ 1 R_LePair_eInt_i64_eFlt_f32_o l0 w0) (by decide) rfl F46.ti35 ?_
  refine sv_callS (impl_within_ok (l0.length : Int) (1 : Int) (8 : Int) hs  _ h) (fun _ _ ⟨_, _, _, e⟩ => e) rfl rfl ?_
  clear h
  rintro _ _ ⟨y101, h, rfl, rfl⟩
  refine so_un rfl au_not ?_
  refine so_nil ?_
  replace h := ofT h; rcases h with ⟨c103, h⟩ | ⟨c103, h⟩
  · refine fi_false rfl (not_f c103) ?_
    refine fi_skip ?_
    refine fi_seq ?_
    refine fi_seq ?_
    refine fi_region ?_
    refine so_move (v := (.v v0)) rfl ?_
    refine sd_len ((g0 _ hs) : DSh _ _ 1 R_LePair_eInt_i64_eFlt_f32_o l0 w0) (by decide) rfl F46.ti35 ?_
    refine so_move (v := (.v (.int .i64 (0 : Int)))) rfl ?_
    refine so_nil ?_
    refine fi_block ?_
    refine fi_loop ?_
    refine fi_at [(9, (.v v0)), (10, (.v (.int .i64 (l0.length : Int)))), (11, (.v (.int .i64 (0 : Int))))] ⟨rfl, rfl, rfl, trivial⟩ ?_
    refine h (fun (x105 : Int) => ∀ (s : Nat → TV), Fin _ _ (updL s [(9, (.v v0)), (10, (.v (.int .i64 (l0.length : Int)))), (11, (.v (.int .i64 x105)))]) _ _) ?_ _
    intro x105 h s111
    refine fi_inLoop ?_
    refine fi_seq ?_
    refine fi_region ?_
    refine so_bin rfl rfl ab_lss ?_
    refine so_nil ?_
    refine fi_seq ?_
    replace h := ofP h; rcases h with ⟨c106, h⟩ | ⟨c106, h⟩
    · refine fi_true rfl (decide_eq_true c106) ?_
      refine fi_skip ?_
      refine fi_seq ?_
      refine fi_block ?_
      refine fi_seq ?_
      refine fi_region ?_
      obtain ⟨c107, h⟩ := h
      refine sd_idx ((g0 _ hs) : DSh _ _ 1 R_LePair_eInt_i64_eFlt_f32_o l0 w0) c107 ([] : List ((Int) × (Nat))) (by decide) rfl rfl F46.tl35 ?_
      refine su_ld ((((g0 _ hs) : DSh _ _ 1 R_LePair_eInt_i64_eFlt_f32_o l0 w0)).at (by decide) c107 ([] : List ((Int) × (Nat)))).2.2 0 (congrArg (fun c => c[0]?) ((((g0 _ hs) : DSh _ _ 1 R_LePair_eInt_i64_eFlt_f32_o l0 w0)).at (by decide) c107 ([] : List ((Int) × (Nat)))).2.1.1) rfl F46.ag47 ?_
      refine so_assign (v := (.v ((w0.getD (x105).toNat []).getD 0 .und))) rfl ?_
      refine so_nil ?_
      refine fi_seq ?_
      refine fi_region ?_
      refine so_move (v := (.v ((w0.getD (x105).toNat []).getD 0 .und))) rfl ?_
      refine sv_callS (impl_AreCosts_okS ((w0.getD (x105).toNat []).getD 0 .und) (l0.getD (x105).toNat ([] : List ((Int) × (Nat)))) hs (fun _ hs => ((((g0 _ hs) : DSh _ _ 1 R_LePair_eInt_i64_eFlt_f32_o l0 w0)).at (by decide) c107 ([] : List ((Int) × (Nat)))).2.1.2) _ h) (fun _ _ ⟨_, _, _, e⟩ => e) rfl rfl ?_
      clear h
      rintro _ _ ⟨y108, h, rfl, rfl⟩
      refine so_un rfl au_not ?_
      refine so_nil ?_
      replace h := ofT h; rcases h with ⟨c110, h⟩ | ⟨c110, h⟩
      · refine fi_false rfl (not_f c110) ?_
        refine fi_skip ?_
        refine fi_inBlock ?_
        refine fi_region ?_
        refine so_bin rfl rfl ab_add ?_
        refine so_move (v := (.v (.int .i64 (IntKind.i64.wrap (x105 + (1 : Int)))))) rfl ?_
        refine so_nil ?_
        exact fi_at [(9, (.v v0)), (10, (.v (.int .i64 (l0.length : Int)))), (11, (.v (.int .i64 (IntKind.i64.wrap (x105 + (1 : Int))))))] ⟨rfl, rfl, rfl, trivial⟩ (h _)
      · refine fi_true rfl (not_t c110) ?_
        refine fi_seq ?_
        refine fi_region ?_
        refine so_assign (v := (.v (.bool false))) rfl ?_
        refine so_nil ?_
        exact by_ret rfl ⟨_, h, rfl, rfl⟩
    · refine fi_false rfl (decide_eq_false c106) ?_
      refine fi_exit rfl ?_
      refine fi_seq ?_
      refine fi_region ?_
      refine so_assign (v := (.v (.bool true))) rfl ?_
      refine so_nil ?_
      exact by_ret rfl ⟨_, h, rfl, rfl⟩
  · refine fi_true rfl (not_t c103) ?_
    refine fi_seq ?_
    refine fi_region ?_
    refine so_assign (v := (.v (.bool false))) rfl ?_
    refine so_nil ?_
    exact by_ret rfl ⟨_, h, rfl, rfl⟩

end Go.Proofs.Ytecdkjnomkdbkaa.G

namespace Go.Proofs.Ytecdkjnomkdbkaa.G
open Go Go.Ab Go.Proofs Go.Proofs.Ytecdkjnomkdbkaa
set_option maxRecDepth 100000
set_option linter.unusedVariables false
set_option linter.unusedSimpArgs false
set_option maxHeartbeats 1000000
attribute [local irreducible] wops wopf Go.Ab.Fin
theorem F15.ag2 : tagg Try.prog 2 = some false := by kernel_rfl
theorem F15.ag23 : tagg Try.prog 23 = some false := by kernel_rfl
theorem F15.ag3 : tagg Try.prog 3 = some false := by kernel_rfl
theorem F15.ag4 : tagg Try.prog 4 = some false := by kernel_rfl
theorem F15.ag47 : tagg Try.prog 47 = some false := by kernel_rfl
theorem F15.ag49 : tagg Try.prog 49 = some true := by kernel_rfl
theorem F15.ag75 : tagg Try.prog 75 = some false := by kernel_rfl
theorem F15.bp77 : bplan Try.prog 77 = some ([(.bool false), (.flt .f32 (0 : Nat)), (.int .i64 (0 : Int))], [(0, 1), (1, 1), (2, 1)]) := by kernel_rfl
theorem F15.by2 : tbytes Try.prog 2 = some 8 := by kernel_rfl
theorem F15.by77 : tbytes Try.prog 77 = some 16 := by kernel_rfl
theorem F15.fd49_0 : tfield Try.prog 49 0 = some (0, 1, false) := by kernel_rfl
theorem F15.fd49_1 : tfield Try.prog 49 1 = some (1, 1, false) := by kernel_rfl
theorem F15.fd77_0 : tfield Try.prog 77 0 = some (0, 1, false) := by kernel_rfl
theorem F15.fd77_1 : tfield Try.prog 77 1 = some (1, 1, false) := by kernel_rfl
theorem F15.fd77_2 : tfield Try.prog 77 2 = some (2, 1, false) := by kernel_rfl
theorem F15.sz2 : tsz Try.prog 2 = some 1 := by kernel_rfl
theorem F15.sz4 : tsz Try.prog 4 = some 1 := by kernel_rfl
theorem F15.sz49 : tsz Try.prog 49 = some 2 := by kernel_rfl
theorem F15.sz75 : tsz Try.prog 75 = some 1 := by kernel_rfl
theorem F15.sz77 : tsz Try.prog 77 = some 3 := by kernel_rfl
theorem F15.ta78_78 : tapp Try.prog 78 78 = some (1, 24) := by kernel_rfl
theorem F15.te22 : telem Try.prog 22 = some 2 := by kernel_rfl
theorem F15.te75 : telem Try.prog 75 = some 77 := by kernel_rfl
theorem F15.te78 : telem Try.prog 78 = some 75 := by kernel_rfl
theorem F15.ti35 : (telem Try.prog 35).isSome = true := by kernel_rfl
theorem F15.ti47 : (telem Try.prog 47).isSome = true := by kernel_rfl
theorem F15.ti75 : (telem Try.prog 75).isSome = true := by kernel_rfl
theorem F15.tl22 : (telem Try.prog 22).bind (tsz Try.prog) = some 1 := by kernel_rfl
theorem F15.tl35 : (telem Try.prog 35).bind (tsz Try.prog) = some 1 := by kernel_rfl
theorem F15.tl47 : (telem Try.prog 47).bind (tsz Try.prog) = some 2 := by kernel_rfl
theorem F15.tl75 : (telem Try.prog 75).bind (tsz Try.prog) = some 3 := by kernel_rfl
theorem F15.tl78 : (telem Try.prog 78).bind (tsz Try.prog) = some 1 := by kernel_rfl
theorem F15.ze2 : tzero Try.prog 2 = some [(.int .i64 (0 : Int))] := by kernel_rfl
theorem F15.ze49 : tzero Try.prog 49 = some [(.int .i64 (0 : Int)), (.flt .f32 (0 : Nat))] := by kernel_rfl
theorem F15.ze75 : tzero Try.prog 75 = some [.nilsl] := by kernel_rfl
theorem F15.ze77 : tzero Try.prog 77 = some [(.bool false), (.flt .f32 (0 : Nat)), (.int .i64 (0 : Int))] := by kernel_rfl
theorem impl_BestCuts_ok {fr : List Pc} {H : Heap} (v0 : AV) (w0 : List (List AV)) (l0 : List (List ((Int) × (Nat)))) (a1 : Int) (hs : Sep H (fr)) (g0 : ∀ H, Sep H fr → DSh H v0 1 R_LePair_eInt_i64_eFlt_f32_o l0 w0) (K : (List (Int)) → Nat → Bool → Prop) (h : impl_BestCuts.wp l0 a1 K) : OkQ Try.prog 15 [(.v v0), (.v (.int .i64 a1))] H (fun r H2 => ∃ (y0 : List (Int)) (y1 : Nat) (y2 : Bool), K y0 y1 y2 ∧ ∃ (w0_ : AV), r = (.t [(.v w0_), (.v (.flt .f32 y1)), (.v (.bool y2))]) ∧ Sep H2 (Pc.osl w0_ 1 (enc (eInt .i64) y0) :: fr)) := by
  unfold impl_BestCuts.wp at h
  refine of_body Try.f15 F.hm Try.func15 rfl Try.call15 (by kernel_rfl) (by simp) ?_
  refine fi_seq ?_
  refine fi_region ?_
  refine so_assign (v := (.v .nilsl)) rfl ?_
  refine so_assign (v := (.v (.flt .f32 (cz .f32 0)))) rfl ?_
  refine so_assign (v := (.v (.bool false))) rfl ?_
  refine so_nil ?_
  refine fi_seq ?_
  refine fi_seq ?_
  refine fi_region ?_
  refine so_move (v := (.v v0)) rfl ?_
  refine sv_callS (impl_areBlocks_ok v0 w0 l0 hs (fun _ hs => (g0 _ hs)) _ h) (fun _ _ ⟨_, _, _, e⟩ => e) rfl rfl ?_
  clear h
  rintro _ _ ⟨y101, h, rfl, rfl⟩
  refine so_un rfl au_not ?_
  refine so_move (v := (.v (.bool (!y101)))) rfl ?_
  replace h := ofT h; rcases h with ⟨c103, h⟩ | ⟨c103, h⟩
  · refine so_gyes rfl (not_f c103) ?_
    refine so_move (v := (.v (.int .i64 a1))) rfl ?_
    refine so_gyes rfl (not_f c103) ?_
    refine sv_callS (impl_within_ok a1 (0 : Int) (512 : Int) hs  _ h) (fun _ _ ⟨_, _, _, e⟩ => e) rfl rfl ?_
    clear h
    rintro _ _ ⟨y104, h, rfl, rfl⟩
    refine so_gyes rfl (not_f c103) ?_
    refine so_un rfl au_not ?_
    refine so_pick_f (v := (.v (.bool (!y104)))) rfl (not_f c103) rfl ?_
    refine so_nil ?_
    replace h := ofT h; rcases h with ⟨c106, h⟩ | ⟨c106, h⟩
    · refine fi_false rfl (not_f c106) ?_
      refine fi_skip ?_
      refine fi_seq ?_
      refine fi_region ?_
      refine so_move (v := (.v (.int .i64 a1))) rfl ?_
      refine so_bin rfl rfl ab_add ?_
      obtain ⟨c107, h⟩ := h
      refine sv_make hs (ePair eBool (ePair (eFlt .f32) (eInt .i64))) (false, (0 : Nat), (0 : Int)) c107 (fun _ => rfl) rfl rfl F15.te75 F15.sz77 F15.by77 F15.ze77 rfl rfl nofun (fun v108 H109 nv108 hs => ?_)
      refine so_assign (v := (.v v108)) rfl ?_
      refine so_nil ?_
      refine fi_seq ?_
      refine fi_seq ?_
      refine fi_region ?_
      refine so_move (v := (.v v108)) rfl ?_
      refine sv_len (hs.shows 0 rfl) (fun _ => rfl) (by decide) rfl F15.ti75 ?_
      refine so_move (v := (.v (.int .i64 (0 : Int)))) rfl ?_
      refine so_nil ?_
      refine fi_block ?_
      refine fi_loop ?_
      refine fi_at [(0, (.v v0)), (1, (.v (.int .i64 a1))), (7, (.v v108)), (33, (.v (.int .i64 ((List.replicate ((IntKind.i64.wrap (a1 + (1 : Int)))).toNat (false, (0 : Nat), (0 : Int))).length : Int)))), (34, (.v (.int .i64 (0 : Int))))] ⟨rfl, rfl, rfl, rfl, rfl, trivial⟩ ?_
      refine h (fun (before452 : List ((Bool) × (Nat) × (Int))) (x453 : Int) => ∀ (s : Nat → TV) (H : Heap), Sep H (Pc.osl v108 3 (enc (ePair eBool (ePair (eFlt .f32) (eInt .i64))) before452) :: fr) → Fin _ _ (updL s [(0, (.v v0)), (1, (.v (.int .i64 a1))), (7, (.v v108)), (33, (.v (.int .i64 ((List.replicate ((IntKind.i64.wrap (a1 + (1 : Int)))).toNat (false, (0 : Nat), (0 : Int))).length : Int)))), (34, (.v (.int .i64 x453)))]) H _) ?_ _ _ hs
      intro before452 x453 h s792 H793 hs
      refine fi_inLoop ?_
      refine fi_seq ?_
      refine fi_region ?_
      refine so_bin rfl rfl ab_lss ?_
      refine so_nil ?_
      refine fi_seq ?_
      replace h := ofP h; rcases h with ⟨c454, h⟩ | ⟨c454, h⟩
      · refine fi_true rfl (decide_eq_true c454) ?_
        refine fi_skip ?_
        refine fi_seq ?_
        refine fi_block ?_
        refine fi_seq ?_
        refine fi_region ?_
        refine so_move (v := (.v (.int .i64 x453))) rfl ?_
        refine so_assign (v := (.v (.int .i64 x453))) rfl ?_
        refine so_nil ?_
        refine fi_region ?_
        refine so_move (v := (.v v108)) rfl ?_
        refine so_move (v := (.v (.int .i64 x453))) rfl ?_
        obtain ⟨c455, h⟩ := h
        refine sv_idx (hs.shows 0 rfl) c455 (fun _ => rfl) (by decide) rfl rfl F15.tl75 ?_
        refine so_fieldAddr rfl F15.fd77_0 ?_
        refine sv_setf hs 0 rfl c455 (false, (0 : Nat), (0 : Int)) (true, (before452.getD (x453).toNat (false, (0 : Nat), (0 : Int))).2.1, (before452.getD (x453).toNat (false, (0 : Nat), (0 : Int))).2.2) 0 (fun _ => rfl) (by decide) rfl rfl rfl rfl F15.sz4 nofun (fun H456 hs => ?_)
        refine so_nil ?_
        refine fi_inBlock ?_
        refine fi_region ?_
        refine so_bin rfl rfl ab_add ?_
        refine so_move (v := (.v (.int .i64 (IntKind.i64.wrap (x453 + (1 : Int)))))) rfl ?_
        refine so_nil ?_
        exact fi_at [(0, (.v v0)), (1, (.v (.int .i64 a1))), (7, (.v v108)), (33, (.v (.int .i64 ((List.replicate ((IntKind.i64.wrap (a1 + (1 : Int)))).toNat (false, (0 : Nat), (0 : Int))).length : Int)))), (34, (.v (.int .i64 (IntKind.i64.wrap (x453 + (1 : Int))))))] ⟨rfl, rfl, rfl, rfl, rfl, trivial⟩ (h _ _  hs)
      · refine fi_false rfl (decide_eq_false c454) ?_
        refine fi_exit rfl ?_
        refine fi_seq ?_
        refine fi_region ?_
        refine sv_bslice hs sg ([] : List AV) [] F15.te78 F15.sz75 F15.ze75 rfl rfl rfl rfl (fun _ => rfl) rfl (by decide) nofun (fun v457 H458 _ hs => ?_)
        replace hs := Sep.kdnil hs R_LePair_eBool_ePair_eFlt_f32_eInt_i64_o
        refine so_assign (v := (.v v457)) rfl ?_
        refine so_nil ?_
        refine fi_seq ?_
        refine fi_seq ?_
        refine fi_region ?_
        refine so_move (v := (.v v0)) rfl ?_
        refine sd_len ((g0 _ hs.tl.tl.tl) : DSh _ _ 1 R_LePair_eInt_i64_eFlt_f32_o l0 w0) (by decide) rfl F15.ti35 ?_
        refine so_move (v := (.v (.int .i64 (0 : Int)))) rfl ?_
        refine so_nil ?_
        refine fi_block ?_
        refine fi_loop ?_
        replace hs := Sep.freeze hs 2 rfl
        refine fi_at [(0, (.v v0)), (1, (.v (.int .i64 a1))), (7, (.v v108)), (9, (.v v457)), (43, (.v v0)), (44, (.v (.int .i64 (l0.length : Int)))), (45, (.v (.int .i64 (0 : Int))))] ⟨rfl, rfl, rfl, rfl, rfl, rfl, rfl, trivial⟩ ?_
        refine h (fun (table655 : List (List ((Bool) × (Nat) × (Int)))) (before658 : List ((Bool) × (Nat) × (Int))) (x661 : Int) => ∀ (s : Nat → TV) (H : Heap) (v656 : AV) (vs657 : List AV) (v659 : AV) (S660 : Nat → Prop), Sep H (kdp R_LePair_eBool_ePair_eFlt_f32_eInt_i64_o table655 vs657 S660 :: Pc.osl v656 1 (enc sg vs657) :: rdp v659 3 (enc (ePair eBool (ePair (eFlt .f32) (eInt .i64))) before658) :: fr) → Fin _ _ (updL s [(0, (.v v0)), (1, (.v (.int .i64 a1))), (7, (.v v659)), (9, (.v v656)), (43, (.v v0)), (44, (.v (.int .i64 (l0.length : Int)))), (45, (.v (.int .i64 x661)))]) H _) ?_ _ _ _ _ _ _ hs
        intro table655 before658 x661 h s790 H791 v656 vs657 v659 S660 hs
        refine fi_inLoop ?_
        refine fi_seq ?_
        refine fi_region ?_
        refine so_bin rfl rfl ab_lss ?_
        refine so_nil ?_
        refine fi_seq ?_
        replace h := ofP h; rcases h with ⟨c662, h⟩ | ⟨c662, h⟩
        · refine fi_true rfl (decide_eq_true c662) ?_
          refine fi_skip ?_
          refine fi_seq ?_
          refine fi_block ?_
          refine fi_seq ?_
          refine fi_region ?_
          obtain ⟨c663, h⟩ := h
          refine sd_idx ((g0 _ hs.tl.tl.tl) : DSh _ _ 1 R_LePair_eInt_i64_eFlt_f32_o l0 w0) c663 ([] : List ((Int) × (Nat))) (by decide) rfl rfl F15.tl35 ?_
          refine su_ld ((((g0 _ hs.tl.tl.tl) : DSh _ _ 1 R_LePair_eInt_i64_eFlt_f32_o l0 w0)).at (by decide) c663 ([] : List ((Int) × (Nat)))).2.2 0 (congrArg (fun c => c[0]?) ((((g0 _ hs.tl.tl.tl) : DSh _ _ 1 R_LePair_eInt_i64_eFlt_f32_o l0 w0)).at (by decide) c663 ([] : List ((Int) × (Nat)))).2.1.1) rfl F15.ag47 ?_
          refine so_assign (v := (.v ((w0.getD (x661).toNat []).getD 0 .und))) rfl ?_
          refine so_nil ?_
          refine fi_seq ?_
          refine fi_region ?_
          refine so_move (v := (.v (.int .i64 a1))) rfl ?_
          refine so_bin rfl rfl ab_add ?_
          refine sv_make hs (ePair eBool (ePair (eFlt .f32) (eInt .i64))) (false, (0 : Nat), (0 : Int)) c107 (fun _ => rfl) rfl rfl F15.te75 F15.sz77 F15.by77 F15.ze77 rfl rfl nofun (fun v664 H665 nv664 hs => ?_)
          refine so_assign (v := (.v v664)) rfl ?_
          refine so_nil ?_
          refine fi_seq ?_
          refine fi_seq ?_
          refine fi_region ?_
          refine so_move (v := (.v v664)) rfl ?_
          refine sv_len (hs.shows 0 rfl) (fun _ => rfl) (by decide) rfl F15.ti75 ?_
          refine so_move (v := (.v (.int .i64 (0 : Int)))) rfl ?_
          refine so_nil ?_
          refine fi_block ?_
          refine fi_loop ?_
          refine fi_at [(0, (.v v0)), (1, (.v (.int .i64 a1))), (7, (.v v659)), (9, (.v v656)), (11, (.v ((w0.getD (x661).toNat []).getD 0 .und))), (12, (.v v664)), (43, (.v v0)), (44, (.v (.int .i64 (l0.length : Int)))), (45, (.v (.int .i64 x661))), (53, (.v (.int .i64 ((List.replicate ((IntKind.i64.wrap (a1 + (1 : Int)))).toNat (false, (0 : Nat), (0 : Int))).length : Int)))), (54, (.v (.int .i64 (0 : Int))))] ⟨rfl, rfl, rfl, rfl, rfl, rfl, rfl, rfl, rfl, rfl, rfl, trivial⟩ ?_
          refine h (fun (row712 : List ((Bool) × (Nat) × (Int))) (x713 : Int) => ∀ (s : Nat → TV) (H : Heap), Sep H (Pc.osl v664 3 (enc (ePair eBool (ePair (eFlt .f32) (eInt .i64))) row712) :: kdp R_LePair_eBool_ePair_eFlt_f32_eInt_i64_o table655 vs657 S660 :: Pc.osl v656 1 (enc sg vs657) :: rdp v659 3 (enc (ePair eBool (ePair (eFlt .f32) (eInt .i64))) before658) :: fr) → Fin _ _ (updL s [(0, (.v v0)), (1, (.v (.int .i64 a1))), (7, (.v v659)), (9, (.v v656)), (11, (.v ((w0.getD (x661).toNat []).getD 0 .und))), (12, (.v v664)), (43, (.v v0)), (44, (.v (.int .i64 (l0.length : Int)))), (45, (.v (.int .i64 x661))), (53, (.v (.int .i64 ((List.replicate ((IntKind.i64.wrap (a1 + (1 : Int)))).toNat (false, (0 : Nat), (0 : Int))).length : Int)))), (54, (.v (.int .i64 x713)))]) H _) ?_ _ _ hs
          intro row712 x713 h s756 H757 hs
          refine fi_inLoop ?_
          refine fi_seq ?_
          refine fi_region ?_
          refine so_bin rfl rfl ab_lss ?_
          refine so_nil ?_
          refine fi_seq ?_
          replace h := ofP h; rcases h with ⟨c714, h⟩ | ⟨c714, h⟩
          · refine fi_true rfl (decide_eq_true c714) ?_
            refine fi_skip ?_
            refine fi_seq ?_
            refine fi_block ?_
            refine fi_seq ?_
            refine fi_region ?_
            refine so_move (v := (.v (.int .i64 x713))) rfl ?_
            refine so_assign (v := (.v (.int .i64 x713))) rfl ?_
            refine so_nil ?_
            refine fi_seq ?_
            refine fi_region ?_
            refine so_move (v := (.v ((w0.getD (x661).toNat []).getD 0 .und))) rfl ?_
            refine sv_len ((((g0 _ hs.tl.tl.tl.tl) : DSh _ _ 1 R_LePair_eInt_i64_eFlt_f32_o l0 w0)).at (by decide) c663 ([] : List ((Int) × (Nat)))).2.1.2 (fun _ => rfl) (by decide) rfl F15.ti47 ?_
            refine so_move (v := (.v (.int .i64 (0 : Int)))) rfl ?_
            refine so_nil ?_
            refine fi_block ?_
            refine fi_loop ?_
            refine fi_at [(0, (.v v0)), (1, (.v (.int .i64 a1))), (7, (.v v659)), (9, (.v v656)), (11, (.v ((w0.getD (x661).toNat []).getD 0 .und))), (12, (.v v664)), (13, (.v (.int .i64 x713))), (43, (.v v0)), (44, (.v (.int .i64 (l0.length : Int)))), (45, (.v (.int .i64 x661))), (53, (.v (.int .i64 ((List.replicate ((IntKind.i64.wrap (a1 + (1 : Int)))).toNat (false, (0 : Nat), (0 : Int))).length : Int)))), (54, (.v (.int .i64 x713))), (57, (.v ((w0.getD (x661).toNat []).getD 0 .und))), (58, (.v (.int .i64 ((l0.getD (x661).toNat ([] : List ((Int) × (Nat)))).length : Int)))), (59, (.v (.int .i64 (0 : Int))))] ⟨rfl, rfl, rfl, rfl, rfl, rfl, rfl, rfl, rfl, rfl, rfl, rfl, rfl, rfl, rfl, trivial⟩ ?_
            refine h (fun (row732 : List ((Bool) × (Nat) × (Int))) (x733 : Int) => ∀ (s : Nat → TV) (H : Heap), Sep H (Pc.osl v664 3 (enc (ePair eBool (ePair (eFlt .f32) (eInt .i64))) row732) :: kdp R_LePair_eBool_ePair_eFlt_f32_eInt_i64_o table655 vs657 S660 :: Pc.osl v656 1 (enc sg vs657) :: rdp v659 3 (enc (ePair eBool (ePair (eFlt .f32) (eInt .i64))) before658) :: fr) → Fin _ _ (updL s [(0, (.v v0)), (1, (.v (.int .i64 a1))), (7, (.v v659)), (9, (.v v656)), (11, (.v ((w0.getD (x661).toNat []).getD 0 .und))), (12, (.v v664)), (13, (.v (.int .i64 x713))), (43, (.v v0)), (44, (.v (.int .i64 (l0.length : Int)))), (45, (.v (.int .i64 x661))), (53, (.v (.int .i64 ((List.replicate ((IntKind.i64.wrap (a1 + (1 : Int)))).toNat (false, (0 : Nat), (0 : Int))).length : Int)))), (54, (.v (.int .i64 x713))), (57, (.v ((w0.getD (x661).toNat []).getD 0 .und))), (58, (.v (.int .i64 ((l0.getD (x661).toNat ([] : List ((Int) × (Nat)))).length : Int)))), (59, (.v (.int .i64 x733)))]) H _) ?_ _ _ hs
            intro row732 x733 h s748 H749 hs
            refine fi_inLoop ?_
            refine fi_seq ?_
            refine fi_region ?_
            refine so_bin rfl rfl ab_lss ?_
            refine so_nil ?_
            refine fi_seq ?_
            replace h := ofP h; rcases h with ⟨c734, h⟩ | ⟨c734, h⟩
            · refine fi_true rfl (decide_eq_true c734) ?_
              refine fi_skip ?_
              refine fi_seq ?_
              refine fi_block ?_
              refine fi_seq ?_
              refine fi_region ?_
              refine so_move (v := (.v (.int .i64 x733))) rfl ?_
              obtain ⟨c735, h⟩ := h
              refine sv_idx ((((g0 _ hs.tl.tl.tl.tl) : DSh _ _ 1 R_LePair_eInt_i64_eFlt_f32_o l0 w0)).at (by decide) c663 ([] : List ((Int) × (Nat)))).2.1.2 c735 (fun _ => rfl) (by decide) rfl rfl F15.tl47 ?_
              refine sv_elem ((((g0 _ hs.tl.tl.tl.tl) : DSh _ _ 1 R_LePair_eInt_i64_eFlt_f32_o l0 w0)).at (by decide) c663 ([] : List ((Int) × (Nat)))).2.1.2 c735 ((0 : Int), (0 : Nat)) (fun _ => rfl) (by decide) rfl F15.ag49 F15.sz49 ?_
              refine sv_alloc hs F15.ze49 rfl nofun (fun id736 H737 hs => ?_)
              refine so_assign (v := (.v (.int .i64 x733))) rfl ?_
              refine sv_st hs 0 rfl rfl rfl (c := [(.int .i64 ((l0.getD (x661).toNat ([] : List ((Int) × (Nat)))).getD (x733).toNat ((0 : Int), (0 : Nat))).1), (.flt .f32 ((l0.getD (x661).toNat ([] : List ((Int) × (Nat)))).getD (x733).toNat ((0 : Int), (0 : Nat))).2)]) rfl F15.sz49 rfl (stc rfl (stc rfl stn)) (leb rfl) (cs' := [(.int .i64 ((l0.getD (x661).toNat ([] : List ((Int) × (Nat)))).getD (x733).toNat ((0 : Int), (0 : Nat))).1), (.flt .f32 ((l0.getD (x661).toNat ([] : List ((Int) × (Nat)))).getD (x733).toNat ((0 : Int), (0 : Nat))).2)]) rfl nofun (fun H739 hs => ?_)
              refine so_nil ?_
              refine fi_seq ?_
              refine fi_seq ?_
              refine fi_region ?_
              refine so_fieldAddr rfl F15.fd49_0 ?_
              refine sv_ld hs 0 rfl rfl rfl F15.ag2 ?_
              refine so_move (v := (.v (.int .i64 x713))) rfl ?_
              refine so_bin rfl rfl ab_gtr ?_
              refine so_move (v := (.v (.bool (decide (x713 < ((l0.getD (x661).toNat ([] : List ((Int) × (Nat)))).getD (x733).toNat ((0 : Int), (0 : Nat))).1))))) rfl ?_
              replace h := ofP h; rcases h with ⟨c740, h⟩ | ⟨c740, h⟩
              · refine so_gno rfl (decide_eq_true c740) ?_
                refine so_gno rfl (decide_eq_true c740) ?_
                refine so_gno rfl (decide_eq_true c740) ?_
                refine so_gno rfl (decide_eq_true c740) ?_
                refine so_gno rfl (decide_eq_true c740) ?_
                refine so_gno rfl (decide_eq_true c740) ?_
                refine so_gno rfl (decide_eq_true c740) ?_
                refine so_gno rfl (decide_eq_true c740) ?_
                refine so_gno rfl (decide_eq_true c740) ?_
                refine so_pick_t (v := (.v (.bool true))) rfl (decide_eq_true c740) rfl ?_
                refine so_nil ?_
                refine fi_true rfl rfl ?_
                refine fi_exit rfl ?_
                refine fi_region ?_
                refine so_bin rfl rfl ab_add ?_
                refine so_move (v := (.v (.int .i64 (IntKind.i64.wrap (x733 + (1 : Int)))))) rfl ?_
                refine so_nil ?_
                exact fi_at [(0, (.v v0)), (1, (.v (.int .i64 a1))), (7, (.v v659)), (9, (.v v656)), (11, (.v ((w0.getD (x661).toNat []).getD 0 .und))), (12, (.v v664)), (13, (.v (.int .i64 x713))), (43, (.v v0)), (44, (.v (.int .i64 (l0.length : Int)))), (45, (.v (.int .i64 x661))), (53, (.v (.int .i64 ((List.replicate ((IntKind.i64.wrap (a1 + (1 : Int)))).toNat (false, (0 : Nat), (0 : Int))).length : Int)))), (54, (.v (.int .i64 x713))), (57, (.v ((w0.getD (x661).toNat []).getD 0 .und))), (58, (.v (.int .i64 ((l0.getD (x661).toNat ([] : List ((Int) × (Nat)))).length : Int)))), (59, (.v (.int .i64 (IntKind.i64.wrap (x733 + (1 : Int))))))] ⟨rfl, rfl, rfl, rfl, rfl, rfl, rfl, rfl, rfl, rfl, rfl, rfl, rfl, rfl, rfl, trivial⟩ (h _ _  (Sep.del 0 hs))
              · refine so_gyes rfl (decide_eq_false c740) ?_
                refine so_move (v := (.v v659)) rfl ?_
                refine so_gyes rfl (decide_eq_false c740) ?_
                refine so_move (v := (.v (.int .i64 x713))) rfl ?_
                refine so_gyes rfl (decide_eq_false c740) ?_
                refine so_fieldAddr rfl F15.fd49_0 ?_
                refine so_gyes rfl (decide_eq_false c740) ?_
                refine sv_ld hs 0 rfl rfl rfl F15.ag2 ?_
                refine so_gyes rfl (decide_eq_false c740) ?_
                refine so_bin rfl rfl ab_sub ?_
                refine so_gyes rfl (decide_eq_false c740) ?_
                obtain ⟨c741, h⟩ := h
                refine sv_idx (hs.rshows 4 rfl) c741 (fun _ => rfl) (by decide) rfl rfl F15.tl75 ?_
                refine so_gyes rfl (decide_eq_false c740) ?_
                refine so_fieldAddr rfl F15.fd77_0 ?_
                refine so_gyes rfl (decide_eq_false c740) ?_
                refine sv_cell (hs.rshows 4 rfl) c741 (false, (0 : Nat), (0 : Int)) 0 (fun x => (AV.bool x.1)) (fun _ => rfl) (fun _ => rfl) rfl F15.ag4 ?_
                refine so_gyes rfl (decide_eq_false c740) ?_
                refine so_un rfl au_not ?_
                refine so_pick_f (v := (.v (.bool (!(before658.getD ((IntKind.i64.wrap (x713 - ((l0.getD (x661).toNat ([] : List ((Int) × (Nat)))).getD (x733).toNat ((0 : Int), (0 : Nat))).1))).toNat (false, (0 : Nat), (0 : Int))).1)))) rfl (decide_eq_false c740) rfl ?_
                refine so_nil ?_
                replace h := ofT h; rcases h with ⟨c742, h⟩ | ⟨c742, h⟩
                · refine fi_false rfl (not_f c742) ?_
                  refine fi_skip ?_
                  refine fi_seq ?_
                  refine fi_region ?_
                  refine so_move (v := (.v v659)) rfl ?_
                  refine so_move (v := (.v (.int .i64 x713))) rfl ?_
                  refine so_fieldAddr rfl F15.fd49_0 ?_
                  refine sv_ld hs 0 rfl rfl rfl F15.ag2 ?_
                  refine so_bin rfl rfl ab_sub ?_
                  refine sv_idx (hs.rshows 4 rfl) c741 (fun _ => rfl) (by decide) rfl rfl F15.tl75 ?_
                  refine so_fieldAddr rfl F15.fd77_1 ?_
                  refine sv_cell (hs.rshows 4 rfl) c741 (false, (0 : Nat), (0 : Int)) 1 (fun x => (AV.flt .f32 x.2.1)) (fun _ => rfl) (fun _ => rfl) rfl F15.ag23 ?_
                  refine so_fieldAddr rfl F15.fd49_1 ?_
                  refine sv_ld hs 0 rfl rfl rfl F15.ag23 ?_
                  refine so_bin rfl rfl ab_fadd ?_
                  refine so_assign (v := (.v (.flt .f32 (fop .add .f32 (before658.getD ((IntKind.i64.wrap (x713 - ((l0.getD (x661).toNat ([] : List ((Int) × (Nat)))).getD (x733).toNat ((0 : Int), (0 : Nat))).1))).toNat (false, (0 : Nat), (0 : Int))).2.1 ((l0.getD (x661).toNat ([] : List ((Int) × (Nat)))).getD (x733).toNat ((0 : Int), (0 : Nat))).2)))) rfl ?_
                  refine so_nil ?_
                  refine fi_seq ?_
                  refine fi_region ?_
                  refine so_move (v := (.v v664)) rfl ?_
                  refine so_move (v := (.v (.int .i64 x713))) rfl ?_
                  obtain ⟨c743, h⟩ := h
                  refine sv_idx (hs.shows 1 rfl) c743 (fun _ => rfl) (by decide) rfl rfl F15.tl75 ?_
                  refine so_fieldAddr rfl F15.fd77_0 ?_
                  refine sv_cell (hs.shows 1 rfl) c743 (false, (0 : Nat), (0 : Int)) 0 (fun x => (AV.bool x.1)) (fun _ => rfl) (fun _ => rfl) rfl F15.ag4 ?_
                  refine so_un rfl au_not ?_
                  refine so_move (v := (.v (.bool (!(row732.getD (x713).toNat (false, (0 : Nat), (0 : Int))).1)))) rfl ?_
                  replace h := ofT h; rcases h with ⟨c744, h⟩ | ⟨c744, h⟩
                  · refine so_gyes rfl (not_f c744) ?_
                    refine so_move (v := (.v (.flt .f32 (fop .add .f32 (before658.getD ((IntKind.i64.wrap (x713 - ((l0.getD (x661).toNat ([] : List ((Int) × (Nat)))).getD (x733).toNat ((0 : Int), (0 : Nat))).1))).toNat (false, (0 : Nat), (0 : Int))).2.1 ((l0.getD (x661).toNat ([] : List ((Int) × (Nat)))).getD (x733).toNat ((0 : Int), (0 : Nat))).2)))) rfl ?_
                    refine so_gyes rfl (not_f c744) ?_
                    refine so_move (v := (.v v664)) rfl ?_
                    refine so_gyes rfl (not_f c744) ?_
                    refine so_move (v := (.v (.int .i64 x713))) rfl ?_
                    refine so_gyes rfl (not_f c744) ?_
                    refine sv_idx (hs.shows 1 rfl) c743 (fun _ => rfl) (by decide) rfl rfl F15.tl75 ?_
                    refine so_gyes rfl (not_f c744) ?_
                    refine so_fieldAddr rfl F15.fd77_1 ?_
                    refine so_gyes rfl (not_f c744) ?_
                    refine sv_cell (hs.shows 1 rfl) c743 (false, (0 : Nat), (0 : Int)) 1 (fun x => (AV.flt .f32 x.2.1)) (fun _ => rfl) (fun _ => rfl) rfl F15.ag23 ?_
                    refine so_gyes rfl (not_f c744) ?_
                    refine so_bin rfl rfl ab_flss ?_
                    refine so_pick_f (v := (.v (.bool (fcmp .lss .f32 (fop .add .f32 (before658.getD ((IntKind.i64.wrap (x713 - ((l0.getD (x661).toNat ([] : List ((Int) × (Nat)))).getD (x733).toNat ((0 : Int), (0 : Nat))).1))).toNat (false, (0 : Nat), (0 : Int))).2.1 ((l0.getD (x661).toNat ([] : List ((Int) × (Nat)))).getD (x733).toNat ((0 : Int), (0 : Nat))).2) (row732.getD (x713).toNat (false, (0 : Nat), (0 : Int))).2.1)))) rfl (not_f c744) rfl ?_
                    refine so_nil ?_
                    replace h := ofT h; rcases h with ⟨c745, h⟩ | ⟨c745, h⟩
                    · refine fi_true rfl c745 ?_
                      refine fi_region ?_
                      refine so_move (v := (.v v664)) rfl ?_
                      refine so_move (v := (.v (.int .i64 x713))) rfl ?_
                      refine so_move (v := (.v (.flt .f32 (fop .add .f32 (before658.getD ((IntKind.i64.wrap (x713 - ((l0.getD (x661).toNat ([] : List ((Int) × (Nat)))).getD (x733).toNat ((0 : Int), (0 : Nat))).1))).toNat (false, (0 : Nat), (0 : Int))).2.1 ((l0.getD (x661).toNat ([] : List ((Int) × (Nat)))).getD (x733).toNat ((0 : Int), (0 : Nat))).2)))) rfl ?_
                      refine so_move (v := (.v (.int .i64 x733))) rfl ?_
                      refine so_build F15.bp77 (cps := [(0, [(.bool true)]), (1, [(.flt .f32 (fop .add .f32 (before658.getD ((IntKind.i64.wrap (x713 - ((l0.getD (x661).toNat ([] : List ((Int) × (Nat)))).getD (x733).toNat ((0 : Int), (0 : Nat))).1))).toNat (false, (0 : Nat), (0 : Int))).2.1 ((l0.getD (x661).toNat ([] : List ((Int) × (Nat)))).getD (x733).toNat ((0 : Int), (0 : Nat))).2))]), (2, [(.int .i64 x733)])]) rfl (fac (stc rfl stn) (fac (stc rfl stn) (fac (stc rfl stn) fan))) rfl ?_
                      refine sv_idx (hs.shows 1 rfl) c743 (fun _ => rfl) (by decide) rfl rfl F15.tl75 ?_
                      refine sv_set hs 1 rfl c743 (true, (fop .add .f32 (before658.getD ((IntKind.i64.wrap (x713 - ((l0.getD (x661).toNat ([] : List ((Int) × (Nat)))).getD (x733).toNat ((0 : Int), (0 : Nat))).1))).toNat (false, (0 : Nat), (0 : Int))).2.1 ((l0.getD (x661).toNat ([] : List ((Int) × (Nat)))).getD (x733).toNat ((0 : Int), (0 : Nat))).2), x733) (fun _ => rfl) (by decide) rfl rfl rfl rfl F15.sz77 nofun (fun H746 hs => ?_)
                      refine so_nil ?_
                      refine fi_inBlock ?_
                      refine fi_region ?_
                      refine so_bin rfl rfl ab_add ?_
                      refine so_move (v := (.v (.int .i64 (IntKind.i64.wrap (x733 + (1 : Int)))))) rfl ?_
                      refine so_nil ?_
                      exact fi_at [(0, (.v v0)), (1, (.v (.int .i64 a1))), (7, (.v v659)), (9, (.v v656)), (11, (.v ((w0.getD (x661).toNat []).getD 0 .und))), (12, (.v v664)), (13, (.v (.int .i64 x713))), (43, (.v v0)), (44, (.v (.int .i64 (l0.length : Int)))), (45, (.v (.int .i64 x661))), (53, (.v (.int .i64 ((List.replicate ((IntKind.i64.wrap (a1 + (1 : Int)))).toNat (false, (0 : Nat), (0 : Int))).length : Int)))), (54, (.v (.int .i64 x713))), (57, (.v ((w0.getD (x661).toNat []).getD 0 .und))), (58, (.v (.int .i64 ((l0.getD (x661).toNat ([] : List ((Int) × (Nat)))).length : Int)))), (59, (.v (.int .i64 (IntKind.i64.wrap (x733 + (1 : Int))))))] ⟨rfl, rfl, rfl, rfl, rfl, rfl, rfl, rfl, rfl, rfl, rfl, rfl, rfl, rfl, rfl, trivial⟩ (h _ _  (Sep.del 0 hs))
                    · refine fi_false rfl c745 ?_
                      refine fi_skip ?_
                      refine fi_inBlock ?_
                      refine fi_region ?_
                      refine so_bin rfl rfl ab_add ?_
                      refine so_move (v := (.v (.int .i64 (IntKind.i64.wrap (x733 + (1 : Int)))))) rfl ?_
                      refine so_nil ?_
                      exact fi_at [(0, (.v v0)), (1, (.v (.int .i64 a1))), (7, (.v v659)), (9, (.v v656)), (11, (.v ((w0.getD (x661).toNat []).getD 0 .und))), (12, (.v v664)), (13, (.v (.int .i64 x713))), (43, (.v v0)), (44, (.v (.int .i64 (l0.length : Int)))), (45, (.v (.int .i64 x661))), (53, (.v (.int .i64 ((List.replicate ((IntKind.i64.wrap (a1 + (1 : Int)))).toNat (false, (0 : Nat), (0 : Int))).length : Int)))), (54, (.v (.int .i64 x713))), (57, (.v ((w0.getD (x661).toNat []).getD 0 .und))), (58, (.v (.int .i64 ((l0.getD (x661).toNat ([] : List ((Int) × (Nat)))).length : Int)))), (59, (.v (.int .i64 (IntKind.i64.wrap (x733 + (1 : Int))))))] ⟨rfl, rfl, rfl, rfl, rfl, rfl, rfl, rfl, rfl, rfl, rfl, rfl, rfl, rfl, rfl, trivial⟩ (h _ _  (Sep.del 0 hs))
                  · refine so_gno rfl (not_t c744) ?_
                    refine so_gno rfl (not_t c744) ?_
                    refine so_gno rfl (not_t c744) ?_
                    refine so_gno rfl (not_t c744) ?_
                    refine so_gno rfl (not_t c744) ?_
                    refine so_gno rfl (not_t c744) ?_
                    refine so_gno rfl (not_t c744) ?_
                    refine so_pick_t (v := (.v (.bool true))) rfl (not_t c744) rfl ?_
                    refine so_nil ?_
                    refine fi_true rfl rfl ?_
                    refine fi_region ?_
                    refine so_move (v := (.v v664)) rfl ?_
                    refine so_move (v := (.v (.int .i64 x713))) rfl ?_
                    refine so_move (v := (.v (.flt .f32 (fop .add .f32 (before658.getD ((IntKind.i64.wrap (x713 - ((l0.getD (x661).toNat ([] : List ((Int) × (Nat)))).getD (x733).toNat ((0 : Int), (0 : Nat))).1))).toNat (false, (0 : Nat), (0 : Int))).2.1 ((l0.getD (x661).toNat ([] : List ((Int) × (Nat)))).getD (x733).toNat ((0 : Int), (0 : Nat))).2)))) rfl ?_
                    refine so_move (v := (.v (.int .i64 x733))) rfl ?_
                    refine so_build F15.bp77 (cps := [(0, [(.bool true)]), (1, [(.flt .f32 (fop .add .f32 (before658.getD ((IntKind.i64.wrap (x713 - ((l0.getD (x661).toNat ([] : List ((Int) × (Nat)))).getD (x733).toNat ((0 : Int), (0 : Nat))).1))).toNat (false, (0 : Nat), (0 : Int))).2.1 ((l0.getD (x661).toNat ([] : List ((Int) × (Nat)))).getD (x733).toNat ((0 : Int), (0 : Nat))).2))]), (2, [(.int .i64 x733)])]) rfl (fac (stc rfl stn) (fac (stc rfl stn) (fac (stc rfl stn) fan))) rfl ?_
                    refine sv_idx (hs.shows 1 rfl) c743 (fun _ => rfl) (by decide) rfl rfl F15.tl75 ?_
                    refine sv_set hs 1 rfl c743 (true, (fop .add .f32 (before658.getD ((IntKind.i64.wrap (x713 - ((l0.getD (x661).toNat ([] : List ((Int) × (Nat)))).getD (x733).toNat ((0 : Int), (0 : Nat))).1))).toNat (false, (0 : Nat), (0 : Int))).2.1 ((l0.getD (x661).toNat ([] : List ((Int) × (Nat)))).getD (x733).toNat ((0 : Int), (0 : Nat))).2), x733) (fun _ => rfl) (by decide) rfl rfl rfl rfl F15.sz77 nofun (fun H747 hs => ?_)
                    refine so_nil ?_
                    refine fi_inBlock ?_
                    refine fi_region ?_
                    refine so_bin rfl rfl ab_add ?_
                    refine so_move (v := (.v (.int .i64 (IntKind.i64.wrap (x733 + (1 : Int)))))) rfl ?_
                    refine so_nil ?_
                    exact fi_at [(0, (.v v0)), (1, (.v (.int .i64 a1))), (7, (.v v659)), (9, (.v v656)), (11, (.v ((w0.getD (x661).toNat []).getD 0 .und))), (12, (.v v664)), (13, (.v (.int .i64 x713))), (43, (.v v0)), (44, (.v (.int .i64 (l0.length : Int)))), (45, (.v (.int .i64 x661))), (53, (.v (.int .i64 ((List.replicate ((IntKind.i64.wrap (a1 + (1 : Int)))).toNat (false, (0 : Nat), (0 : Int))).length : Int)))), (54, (.v (.int .i64 x713))), (57, (.v ((w0.getD (x661).toNat []).getD 0 .und))), (58, (.v (.int .i64 ((l0.getD (x661).toNat ([] : List ((Int) × (Nat)))).length : Int)))), (59, (.v (.int .i64 (IntKind.i64.wrap (x733 + (1 : Int))))))] ⟨rfl, rfl, rfl, rfl, rfl, rfl, rfl, rfl, rfl, rfl, rfl, rfl, rfl, rfl, rfl, trivial⟩ (h _ _  (Sep.del 0 hs))
                · refine fi_true rfl (not_t c742) ?_
                  refine fi_exit rfl ?_
                  refine fi_region ?_
                  refine so_bin rfl rfl ab_add ?_
                  refine so_move (v := (.v (.int .i64 (IntKind.i64.wrap (x733 + (1 : Int)))))) rfl ?_
                  refine so_nil ?_
                  exact fi_at [(0, (.v v0)), (1, (.v (.int .i64 a1))), (7, (.v v659)), (9, (.v v656)), (11, (.v ((w0.getD (x661).toNat []).getD 0 .und))), (12, (.v v664)), (13, (.v (.int .i64 x713))), (43, (.v v0)), (44, (.v (.int .i64 (l0.length : Int)))), (45, (.v (.int .i64 x661))), (53, (.v (.int .i64 ((List.replicate ((IntKind.i64.wrap (a1 + (1 : Int)))).toNat (false, (0 : Nat), (0 : Int))).length : Int)))), (54, (.v (.int .i64 x713))), (57, (.v ((w0.getD (x661).toNat []).getD 0 .und))), (58, (.v (.int .i64 ((l0.getD (x661).toNat ([] : List ((Int) × (Nat)))).length : Int)))), (59, (.v (.int .i64 (IntKind.i64.wrap (x733 + (1 : Int))))))] ⟨rfl, rfl, rfl, rfl, rfl, rfl, rfl, rfl, rfl, rfl, rfl, rfl, rfl, rfl, rfl, trivial⟩ (h _ _  (Sep.del 0 hs))
            · refine fi_false rfl (decide_eq_false c734) ?_
              refine fi_exit rfl ?_
              refine fi_inBlock ?_
              refine fi_region ?_
              refine so_bin rfl rfl ab_add ?_
              refine so_move (v := (.v (.int .i64 (IntKind.i64.wrap (x713 + (1 : Int)))))) rfl ?_
              refine so_nil ?_
              exact fi_at [(0, (.v v0)), (1, (.v (.int .i64 a1))), (7, (.v v659)), (9, (.v v656)), (11, (.v ((w0.getD (x661).toNat []).getD 0 .und))), (12, (.v v664)), (43, (.v v0)), (44, (.v (.int .i64 (l0.length : Int)))), (45, (.v (.int .i64 x661))), (53, (.v (.int .i64 ((List.replicate ((IntKind.i64.wrap (a1 + (1 : Int)))).toNat (false, (0 : Nat), (0 : Int))).length : Int)))), (54, (.v (.int .i64 (IntKind.i64.wrap (x713 + (1 : Int))))))] ⟨rfl, rfl, rfl, rfl, rfl, rfl, rfl, rfl, rfl, rfl, rfl, trivial⟩ (h _ _  hs)
          · refine fi_false rfl (decide_eq_false c714) ?_
            refine fi_exit rfl ?_
            refine fi_seq ?_
            refine fi_region ?_
            refine so_move (v := (.v v656)) rfl ?_
            refine so_move (v := (.v v664)) rfl ?_
            refine sd_bslice hs [[v664]] F15.te78 F15.sz75 F15.ze75 rfl rfl rfl (by simp) (fac (stc (hs.shows 0 rfl).stor stn) fan) (by decide) rfl nofun (fun v750 H751 _ hs => ?_)
            obtain ⟨c753, h⟩ := h
            replace hs := Sep.freeze hs 1 rfl
            refine sv_app hs 3 rfl (show Shows _ _ 1 (enc sg [v664]) from hs.shows 0 rfl) (fun _ => rfl) (by decide) F15.ta78_78 (by decide) (flen_le (ys := ([row712] : List (List ((Bool) × (Nat) × (Int))))) ((hs.fshows 3 2 rfl rfl) : DSh _ _ 1 R_LePair_eBool_ePair_eFlt_f32_eInt_i64_o table655 (vs657.map sg)) rfl c753) rfl rfl nofun (fun v754 H755 kv754 hs => ?_)
            replace hs := Sep.kdapp hs 2 1 row712 rfl rfl (fun _ hh => ⟨rfl, hh⟩)
            replace hs := hs.del 0
            refine so_assign (v := (.v v754)) rfl ?_
            refine so_nil ?_
            refine fi_region ?_
            refine so_move (v := (.v v664)) rfl ?_
            refine so_assign (v := (.v v664)) rfl ?_
            refine so_nil ?_
            refine fi_inBlock ?_
            refine fi_region ?_
            refine so_bin rfl rfl ab_add ?_
            refine so_move (v := (.v (.int .i64 (IntKind.i64.wrap (x661 + (1 : Int)))))) rfl ?_
            refine so_nil ?_
            exact fi_at [(0, (.v v0)), (1, (.v (.int .i64 a1))), (7, (.v v664)), (9, (.v v754)), (43, (.v v0)), (44, (.v (.int .i64 (l0.length : Int)))), (45, (.v (.int .i64 (IntKind.i64.wrap (x661 + (1 : Int))))))] ⟨rfl, rfl, rfl, rfl, rfl, rfl, rfl, trivial⟩ (h _ _ _ _ _ _ (Sep.front 2 (Sep.front 2 (Sep.front 0 (Sep.del 3 hs) rfl) rfl) rfl))
        · refine fi_false rfl (decide_eq_false c662) ?_
          refine fi_exit rfl ?_
          refine fi_seq ?_
          refine fi_seq ?_
          refine fi_region ?_
          refine so_move (v := (.v v659)) rfl ?_
          refine so_move (v := (.v (.int .i64 a1))) rfl ?_
          obtain ⟨c758, h⟩ := h
          refine sv_idx (hs.rshows 2 rfl) c758 (fun _ => rfl) (by decide) rfl rfl F15.tl75 ?_
          refine so_fieldAddr rfl F15.fd77_0 ?_
          refine sv_cell (hs.rshows 2 rfl) c758 (false, (0 : Nat), (0 : Int)) 0 (fun x => (AV.bool x.1)) (fun _ => rfl) (fun _ => rfl) rfl F15.ag4 ?_
          refine so_un rfl au_not ?_
          refine so_move (v := (.v (.bool (!(before658.getD (a1).toNat (false, (0 : Nat), (0 : Int))).1)))) rfl ?_
          replace h := ofT h; rcases h with ⟨c759, h⟩ | ⟨c759, h⟩
          · refine so_gyes rfl (not_f c759) ?_
            refine so_move (v := (.v v659)) rfl ?_
            refine so_gyes rfl (not_f c759) ?_
            refine so_move (v := (.v (.int .i64 a1))) rfl ?_
            refine so_gyes rfl (not_f c759) ?_
            refine sv_idx (hs.rshows 2 rfl) c758 (fun _ => rfl) (by decide) rfl rfl F15.tl75 ?_
            refine so_gyes rfl (not_f c759) ?_
            refine so_fieldAddr rfl F15.fd77_1 ?_
            refine so_gyes rfl (not_f c759) ?_
            refine sv_cell (hs.rshows 2 rfl) c758 (false, (0 : Nat), (0 : Int)) 1 (fun x => (AV.flt .f32 x.2.1)) (fun _ => rfl) (fun _ => rfl) rfl F15.ag23 ?_
            refine so_gyes rfl (not_f c759) ?_
            refine sv_callS (impl_IsFinite_ok (before658.getD (a1).toNat (false, (0 : Nat), (0 : Int))).2.1 hs  _ h) (fun _ _ ⟨_, _, _, e⟩ => e) rfl rfl ?_
            clear h
            rintro _ _ ⟨y760, h, rfl, rfl⟩
            refine so_gyes rfl (not_f c759) ?_
            refine so_un rfl au_not ?_
            refine so_pick_f (v := (.v (.bool (!y760)))) rfl (not_f c759) rfl ?_
            refine so_nil ?_
            replace h := ofT h; rcases h with ⟨c762, h⟩ | ⟨c762, h⟩
            · refine fi_false rfl (not_f c762) ?_
              refine fi_skip ?_
              refine fi_seq ?_
              refine fi_region ?_
              refine so_move (v := (.v v0)) rfl ?_
              refine sd_len ((g0 _ hs.tl.tl.tl) : DSh _ _ 1 R_LePair_eInt_i64_eFlt_f32_o l0 w0) (by decide) rfl F15.ti35 ?_
              obtain ⟨c763, h⟩ := h
              refine sv_make hs (eInt .i64) (0 : Int) c763 (fun _ => rfl) rfl rfl F15.te22 F15.sz2 F15.by2 F15.ze2 rfl rfl nofun (fun v764 H765 nv764 hs => ?_)
              refine so_move (v := (.v (.int .i64 a1))) rfl ?_
              refine so_assign (v := (.v v764)) rfl ?_
              refine so_assign (v := (.v (.int .i64 a1))) rfl ?_
              refine so_nil ?_
              refine fi_seq ?_
              refine fi_seq ?_
              refine fi_region ?_
              refine so_move (v := (.v v0)) rfl ?_
              refine sd_len ((g0 _ hs.tl.tl.tl.tl) : DSh _ _ 1 R_LePair_eInt_i64_eFlt_f32_o l0 w0) (by decide) rfl F15.ti35 ?_
              refine so_bin rfl rfl ab_sub ?_
              refine so_assign (v := (.v (.int .i64 (IntKind.i64.wrap ((l0.length : Int) - (1 : Int)))))) rfl ?_
              refine so_nil ?_
              refine fi_block ?_
              refine fi_loop ?_
              refine fi_at [(0, (.v v0)), (1, (.v (.int .i64 a1))), (7, (.v v659)), (9, (.v v656)), (17, (.v v764)), (18, (.v (.int .i64 a1))), (19, (.v (.int .i64 (IntKind.i64.wrap ((l0.length : Int) - (1 : Int))))))] ⟨rfl, rfl, rfl, rfl, rfl, rfl, rfl, trivial⟩ ?_
              refine h (fun (out778 : List (Int)) (left779 : Int) (k780 : Int) => ∀ (s : Nat → TV) (H : Heap), Sep H (Pc.osl v764 1 (enc (eInt .i64) out778) :: kdp R_LePair_eBool_ePair_eFlt_f32_eInt_i64_o table655 vs657 S660 :: Pc.osl v656 1 (enc sg vs657) :: rdp v659 3 (enc (ePair eBool (ePair (eFlt .f32) (eInt .i64))) before658) :: fr) → Fin _ _ (updL s [(0, (.v v0)), (1, (.v (.int .i64 a1))), (7, (.v v659)), (9, (.v v656)), (17, (.v v764)), (18, (.v (.int .i64 left779))), (19, (.v (.int .i64 k780)))]) H _) ?_ _ _ hs
              intro out778 left779 k780 h s788 H789 hs
              refine fi_inLoop ?_
              refine fi_seq ?_
              refine fi_seq ?_
              refine fi_region ?_
              refine so_move (v := (.v (.int .i64 k780))) rfl ?_
              refine so_bin rfl rfl ab_geq ?_
              refine so_nil ?_
              replace h := ofP h; rcases h with ⟨c781, h⟩ | ⟨c781, h⟩
              · refine fi_true rfl (decide_eq_true c781) ?_
                refine fi_skip ?_
                refine fi_seq ?_
                refine fi_block ?_
                refine fi_seq ?_
                refine fi_region ?_
                refine so_move (v := (.v v656)) rfl ?_
                refine so_move (v := (.v (.int .i64 k780))) rfl ?_
                obtain ⟨c782, h⟩ := h
                refine sd_idx ((hs.fshows 2 1 rfl rfl) : DSh _ _ 1 R_LePair_eBool_ePair_eFlt_f32_eInt_i64_o table655 (vs657.map sg)) c782 ([] : List ((Bool) × (Nat) × (Int))) (by decide) rfl rfl F15.tl78 ?_
                refine su_ld ((((hs.fshows 2 1 rfl rfl) : DSh _ _ 1 R_LePair_eBool_ePair_eFlt_f32_eInt_i64_o table655 (vs657.map sg))).at (by decide) c782 ([] : List ((Bool) × (Nat) × (Int)))).2.2 0 (congrArg (fun c => c[0]?) ((((hs.fshows 2 1 rfl rfl) : DSh _ _ 1 R_LePair_eBool_ePair_eFlt_f32_eInt_i64_o table655 (vs657.map sg))).at (by decide) c782 ([] : List ((Bool) × (Nat) × (Int)))).2.1.1) rfl F15.ag75 ?_
                refine so_move (v := (.v (.int .i64 left779))) rfl ?_
                obtain ⟨c783, h⟩ := h
                refine sv_idx ((((hs.fshows 2 1 rfl rfl) : DSh _ _ 1 R_LePair_eBool_ePair_eFlt_f32_eInt_i64_o table655 (vs657.map sg))).at (by decide) c782 ([] : List ((Bool) × (Nat) × (Int)))).2.1.2 c783 (fun _ => rfl) (by decide) rfl rfl F15.tl75 ?_
                refine so_fieldAddr rfl F15.fd77_2 ?_
                refine sv_cell ((((hs.fshows 2 1 rfl rfl) : DSh _ _ 1 R_LePair_eBool_ePair_eFlt_f32_eInt_i64_o table655 (vs657.map sg))).at (by decide) c782 ([] : List ((Bool) × (Nat) × (Int)))).2.1.2 c783 (false, (0 : Nat), (0 : Int)) 2 (fun x => (AV.int .i64 x.2.2)) (fun _ => rfl) (fun _ => rfl) rfl F15.ag3 ?_
                refine so_assign (v := (.v (.int .i64 ((table655.getD (k780).toNat ([] : List ((Bool) × (Nat) × (Int)))).getD (left779).toNat (false, (0 : Nat), (0 : Int))).2.2))) rfl ?_
                refine so_nil ?_
                refine fi_seq ?_
                refine fi_region ?_
                refine so_move (v := (.v v764)) rfl ?_
                refine so_move (v := (.v (.int .i64 k780))) rfl ?_
                refine so_move (v := (.v (.int .i64 ((table655.getD (k780).toNat ([] : List ((Bool) × (Nat) × (Int)))).getD (left779).toNat (false, (0 : Nat), (0 : Int))).2.2))) rfl ?_
                obtain ⟨c784, h⟩ := h
                refine sv_idx (hs.shows 0 rfl) c784 (fun _ => rfl) (by decide) rfl rfl F15.tl22 ?_
                refine sv_set hs 0 rfl c784 ((table655.getD (k780).toNat ([] : List ((Bool) × (Nat) × (Int)))).getD (left779).toNat (false, (0 : Nat), (0 : Int))).2.2 (fun _ => rfl) (by decide) rfl rfl rfl rfl F15.sz2 nofun (fun H785 hs => ?_)
                refine so_nil ?_
                refine fi_region ?_
                refine so_move (v := (.v (.int .i64 left779))) rfl ?_
                refine so_move (v := (.v v0)) rfl ?_
                refine so_move (v := (.v (.int .i64 k780))) rfl ?_
                obtain ⟨c786, h⟩ := h
                refine sd_idx ((g0 _ hs.tl.tl.tl.tl) : DSh _ _ 1 R_LePair_eInt_i64_eFlt_f32_o l0 w0) c786 ([] : List ((Int) × (Nat))) (by decide) rfl rfl F15.tl35 ?_
                refine su_ld ((((g0 _ hs.tl.tl.tl.tl) : DSh _ _ 1 R_LePair_eInt_i64_eFlt_f32_o l0 w0)).at (by decide) c786 ([] : List ((Int) × (Nat)))).2.2 0 (congrArg (fun c => c[0]?) ((((g0 _ hs.tl.tl.tl.tl) : DSh _ _ 1 R_LePair_eInt_i64_eFlt_f32_o l0 w0)).at (by decide) c786 ([] : List ((Int) × (Nat)))).2.1.1) rfl F15.ag47 ?_
                refine so_move (v := (.v (.int .i64 ((table655.getD (k780).toNat ([] : List ((Bool) × (Nat) × (Int)))).getD (left779).toNat (false, (0 : Nat), (0 : Int))).2.2))) rfl ?_
                obtain ⟨c787, h⟩ := h
                refine sv_idx ((((g0 _ hs.tl.tl.tl.tl) : DSh _ _ 1 R_LePair_eInt_i64_eFlt_f32_o l0 w0)).at (by decide) c786 ([] : List ((Int) × (Nat)))).2.1.2 c787 (fun _ => rfl) (by decide) rfl rfl F15.tl47 ?_
                refine so_fieldAddr rfl F15.fd49_0 ?_
                refine sv_cell ((((g0 _ hs.tl.tl.tl.tl) : DSh _ _ 1 R_LePair_eInt_i64_eFlt_f32_o l0 w0)).at (by decide) c786 ([] : List ((Int) × (Nat)))).2.1.2 c787 ((0 : Int), (0 : Nat)) 0 (fun x => (AV.int .i64 x.1)) (fun _ => rfl) (fun _ => rfl) rfl F15.ag2 ?_
                refine so_bin rfl rfl ab_sub ?_
                refine so_assign (v := (.v (.int .i64 (IntKind.i64.wrap (left779 - ((l0.getD (k780).toNat ([] : List ((Int) × (Nat)))).getD (((table655.getD (k780).toNat ([] : List ((Bool) × (Nat) × (Int)))).getD (left779).toNat (false, (0 : Nat), (0 : Int))).2.2).toNat ((0 : Int), (0 : Nat))).1))))) rfl ?_
                refine so_nil ?_
                refine fi_inBlock ?_
                refine fi_region ?_
                refine so_move (v := (.v (.int .i64 k780))) rfl ?_
                refine so_bin rfl rfl ab_sub ?_
                refine so_assign (v := (.v (.int .i64 (IntKind.i64.wrap (k780 - (1 : Int)))))) rfl ?_
                refine so_nil ?_
                exact fi_at [(0, (.v v0)), (1, (.v (.int .i64 a1))), (7, (.v v659)), (9, (.v v656)), (17, (.v v764)), (18, (.v (.int .i64 (IntKind.i64.wrap (left779 - ((l0.getD (k780).toNat ([] : List ((Int) × (Nat)))).getD (((table655.getD (k780).toNat ([] : List ((Bool) × (Nat) × (Int)))).getD (left779).toNat (false, (0 : Nat), (0 : Int))).2.2).toNat ((0 : Int), (0 : Nat))).1))))), (19, (.v (.int .i64 (IntKind.i64.wrap (k780 - (1 : Int))))))] ⟨rfl, rfl, rfl, rfl, rfl, rfl, rfl, trivial⟩ (h _ _  hs)
              · refine fi_false rfl (decide_eq_false c781) ?_
                refine fi_exit rfl ?_
                refine fi_seq ?_
                refine fi_region ?_
                refine so_move (v := (.v v764)) rfl ?_
                refine so_move (v := (.v v659)) rfl ?_
                refine so_move (v := (.v (.int .i64 a1))) rfl ?_
                refine sv_idx (hs.rshows 3 rfl) c758 (fun _ => rfl) (by decide) rfl rfl F15.tl75 ?_
                refine so_fieldAddr rfl F15.fd77_1 ?_
                refine sv_cell (hs.rshows 3 rfl) c758 (false, (0 : Nat), (0 : Int)) 1 (fun x => (AV.flt .f32 x.2.1)) (fun _ => rfl) (fun _ => rfl) rfl F15.ag23 ?_
                refine so_assign (v := (.v v764)) rfl ?_
                refine so_assign (v := (.v (.flt .f32 (before658.getD (a1).toNat (false, (0 : Nat), (0 : Int))).2.1))) rfl ?_
                refine so_assign (v := (.v (.bool true))) rfl ?_
                refine so_nil ?_
                exact by_ret rfl ⟨_, _, _, h, _, rfl, (Sep.del 1 (Sep.del 1 (Sep.del 1 hs)))⟩
            · refine fi_true rfl (not_t c762) ?_
              refine fi_seq ?_
              refine fi_region ?_
              refine so_assign (v := (.v .nilsl)) rfl ?_
              refine so_assign (v := (.v (.flt .f32 (cz .f32 0)))) rfl ?_
              refine so_assign (v := (.v (.bool false))) rfl ?_
              refine so_nil ?_
              exact by_ret rfl ⟨_, _, _, h, _, rfl, (Sep.nil (Sep.del 0 (Sep.del 0 (Sep.del 0 hs))) 1)⟩
          · refine so_gno rfl (not_t c759) ?_
            refine so_gno rfl (not_t c759) ?_
            refine so_gno rfl (not_t c759) ?_
            refine so_gno rfl (not_t c759) ?_
            refine so_gno rfl (not_t c759) ?_
            refine so_gno rfl (not_t c759) ?_
            refine so_gno rfl (not_t c759) ?_
            refine so_pick_t (v := (.v (.bool true))) rfl (not_t c759) rfl ?_
            refine so_nil ?_
            refine fi_true rfl rfl ?_
            refine fi_seq ?_
            refine fi_region ?_
            refine so_assign (v := (.v .nilsl)) rfl ?_
            refine so_assign (v := (.v (.flt .f32 (cz .f32 0)))) rfl ?_
            refine so_assign (v := (.v (.bool false))) rfl ?_
            refine so_nil ?_
            exact by_ret rfl ⟨_, _, _, h, _, rfl, (Sep.nil (Sep.del 0 (Sep.del 0 (Sep.del 0 hs))) 1)⟩
    · refine fi_true rfl (not_t c106) ?_
      refine fi_seq ?_
      refine fi_region ?_
      refine so_assign (v := (.v .nilsl)) rfl ?_
      refine so_assign (v := (.v (.flt .f32 (cz .f32 0)))) rfl ?_
      refine so_assign (v := (.v (.bool false))) rfl ?_
      refine so_nil ?_
      exact by_ret rfl ⟨_, _, _, h, _, rfl, (Sep.nil hs 1)⟩
  · refine so_gno rfl (not_t c103) ?_
    refine so_gno rfl (not_t c103) ?_
    refine so_gno rfl (not_t c103) ?_
    refine so_pick_t (v := (.v (.bool true))) rfl (not_t c103) rfl ?_
    refine so_nil ?_
    refine fi_true rfl rfl ?_
    refine fi_seq ?_
    refine fi_region ?_
    refine so_assign (v := (.v .nilsl)) rfl ?_
    refine so_assign (v := (.v (.flt .f32 (cz .f32 0)))) rfl ?_
    refine so_assign (v := (.v (.bool false))) rfl ?_
    refine so_nil ?_
    exact by_ret rfl ⟨_, _, _, h, _, rfl, (Sep.nil hs 1)⟩

end Go.Proofs.Ytecdkjnomkdbkaa.G

namespace Go.Proofs.Ytecdkjnomkdbkaa.G
open Go Go.Ab Go.Proofs Go.Proofs.Ytecdkjnomkdbkaa
set_option maxRecDepth 100000
set_option linter.unusedVariables false
set_option linter.unusedSimpArgs false
set_option maxHeartbeats 1000000
attribute [local irreducible] wops wopf Go.Ab.Fin
theorem F20.ti41 : (telem Try.prog 41).isSome = true := by kernel_rfl
theorem laws_b10Long_ok {fr : List Pc} {H : Heap} (v0 : AV) (l0 : List (Int)) (v1 : AV) (l1 : List (Int)) (hs : Sep H (fr)) (g0 : ∀ H, Sep H fr → Shows H v0 1 (enc (eInt .u8) l0)) (g1 : ∀ H, Sep H fr → Shows H v1 1 (enc (eInt .u8) l1)) (K : Bool → Prop) (h : laws_b10Long.wp l0 l1 K) : OkQ Try.prog 20 [(.v v0), (.v v1)] H (fun r H2 => ∃ (y0 : Bool), K y0 ∧ r = (.v (.bool y0)) ∧ H = H2) := by
  unfold laws_b10Long.wp at h
  refine of_body Try.f20 F.hm Try.func20 rfl Try.call20 (by kernel_rfl) (by simp) ?_
  refine fi_seq ?_
  refine fi_region ?_
  refine so_assign (v := (.v (.bool false))) rfl ?_
  refine so_nil ?_
  refine fi_seq ?_
  refine fi_region ?_
  refine so_move (v := (.v v0)) rfl ?_
  refine sv_len (g0 _ hs) (fun _ => rfl) (by decide) rfl F20.ti41 ?_
  refine so_bin rfl rfl ab_gtr ?_
  refine so_move (v := (.v (.bool (decide ((1048576 : Int) < (l0.length : Int)))))) rfl ?_
  replace h := ofP h; rcases h with ⟨c101, h⟩ | ⟨c101, h⟩
  · refine so_gno rfl (decide_eq_true c101) ?_
    refine so_gno rfl (decide_eq_true c101) ?_
    refine so_gno rfl (decide_eq_true c101) ?_
    refine so_pick_t (v := (.v (.bool true))) rfl (decide_eq_true c101) rfl ?_
    refine so_assign (v := (.v (.bool true))) rfl ?_
    refine so_nil ?_
    exact by_ret rfl ⟨_, h, rfl, rfl⟩
  · refine so_gyes rfl (decide_eq_false c101) ?_
    refine so_move (v := (.v v1)) rfl ?_
    refine so_gyes rfl (decide_eq_false c101) ?_
    refine sv_len (g1 _ hs) (fun _ => rfl) (by decide) rfl F20.ti41 ?_
    refine so_gyes rfl (decide_eq_false c101) ?_
    refine so_bin rfl rfl ab_gtr ?_
    refine so_pick_f (v := (.v (.bool (decide ((1048576 : Int) < (l1.length : Int)))))) rfl (decide_eq_false c101) rfl ?_
    refine so_assign (v := (.v (.bool (decide ((1048576 : Int) < (l1.length : Int)))))) rfl ?_
    refine so_nil ?_
    exact by_ret rfl ⟨_, h, rfl, rfl⟩

end Go.Proofs.Ytecdkjnomkdbkaa.G

namespace Go.Proofs.Ytecdkjnomkdbkaa.G
open Go Go.Ab Go.Proofs Go.Proofs.Ytecdkjnomkdbkaa
set_option maxRecDepth 100000
set_option linter.unusedVariables false
set_option linter.unusedSimpArgs false
set_option maxHeartbeats 1000000
attribute [local irreducible] wops wopf Go.Ab.Fin
theorem F51.bp112 : bplan Try.prog 112 = some ([.nilsl, (.int .i64 (0 : Int)), (.int .u64 (0 : Int))], [(0, 1), (1, 1), (2, 1)]) := by kernel_rfl
theorem F51.inf112 : (Try.prog.info? 112).isSome = true := by kernel_rfl
theorem spec_l00From_ok {fr : List Pc} {H : Heap} (v0 : AV) (l0 : List (Int)) (hs : Sep H (fr)) (g0 : ∀ H, Sep H fr → Shows H v0 1 (enc (eInt .u8) l0)) (K : Bool → Int → Int → Prop) (h : spec_l00From.wp l0 K) : OkQ Try.prog 51 [(.v v0)] H (fun r H2 => ∃ (y0 : Bool) (y1 : Int) (y2 : Int), K y0 y1 y2 ∧ ∃ (w0_ : Nat), r = (.v (.ptr w0_ 0)) ∧ Sep H2 (Pc.box w0_ [(bif y0 then v0 else .nilsl), (.int .i64 y1), (.int .u64 y2)] :: fr)) := by
  unfold spec_l00From.wp at h
  refine of_body Try.f51 F.hm Try.func51 rfl Try.call51 (by kernel_rfl) (by simp) ?_
  refine fi_seq ?_
  refine fi_region ?_
  refine so_assign (v := (.v .nilptr)) rfl ?_
  refine so_nil ?_
  refine fi_seq ?_
  refine fi_region ?_
  refine so_move (v := (.v v0)) rfl ?_
  refine so_build F51.bp112 (cps := [(0, [v0])]) rfl (fac (stc (g0 _ hs).stor stn) fan) rfl ?_
  refine sv_box hs rfl (c := [v0, (.int .i64 (0 : Int)), (.int .u64 (0 : Int))]) rfl F51.inf112 (stc (g0 _ hs).stor (stc rfl (stc rfl stn))) nofun (fun id101 H102 hs => ?_)
  refine so_assign (v := (.v (.ptr id101 0))) rfl ?_
  refine so_nil ?_
  exact by_ret rfl ⟨_, _, _, h, _, rfl, hs⟩

end Go.Proofs.Ytecdkjnomkdbkaa.G

namespace Go.Proofs.Ytecdkjnomkdbkaa.G
open Go Go.Ab Go.Proofs Go.Proofs.Ytecdkjnomkdbkaa
set_option maxRecDepth 100000
set_option linter.unusedVariables false
set_option linter.unusedSimpArgs false
set_option maxHeartbeats 1000000
attribute [local irreducible] wops wopf Go.Ab.Fin
theorem F84.ag110 : tagg Try.prog 110 = some false := by kernel_rfl
theorem F84.ag3 : tagg Try.prog 3 = some false := by kernel_rfl
theorem F84.ag41 : tagg Try.prog 41 = some false := by kernel_rfl
theorem F84.ag5 : tagg Try.prog 5 = some false := by kernel_rfl
theorem F84.fd112_0 : tfield Try.prog 112 0 = some (0, 1, false) := by kernel_rfl
theorem F84.fd112_1 : tfield Try.prog 112 1 = some (1, 1, false) := by kernel_rfl
theorem F84.fd112_2 : tfield Try.prog 112 2 = some (2, 1, false) := by kernel_rfl
theorem F84.it110 : tint Try.prog 110 = some .u64 := by kernel_rfl
theorem F84.it2 : tint Try.prog 2 = some .i64 := by kernel_rfl
theorem F84.it3 : tint Try.prog 3 = some .i64 := by kernel_rfl
theorem F84.sz110 : tsz Try.prog 110 = some 1 := by kernel_rfl
theorem F84.sz3 : tsz Try.prog 3 = some 1 := by kernel_rfl
theorem F84.ti41 : (telem Try.prog 41).isSome = true := by kernel_rfl
theorem F84.tl41 : (telem Try.prog 41).bind (tsz Try.prog) = some 1 := by kernel_rfl
theorem F84.us110 : (Try.prog.underlying 110).isSome = true := by kernel_rfl
theorem F84.us3 : (Try.prog.underlying 3).isSome = true := by kernel_rfl
theorem F84.us5 : (Try.prog.underlying 5).isSome = true := by kernel_rfl
theorem spec_l00Src_next_ok {fr : List Pc} {H : Heap} (i0 : Nat) (v0 : AV) (l0 : List (Int)) (a1 : Int) (a2 : Int) (hs : Sep H (Pc.box i0 [v0, (.int .i64 a1), (.int .u64 a2)] :: fr)) (g0 : ∀ H, Sep H fr → Shows H v0 1 (enc (eInt .u8) l0)) (K : Int → Int → Int → Prop) (h : spec_l00Src_next.wp l0 a1 a2 K) : OkQ Try.prog 84 [(.v (.ptr i0 0))] H (fun r H2 => ∃ (y0 : Int) (y1 : Int) (y2 : Int), K y0 y1 y2 ∧ r = (.v (.int .i64 y0)) ∧ Sep H2 (Pc.box i0 [v0, (.int .i64 y1), (.int .u64 y2)] :: fr)) := by
  unfold spec_l00Src_next.wp at h
  refine of_body Try.f84 F.hm Try.func84 rfl Try.call84 (by kernel_rfl) (by simp) ?_
  refine fi_seq ?_
  refine fi_region ?_
  refine so_assign (v := (.v (.int .i64 (0 : Int)))) rfl ?_
  refine so_nil ?_
  refine fi_seq ?_
  refine fi_region ?_
  refine so_assign (v := (.v (.int .i64 (0 : Int)))) rfl ?_
  refine so_nil ?_
  refine fi_seq ?_
  refine fi_seq ?_
  refine fi_region ?_
  refine so_move (v := (.v (.ptr i0 0))) rfl ?_
  refine so_nilCheck rfl ?_
  refine so_fieldAddr rfl F84.fd112_1 ?_
  refine sv_ld hs 0 rfl rfl rfl F84.ag3 ?_
  refine so_move (v := (.v (.ptr i0 0))) rfl ?_
  refine so_nilCheck rfl ?_
  refine so_fieldAddr rfl F84.fd112_0 ?_
  refine sv_ld hs 0 rfl rfl rfl F84.ag41 ?_
  refine sv_len (g0 _ hs.tl) (fun _ => rfl) (by decide) rfl F84.ti41 ?_
  refine so_bin rfl rfl ab_lss ?_
  refine so_nil ?_
  replace h := ofP h; rcases h with ⟨c102, h⟩ | ⟨c102, h⟩
  · refine fi_true rfl (decide_eq_true c102) ?_
    refine fi_region ?_
    refine so_move (v := (.v (.ptr i0 0))) rfl ?_
    refine so_nilCheck rfl ?_
    refine so_fieldAddr rfl F84.fd112_0 ?_
    refine sv_ld hs 0 rfl rfl rfl F84.ag41 ?_
    refine so_move (v := (.v (.ptr i0 0))) rfl ?_
    refine so_nilCheck rfl ?_
    refine so_fieldAddr rfl F84.fd112_1 ?_
    refine sv_ld hs 0 rfl rfl rfl F84.ag3 ?_
    obtain ⟨c103, h⟩ := h
    refine sv_idx (g0 _ hs.tl) c103 (fun _ => rfl) (by decide) rfl rfl F84.tl41 ?_
    refine sv_cell (g0 _ hs.tl) c103 (0 : Int) 0 (fun x => (AV.int .u8 x)) (fun _ => rfl) (fun _ => rfl) rfl F84.ag5 ?_
    refine sv_ii rfl F84.us5 F84.it3 ?_
    refine so_assign (v := (.v (.int .i64 (IntKind.i64.wrap (l0.getD (a1).toNat (0 : Int)))))) rfl ?_
    refine so_nil ?_
    refine fi_seq ?_
    refine fi_region ?_
    refine so_move (v := (.v (.ptr i0 0))) rfl ?_
    refine so_nilCheck rfl ?_
    refine so_fieldAddr rfl F84.fd112_1 ?_
    refine sv_ld hs 0 rfl rfl rfl F84.ag3 ?_
    refine so_bin rfl rfl ab_add ?_
    refine so_nilCheck rfl ?_
    refine so_fieldAddr rfl F84.fd112_1 ?_
    refine sv_st hs 0 rfl rfl rfl (c := [(.int .i64 (IntKind.i64.wrap (a1 + (1 : Int))))]) rfl F84.sz3 rfl (stc rfl stn) (leb rfl) (cs' := [v0, (.int .i64 (IntKind.i64.wrap (a1 + (1 : Int)))), (.int .u64 a2)]) rfl nofun (fun H104 hs => ?_)
    refine so_nil ?_
    refine fi_seq ?_
    refine fi_region ?_
    refine so_move (v := (.v (.ptr i0 0))) rfl ?_
    refine so_move (v := (.v (.ptr i0 0))) rfl ?_
    refine so_nilCheck rfl ?_
    refine so_fieldAddr rfl F84.fd112_2 ?_
    refine sv_ld hs 0 rfl rfl rfl F84.ag110 ?_
    refine so_bin rfl rfl ab_mul ?_
    refine so_move (v := (.v (.int .i64 (IntKind.i64.wrap (l0.getD (a1).toNat (0 : Int)))))) rfl ?_
    refine sv_ii rfl F84.us3 F84.it110 ?_
    refine so_bin rfl rfl ab_add ?_
    refine so_bin rfl rfl ab_add ?_
    refine so_nilCheck rfl ?_
    refine so_fieldAddr rfl F84.fd112_2 ?_
    refine sv_st hs 0 rfl rfl rfl (c := [(.int .u64 (IntKind.u64.wrap ((IntKind.u64.wrap ((IntKind.u64.wrap (a2 * (6364136223846793005 : Int))) + (IntKind.u64.wrap (IntKind.i64.wrap (l0.getD (a1).toNat (0 : Int)))))) + (1442695040888963407 : Int))))]) rfl F84.sz110 rfl (stc rfl stn) (leb rfl) (cs' := [v0, (.int .i64 (IntKind.i64.wrap (a1 + (1 : Int)))), (.int .u64 (IntKind.u64.wrap ((IntKind.u64.wrap ((IntKind.u64.wrap (a2 * (6364136223846793005 : Int))) + (IntKind.u64.wrap (IntKind.i64.wrap (l0.getD (a1).toNat (0 : Int)))))) + (1442695040888963407 : Int))))]) rfl nofun (fun H105 hs => ?_)
    refine so_nil ?_
    refine fi_seq ?_
    refine fi_seq ?_
    refine fi_region ?_
    refine so_move (v := (.v (.ptr i0 0))) rfl ?_
    refine so_nilCheck rfl ?_
    refine so_fieldAddr rfl F84.fd112_1 ?_
    refine sv_ld hs 0 rfl rfl rfl F84.ag3 ?_
    refine so_move (v := (.v (.ptr i0 0))) rfl ?_
    refine so_nilCheck rfl ?_
    refine so_fieldAddr rfl F84.fd112_0 ?_
    refine sv_ld hs 0 rfl rfl rfl F84.ag41 ?_
    refine sv_len (g0 _ hs.tl) (fun _ => rfl) (by decide) rfl F84.ti41 ?_
    refine so_bin rfl rfl ab_leq ?_
    refine so_nil ?_
    replace h := ofP h; rcases h with ⟨c106, h⟩ | ⟨c106, h⟩
    · refine fi_true rfl (decide_eq_true c106) ?_
      refine fi_seq ?_
      refine fi_region ?_
      refine so_move (v := (.v (.int .i64 (IntKind.i64.wrap (l0.getD (a1).toNat (0 : Int)))))) rfl ?_
      refine so_assign (v := (.v (.int .i64 (IntKind.i64.wrap (l0.getD (a1).toNat (0 : Int)))))) rfl ?_
      refine so_nil ?_
      exact by_ret rfl ⟨_, _, _, h, rfl, hs⟩
    · refine fi_false rfl (decide_eq_false c106) ?_
      refine fi_skip ?_
      refine fi_seq ?_
      refine fi_region ?_
      refine so_move (v := (.v (.ptr i0 0))) rfl ?_
      refine so_nilCheck rfl ?_
      refine so_fieldAddr rfl F84.fd112_2 ?_
      refine sv_ld hs 0 rfl rfl rfl F84.ag110 ?_
      refine so_bin rfl rfl (ab_shr (by decide)) ?_
      refine so_bin rfl rfl ab_and ?_
      refine sv_ii rfl F84.us110 F84.it2 ?_
      refine so_assign (v := (.v (.int .i64 (IntKind.i64.wrap (ibits .and .u64 (Int.fdiv (IntKind.u64.wrap ((IntKind.u64.wrap ((IntKind.u64.wrap (a2 * (6364136223846793005 : Int))) + (IntKind.u64.wrap (IntKind.i64.wrap (l0.getD (a1).toNat (0 : Int)))))) + (1442695040888963407 : Int))) (2 ^ (min ((40 : Int)).toNat IntKind.u64.bits))) (255 : Int)))))) rfl ?_
      refine so_nil ?_
      exact by_ret rfl ⟨_, _, _, h, rfl, hs⟩
  · refine fi_false rfl (decide_eq_false c102) ?_
    refine fi_skip ?_
    refine fi_seq ?_
    refine fi_region ?_
    refine so_move (v := (.v (.ptr i0 0))) rfl ?_
    refine so_nilCheck rfl ?_
    refine so_fieldAddr rfl F84.fd112_1 ?_
    refine sv_ld hs 0 rfl rfl rfl F84.ag3 ?_
    refine so_bin rfl rfl ab_add ?_
    refine so_nilCheck rfl ?_
    refine so_fieldAddr rfl F84.fd112_1 ?_
    refine sv_st hs 0 rfl rfl rfl (c := [(.int .i64 (IntKind.i64.wrap (a1 + (1 : Int))))]) rfl F84.sz3 rfl (stc rfl stn) (leb rfl) (cs' := [v0, (.int .i64 (IntKind.i64.wrap (a1 + (1 : Int)))), (.int .u64 a2)]) rfl nofun (fun H107 hs => ?_)
    refine so_nil ?_
    refine fi_seq ?_
    refine fi_region ?_
    refine so_move (v := (.v (.ptr i0 0))) rfl ?_
    refine so_move (v := (.v (.ptr i0 0))) rfl ?_
    refine so_nilCheck rfl ?_
    refine so_fieldAddr rfl F84.fd112_2 ?_
    refine sv_ld hs 0 rfl rfl rfl F84.ag110 ?_
    refine so_bin rfl rfl ab_mul ?_
    refine so_move (v := (.v (.int .i64 (0 : Int)))) rfl ?_
    refine sv_ii rfl F84.us3 F84.it110 ?_
    refine so_bin rfl rfl ab_add ?_
    refine so_bin rfl rfl ab_add ?_
    refine so_nilCheck rfl ?_
    refine so_fieldAddr rfl F84.fd112_2 ?_
    refine sv_st hs 0 rfl rfl rfl (c := [(.int .u64 (IntKind.u64.wrap ((IntKind.u64.wrap ((IntKind.u64.wrap (a2 * (6364136223846793005 : Int))) + (IntKind.u64.wrap (0 : Int)))) + (1442695040888963407 : Int))))]) rfl F84.sz110 rfl (stc rfl stn) (leb rfl) (cs' := [v0, (.int .i64 (IntKind.i64.wrap (a1 + (1 : Int)))), (.int .u64 (IntKind.u64.wrap ((IntKind.u64.wrap ((IntKind.u64.wrap (a2 * (6364136223846793005 : Int))) + (IntKind.u64.wrap (0 : Int)))) + (1442695040888963407 : Int))))]) rfl nofun (fun H108 hs => ?_)
    refine so_nil ?_
    refine fi_seq ?_
    refine fi_seq ?_
    refine fi_region ?_
    refine so_move (v := (.v (.ptr i0 0))) rfl ?_
    refine so_nilCheck rfl ?_
    refine so_fieldAddr rfl F84.fd112_1 ?_
    refine sv_ld hs 0 rfl rfl rfl F84.ag3 ?_
    refine so_move (v := (.v (.ptr i0 0))) rfl ?_
    refine so_nilCheck rfl ?_
    refine so_fieldAddr rfl F84.fd112_0 ?_
    refine sv_ld hs 0 rfl rfl rfl F84.ag41 ?_
    refine sv_len (g0 _ hs.tl) (fun _ => rfl) (by decide) rfl F84.ti41 ?_
    refine so_bin rfl rfl ab_leq ?_
    refine so_nil ?_
    replace h := ofP h; rcases h with ⟨c109, h⟩ | ⟨c109, h⟩
    · refine fi_true rfl (decide_eq_true c109) ?_
      refine fi_seq ?_
      refine fi_region ?_
      refine so_move (v := (.v (.int .i64 (0 : Int)))) rfl ?_
      refine so_assign (v := (.v (.int .i64 (0 : Int)))) rfl ?_
      refine so_nil ?_
      exact by_ret rfl ⟨_, _, _, h, rfl, hs⟩
    · refine fi_false rfl (decide_eq_false c109) ?_
      refine fi_skip ?_
      refine fi_seq ?_
      refine fi_region ?_
      refine so_move (v := (.v (.ptr i0 0))) rfl ?_
      refine so_nilCheck rfl ?_
      refine so_fieldAddr rfl F84.fd112_2 ?_
      refine sv_ld hs 0 rfl rfl rfl F84.ag110 ?_
      refine so_bin rfl rfl (ab_shr (by decide)) ?_
      refine so_bin rfl rfl ab_and ?_
      refine sv_ii rfl F84.us110 F84.it2 ?_
      refine so_assign (v := (.v (.int .i64 (IntKind.i64.wrap (ibits .and .u64 (Int.fdiv (IntKind.u64.wrap ((IntKind.u64.wrap ((IntKind.u64.wrap (a2 * (6364136223846793005 : Int))) + (IntKind.u64.wrap (0 : Int)))) + (1442695040888963407 : Int))) (2 ^ (min ((40 : Int)).toNat IntKind.u64.bits))) (255 : Int)))))) rfl ?_
      refine so_nil ?_
      exact by_ret rfl ⟨_, _, _, h, rfl, hs⟩

end Go.Proofs.Ytecdkjnomkdbkaa.G

namespace Go.Proofs.Ytecdkjnomkdbkaa.G
open Go Go.Ab Go.Proofs Go.Proofs.Ytecdkjnomkdbkaa
set_option maxRecDepth 100000
set_option linter.unusedVariables false
set_option linter.unusedSimpArgs false
set_option maxHeartbeats 1000000
attribute [local irreducible] wops wopf Go.Ab.Fin
theorem spec_l00Src_pick_ok {fr : List Pc} {H : Heap} (i0 : Nat) (v0 : AV) (l0 : List (Int)) (a1 : Int) (a2 : Int) (a3 : Int) (hs : Sep H (Pc.box i0 [v0, (.int .i64 a1), (.int .u64 a2)] :: fr)) (g0 : ∀ H, Sep H fr → Shows H v0 1 (enc (eInt .u8) l0)) (K : Int → Int → Int → Prop) (h : spec_l00Src_pick.wp l0 a1 a2 a3 K) : OkQ Try.prog 52 [(.v (.ptr i0 0)), (.v (.int .i64 a3))] H (fun r H2 => ∃ (y0 : Int) (y1 : Int) (y2 : Int), K y0 y1 y2 ∧ r = (.v (.int .i64 y0)) ∧ Sep H2 (Pc.box i0 [v0, (.int .i64 y1), (.int .u64 y2)] :: fr)) := by
  unfold spec_l00Src_pick.wp at h
  refine of_body Try.f52 F.hm Try.func52 rfl Try.call52 (by kernel_rfl) (by simp) ?_
  refine fi_seq ?_
  refine fi_region ?_
  refine so_assign (v := (.v (.int .i64 (0 : Int)))) rfl ?_
  refine so_nil ?_
  refine fi_seq ?_
  refine fi_seq ?_
  refine fi_region ?_
  refine so_move (v := (.v (.int .i64 a3))) rfl ?_
  refine so_bin rfl rfl ab_leq ?_
  refine so_nil ?_
  replace h := ofP h; rcases h with ⟨c102, h⟩ | ⟨c102, h⟩
  · refine fi_true rfl (decide_eq_true c102) ?_
    refine fi_seq ?_
    refine fi_region ?_
    refine so_assign (v := (.v (.int .i64 (0 : Int)))) rfl ?_
    refine so_nil ?_
    exact by_ret rfl ⟨_, _, _, h, rfl, hs⟩
  · refine fi_false rfl (decide_eq_false c102) ?_
    refine fi_skip ?_
    refine fi_seq ?_
    refine fi_region ?_
    refine so_move (v := (.v (.ptr i0 0))) rfl ?_
    refine sv_call (spec_l00Src_next_ok i0 v0 l0 a1 a2 hs (fun _ hs => (g0 _ hs)) _ h) rfl rfl nofun ?_
    clear h hs
    rintro _ H106 ⟨y103, y104, y105, h, rfl, hs⟩
    refine so_assign (v := (.v (.int .i64 y103))) rfl ?_
    refine so_nil ?_
    refine fi_seq ?_
    refine fi_seq ?_
    refine fi_region ?_
    refine so_move (v := (.v (.int .i64 a3))) rfl ?_
    refine so_bin rfl rfl ab_gtr ?_
    refine so_nil ?_
    replace h := ofP h; rcases h with ⟨c107, h⟩ | ⟨c107, h⟩
    · refine fi_true rfl (decide_eq_true c107) ?_
      refine fi_region ?_
      refine so_move (v := (.v (.int .i64 y103))) rfl ?_
      refine so_bin rfl rfl ab_mul ?_
      refine so_move (v := (.v (.ptr i0 0))) rfl ?_
      refine sv_call (spec_l00Src_next_ok i0 v0 l0 y104 y105 hs (fun _ hs => (g0 _ hs)) _ h) rfl rfl nofun ?_
      clear h hs
      rintro _ H111 ⟨y108, y109, y110, h, rfl, hs⟩
      refine so_bin rfl rfl ab_add ?_
      refine so_assign (v := (.v (.int .i64 (IntKind.i64.wrap ((IntKind.i64.wrap (y103 * (256 : Int))) + y108))))) rfl ?_
      refine so_nil ?_
      refine fi_seq ?_
      refine fi_region ?_
      refine so_move (v := (.v (.int .i64 (IntKind.i64.wrap ((IntKind.i64.wrap (y103 * (256 : Int))) + y108))))) rfl ?_
      refine so_move (v := (.v (.int .i64 a3))) rfl ?_
      obtain ⟨c112, h⟩ := h
      refine so_bin rfl rfl (ab_rem c112) ?_
      refine so_assign (v := (.v (.int .i64 (Int.tmod (IntKind.i64.wrap ((IntKind.i64.wrap (y103 * (256 : Int))) + y108)) a3)))) rfl ?_
      refine so_nil ?_
      exact by_ret rfl ⟨_, _, _, h, rfl, hs⟩
    · refine fi_false rfl (decide_eq_false c107) ?_
      refine fi_skip ?_
      refine fi_seq ?_
      refine fi_region ?_
      refine so_move (v := (.v (.int .i64 y103))) rfl ?_
      refine so_move (v := (.v (.int .i64 a3))) rfl ?_
      obtain ⟨c113, h⟩ := h
      refine so_bin rfl rfl (ab_rem c113) ?_
      refine so_assign (v := (.v (.int .i64 (Int.tmod y103 a3)))) rfl ?_
      refine so_nil ?_
      exact by_ret rfl ⟨_, _, _, h, rfl, hs⟩

end Go.Proofs.Ytecdkjnomkdbkaa.G

namespace Go.Proofs.Ytecdkjnomkdbkaa.G
open Go Go.Ab Go.Proofs Go.Proofs.Ytecdkjnomkdbkaa
set_option maxRecDepth 100000
set_option linter.unusedVariables false
set_option linter.unusedSimpArgs false
set_option maxHeartbeats 1000000
attribute [local irreducible] wops wopf Go.Ab.Fin
theorem F21.bp49 : bplan Try.prog 49 = some ([(.int .i64 (0 : Int)), (.flt .f32 (0 : Nat))], [(0, 1), (1, 1)]) := by kernel_rfl
theorem F21.fl23 : tflt Try.prog 23 = some .f32 := by kernel_rfl
theorem F21.in23 : tint Try.prog 23 = none := by kernel_rfl
theorem F21.sz47 : tsz Try.prog 47 = some 1 := by kernel_rfl
theorem F21.sz49 : tsz Try.prog 49 = some 2 := by kernel_rfl
theorem F21.ta35_35 : tapp Try.prog 35 35 = some (1, 24) := by kernel_rfl
theorem F21.ta47_47 : tapp Try.prog 47 47 = some (2, 16) := by kernel_rfl
theorem F21.te35 : telem Try.prog 35 = some 47 := by kernel_rfl
theorem F21.te47 : telem Try.prog 47 = some 49 := by kernel_rfl
theorem F21.us2 : (Try.prog.underlying 2).isSome = true := by kernel_rfl
theorem F21.ze47 : tzero Try.prog 47 = some [.nilsl] := by kernel_rfl
theorem F21.ze49 : tzero Try.prog 49 = some [(.int .i64 (0 : Int)), (.flt .f32 (0 : Nat))] := by kernel_rfl
theorem spec_B10Blocks_ok {fr : List Pc} {H : Heap} (v0 : AV) (l0 : List (Int)) (hs : Sep H (fr)) (g0 : ∀ H, Sep H fr → Shows H v0 1 (enc (eInt .u8) l0)) (K : (List (List ((Int) × (Nat)))) → Prop) (h : spec_B10Blocks.wp l0 K) : OkQ Try.prog 21 [(.v v0)] H (fun r H2 => ∃ (y0 : List (List ((Int) × (Nat)))), K y0 ∧ ∃ (w0_ : AV) (wsw0_ : List (List AV)) (Sw0_ : Nat → Prop), r = (.v w0_) ∧ Sep H2 (dpc w0_ 1 R_LePair_eInt_i64_eFlt_f32_o IR_LePair_eInt_i64_eFlt_f32_o y0 wsw0_ Sw0_ :: fr)) := by
  unfold spec_B10Blocks.wp at h
  refine of_body Try.f21 F.hm Try.func21 rfl Try.call21 (by kernel_rfl) (by simp) ?_
  refine fi_seq ?_
  refine fi_region ?_
  refine so_assign (v := (.v .nilsl)) rfl ?_
  refine so_nil ?_
  refine fi_seq ?_
  refine fi_region ?_
  refine so_move (v := (.v v0)) rfl ?_
  refine sv_call (spec_l00From_ok v0 l0 hs (fun _ hs => (g0 _ hs)) _ h) rfl rfl nofun ?_
  clear h hs
  rintro _ H106 ⟨y101, y102, y103, h, i104, rfl, hs⟩
  replace h := ofT h; rcases h with ⟨c107, h⟩ | ⟨c107, h⟩
  · subst c107
    refine so_assign (v := (.v (.ptr i104 0))) rfl ?_
    refine so_nil ?_
    refine fi_seq ?_
    refine fi_region ?_
    refine sk_empty hs R_LePair_eInt_i64_eFlt_f32_o IR_LePair_eInt_i64_eFlt_f32_o F21.te35 F21.sz47 F21.ze47 rfl nofun (fun v108 ws109 S110 H111 _ hs => ?_)
    refine so_assign (v := (.v v108)) rfl ?_
    refine so_nil ?_
    refine fi_seq ?_
    refine fi_seq ?_
    refine fi_region ?_
    refine so_move (v := (.v (.ptr i104 0))) rfl ?_
    replace hs := (Sep.front 1 hs rfl)
    refine sv_call (spec_l00Src_pick_ok i104 v0 l0 y102 y103 (4 : Int) hs (fun _ hs => (g0 _ hs.tl)) _ h) rfl rfl nofun ?_
    clear h hs
    rintro _ H116 ⟨y113, y114, y115, h, rfl, hs⟩
    refine so_bin rfl rfl ab_add ?_
    refine so_assign (v := (.v (.int .i64 (IntKind.i64.wrap ((1 : Int) + y113))))) rfl ?_
    refine so_nil ?_
    refine fi_block ?_
    refine fi_loop ?_
    refine fi_at [(3, (.v (.ptr i104 0))), (4, (.v v108)), (5, (.v (.int .i64 (IntKind.i64.wrap ((1 : Int) + y113)))))] ⟨rfl, rfl, rfl, trivial⟩ ?_
    refine h (fun (out198 : List (List ((Int) × (Nat)))) (b202 : Int) (b203 : Int) (k204 : Int) => ∀ (s : Nat → TV) (H : Heap) (v199 : AV) (ws200 : List (List AV)) (S201 : Nat → Prop), Sep H (Pc.box i104 [v0, (.int .i64 b202), (.int .u64 b203)] :: dpc v199 1 R_LePair_eInt_i64_eFlt_f32_o IR_LePair_eInt_i64_eFlt_f32_o out198 ws200 S201 :: fr) → Fin _ _ (updL s [(3, (.v (.ptr i104 0))), (4, (.v v199)), (5, (.v (.int .i64 k204)))]) H _) ?_ _ _ _ _ _ hs
    intro out198 b202 b203 k204 h s281 H282 v199 ws200 S201 hs
    refine fi_inLoop ?_
    refine fi_seq ?_
    refine fi_seq ?_
    refine fi_region ?_
    refine so_move (v := (.v (.int .i64 k204))) rfl ?_
    refine so_bin rfl rfl ab_gtr ?_
    refine so_nil ?_
    replace h := ofP h; rcases h with ⟨c205, h⟩ | ⟨c205, h⟩
    · refine fi_true rfl (decide_eq_true c205) ?_
      refine fi_skip ?_
      refine fi_seq ?_
      refine fi_block ?_
      refine fi_seq ?_
      refine fi_region ?_
      refine sv_bslice hs (ePair (eInt .i64) (eFlt .f32)) ([] : List ((Int) × (Nat))) [] F21.te47 F21.sz49 F21.ze49 rfl rfl rfl rfl (fun _ => rfl) rfl (by decide) nofun (fun v206 H207 nv206 hs => ?_)
      refine so_assign (v := (.v v206)) rfl ?_
      refine so_nil ?_
      refine fi_seq ?_
      refine fi_region ?_
      refine so_assign (v := (.v (.int .i64 (0 : Int)))) rfl ?_
      refine so_nil ?_
      refine fi_seq ?_
      refine fi_region ?_
      refine so_move (v := (.v (.ptr i104 0))) rfl ?_
      replace hs := (Sep.front 1 hs rfl)
      refine sv_call (spec_l00Src_pick_ok i104 v0 l0 b202 b203 (17 : Int) hs (fun _ hs => (g0 _ hs.tl.tl)) _ h) rfl rfl nofun ?_
      clear h hs
      rintro _ H212 ⟨y209, y210, y211, h, rfl, hs⟩
      refine so_bin rfl rfl ab_add ?_
      refine sv_if rfl F21.us2 F21.in23 F21.fl23 ?_
      refine so_assign (v := (.v (.flt .f32 (itof .f32 (IntKind.i64.wrap ((16 : Int) + y209)))))) rfl ?_
      refine so_nil ?_
      refine fi_seq ?_
      refine fi_seq ?_
      refine fi_region ?_
      refine so_move (v := (.v (.ptr i104 0))) rfl ?_
      refine sv_call (spec_l00Src_pick_ok i104 v0 l0 y210 y211 (5 : Int) hs (fun _ hs => (g0 _ hs.tl.tl)) _ h) rfl rfl nofun ?_
      clear h hs
      rintro _ H216 ⟨y213, y214, y215, h, rfl, hs⟩
      refine so_bin rfl rfl ab_add ?_
      refine so_assign (v := (.v (.int .i64 (IntKind.i64.wrap ((1 : Int) + y213))))) rfl ?_
      refine so_nil ?_
      refine fi_block ?_
      refine fi_loop ?_
      refine fi_at [(3, (.v (.ptr i104 0))), (4, (.v v199)), (5, (.v (.int .i64 k204))), (6, (.v v206)), (7, (.v (.int .i64 (0 : Int)))), (8, (.v (.flt .f32 (itof .f32 (IntKind.i64.wrap ((16 : Int) + y209)))))), (9, (.v (.int .i64 (IntKind.i64.wrap ((1 : Int) + y213)))))] ⟨rfl, rfl, rfl, rfl, rfl, rfl, rfl, trivial⟩ ?_
      refine h (fun (list249 : List ((Int) × (Nat))) (b251 : Int) (b252 : Int) (bits253 : Int) (miss254 : Nat) (n255 : Int) => ∀ (s : Nat → TV) (H : Heap) (v250 : AV) (nv250 : v250 ≠ .nilsl), Sep H (Pc.box i104 [v0, (.int .i64 b251), (.int .u64 b252)] :: Pc.osl v250 2 (enc (ePair (eInt .i64) (eFlt .f32)) list249) :: dpc v199 1 R_LePair_eInt_i64_eFlt_f32_o IR_LePair_eInt_i64_eFlt_f32_o out198 ws200 S201 :: fr) → Fin _ _ (updL s [(3, (.v (.ptr i104 0))), (4, (.v v199)), (5, (.v (.int .i64 k204))), (6, (.v v250)), (7, (.v (.int .i64 bits253))), (8, (.v (.flt .f32 miss254))), (9, (.v (.int .i64 n255)))]) H _) ?_ _ _ _ nv206 hs
      intro list249 b251 b252 bits253 miss254 n255 h s279 H280 v250 nv250 hs
      refine fi_inLoop ?_
      refine fi_seq ?_
      refine fi_seq ?_
      refine fi_region ?_
      refine so_move (v := (.v (.int .i64 n255))) rfl ?_
      refine so_bin rfl rfl ab_gtr ?_
      refine so_nil ?_
      replace h := ofP h; rcases h with ⟨c256, h⟩ | ⟨c256, h⟩
      · refine fi_true rfl (decide_eq_true c256) ?_
        refine fi_skip ?_
        refine fi_seq ?_
        refine fi_block ?_
        refine fi_seq ?_
        refine fi_region ?_
        refine so_move (v := (.v v250)) rfl ?_
        refine so_move (v := (.v (.int .i64 bits253))) rfl ?_
        refine so_move (v := (.v (.flt .f32 miss254))) rfl ?_
        refine so_build F21.bp49 (cps := [(0, [(.int .i64 bits253)]), (1, [(.flt .f32 miss254)])]) rfl (fac (stc rfl stn) (fac (stc rfl stn) fan)) rfl ?_
        refine sv_bslice hs (ePair (eInt .i64) (eFlt .f32)) ([(bits253, miss254)] : List ((Int) × (Nat))) [[(.int .i64 bits253), (.flt .f32 miss254)]] F21.te47 F21.sz49 F21.ze49 rfl rfl rfl rfl (fun _ => rfl) rfl (by decide) nofun (fun v257 H258 nv257 hs => ?_)
        obtain ⟨c262, h⟩ := h
        refine sv_app hs 2 rfl (hs.shows 0 rfl) (fun _ => rfl) (by decide) F21.ta47_47 (by decide) c262 rfl rfl nofun (fun v260 H261 kv260 hs => ?_)
        replace hs := hs.del 0
        have nv260 := kv260 nv250
        refine so_assign (v := (.v v260)) rfl ?_
        refine so_nil ?_
        refine fi_seq ?_
        refine fi_region ?_
        refine so_move (v := (.v (.int .i64 bits253))) rfl ?_
        refine so_move (v := (.v (.ptr i104 0))) rfl ?_
        refine sv_call (spec_l00Src_pick_ok i104 v0 l0 b251 b252 (6 : Int) hs (fun _ hs => (g0 _ hs.tl.tl)) _ h) rfl rfl nofun ?_
        clear h hs
        rintro _ H266 ⟨y263, y264, y265, h, rfl, hs⟩
        refine so_bin rfl rfl ab_add ?_
        refine so_bin rfl rfl ab_add ?_
        refine so_assign (v := (.v (.int .i64 (IntKind.i64.wrap (bits253 + (IntKind.i64.wrap ((1 : Int) + y263))))))) rfl ?_
        refine so_nil ?_
        refine fi_region ?_
        refine so_move (v := (.v (.flt .f32 miss254))) rfl ?_
        refine so_move (v := (.v (.ptr i104 0))) rfl ?_
        refine sv_call (spec_l00Src_pick_ok i104 v0 l0 y264 y265 (8 : Int) hs (fun _ hs => (g0 _ hs.tl.tl)) _ h) rfl rfl nofun ?_
        clear h hs
        rintro _ H270 ⟨y267, y268, y269, h, rfl, hs⟩
        refine so_bin rfl rfl ab_add ?_
        refine sv_if rfl F21.us2 F21.in23 F21.fl23 ?_
        refine so_bin rfl rfl ab_fquo ?_
        refine so_bin rfl rfl ab_fsub ?_
        refine so_assign (v := (.v (.flt .f32 (fop .sub .f32 miss254 (fop .quo .f32 (itof .f32 (IntKind.i64.wrap ((1 : Int) + y267))) (cz .f32 1082130432)))))) rfl ?_
        refine so_nil ?_
        refine fi_inBlock ?_
        refine fi_region ?_
        refine so_move (v := (.v (.int .i64 n255))) rfl ?_
        refine so_bin rfl rfl ab_sub ?_
        refine so_assign (v := (.v (.int .i64 (IntKind.i64.wrap (n255 - (1 : Int)))))) rfl ?_
        refine so_nil ?_
        exact fi_at [(3, (.v (.ptr i104 0))), (4, (.v v199)), (5, (.v (.int .i64 k204))), (6, (.v v260)), (7, (.v (.int .i64 (IntKind.i64.wrap (bits253 + (IntKind.i64.wrap ((1 : Int) + y263))))))), (8, (.v (.flt .f32 (fop .sub .f32 miss254 (fop .quo .f32 (itof .f32 (IntKind.i64.wrap ((1 : Int) + y267))) (cz .f32 1082130432)))))), (9, (.v (.int .i64 (IntKind.i64.wrap (n255 - (1 : Int))))))] ⟨rfl, rfl, rfl, rfl, rfl, rfl, rfl, trivial⟩ (h _ _ _ nv260 hs)
      · refine fi_false rfl (decide_eq_false c256) ?_
        refine fi_exit rfl ?_
        refine fi_region ?_
        refine so_move (v := (.v v199)) rfl ?_
        refine so_move (v := (.v v250)) rfl ?_
        refine sd_bslice hs [[v250]] F21.te35 F21.sz47 F21.ze47 rfl rfl rfl (by simp) (fac (stc (hs.shows 1 rfl).stor stn) fan) (by decide) rfl nofun (fun v271 H272 _ hs => ?_)
        obtain ⟨c274, h⟩ := h
        replace hs := Sep.front 2 hs rfl
        refine sk_app hs 2 rfl list249 [v250] (hs.tl.shows 0 rfl) (fun _ hh => ⟨rfl, hh⟩) rfl rfl (by decide) F21.ta35_35 (by decide) c274 rfl rfl nofun (fun v275 ws276 S277 H278 hs => ?_)
        replace hs := hs.del 0
        refine so_assign (v := (.v v275)) rfl ?_
        refine so_nil ?_
        refine fi_inBlock ?_
        refine fi_region ?_
        refine so_move (v := (.v (.int .i64 k204))) rfl ?_
        refine so_bin rfl rfl ab_sub ?_
        refine so_assign (v := (.v (.int .i64 (IntKind.i64.wrap (k204 - (1 : Int)))))) rfl ?_
        refine so_nil ?_
        exact fi_at [(3, (.v (.ptr i104 0))), (4, (.v v275)), (5, (.v (.int .i64 (IntKind.i64.wrap (k204 - (1 : Int))))))] ⟨rfl, rfl, rfl, trivial⟩ (h _ _ _ _ _ hs)
    · refine fi_false rfl (decide_eq_false c205) ?_
      refine fi_exit rfl ?_
      refine fi_seq ?_
      refine fi_region ?_
      refine so_move (v := (.v v199)) rfl ?_
      refine so_assign (v := (.v v199)) rfl ?_
      refine so_nil ?_
      exact by_ret rfl ⟨_, h, _, _, _, rfl, (Sep.del 0 hs)⟩
  · subst c107
    refine so_assign (v := (.v (.ptr i104 0))) rfl ?_
    refine so_nil ?_
    refine fi_seq ?_
    refine fi_region ?_
    refine sk_empty hs R_LePair_eInt_i64_eFlt_f32_o IR_LePair_eInt_i64_eFlt_f32_o F21.te35 F21.sz47 F21.ze47 rfl nofun (fun v283 ws284 S285 H286 _ hs => ?_)
    refine so_assign (v := (.v v283)) rfl ?_
    refine so_nil ?_
    refine fi_seq ?_
    refine fi_seq ?_
    refine fi_region ?_
    refine so_move (v := (.v (.ptr i104 0))) rfl ?_
    replace hs := (Sep.front 1 hs rfl)
    refine sv_call (spec_l00Src_pick_ok i104 .nilsl ([] : List (Int)) y102 y103 (4 : Int) hs (fun _ hs => (.inl ⟨rfl, rfl⟩ : Shows _ .nilsl 1 (enc (eInt .u8) []))) _ h) rfl rfl nofun ?_
    clear h hs
    rintro _ H291 ⟨y288, y289, y290, h, rfl, hs⟩
    refine so_bin rfl rfl ab_add ?_
    refine so_assign (v := (.v (.int .i64 (IntKind.i64.wrap ((1 : Int) + y288))))) rfl ?_
    refine so_nil ?_
    refine fi_block ?_
    refine fi_loop ?_
    replace hs := hs.nil 1
    refine fi_at [(3, (.v (.ptr i104 0))), (4, (.v v283)), (5, (.v (.int .i64 (IntKind.i64.wrap ((1 : Int) + y288)))))] ⟨rfl, rfl, rfl, trivial⟩ ?_
    refine h (fun (out376 : List (List ((Int) × (Nat)))) (b381 : List (Int)) (b383 : Int) (b384 : Int) (k385 : Int) => ∀ (s : Nat → TV) (H : Heap) (v377 : AV) (ws378 : List (List AV)) (S379 : Nat → Prop) (v382 : AV), Sep H (Pc.osl v382 1 (enc (eInt .u8) b381) :: Pc.box i104 [v382, (.int .i64 b383), (.int .u64 b384)] :: dpc v377 1 R_LePair_eInt_i64_eFlt_f32_o IR_LePair_eInt_i64_eFlt_f32_o out376 ws378 S379 :: fr) → Fin _ _ (updL s [(3, (.v (.ptr i104 0))), (4, (.v v377)), (5, (.v (.int .i64 k385)))]) H _) ?_ _ _ _ _ _ _ hs
    intro out376 b381 b383 b384 k385 h s462 H463 v377 ws378 S379 v382 hs
    refine fi_inLoop ?_
    refine fi_seq ?_
    refine fi_seq ?_
    refine fi_region ?_
    refine so_move (v := (.v (.int .i64 k385))) rfl ?_
    refine so_bin rfl rfl ab_gtr ?_
    refine so_nil ?_
    replace h := ofP h; rcases h with ⟨c386, h⟩ | ⟨c386, h⟩
    · refine fi_true rfl (decide_eq_true c386) ?_
      refine fi_skip ?_
      refine fi_seq ?_
      refine fi_block ?_
      refine fi_seq ?_
      refine fi_region ?_
      refine sv_bslice hs (ePair (eInt .i64) (eFlt .f32)) ([] : List ((Int) × (Nat))) [] F21.te47 F21.sz49 F21.ze49 rfl rfl rfl rfl (fun _ => rfl) rfl (by decide) nofun (fun v387 H388 nv387 hs => ?_)
      refine so_assign (v := (.v v387)) rfl ?_
      refine so_nil ?_
      refine fi_seq ?_
      refine fi_region ?_
      refine so_assign (v := (.v (.int .i64 (0 : Int)))) rfl ?_
      refine so_nil ?_
      refine fi_seq ?_
      refine fi_region ?_
      refine so_move (v := (.v (.ptr i104 0))) rfl ?_
      replace hs := (Sep.front 2 hs rfl)
      refine sv_call (spec_l00Src_pick_ok i104 v382 b381 b383 b384 (17 : Int) hs (fun _ hs => (hs.shows 1 rfl)) _ h) rfl rfl nofun ?_
      clear h hs
      rintro _ H393 ⟨y390, y391, y392, h, rfl, hs⟩
      refine so_bin rfl rfl ab_add ?_
      refine sv_if rfl F21.us2 F21.in23 F21.fl23 ?_
      refine so_assign (v := (.v (.flt .f32 (itof .f32 (IntKind.i64.wrap ((16 : Int) + y390)))))) rfl ?_
      refine so_nil ?_
      refine fi_seq ?_
      refine fi_seq ?_
      refine fi_region ?_
      refine so_move (v := (.v (.ptr i104 0))) rfl ?_
      refine sv_call (spec_l00Src_pick_ok i104 v382 b381 y391 y392 (5 : Int) hs (fun _ hs => (hs.shows 1 rfl)) _ h) rfl rfl nofun ?_
      clear h hs
      rintro _ H397 ⟨y394, y395, y396, h, rfl, hs⟩
      refine so_bin rfl rfl ab_add ?_
      refine so_assign (v := (.v (.int .i64 (IntKind.i64.wrap ((1 : Int) + y394))))) rfl ?_
      refine so_nil ?_
      refine fi_block ?_
      refine fi_loop ?_
      refine fi_at [(3, (.v (.ptr i104 0))), (4, (.v v377)), (5, (.v (.int .i64 k385))), (6, (.v v387)), (7, (.v (.int .i64 (0 : Int)))), (8, (.v (.flt .f32 (itof .f32 (IntKind.i64.wrap ((16 : Int) + y390)))))), (9, (.v (.int .i64 (IntKind.i64.wrap ((1 : Int) + y394)))))] ⟨rfl, rfl, rfl, rfl, rfl, rfl, rfl, trivial⟩ ?_
      refine h (fun (list430 : List ((Int) × (Nat))) (b432 : Int) (b433 : Int) (bits434 : Int) (miss435 : Nat) (n436 : Int) => ∀ (s : Nat → TV) (H : Heap) (v431 : AV) (nv431 : v431 ≠ .nilsl), Sep H (Pc.box i104 [v382, (.int .i64 b432), (.int .u64 b433)] :: Pc.osl v431 2 (enc (ePair (eInt .i64) (eFlt .f32)) list430) :: Pc.osl v382 1 (enc (eInt .u8) b381) :: dpc v377 1 R_LePair_eInt_i64_eFlt_f32_o IR_LePair_eInt_i64_eFlt_f32_o out376 ws378 S379 :: fr) → Fin _ _ (updL s [(3, (.v (.ptr i104 0))), (4, (.v v377)), (5, (.v (.int .i64 k385))), (6, (.v v431)), (7, (.v (.int .i64 bits434))), (8, (.v (.flt .f32 miss435))), (9, (.v (.int .i64 n436)))]) H _) ?_ _ _ _ nv387 hs
      intro list430 b432 b433 bits434 miss435 n436 h s460 H461 v431 nv431 hs
      refine fi_inLoop ?_
      refine fi_seq ?_
      refine fi_seq ?_
      refine fi_region ?_
      refine so_move (v := (.v (.int .i64 n436))) rfl ?_
      refine so_bin rfl rfl ab_gtr ?_
      refine so_nil ?_
      replace h := ofP h; rcases h with ⟨c437, h⟩ | ⟨c437, h⟩
      · refine fi_true rfl (decide_eq_true c437) ?_
        refine fi_skip ?_
        refine fi_seq ?_
        refine fi_block ?_
        refine fi_seq ?_
        refine fi_region ?_
        refine so_move (v := (.v v431)) rfl ?_
        refine so_move (v := (.v (.int .i64 bits434))) rfl ?_
        refine so_move (v := (.v (.flt .f32 miss435))) rfl ?_
        refine so_build F21.bp49 (cps := [(0, [(.int .i64 bits434)]), (1, [(.flt .f32 miss435)])]) rfl (fac (stc rfl stn) (fac (stc rfl stn) fan)) rfl ?_
        refine sv_bslice hs (ePair (eInt .i64) (eFlt .f32)) ([(bits434, miss435)] : List ((Int) × (Nat))) [[(.int .i64 bits434), (.flt .f32 miss435)]] F21.te47 F21.sz49 F21.ze49 rfl rfl rfl rfl (fun _ => rfl) rfl (by decide) nofun (fun v438 H439 nv438 hs => ?_)
        obtain ⟨c443, h⟩ := h
        refine sv_app hs 2 rfl (hs.shows 0 rfl) (fun _ => rfl) (by decide) F21.ta47_47 (by decide) c443 rfl rfl nofun (fun v441 H442 kv441 hs => ?_)
        replace hs := hs.del 0
        have nv441 := kv441 nv431
        refine so_assign (v := (.v v441)) rfl ?_
        refine so_nil ?_
        refine fi_seq ?_
        refine fi_region ?_
        refine so_move (v := (.v (.int .i64 bits434))) rfl ?_
        refine so_move (v := (.v (.ptr i104 0))) rfl ?_
        refine sv_call (spec_l00Src_pick_ok i104 v382 b381 b432 b433 (6 : Int) hs (fun _ hs => (hs.shows 1 rfl)) _ h) rfl rfl nofun ?_
        clear h hs
        rintro _ H447 ⟨y444, y445, y446, h, rfl, hs⟩
        refine so_bin rfl rfl ab_add ?_
        refine so_bin rfl rfl ab_add ?_
        refine so_assign (v := (.v (.int .i64 (IntKind.i64.wrap (bits434 + (IntKind.i64.wrap ((1 : Int) + y444))))))) rfl ?_
        refine so_nil ?_
        refine fi_region ?_
        refine so_move (v := (.v (.flt .f32 miss435))) rfl ?_
        refine so_move (v := (.v (.ptr i104 0))) rfl ?_
        refine sv_call (spec_l00Src_pick_ok i104 v382 b381 y445 y446 (8 : Int) hs (fun _ hs => (hs.shows 1 rfl)) _ h) rfl rfl nofun ?_
        clear h hs
        rintro _ H451 ⟨y448, y449, y450, h, rfl, hs⟩
        refine so_bin rfl rfl ab_add ?_
        refine sv_if rfl F21.us2 F21.in23 F21.fl23 ?_
        refine so_bin rfl rfl ab_fquo ?_
        refine so_bin rfl rfl ab_fsub ?_
        refine so_assign (v := (.v (.flt .f32 (fop .sub .f32 miss435 (fop .quo .f32 (itof .f32 (IntKind.i64.wrap ((1 : Int) + y448))) (cz .f32 1082130432)))))) rfl ?_
        refine so_nil ?_
        refine fi_inBlock ?_
        refine fi_region ?_
        refine so_move (v := (.v (.int .i64 n436))) rfl ?_
        refine so_bin rfl rfl ab_sub ?_
        refine so_assign (v := (.v (.int .i64 (IntKind.i64.wrap (n436 - (1 : Int)))))) rfl ?_
        refine so_nil ?_
        exact fi_at [(3, (.v (.ptr i104 0))), (4, (.v v377)), (5, (.v (.int .i64 k385))), (6, (.v v441)), (7, (.v (.int .i64 (IntKind.i64.wrap (bits434 + (IntKind.i64.wrap ((1 : Int) + y444))))))), (8, (.v (.flt .f32 (fop .sub .f32 miss435 (fop .quo .f32 (itof .f32 (IntKind.i64.wrap ((1 : Int) + y448))) (cz .f32 1082130432)))))), (9, (.v (.int .i64 (IntKind.i64.wrap (n436 - (1 : Int))))))] ⟨rfl, rfl, rfl, rfl, rfl, rfl, rfl, trivial⟩ (h _ _ _ nv441 hs)
      · refine fi_false rfl (decide_eq_false c437) ?_
        refine fi_exit rfl ?_
        refine fi_region ?_
        refine so_move (v := (.v v377)) rfl ?_
        refine so_move (v := (.v v431)) rfl ?_
        refine sd_bslice hs [[v431]] F21.te35 F21.sz47 F21.ze47 rfl rfl rfl (by simp) (fac (stc (hs.shows 1 rfl).stor stn) fan) (by decide) rfl nofun (fun v452 H453 _ hs => ?_)
        obtain ⟨c455, h⟩ := h
        replace hs := Sep.front 2 hs rfl
        refine sk_app hs 3 rfl list430 [v431] (hs.tl.shows 0 rfl) (fun _ hh => ⟨rfl, hh⟩) rfl rfl (by decide) F21.ta35_35 (by decide) c455 rfl rfl nofun (fun v456 ws457 S458 H459 hs => ?_)
        replace hs := hs.del 0
        refine so_assign (v := (.v v456)) rfl ?_
        refine so_nil ?_
        refine fi_inBlock ?_
        refine fi_region ?_
        refine so_move (v := (.v (.int .i64 k385))) rfl ?_
        refine so_bin rfl rfl ab_sub ?_
        refine so_assign (v := (.v (.int .i64 (IntKind.i64.wrap (k385 - (1 : Int)))))) rfl ?_
        refine so_nil ?_
        exact fi_at [(3, (.v (.ptr i104 0))), (4, (.v v456)), (5, (.v (.int .i64 (IntKind.i64.wrap (k385 - (1 : Int))))))] ⟨rfl, rfl, rfl, trivial⟩ (h _ _ _ _ _ _ (Sep.front 2 (Sep.front 1 (Sep.front 2 hs rfl) rfl) rfl))
    · refine fi_false rfl (decide_eq_false c386) ?_
      refine fi_exit rfl ?_
      refine fi_seq ?_
      refine fi_region ?_
      refine so_move (v := (.v v377)) rfl ?_
      refine so_assign (v := (.v v377)) rfl ?_
      refine so_nil ?_
      exact by_ret rfl ⟨_, h, _, _, _, rfl, (Sep.del 0 (Sep.del 0 hs))⟩

end Go.Proofs.Ytecdkjnomkdbkaa.G

namespace Go.Proofs.Ytecdkjnomkdbkaa.G
open Go Go.Ab Go.Proofs Go.Proofs.Ytecdkjnomkdbkaa
set_option maxRecDepth 100000
set_option linter.unusedVariables false
set_option linter.unusedSimpArgs false
set_option maxHeartbeats 1000000
attribute [local irreducible] wops wopf Go.Ab.Fin
theorem F22.ag5 : tagg Try.prog 5 = some false := by kernel_rfl
theorem F22.it2 : tint Try.prog 2 = some .i64 := by kernel_rfl
theorem F22.ti41 : (telem Try.prog 41).isSome = true := by kernel_rfl
theorem F22.tl41 : (telem Try.prog 41).bind (tsz Try.prog) = some 1 := by kernel_rfl
theorem F22.us5 : (Try.prog.underlying 5).isSome = true := by kernel_rfl
theorem laws_b10At_ok {fr : List Pc} {H : Heap} (v0 : AV) (l0 : List (Int)) (a1 : Int) (a2 : Int) (hs : Sep H (fr)) (g0 : ∀ H, Sep H fr → Shows H v0 1 (enc (eInt .u8) l0)) (K : Int → Prop) (h : laws_b10At.wp l0 a1 a2 K) : OkQ Try.prog 22 [(.v v0), (.v (.int .i64 a1)), (.v (.int .i64 a2))] H (fun r H2 => ∃ (y0 : Int), K y0 ∧ r = (.v (.int .i64 y0)) ∧ H = H2) := by
  unfold laws_b10At.wp at h
  refine of_body Try.f22 F.hm Try.func22 rfl Try.call22 (by kernel_rfl) (by simp) ?_
  refine fi_seq ?_
  refine fi_region ?_
  refine so_assign (v := (.v (.int .i64 (0 : Int)))) rfl ?_
  refine so_nil ?_
  refine fi_seq ?_
  refine fi_seq ?_
  refine fi_region ?_
  refine so_move (v := (.v (.int .i64 a2))) rfl ?_
  refine so_bin rfl rfl ab_leq ?_
  refine so_nil ?_
  replace h := ofP h; rcases h with ⟨c101, h⟩ | ⟨c101, h⟩
  · refine fi_true rfl (decide_eq_true c101) ?_
    refine fi_seq ?_
    refine fi_region ?_
    refine so_assign (v := (.v (.int .i64 (0 : Int)))) rfl ?_
    refine so_nil ?_
    exact by_ret rfl ⟨_, h, rfl, rfl⟩
  · refine fi_false rfl (decide_eq_false c101) ?_
    refine fi_skip ?_
    refine fi_seq ?_
    refine fi_seq ?_
    refine fi_region ?_
    refine so_move (v := (.v (.int .i64 a1))) rfl ?_
    refine so_move (v := (.v v0)) rfl ?_
    refine sv_len (g0 _ hs) (fun _ => rfl) (by decide) rfl F22.ti41 ?_
    refine so_bin rfl rfl ab_lss ?_
    refine so_nil ?_
    replace h := ofP h; rcases h with ⟨c102, h⟩ | ⟨c102, h⟩
    · refine fi_true rfl (decide_eq_true c102) ?_
      refine fi_seq ?_
      refine fi_region ?_
      refine so_move (v := (.v v0)) rfl ?_
      refine so_move (v := (.v (.int .i64 a1))) rfl ?_
      obtain ⟨c103, h⟩ := h
      refine sv_idx (g0 _ hs) c103 (fun _ => rfl) (by decide) rfl rfl F22.tl41 ?_
      refine sv_cell (g0 _ hs) c103 (0 : Int) 0 (fun x => (AV.int .u8 x)) (fun _ => rfl) (fun _ => rfl) rfl F22.ag5 ?_
      refine sv_ii rfl F22.us5 F22.it2 ?_
      refine so_move (v := (.v (.int .i64 a2))) rfl ?_
      obtain ⟨c104, h⟩ := h
      refine so_bin rfl rfl (ab_rem c104) ?_
      refine so_assign (v := (.v (.int .i64 (Int.tmod (IntKind.i64.wrap (l0.getD (a1).toNat (0 : Int))) a2)))) rfl ?_
      refine so_nil ?_
      exact by_ret rfl ⟨_, h, rfl, rfl⟩
    · refine fi_false rfl (decide_eq_false c102) ?_
      refine fi_skip ?_
      refine fi_seq ?_
      refine fi_region ?_
      refine so_move (v := (.v (.int .i64 a1))) rfl ?_
      refine so_bin rfl rfl ab_mul ?_
      refine so_bin rfl rfl ab_add ?_
      refine so_move (v := (.v (.int .i64 a2))) rfl ?_
      obtain ⟨c105, h⟩ := h
      refine so_bin rfl rfl (ab_rem c105) ?_
      refine so_assign (v := (.v (.int .i64 (Int.tmod (IntKind.i64.wrap ((IntKind.i64.wrap (a1 * (37 : Int))) + (11 : Int))) a2)))) rfl ?_
      refine so_nil ?_
      exact by_ret rfl ⟨_, h, rfl, rfl⟩

end Go.Proofs.Ytecdkjnomkdbkaa.G

namespace Go.Proofs.Ytecdkjnomkdbkaa.G
open Go Go.Ab Go.Proofs Go.Proofs.Ytecdkjnomkdbkaa
set_option maxRecDepth 100000
set_option linter.unusedVariables false
set_option linter.unusedSimpArgs false
set_option maxHeartbeats 1000000
attribute [local irreducible] wops wopf Go.Ab.Fin
theorem F54.ag2 : tagg Try.prog 2 = some false := by kernel_rfl
theorem F54.ag23 : tagg Try.prog 23 = some false := by kernel_rfl
theorem F54.fd49_0 : tfield Try.prog 49 0 = some (0, 1, false) := by kernel_rfl
theorem F54.fd49_1 : tfield Try.prog 49 1 = some (1, 1, false) := by kernel_rfl
theorem F54.fl23 : tflt Try.prog 23 = some .f32 := by kernel_rfl
theorem F54.in23 : tint Try.prog 23 = none := by kernel_rfl
theorem F54.inf49 : (Try.prog.info? 49).isSome = true := by kernel_rfl
theorem F54.us2 : (Try.prog.underlying 2).isSome = true := by kernel_rfl
theorem impl_SlopeCuts_1_ok {fr : List Pc} {H : Heap} (a0 : Int) (a1 : Nat) (i2 o2 : Nat) (a2 : Nat) (hs : Sep H (fr)) (q2 : ∀ H, Sep H fr → PtAt H i2 o2 [(.flt .f32 a2)]) (K : Nat → Prop) (h : impl_SlopeCuts_1.wp a0 a1 a2 K) : OkQ Try.prog 54 [(.g [(.int .i64 a0), (.flt .f32 a1)]), (.v (.ptr i2 o2))] H (fun r H2 => ∃ (y0 : Nat), K y0 ∧ r = (.v (.flt .f32 y0)) ∧ Sep H2 (fr)) := by
  unfold impl_SlopeCuts_1.wp at h
  refine of_body Try.f54 F.hm Try.func54 rfl Try.call54 (by kernel_rfl) (by simp) ?_
  refine fi_seq ?_
  refine fi_region ?_
  refine sv_box hs rfl (c := [(.int .i64 a0), (.flt .f32 a1)]) rfl F54.inf49 (stc rfl (stc rfl stn)) nofun (fun id101 H102 hs => ?_)
  refine so_assign (v := (.v (.flt .f32 (cz .f32 0)))) rfl ?_
  refine so_nil ?_
  refine fi_seq ?_
  refine fi_region ?_
  refine so_fieldAddr rfl F54.fd49_1 ?_
  refine sv_ld hs 0 rfl rfl rfl F54.ag23 ?_
  refine su_ld (q2 _ hs.tl) 0 rfl rfl F54.ag23 ?_
  refine so_fieldAddr rfl F54.fd49_0 ?_
  refine sv_ld hs 0 rfl rfl rfl F54.ag2 ?_
  refine sv_if rfl F54.us2 F54.in23 F54.fl23 ?_
  refine so_bin rfl rfl ab_fmul ?_
  refine so_bin rfl rfl ab_fadd ?_
  refine so_assign (v := (.v (.flt .f32 (fop .add .f32 a1 (fop .mul .f32 a2 (itof .f32 a0)))))) rfl ?_
  refine so_nil ?_
  exact by_ret rfl ⟨_, h, rfl, (Sep.del 0 hs)⟩

end Go.Proofs.Ytecdkjnomkdbkaa.G

namespace Go.Proofs.Ytecdkjnomkdbkaa.G
open Go Go.Ab Go.Proofs Go.Proofs.Ytecdkjnomkdbkaa
set_option maxRecDepth 100000
set_option linter.unusedVariables false
set_option linter.unusedSimpArgs false
set_option maxHeartbeats 1000000
attribute [local irreducible] wops wopf Go.Ab.Fin
theorem F23.ag2 : tagg Try.prog 2 = some false := by kernel_rfl
theorem F23.ag23 : tagg Try.prog 23 = some false := by kernel_rfl
theorem F23.ag47 : tagg Try.prog 47 = some false := by kernel_rfl
theorem F23.ag49 : tagg Try.prog 49 = some true := by kernel_rfl
theorem F23.fd49_0 : tfield Try.prog 49 0 = some (0, 1, false) := by kernel_rfl
theorem F23.fd49_1 : tfield Try.prog 49 1 = some (1, 1, false) := by kernel_rfl
theorem F23.inf23 : (Try.prog.info? 23).isSome = true := by kernel_rfl
theorem F23.sz2 : tsz Try.prog 2 = some 1 := by kernel_rfl
theorem F23.sz49 : tsz Try.prog 49 = some 2 := by kernel_rfl
theorem F23.ta22_22 : tapp Try.prog 22 22 = some (1, 8) := by kernel_rfl
theorem F23.te22 : telem Try.prog 22 = some 2 := by kernel_rfl
theorem F23.ti35 : (telem Try.prog 35).isSome = true := by kernel_rfl
theorem F23.ti47 : (telem Try.prog 47).isSome = true := by kernel_rfl
theorem F23.tl35 : (telem Try.prog 35).bind (tsz Try.prog) = some 1 := by kernel_rfl
theorem F23.tl47 : (telem Try.prog 47).bind (tsz Try.prog) = some 2 := by kernel_rfl
theorem F23.ze2 : tzero Try.prog 2 = some [(.int .i64 (0 : Int))] := by kernel_rfl
theorem F23.ze49 : tzero Try.prog 49 = some [(.int .i64 (0 : Int)), (.flt .f32 (0 : Nat))] := by kernel_rfl
theorem impl_SlopeCuts_ok {fr : List Pc} {H : Heap} (v0 : AV) (w0 : List (List AV)) (l0 : List (List ((Int) × (Nat)))) (a1 : Nat) (hs : Sep H (fr)) (g0 : ∀ H, Sep H fr → DSh H v0 1 R_LePair_eInt_i64_eFlt_f32_o l0 w0) (K : (List (Int)) → Int → Nat → Bool → Prop) (h : impl_SlopeCuts.wp l0 a1 K) : OkQ Try.prog 23 [(.v v0), (.v (.flt .f32 a1))] H (fun r H2 => ∃ (y0 : List (Int)) (y1 : Int) (y2 : Nat) (y3 : Bool), K y0 y1 y2 y3 ∧ ∃ (w0_ : AV), r = (.t [(.v w0_), (.v (.int .i64 y1)), (.v (.flt .f32 y2)), (.v (.bool y3))]) ∧ Sep H2 (Pc.osl w0_ 1 (enc (eInt .i64) y0) :: fr)) := by
  unfold impl_SlopeCuts.wp at h
  refine of_body Try.f23 F.hm Try.func23 rfl Try.call23 (by kernel_rfl) (by simp) ?_
  refine fi_seq ?_
  refine fi_region ?_
  refine sv_box hs rfl (c := [(.flt .f32 a1)]) rfl F23.inf23 (stc rfl stn) nofun (fun id101 H102 hs => ?_)
  refine so_assign (v := (.v .nilsl)) rfl ?_
  refine so_assign (v := (.v (.int .i64 (0 : Int)))) rfl ?_
  refine so_assign (v := (.v (.flt .f32 (cz .f32 0)))) rfl ?_
  refine so_assign (v := (.v (.bool false))) rfl ?_
  refine so_nil ?_
  refine fi_seq ?_
  refine fi_seq ?_
  refine fi_region ?_
  refine so_move (v := (.v v0)) rfl ?_
  refine sv_callS (impl_areBlocks_ok v0 w0 l0 hs (fun _ hs => (g0 _ hs.tl)) _ h) (fun _ _ ⟨_, _, _, e⟩ => e) rfl rfl ?_
  clear h
  rintro _ _ ⟨y104, h, rfl, rfl⟩
  refine so_un rfl au_not ?_
  refine so_move (v := (.v (.bool (!y104)))) rfl ?_
  replace h := ofT h; rcases h with ⟨c106, h⟩ | ⟨c106, h⟩
  · refine so_gyes rfl (not_f c106) ?_
    refine sv_ld hs 0 rfl rfl rfl F23.ag23 ?_
    refine so_gyes rfl (not_f c106) ?_
    refine sv_callS (impl_isLeast_ok a1 hs  _ h) (fun _ _ ⟨_, _, _, e⟩ => e) rfl rfl ?_
    clear h
    rintro _ _ ⟨y107, h, rfl, rfl⟩
    refine so_gyes rfl (not_f c106) ?_
    refine so_un rfl au_not ?_
    refine so_pick_f (v := (.v (.bool (!y107)))) rfl (not_f c106) rfl ?_
    refine so_nil ?_
    replace h := ofT h; rcases h with ⟨c109, h⟩ | ⟨c109, h⟩
    · refine fi_false rfl (not_f c109) ?_
      refine fi_skip ?_
      refine fi_seq ?_
      refine fi_region ?_
      refine sv_bslice hs (eInt .i64) ([] : List (Int)) [] F23.te22 F23.sz2 F23.ze2 rfl rfl rfl rfl (fun _ => rfl) rfl (by decide) nofun (fun v110 H111 nv110 hs => ?_)
      refine so_assign (v := (.v v110)) rfl ?_
      refine so_assign (v := (.v (.int .i64 (0 : Int)))) rfl ?_
      refine so_assign (v := (.v (.flt .f32 (cz .f32 0)))) rfl ?_
      refine so_nil ?_
      refine fi_seq ?_
      refine fi_seq ?_
      refine fi_region ?_
      refine so_move (v := (.v v0)) rfl ?_
      refine sd_len ((g0 _ hs.tl.tl) : DSh _ _ 1 R_LePair_eInt_i64_eFlt_f32_o l0 w0) (by decide) rfl F23.ti35 ?_
      refine so_move (v := (.v (.int .i64 (0 : Int)))) rfl ?_
      refine so_nil ?_
      refine fi_block ?_
      refine fi_loop ?_
      refine fi_at [(3, (.v (.ptr id101 0))), (8, (.v v110)), (9, (.v (.int .i64 (0 : Int)))), (10, (.v (.flt .f32 (cz .f32 0)))), (26, (.v v0)), (27, (.v (.int .i64 (l0.length : Int)))), (28, (.v (.int .i64 (0 : Int))))] ⟨rfl, rfl, rfl, rfl, rfl, rfl, rfl, trivial⟩ ?_
      refine h (fun (out149 : List (Int)) (many151 : Int) (sum152 : Nat) (x153 : Int) => ∀ (s : Nat → TV) (H : Heap) (v150 : AV) (nv150 : v150 ≠ .nilsl), Sep H (Pc.osl v150 1 (enc (eInt .i64) out149) :: Pc.box id101 [(.flt .f32 a1)] :: fr) → Fin _ _ (updL s [(3, (.v (.ptr id101 0))), (8, (.v v150)), (9, (.v (.int .i64 many151))), (10, (.v (.flt .f32 sum152))), (26, (.v v0)), (27, (.v (.int .i64 (l0.length : Int)))), (28, (.v (.int .i64 x153)))]) H _) ?_ _ _ _ nv110 hs
      intro out149 many151 sum152 x153 h s183 H184 v150 nv150 hs
      refine fi_inLoop ?_
      refine fi_seq ?_
      refine fi_region ?_
      refine so_bin rfl rfl ab_lss ?_
      refine so_nil ?_
      refine fi_seq ?_
      replace h := ofP h; rcases h with ⟨c154, h⟩ | ⟨c154, h⟩
      · refine fi_true rfl (decide_eq_true c154) ?_
        refine fi_skip ?_
        refine fi_seq ?_
        refine fi_block ?_
        refine fi_seq ?_
        refine fi_region ?_
        obtain ⟨c155, h⟩ := h
        refine sd_idx ((g0 _ hs.tl.tl) : DSh _ _ 1 R_LePair_eInt_i64_eFlt_f32_o l0 w0) c155 ([] : List ((Int) × (Nat))) (by decide) rfl rfl F23.tl35 ?_
        refine su_ld ((((g0 _ hs.tl.tl) : DSh _ _ 1 R_LePair_eInt_i64_eFlt_f32_o l0 w0)).at (by decide) c155 ([] : List ((Int) × (Nat)))).2.2 0 (congrArg (fun c => c[0]?) ((((g0 _ hs.tl.tl) : DSh _ _ 1 R_LePair_eInt_i64_eFlt_f32_o l0 w0)).at (by decide) c155 ([] : List ((Int) × (Nat)))).2.1.1) rfl F23.ag47 ?_
        refine so_assign (v := (.v ((w0.getD (x153).toNat []).getD 0 .und))) rfl ?_
        refine so_nil ?_
        refine fi_seq ?_
        refine fi_region ?_
        refine so_makeFunc rfl ?_
        refine so_assign (v := (.v (.fn 54 [(id101, 0)]))) rfl ?_
        refine so_nil ?_
        refine fi_seq ?_
        refine fi_region ?_
        refine so_assign (v := (.v (.int .i64 (0 : Int)))) rfl ?_
        refine so_nil ?_
        refine fi_seq ?_
        refine fi_seq ?_
        refine fi_region ?_
        refine so_move (v := (.v ((w0.getD (x153).toNat []).getD 0 .und))) rfl ?_
        refine sv_len ((((g0 _ hs.tl.tl) : DSh _ _ 1 R_LePair_eInt_i64_eFlt_f32_o l0 w0)).at (by decide) c155 ([] : List ((Int) × (Nat)))).2.1.2 (fun _ => rfl) (by decide) rfl F23.ti47 ?_
        refine so_move (v := (.v (.int .i64 (0 : Int)))) rfl ?_
        refine so_nil ?_
        refine fi_block ?_
        refine fi_loop ?_
        refine fi_at [(3, (.v (.ptr id101 0))), (8, (.v v150)), (9, (.v (.int .i64 many151))), (10, (.v (.flt .f32 sum152))), (12, (.v ((w0.getD (x153).toNat []).getD 0 .und))), (13, (.v (.fn 54 [(id101, 0)]))), (14, (.v (.int .i64 (0 : Int)))), (26, (.v v0)), (27, (.v (.int .i64 (l0.length : Int)))), (28, (.v (.int .i64 x153))), (33, (.v ((w0.getD (x153).toNat []).getD 0 .und))), (34, (.v (.int .i64 ((l0.getD (x153).toNat ([] : List ((Int) × (Nat)))).length : Int)))), (35, (.v (.int .i64 (0 : Int))))] ⟨rfl, rfl, rfl, rfl, rfl, rfl, rfl, rfl, rfl, rfl, rfl, rfl, rfl, trivial⟩ ?_
        refine h (fun (best157 : Int) (x158 : Int) => ∀ (s : Nat → TV) (H : Heap), Sep H (Pc.osl v150 1 (enc (eInt .i64) out149) :: Pc.box id101 [(.flt .f32 a1)] :: fr) → Fin _ _ (updL s [(3, (.v (.ptr id101 0))), (8, (.v v150)), (9, (.v (.int .i64 many151))), (10, (.v (.flt .f32 sum152))), (12, (.v ((w0.getD (x153).toNat []).getD 0 .und))), (13, (.v (.fn 54 [(id101, 0)]))), (14, (.v (.int .i64 best157))), (26, (.v v0)), (27, (.v (.int .i64 (l0.length : Int)))), (28, (.v (.int .i64 x153))), (33, (.v ((w0.getD (x153).toNat []).getD 0 .und))), (34, (.v (.int .i64 ((l0.getD (x153).toNat ([] : List ((Int) × (Nat)))).length : Int)))), (35, (.v (.int .i64 x158)))]) H _) ?_ _ _ hs
        intro best157 x158 h s178 H179 hs
        refine fi_inLoop ?_
        refine fi_seq ?_
        refine fi_region ?_
        refine so_bin rfl rfl ab_lss ?_
        refine so_nil ?_
        refine fi_seq ?_
        replace h := ofP h; rcases h with ⟨c159, h⟩ | ⟨c159, h⟩
        · refine fi_true rfl (decide_eq_true c159) ?_
          refine fi_skip ?_
          refine fi_seq ?_
          refine fi_block ?_
          refine fi_seq ?_
          refine fi_region ?_
          refine so_move (v := (.v (.int .i64 x158))) rfl ?_
          obtain ⟨c160, h⟩ := h
          refine sv_idx ((((g0 _ hs.tl.tl) : DSh _ _ 1 R_LePair_eInt_i64_eFlt_f32_o l0 w0)).at (by decide) c155 ([] : List ((Int) × (Nat)))).2.1.2 c160 (fun _ => rfl) (by decide) rfl rfl F23.tl47 ?_
          refine sv_elem ((((g0 _ hs.tl.tl) : DSh _ _ 1 R_LePair_eInt_i64_eFlt_f32_o l0 w0)).at (by decide) c155 ([] : List ((Int) × (Nat)))).2.1.2 c160 ((0 : Int), (0 : Nat)) (fun _ => rfl) (by decide) rfl F23.ag49 F23.sz49 ?_
          refine sv_alloc hs F23.ze49 rfl nofun (fun id161 H162 hs => ?_)
          refine so_assign (v := (.v (.int .i64 x158))) rfl ?_
          refine sv_st hs 0 rfl rfl rfl (c := [(.int .i64 ((l0.getD (x153).toNat ([] : List ((Int) × (Nat)))).getD (x158).toNat ((0 : Int), (0 : Nat))).1), (.flt .f32 ((l0.getD (x153).toNat ([] : List ((Int) × (Nat)))).getD (x158).toNat ((0 : Int), (0 : Nat))).2)]) rfl F23.sz49 rfl (stc rfl (stc rfl stn)) (leb rfl) (cs' := [(.int .i64 ((l0.getD (x153).toNat ([] : List ((Int) × (Nat)))).getD (x158).toNat ((0 : Int), (0 : Nat))).1), (.flt .f32 ((l0.getD (x153).toNat ([] : List ((Int) × (Nat)))).getD (x158).toNat ((0 : Int), (0 : Nat))).2)]) rfl nofun (fun H164 hs => ?_)
          refine so_nil ?_
          refine fi_seq ?_
          refine fi_free [6, 7] ?_
          refine wf_pure rfl (by kernel_rfl) ?_
          refine so_move (v := (.v (.fn 54 [(id101, 0)]))) rfl ?_
          refine so_end ?_
          refine wf_same (by decide +kernel) (by kernel_rfl) ?_
          refine sv_lds hs 0 rfl rfl (leb rfl) rfl F23.ag49 F23.sz49 ?_
          refine so_end ⟨rfl, ?_⟩
          have hs0_ := hs
          refine wf_chg (by kernel_rfl) ?_
          refine sv_callc (impl_SlopeCuts_1_ok ((l0.getD (x153).toNat ([] : List ((Int) × (Nat)))).getD (x158).toNat ((0 : Int), (0 : Nat))).1 ((l0.getD (x153).toNat ([] : List ((Int) × (Nat)))).getD (x158).toNat ((0 : Int), (0 : Nat))).2 id101 0 a1 hs (fun _ hs => (hs.ptat 2 rfl)) _ h) rfl rfl nofun ?_
          clear h
          rintro _ H166 ⟨y165, h, rfl, hs⟩
          refine so_end ⟨fan, ?_⟩
          refine wf_pure rfl (by kernel_rfl) ?_
          refine so_move (v := (.v (.fn 54 [(id101, 0)]))) rfl ?_
          refine so_end ?_
          refine wf_pure rfl (by kernel_rfl) ?_
          refine so_move (v := (.v ((w0.getD (x153).toNat []).getD 0 .und))) rfl ?_
          refine so_end ?_
          refine wf_pure rfl (by kernel_rfl) ?_
          refine so_move (v := (.v (.int .i64 best157))) rfl ?_
          refine so_end ?_
          obtain ⟨c167, h⟩ := h
          refine wf_free (.v (.ptr ((w0.getD (x153).toNat []).getD 0 .und).id0 (((w0.getD (x153).toNat []).getD 0 .und).of0 + (best157).toNat * 2))) rfl (by kernel_rfl) (stepr (i := 0) rfl (by refine sv_idx ((((g0 _ hs.tl.tl.tl) : DSh _ _ 1 R_LePair_eInt_i64_eFlt_f32_o l0 w0)).at (by decide) c155 ([] : List ((Int) × (Nat)))).2.1.2 c167 (fun _ => rfl) (by decide) rfl rfl F23.tl47 ?_; exact so_end ⟨rfl, rfl⟩)) (fac (.inr (stepr (i := 0) rfl (by refine sv_idx ((((g0 _ hs0_.tl.tl.tl) : DSh _ _ 1 R_LePair_eInt_i64_eFlt_f32_o l0 w0)).at (by decide) c155 ([] : List ((Int) × (Nat)))).2.1.2 c167 (fun _ => rfl) (by decide) rfl rfl F23.tl47 ?_; exact so_end ⟨rfl, rfl⟩))) fan) ?_
          refine wf_free (.g [(.int .i64 ((l0.getD (x153).toNat ([] : List ((Int) × (Nat)))).getD (best157).toNat ((0 : Int), (0 : Nat))).1), (.flt .f32 ((l0.getD (x153).toNat ([] : List ((Int) × (Nat)))).getD (best157).toNat ((0 : Int), (0 : Nat))).2)]) rfl (by kernel_rfl) (stepr (i := 0) rfl (by refine sv_elem ((((g0 _ hs.tl.tl.tl) : DSh _ _ 1 R_LePair_eInt_i64_eFlt_f32_o l0 w0)).at (by decide) c155 ([] : List ((Int) × (Nat)))).2.1.2 c167 ((0 : Int), (0 : Nat)) (fun _ => rfl) (by decide) rfl F23.ag49 F23.sz49 ?_; exact so_end ⟨rfl, rfl⟩)) (fac (.inr (stepr (i := 0) rfl (by refine sv_elem ((((g0 _ hs0_.tl.tl.tl) : DSh _ _ 1 R_LePair_eInt_i64_eFlt_f32_o l0 w0)).at (by decide) c155 ([] : List ((Int) × (Nat)))).2.1.2 c167 ((0 : Int), (0 : Nat)) (fun _ => rfl) (by decide) rfl F23.ag49 F23.sz49 ?_; exact so_end ⟨rfl, rfl⟩))) fan) ?_
          have hs1_ := hs
          refine wf_chg (by kernel_rfl) ?_
          refine sv_callc (impl_SlopeCuts_1_ok ((l0.getD (x153).toNat ([] : List ((Int) × (Nat)))).getD (best157).toNat ((0 : Int), (0 : Nat))).1 ((l0.getD (x153).toNat ([] : List ((Int) × (Nat)))).getD (best157).toNat ((0 : Int), (0 : Nat))).2 id101 0 a1 hs (fun _ hs => (hs.ptat 2 rfl)) _ h) rfl rfl nofun ?_
          clear h
          rintro _ H169 ⟨y168, h, rfl, hs⟩
          refine so_end ⟨(fac (.inl ⟨8, by kernel_rfl⟩) (fac (.inl ⟨8, by kernel_rfl⟩) fan)), ?_⟩
          refine wf_pure rfl (by kernel_rfl) ?_
          refine so_bin rfl rfl ab_flss ?_
          refine so_end ?_
          refine wf_nil ?_
          replace h := ofT h; rcases h with ⟨c170, h⟩ | ⟨c170, h⟩
          · refine fi_true rfl c170 ?_
            refine fi_region ?_
            refine so_move (v := (.v (.int .i64 x158))) rfl ?_
            refine so_assign (v := (.v (.int .i64 x158))) rfl ?_
            refine so_nil ?_
            refine fi_inBlock ?_
            refine fi_region ?_
            refine so_bin rfl rfl ab_add ?_
            refine so_move (v := (.v (.int .i64 (IntKind.i64.wrap (x158 + (1 : Int)))))) rfl ?_
            refine so_nil ?_
            exact fi_at [(3, (.v (.ptr id101 0))), (8, (.v v150)), (9, (.v (.int .i64 many151))), (10, (.v (.flt .f32 sum152))), (12, (.v ((w0.getD (x153).toNat []).getD 0 .und))), (13, (.v (.fn 54 [(id101, 0)]))), (14, (.v (.int .i64 x158))), (26, (.v v0)), (27, (.v (.int .i64 (l0.length : Int)))), (28, (.v (.int .i64 x153))), (33, (.v ((w0.getD (x153).toNat []).getD 0 .und))), (34, (.v (.int .i64 ((l0.getD (x153).toNat ([] : List ((Int) × (Nat)))).length : Int)))), (35, (.v (.int .i64 (IntKind.i64.wrap (x158 + (1 : Int))))))] ⟨rfl, rfl, rfl, rfl, rfl, rfl, rfl, rfl, rfl, rfl, rfl, rfl, rfl, trivial⟩ (h _ _  (Sep.del 0 hs))
          · refine fi_false rfl c170 ?_
            refine fi_skip ?_
            refine fi_inBlock ?_
            refine fi_region ?_
            refine so_bin rfl rfl ab_add ?_
            refine so_move (v := (.v (.int .i64 (IntKind.i64.wrap (x158 + (1 : Int)))))) rfl ?_
            refine so_nil ?_
            exact fi_at [(3, (.v (.ptr id101 0))), (8, (.v v150)), (9, (.v (.int .i64 many151))), (10, (.v (.flt .f32 sum152))), (12, (.v ((w0.getD (x153).toNat []).getD 0 .und))), (13, (.v (.fn 54 [(id101, 0)]))), (14, (.v (.int .i64 best157))), (26, (.v v0)), (27, (.v (.int .i64 (l0.length : Int)))), (28, (.v (.int .i64 x153))), (33, (.v ((w0.getD (x153).toNat []).getD 0 .und))), (34, (.v (.int .i64 ((l0.getD (x153).toNat ([] : List ((Int) × (Nat)))).length : Int)))), (35, (.v (.int .i64 (IntKind.i64.wrap (x158 + (1 : Int))))))] ⟨rfl, rfl, rfl, rfl, rfl, rfl, rfl, rfl, rfl, rfl, rfl, rfl, rfl, trivial⟩ (h _ _  (Sep.del 0 hs))
        · refine fi_false rfl (decide_eq_false c159) ?_
          refine fi_exit rfl ?_
          refine fi_seq ?_
          refine fi_region ?_
          refine so_move (v := (.v v150)) rfl ?_
          refine so_move (v := (.v (.int .i64 best157))) rfl ?_
          refine sv_bslice hs (eInt .i64) ([best157] : List (Int)) [[(.int .i64 best157)]] F23.te22 F23.sz2 F23.ze2 rfl rfl rfl rfl (fun _ => rfl) rfl (by decide) nofun (fun v171 H172 nv171 hs => ?_)
          obtain ⟨c176, h⟩ := h
          refine sv_app hs 1 rfl (hs.shows 0 rfl) (fun _ => rfl) (by decide) F23.ta22_22 (by decide) c176 rfl rfl nofun (fun v174 H175 kv174 hs => ?_)
          replace hs := hs.del 0
          have nv174 := kv174 nv150
          refine so_assign (v := (.v v174)) rfl ?_
          refine so_nil ?_
          refine fi_seq ?_
          refine fi_region ?_
          refine so_move (v := (.v (.int .i64 many151))) rfl ?_
          refine so_move (v := (.v ((w0.getD (x153).toNat []).getD 0 .und))) rfl ?_
          refine so_move (v := (.v (.int .i64 best157))) rfl ?_
          obtain ⟨c177, h⟩ := h
          refine sv_idx ((((g0 _ hs.tl.tl) : DSh _ _ 1 R_LePair_eInt_i64_eFlt_f32_o l0 w0)).at (by decide) c155 ([] : List ((Int) × (Nat)))).2.1.2 c177 (fun _ => rfl) (by decide) rfl rfl F23.tl47 ?_
          refine so_fieldAddr rfl F23.fd49_0 ?_
          refine sv_cell ((((g0 _ hs.tl.tl) : DSh _ _ 1 R_LePair_eInt_i64_eFlt_f32_o l0 w0)).at (by decide) c155 ([] : List ((Int) × (Nat)))).2.1.2 c177 ((0 : Int), (0 : Nat)) 0 (fun x => (AV.int .i64 x.1)) (fun _ => rfl) (fun _ => rfl) rfl F23.ag2 ?_
          refine so_bin rfl rfl ab_add ?_
          refine so_assign (v := (.v (.int .i64 (IntKind.i64.wrap (many151 + ((l0.getD (x153).toNat ([] : List ((Int) × (Nat)))).getD (best157).toNat ((0 : Int), (0 : Nat))).1))))) rfl ?_
          refine so_nil ?_
          refine fi_region ?_
          refine so_move (v := (.v (.flt .f32 sum152))) rfl ?_
          refine so_move (v := (.v ((w0.getD (x153).toNat []).getD 0 .und))) rfl ?_
          refine so_move (v := (.v (.int .i64 best157))) rfl ?_
          refine sv_idx ((((g0 _ hs.tl.tl) : DSh _ _ 1 R_LePair_eInt_i64_eFlt_f32_o l0 w0)).at (by decide) c155 ([] : List ((Int) × (Nat)))).2.1.2 c177 (fun _ => rfl) (by decide) rfl rfl F23.tl47 ?_
          refine so_fieldAddr rfl F23.fd49_1 ?_
          refine sv_cell ((((g0 _ hs.tl.tl) : DSh _ _ 1 R_LePair_eInt_i64_eFlt_f32_o l0 w0)).at (by decide) c155 ([] : List ((Int) × (Nat)))).2.1.2 c177 ((0 : Int), (0 : Nat)) 1 (fun x => (AV.flt .f32 x.2)) (fun _ => rfl) (fun _ => rfl) rfl F23.ag23 ?_
          refine so_bin rfl rfl ab_fadd ?_
          refine so_assign (v := (.v (.flt .f32 (fop .add .f32 sum152 ((l0.getD (x153).toNat ([] : List ((Int) × (Nat)))).getD (best157).toNat ((0 : Int), (0 : Nat))).2)))) rfl ?_
          refine so_nil ?_
          refine fi_inBlock ?_
          refine fi_region ?_
          refine so_bin rfl rfl ab_add ?_
          refine so_move (v := (.v (.int .i64 (IntKind.i64.wrap (x153 + (1 : Int)))))) rfl ?_
          refine so_nil ?_
          exact fi_at [(3, (.v (.ptr id101 0))), (8, (.v v174)), (9, (.v (.int .i64 (IntKind.i64.wrap (many151 + ((l0.getD (x153).toNat ([] : List ((Int) × (Nat)))).getD (best157).toNat ((0 : Int), (0 : Nat))).1))))), (10, (.v (.flt .f32 (fop .add .f32 sum152 ((l0.getD (x153).toNat ([] : List ((Int) × (Nat)))).getD (best157).toNat ((0 : Int), (0 : Nat))).2)))), (26, (.v v0)), (27, (.v (.int .i64 (l0.length : Int)))), (28, (.v (.int .i64 (IntKind.i64.wrap (x153 + (1 : Int))))))] ⟨rfl, rfl, rfl, rfl, rfl, rfl, rfl, trivial⟩ (h _ _ _ nv174 hs)
      · refine fi_false rfl (decide_eq_false c154) ?_
        refine fi_exit rfl ?_
        refine fi_seq ?_
        refine fi_seq ?_
        refine fi_region ?_
        refine so_move (v := (.v (.flt .f32 sum152))) rfl ?_
        refine sv_callS (impl_IsFinite_ok sum152 hs  _ h) (fun _ _ ⟨_, _, _, e⟩ => e) rfl rfl ?_
        clear h
        rintro _ _ ⟨y180, h, rfl, rfl⟩
        refine so_un rfl au_not ?_
        refine so_nil ?_
        replace h := ofT h; rcases h with ⟨c182, h⟩ | ⟨c182, h⟩
        · refine fi_false rfl (not_f c182) ?_
          refine fi_skip ?_
          refine fi_seq ?_
          refine fi_region ?_
          refine so_move (v := (.v v150)) rfl ?_
          refine so_move (v := (.v (.int .i64 many151))) rfl ?_
          refine so_move (v := (.v (.flt .f32 sum152))) rfl ?_
          refine so_assign (v := (.v v150)) rfl ?_
          refine so_assign (v := (.v (.int .i64 many151))) rfl ?_
          refine so_assign (v := (.v (.flt .f32 sum152))) rfl ?_
          refine so_assign (v := (.v (.bool true))) rfl ?_
          refine so_nil ?_
          exact by_ret rfl ⟨_, _, _, _, h, _, rfl, (Sep.del 1 hs)⟩
        · refine fi_true rfl (not_t c182) ?_
          refine fi_seq ?_
          refine fi_region ?_
          refine so_assign (v := (.v .nilsl)) rfl ?_
          refine so_assign (v := (.v (.int .i64 (0 : Int)))) rfl ?_
          refine so_assign (v := (.v (.flt .f32 (cz .f32 0)))) rfl ?_
          refine so_assign (v := (.v (.bool false))) rfl ?_
          refine so_nil ?_
          exact by_ret rfl ⟨_, _, _, _, h, _, rfl, (Sep.nil (Sep.del 0 (Sep.del 0 hs)) 1)⟩
    · refine fi_true rfl (not_t c109) ?_
      refine fi_seq ?_
      refine fi_region ?_
      refine so_assign (v := (.v .nilsl)) rfl ?_
      refine so_assign (v := (.v (.int .i64 (0 : Int)))) rfl ?_
      refine so_assign (v := (.v (.flt .f32 (cz .f32 0)))) rfl ?_
      refine so_assign (v := (.v (.bool false))) rfl ?_
      refine so_nil ?_
      exact by_ret rfl ⟨_, _, _, _, h, _, rfl, (Sep.nil (Sep.del 0 hs) 1)⟩
  · refine so_gno rfl (not_t c106) ?_
    refine so_gno rfl (not_t c106) ?_
    refine so_gno rfl (not_t c106) ?_
    refine so_pick_t (v := (.v (.bool true))) rfl (not_t c106) rfl ?_
    refine so_nil ?_
    refine fi_true rfl rfl ?_
    refine fi_seq ?_
    refine fi_region ?_
    refine so_assign (v := (.v .nilsl)) rfl ?_
    refine so_assign (v := (.v (.int .i64 (0 : Int)))) rfl ?_
    refine so_assign (v := (.v (.flt .f32 (cz .f32 0)))) rfl ?_
    refine so_assign (v := (.v (.bool false))) rfl ?_
    refine so_nil ?_
    exact by_ret rfl ⟨_, _, _, _, h, _, rfl, (Sep.nil (Sep.del 0 hs) 1)⟩

end Go.Proofs.Ytecdkjnomkdbkaa.G

namespace Go.Proofs.Ytecdkjnomkdbkaa.G
open Go Go.Ab Go.Proofs Go.Proofs.Ytecdkjnomkdbkaa
set_option maxRecDepth 100000
set_option linter.unusedVariables false
set_option linter.unusedSimpArgs false
set_option maxHeartbeats 1000000
attribute [local irreducible] wops wopf Go.Ab.Fin
theorem laws_b10Gap_ok {fr : List Pc} {H : Heap} (a0 : Nat) (a1 : Nat) (hs : Sep H (fr))  (K : Nat → Prop) (h : laws_b10Gap.wp a0 a1 K) : OkQ Try.prog 24 [(.v (.flt .f64 a0)), (.v (.flt .f64 a1))] H (fun r H2 => ∃ (y0 : Nat), K y0 ∧ r = (.v (.flt .f64 y0)) ∧ H = H2) := by
  unfold laws_b10Gap.wp at h
  refine of_body Try.f24 F.hm Try.func24 rfl Try.call24 (by kernel_rfl) (by simp) ?_
  refine fi_seq ?_
  refine fi_region ?_
  refine so_assign (v := (.v (.flt .f64 (cz .f64 0)))) rfl ?_
  refine so_nil ?_
  refine fi_seq ?_
  refine fi_seq ?_
  refine fi_region ?_
  refine so_move (v := (.v (.flt .f64 a0))) rfl ?_
  refine so_move (v := (.v (.flt .f64 a1))) rfl ?_
  refine so_bin rfl rfl ab_flss ?_
  refine so_nil ?_
  replace h := ofT h; rcases h with ⟨c101, h⟩ | ⟨c101, h⟩
  · refine fi_true rfl c101 ?_
    refine fi_seq ?_
    refine fi_region ?_
    refine so_move (v := (.v (.flt .f64 a1))) rfl ?_
    refine so_move (v := (.v (.flt .f64 a0))) rfl ?_
    refine so_bin rfl rfl ab_fsub ?_
    refine so_assign (v := (.v (.flt .f64 (fop .sub .f64 a1 a0)))) rfl ?_
    refine so_nil ?_
    exact by_ret rfl ⟨_, h, rfl, rfl⟩
  · refine fi_false rfl c101 ?_
    refine fi_skip ?_
    refine fi_seq ?_
    refine fi_region ?_
    refine so_move (v := (.v (.flt .f64 a0))) rfl ?_
    refine so_move (v := (.v (.flt .f64 a1))) rfl ?_
    refine so_bin rfl rfl ab_fsub ?_
    refine so_assign (v := (.v (.flt .f64 (fop .sub .f64 a0 a1)))) rfl ?_
    refine so_nil ?_
    exact by_ret rfl ⟨_, h, rfl, rfl⟩

end Go.Proofs.Ytecdkjnomkdbkaa.G

namespace Go.Proofs.Ytecdkjnomkdbkaa.G
open Go Go.Ab Go.Proofs Go.Proofs.Ytecdkjnomkdbkaa
set_option maxRecDepth 100000
set_option linter.unusedVariables false
set_option linter.unusedSimpArgs false
set_option maxHeartbeats 1000000
attribute [local irreducible] wops wopf Go.Ab.Fin
theorem F25.ag2 : tagg Try.prog 2 = some false := by kernel_rfl
theorem F25.ti22 : (telem Try.prog 22).isSome = true := by kernel_rfl
theorem F25.tl22 : (telem Try.prog 22).bind (tsz Try.prog) = some 1 := by kernel_rfl
theorem laws_b10Ints_ok {fr : List Pc} {H : Heap} (v0 : AV) (l0 : List (Int)) (v1 : AV) (l1 : List (Int)) (hs : Sep H (fr)) (g0 : ∀ H, Sep H fr → Shows H v0 1 (enc (eInt .i64) l0)) (g1 : ∀ H, Sep H fr → Shows H v1 1 (enc (eInt .i64) l1)) (K : Bool → Prop) (h : laws_b10Ints.wp l0 l1 K) : OkQ Try.prog 25 [(.v v0), (.v v1)] H (fun r H2 => ∃ (y0 : Bool), K y0 ∧ r = (.v (.bool y0)) ∧ H = H2) := by
  unfold laws_b10Ints.wp at h
  refine of_body Try.f25 F.hm Try.func25 rfl Try.call25 (by kernel_rfl) (by simp) ?_
  refine fi_seq ?_
  refine fi_region ?_
  refine so_assign (v := (.v (.bool false))) rfl ?_
  refine so_nil ?_
  refine fi_seq ?_
  refine fi_seq ?_
  refine fi_region ?_
  refine so_move (v := (.v v0)) rfl ?_
  refine sv_len (g0 _ hs) (fun _ => rfl) (by decide) rfl F25.ti22 ?_
  refine so_move (v := (.v v1)) rfl ?_
  refine sv_len (g1 _ hs) (fun _ => rfl) (by decide) rfl F25.ti22 ?_
  refine so_bin rfl rfl ab_neq ?_
  refine so_nil ?_
  replace h := ofP h; rcases h with ⟨c101, h⟩ | ⟨c101, h⟩
  · refine fi_false rfl (not_f (decide_eq_true c101)) ?_
    refine fi_skip ?_
    refine fi_seq ?_
    refine fi_seq ?_
    refine fi_region ?_
    refine so_move (v := (.v v0)) rfl ?_
    refine sv_len (g0 _ hs) (fun _ => rfl) (by decide) rfl F25.ti22 ?_
    refine so_move (v := (.v (.int .i64 (0 : Int)))) rfl ?_
    refine so_nil ?_
    refine fi_block ?_
    refine fi_loop ?_
    refine fi_at [(0, (.v v0)), (1, (.v v1)), (12, (.v (.int .i64 (l0.length : Int)))), (13, (.v (.int .i64 (0 : Int))))] ⟨rfl, rfl, rfl, rfl, trivial⟩ ?_
    refine h (fun (x103 : Int) => ∀ (s : Nat → TV), Fin _ _ (updL s [(0, (.v v0)), (1, (.v v1)), (12, (.v (.int .i64 (l0.length : Int)))), (13, (.v (.int .i64 x103)))]) _ _) ?_ _
    intro x103 h s108
    refine fi_inLoop ?_
    refine fi_seq ?_
    refine fi_region ?_
    refine so_bin rfl rfl ab_lss ?_
    refine so_nil ?_
    refine fi_seq ?_
    replace h := ofP h; rcases h with ⟨c104, h⟩ | ⟨c104, h⟩
    · refine fi_true rfl (decide_eq_true c104) ?_
      refine fi_skip ?_
      refine fi_seq ?_
      refine fi_block ?_
      refine fi_seq ?_
      refine fi_region ?_
      refine so_move (v := (.v (.int .i64 x103))) rfl ?_
      refine so_assign (v := (.v (.int .i64 x103))) rfl ?_
      refine so_nil ?_
      refine fi_seq ?_
      refine fi_region ?_
      refine so_move (v := (.v v0)) rfl ?_
      refine so_move (v := (.v (.int .i64 x103))) rfl ?_
      obtain ⟨c105, h⟩ := h
      refine sv_idx (g0 _ hs) c105 (fun _ => rfl) (by decide) rfl rfl F25.tl22 ?_
      refine sv_cell (g0 _ hs) c105 (0 : Int) 0 (fun x => (AV.int .i64 x)) (fun _ => rfl) (fun _ => rfl) rfl F25.ag2 ?_
      refine so_move (v := (.v v1)) rfl ?_
      refine so_move (v := (.v (.int .i64 x103))) rfl ?_
      obtain ⟨c106, h⟩ := h
      refine sv_idx (g1 _ hs) c106 (fun _ => rfl) (by decide) rfl rfl F25.tl22 ?_
      refine sv_cell (g1 _ hs) c106 (0 : Int) 0 (fun x => (AV.int .i64 x)) (fun _ => rfl) (fun _ => rfl) rfl F25.ag2 ?_
      refine so_bin rfl rfl ab_neq ?_
      refine so_nil ?_
      replace h := ofP h; rcases h with ⟨c107, h⟩ | ⟨c107, h⟩
      · refine fi_false rfl (not_f (decide_eq_true c107)) ?_
        refine fi_skip ?_
        refine fi_inBlock ?_
        refine fi_region ?_
        refine so_bin rfl rfl ab_add ?_
        refine so_move (v := (.v (.int .i64 (IntKind.i64.wrap (x103 + (1 : Int)))))) rfl ?_
        refine so_nil ?_
        exact fi_at [(0, (.v v0)), (1, (.v v1)), (12, (.v (.int .i64 (l0.length : Int)))), (13, (.v (.int .i64 (IntKind.i64.wrap (x103 + (1 : Int))))))] ⟨rfl, rfl, rfl, rfl, trivial⟩ (h _)
      · refine fi_true rfl (not_t (decide_eq_false c107)) ?_
        refine fi_seq ?_
        refine fi_region ?_
        refine so_assign (v := (.v (.bool false))) rfl ?_
        refine so_nil ?_
        exact by_ret rfl ⟨_, h, rfl, rfl⟩
    · refine fi_false rfl (decide_eq_false c104) ?_
      refine fi_exit rfl ?_
      refine fi_seq ?_
      refine fi_region ?_
      refine so_assign (v := (.v (.bool true))) rfl ?_
      refine so_nil ?_
      exact by_ret rfl ⟨_, h, rfl, rfl⟩
  · refine fi_true rfl (not_t (decide_eq_false c101)) ?_
    refine fi_seq ?_
    refine fi_region ?_
    refine so_assign (v := (.v (.bool false))) rfl ?_
    refine so_nil ?_
    exact by_ret rfl ⟨_, h, rfl, rfl⟩

end Go.Proofs.Ytecdkjnomkdbkaa.G

namespace Go.Proofs.Ytecdkjnomkdbkaa.G
open Go Go.Ab Go.Proofs Go.Proofs.Ytecdkjnomkdbkaa
set_option maxRecDepth 100000
set_option linter.unusedVariables false
set_option linter.unusedSimpArgs false
set_option maxHeartbeats 1000000
attribute [local irreducible] wops wopf Go.Ab.Fin
theorem F100.xb100 : Try.f100.body = none := rfl
theorem F100.xe100 : Extern.find Try.f100 = some Extern.MathFloatBits.float32bits := by rfl
theorem F100.xf100 : (Extern.findNext Try.f100).isNone = true := by kernel_rfl
theorem F100.xn100 : (Try.f100.name == "runtime.NumGoroutine") = false := by kernel_rfl
theorem math_Float32bits_ok {fr : List Pc} {H : Heap} (x : Nat) (hs : Sep H fr) (K : Int → Prop) (h : math_Float32bits.wp x K) : OkQ Try.prog 100 [(.v (.flt .f32 x))] H (fun r H2 => ∃ y0 : Int, K y0 ∧ r = (.v (.int .u32 y0)) ∧ H = H2) := ⟨_, _, f32bits_ok Try.func100 F100.xn100 F100.xb100 F100.xf100 F100.xe100 x h.1, _, h.2, rfl, rfl⟩

end Go.Proofs.Ytecdkjnomkdbkaa.G

namespace Go.Proofs.Ytecdkjnomkdbkaa.G
open Go Go.Ab Go.Proofs Go.Proofs.Ytecdkjnomkdbkaa
set_option maxRecDepth 100000
set_option linter.unusedVariables false
set_option linter.unusedSimpArgs false
set_option maxHeartbeats 1000000
attribute [local irreducible] wops wopf Go.Ab.Fin
theorem F85.it2 : tint Try.prog 2 = some .i64 := by kernel_rfl
theorem F85.us126 : (Try.prog.underlying 126).isSome = true := by kernel_rfl
theorem spec_l01Bits_ok {fr : List Pc} {H : Heap} (a0 : Nat) (hs : Sep H (fr))  (K : Int → Prop) (h : spec_l01Bits.wp a0 K) : OkQ Try.prog 85 [(.v (.flt .f32 a0))] H (fun r H2 => ∃ (y0 : Int), K y0 ∧ r = (.v (.int .i64 y0)) ∧ H = H2) := by
  unfold spec_l01Bits.wp at h
  refine of_body Try.f85 F.hm Try.func85 rfl Try.call85 (by kernel_rfl) (by simp) ?_
  refine fi_seq ?_
  refine fi_region ?_
  refine so_assign (v := (.v (.int .i64 (0 : Int)))) rfl ?_
  refine so_nil ?_
  refine fi_seq ?_
  refine fi_seq ?_
  refine fi_region ?_
  refine so_move (v := (.v (.flt .f32 a0))) rfl ?_
  refine so_move (v := (.v (.flt .f32 a0))) rfl ?_
  refine so_bin rfl rfl ab_fneq ?_
  refine so_nil ?_
  replace h := ofT h; rcases h with ⟨c101, h⟩ | ⟨c101, h⟩
  · refine fi_true rfl c101 ?_
    refine fi_seq ?_
    refine fi_region ?_
    refine so_assign (v := (.v (.int .i64 (2143289344 : Int)))) rfl ?_
    refine so_nil ?_
    exact by_ret rfl ⟨_, h, rfl, rfl⟩
  · refine fi_false rfl c101 ?_
    refine fi_skip ?_
    refine fi_seq ?_
    refine fi_region ?_
    refine so_move (v := (.v (.flt .f32 a0))) rfl ?_
    refine sv_callS (math_Float32bits_ok a0 hs  _ h) (fun _ _ ⟨_, _, _, e⟩ => e) rfl rfl ?_
    clear h
    rintro _ _ ⟨y102, h, rfl, rfl⟩
    refine sv_ii rfl F85.us126 F85.it2 ?_
    refine so_assign (v := (.v (.int .i64 (IntKind.i64.wrap y102)))) rfl ?_
    refine so_nil ?_
    exact by_ret rfl ⟨_, h, rfl, rfl⟩

end Go.Proofs.Ytecdkjnomkdbkaa.G

namespace Go.Proofs.Ytecdkjnomkdbkaa.G
open Go Go.Ab Go.Proofs Go.Proofs.Ytecdkjnomkdbkaa
set_option maxRecDepth 100000
set_option linter.unusedVariables false
set_option linter.unusedSimpArgs false
set_option maxHeartbeats 1000000
attribute [local irreducible] wops wopf Go.Ab.Fin
theorem spec_l01Same_ok {fr : List Pc} {H : Heap} (a0 : Nat) (a1 : Nat) (hs : Sep H (fr))  (K : Bool → Prop) (h : spec_l01Same.wp a0 a1 K) : OkQ Try.prog 55 [(.v (.flt .f32 a0)), (.v (.flt .f32 a1))] H (fun r H2 => ∃ (y0 : Bool), K y0 ∧ r = (.v (.bool y0)) ∧ H = H2) := by
  unfold spec_l01Same.wp at h
  refine of_body Try.f55 F.hm Try.func55 rfl Try.call55 (by kernel_rfl) (by simp) ?_
  refine fi_seq ?_
  refine fi_region ?_
  refine so_assign (v := (.v (.bool false))) rfl ?_
  refine so_nil ?_
  refine fi_seq ?_
  refine fi_region ?_
  refine so_move (v := (.v (.flt .f32 a0))) rfl ?_
  refine sv_callS (spec_l01Bits_ok a0 hs  _ h) (fun _ _ ⟨_, _, _, e⟩ => e) rfl rfl ?_
  clear h
  rintro _ _ ⟨y101, h, rfl, rfl⟩
  refine so_move (v := (.v (.flt .f32 a1))) rfl ?_
  refine sv_callS (spec_l01Bits_ok a1 hs  _ h) (fun _ _ ⟨_, _, _, e⟩ => e) rfl rfl ?_
  clear h
  rintro _ _ ⟨y103, h, rfl, rfl⟩
  refine so_bin rfl rfl ab_eql ?_
  refine so_assign (v := (.v (.bool (decide (y101 = y103))))) rfl ?_
  refine so_nil ?_
  exact by_ret rfl ⟨_, h, rfl, rfl⟩

end Go.Proofs.Ytecdkjnomkdbkaa.G

namespace Go.Proofs.Ytecdkjnomkdbkaa.G
open Go Go.Ab Go.Proofs Go.Proofs.Ytecdkjnomkdbkaa
set_option maxRecDepth 100000
set_option linter.unusedVariables false
set_option linter.unusedSimpArgs false
set_option maxHeartbeats 1000000
attribute [local irreducible] wops wopf Go.Ab.Fin
theorem spec_SameNumber_ok {fr : List Pc} {H : Heap} (a0 : Nat) (a1 : Nat) (hs : Sep H (fr))  (K : Bool → Prop) (h : spec_SameNumber.wp a0 a1 K) : OkQ Try.prog 26 [(.v (.flt .f32 a0)), (.v (.flt .f32 a1))] H (fun r H2 => ∃ (y0 : Bool), K y0 ∧ r = (.v (.bool y0)) ∧ H = H2) := by
  unfold spec_SameNumber.wp at h
  refine of_body Try.f26 F.hm Try.func26 rfl Try.call26 (by kernel_rfl) (by simp) ?_
  refine fi_seq ?_
  refine fi_region ?_
  refine so_assign (v := (.v (.bool false))) rfl ?_
  refine so_nil ?_
  refine fi_seq ?_
  refine fi_region ?_
  refine so_move (v := (.v (.flt .f32 a0))) rfl ?_
  refine so_move (v := (.v (.flt .f32 a1))) rfl ?_
  refine sv_callS (spec_l01Same_ok a0 a1 hs  _ h) (fun _ _ ⟨_, _, _, e⟩ => e) rfl rfl ?_
  clear h
  rintro _ _ ⟨y101, h, rfl, rfl⟩
  refine so_assign (v := (.v (.bool y101))) rfl ?_
  refine so_nil ?_
  exact by_ret rfl ⟨_, h, rfl, rfl⟩

end Go.Proofs.Ytecdkjnomkdbkaa.G

namespace Go.Proofs.Ytecdkjnomkdbkaa.G
open Go Go.Ab Go.Proofs Go.Proofs.Ytecdkjnomkdbkaa
set_option maxRecDepth 100000
set_option linter.unusedVariables false
set_option linter.unusedSimpArgs false
set_option maxHeartbeats 1000000
attribute [local irreducible] wops wopf Go.Ab.Fin
theorem F27.ag2 : tagg Try.prog 2 = some false := by kernel_rfl
theorem F27.ag23 : tagg Try.prog 23 = some false := by kernel_rfl
theorem F27.fd49_0 : tfield Try.prog 49 0 = some (0, 1, false) := by kernel_rfl
theorem F27.fd49_1 : tfield Try.prog 49 1 = some (1, 1, false) := by kernel_rfl
theorem F27.fl23 : tflt Try.prog 23 = some .f32 := by kernel_rfl
theorem F27.in23 : tint Try.prog 23 = none := by kernel_rfl
theorem F27.sz2 : tsz Try.prog 2 = some 1 := by kernel_rfl
theorem F27.ta22_22 : tapp Try.prog 22 22 = some (1, 8) := by kernel_rfl
theorem F27.te22 : telem Try.prog 22 = some 2 := by kernel_rfl
theorem F27.ti47 : (telem Try.prog 47).isSome = true := by kernel_rfl
theorem F27.tl47 : (telem Try.prog 47).bind (tsz Try.prog) = some 2 := by kernel_rfl
theorem F27.us2 : (Try.prog.underlying 2).isSome = true := by kernel_rfl
theorem F27.ze2 : tzero Try.prog 2 = some [(.int .i64 (0 : Int))] := by kernel_rfl
theorem impl_EdgeCosts_ok {fr : List Pc} {H : Heap} (v0 : AV) (l0 : List ((Int) × (Nat))) (hs : Sep H (fr)) (g0 : ∀ H, Sep H fr → Shows H v0 2 (enc (ePair (eInt .i64) (eFlt .f32)) l0)) (K : (List (Int)) → Bool → Prop) (h : impl_EdgeCosts.wp l0 K) : OkQ Try.prog 27 [(.v v0)] H (fun r H2 => ∃ (y0 : List (Int)) (y1 : Bool), K y0 y1 ∧ ∃ (w0_ : AV), r = (.t [(.v w0_), (.v (.bool y1))]) ∧ Sep H2 (Pc.osl w0_ 1 (enc (eInt .i64) y0) :: fr)) := by
  unfold impl_EdgeCosts.wp at h
  refine of_body Try.f27 F.hm Try.func27 rfl Try.call27 (by kernel_rfl) (by simp) ?_
  refine fi_seq ?_
  refine fi_region ?_
  refine so_assign (v := (.v .nilsl)) rfl ?_
  refine so_assign (v := (.v (.bool false))) rfl ?_
  refine so_nil ?_
  refine fi_seq ?_
  refine fi_seq ?_
  refine fi_region ?_
  refine so_move (v := (.v v0)) rfl ?_
  refine sv_callS (impl_AreCosts_okS v0 l0 hs (fun _ hs => (g0 _ hs)) _ h) (fun _ _ ⟨_, _, _, e⟩ => e) rfl rfl ?_
  clear h
  rintro _ _ ⟨y101, h, rfl, rfl⟩
  refine so_un rfl au_not ?_
  refine so_nil ?_
  replace h := ofT h; rcases h with ⟨c103, h⟩ | ⟨c103, h⟩
  · refine fi_false rfl (not_f c103) ?_
    refine fi_skip ?_
    refine fi_seq ?_
    refine fi_region ?_
    refine sv_bslice hs (eInt .i64) ([(0 : Int)] : List (Int)) [[(.int .i64 (0 : Int))]] F27.te22 F27.sz2 F27.ze2 rfl rfl rfl rfl (fun _ => rfl) rfl (by decide) nofun (fun v104 H105 nv104 hs => ?_)
    refine so_assign (v := (.v v104)) rfl ?_
    refine so_nil ?_
    refine fi_seq ?_
    refine fi_seq ?_
    refine fi_region ?_
    refine so_assign (v := (.v (.int .i64 (0 : Int)))) rfl ?_
    refine so_nil ?_
    refine fi_block ?_
    refine fi_loop ?_
    refine fi_at [(0, (.v v0)), (4, (.v v104)), (5, (.v (.int .i64 (0 : Int))))] ⟨rfl, rfl, rfl, trivial⟩ ?_
    refine h (fun (out130 : List (Int)) (i132 : Int) => ∀ (s : Nat → TV) (H : Heap) (v131 : AV) (nv131 : v131 ≠ .nilsl), Sep H (Pc.osl v131 1 (enc (eInt .i64) out130) :: fr) → Fin _ _ (updL s [(0, (.v v0)), (4, (.v v131)), (5, (.v (.int .i64 i132)))]) H _) ?_ _ _ _ nv104 hs
    intro out130 i132 h s151 H152 v131 nv131 hs
    refine fi_inLoop ?_
    refine fi_seq ?_
    refine fi_seq ?_
    refine fi_region ?_
    refine so_move (v := (.v (.int .i64 i132))) rfl ?_
    refine so_move (v := (.v v0)) rfl ?_
    refine sv_len (g0 _ hs.tl) (fun _ => rfl) (by decide) rfl F27.ti47 ?_
    refine so_bin rfl rfl ab_sub ?_
    refine so_bin rfl rfl ab_lss ?_
    refine so_nil ?_
    replace h := ofP h; rcases h with ⟨c133, h⟩ | ⟨c133, h⟩
    · refine fi_true rfl (decide_eq_true c133) ?_
      refine fi_skip ?_
      refine fi_block ?_
      refine fi_seq ?_
      refine fi_region ?_
      refine so_move (v := (.v (.int .i64 i132))) rfl ?_
      refine so_assign (v := (.v (.int .i64 i132))) rfl ?_
      refine so_assign (v := (.v (.flt .f32 (cz .f32 0)))) rfl ?_
      refine so_nil ?_
      refine fi_seq ?_
      refine fi_seq ?_
      refine fi_region ?_
      refine so_move (v := (.v (.int .i64 i132))) rfl ?_
      refine so_bin rfl rfl ab_add ?_
      refine so_assign (v := (.v (.int .i64 (IntKind.i64.wrap (i132 + (1 : Int)))))) rfl ?_
      refine so_nil ?_
      refine fi_block ?_
      refine fi_loop ?_
      refine fi_at [(0, (.v v0)), (4, (.v v131)), (5, (.v (.int .i64 i132))), (6, (.v (.int .i64 i132))), (7, (.v (.flt .f32 (cz .f32 0)))), (8, (.v (.int .i64 (IntKind.i64.wrap (i132 + (1 : Int))))))] ⟨rfl, rfl, rfl, rfl, rfl, rfl, trivial⟩ ?_
      refine h (fun (next135 : Int) (best136 : Nat) (k137 : Int) => ∀ (s : Nat → TV) (H : Heap), Sep H (Pc.osl v131 1 (enc (eInt .i64) out130) :: fr) → Fin _ _ (updL s [(0, (.v v0)), (4, (.v v131)), (5, (.v (.int .i64 i132))), (6, (.v (.int .i64 next135))), (7, (.v (.flt .f32 best136))), (8, (.v (.int .i64 k137)))]) H _) ?_ _ _ hs
      intro next135 best136 k137 h s149 H150 hs
      refine fi_inLoop ?_
      refine fi_seq ?_
      refine fi_seq ?_
      refine fi_region ?_
      refine so_move (v := (.v (.int .i64 k137))) rfl ?_
      refine so_move (v := (.v v0)) rfl ?_
      refine sv_len (g0 _ hs.tl) (fun _ => rfl) (by decide) rfl F27.ti47 ?_
      refine so_bin rfl rfl ab_lss ?_
      refine so_nil ?_
      replace h := ofP h; rcases h with ⟨c138, h⟩ | ⟨c138, h⟩
      · refine fi_true rfl (decide_eq_true c138) ?_
        refine fi_skip ?_
        refine fi_seq ?_
        refine fi_block ?_
        refine fi_seq ?_
        refine fi_region ?_
        refine so_move (v := (.v v0)) rfl ?_
        refine so_move (v := (.v (.int .i64 i132))) rfl ?_
        obtain ⟨c139, h⟩ := h
        refine sv_idx (g0 _ hs.tl) c139 (fun _ => rfl) (by decide) rfl rfl F27.tl47 ?_
        refine so_fieldAddr rfl F27.fd49_1 ?_
        refine sv_cell (g0 _ hs.tl) c139 ((0 : Int), (0 : Nat)) 1 (fun x => (AV.flt .f32 x.2)) (fun _ => rfl) (fun _ => rfl) rfl F27.ag23 ?_
        refine so_move (v := (.v v0)) rfl ?_
        refine so_move (v := (.v (.int .i64 k137))) rfl ?_
        obtain ⟨c140, h⟩ := h
        refine sv_idx (g0 _ hs.tl) c140 (fun _ => rfl) (by decide) rfl rfl F27.tl47 ?_
        refine so_fieldAddr rfl F27.fd49_1 ?_
        refine sv_cell (g0 _ hs.tl) c140 ((0 : Int), (0 : Nat)) 1 (fun x => (AV.flt .f32 x.2)) (fun _ => rfl) (fun _ => rfl) rfl F27.ag23 ?_
        refine so_bin rfl rfl ab_fsub ?_
        refine so_move (v := (.v v0)) rfl ?_
        refine so_move (v := (.v (.int .i64 k137))) rfl ?_
        refine sv_idx (g0 _ hs.tl) c140 (fun _ => rfl) (by decide) rfl rfl F27.tl47 ?_
        refine so_fieldAddr rfl F27.fd49_0 ?_
        refine sv_cell (g0 _ hs.tl) c140 ((0 : Int), (0 : Nat)) 0 (fun x => (AV.int .i64 x.1)) (fun _ => rfl) (fun _ => rfl) rfl F27.ag2 ?_
        refine so_move (v := (.v v0)) rfl ?_
        refine so_move (v := (.v (.int .i64 i132))) rfl ?_
        refine sv_idx (g0 _ hs.tl) c139 (fun _ => rfl) (by decide) rfl rfl F27.tl47 ?_
        refine so_fieldAddr rfl F27.fd49_0 ?_
        refine sv_cell (g0 _ hs.tl) c139 ((0 : Int), (0 : Nat)) 0 (fun x => (AV.int .i64 x.1)) (fun _ => rfl) (fun _ => rfl) rfl F27.ag2 ?_
        refine so_bin rfl rfl ab_sub ?_
        refine sv_if rfl F27.us2 F27.in23 F27.fl23 ?_
        refine so_bin rfl rfl ab_fquo ?_
        refine so_assign (v := (.v (.flt .f32 (fop .quo .f32 (fop .sub .f32 (l0.getD (i132).toNat ((0 : Int), (0 : Nat))).2 (l0.getD (k137).toNat ((0 : Int), (0 : Nat))).2) (itof .f32 (IntKind.i64.wrap ((l0.getD (k137).toNat ((0 : Int), (0 : Nat))).1 - (l0.getD (i132).toNat ((0 : Int), (0 : Nat))).1))))))) rfl ?_
        refine so_nil ?_
        refine fi_seq ?_
        refine fi_region ?_
        refine so_move (v := (.v (.int .i64 next135))) rfl ?_
        refine so_move (v := (.v (.int .i64 i132))) rfl ?_
        refine so_bin rfl rfl ab_eql ?_
        refine so_move (v := (.v (.bool (decide (next135 = i132))))) rfl ?_
        replace h := ofP h; rcases h with ⟨c141, h⟩ | ⟨c141, h⟩
        · refine so_gno rfl (decide_eq_true c141) ?_
          refine so_gno rfl (decide_eq_true c141) ?_
          refine so_gno rfl (decide_eq_true c141) ?_
          refine so_pick_t (v := (.v (.bool true))) rfl (decide_eq_true c141) rfl ?_
          refine so_nil ?_
          refine fi_true rfl rfl ?_
          refine fi_region ?_
          refine so_move (v := (.v (.int .i64 k137))) rfl ?_
          refine so_move (v := (.v (.flt .f32 (fop .quo .f32 (fop .sub .f32 (l0.getD (i132).toNat ((0 : Int), (0 : Nat))).2 (l0.getD (k137).toNat ((0 : Int), (0 : Nat))).2) (itof .f32 (IntKind.i64.wrap ((l0.getD (k137).toNat ((0 : Int), (0 : Nat))).1 - (l0.getD (i132).toNat ((0 : Int), (0 : Nat))).1))))))) rfl ?_
          refine so_assign (v := (.v (.int .i64 k137))) rfl ?_
          refine so_assign (v := (.v (.flt .f32 (fop .quo .f32 (fop .sub .f32 (l0.getD (i132).toNat ((0 : Int), (0 : Nat))).2 (l0.getD (k137).toNat ((0 : Int), (0 : Nat))).2) (itof .f32 (IntKind.i64.wrap ((l0.getD (k137).toNat ((0 : Int), (0 : Nat))).1 - (l0.getD (i132).toNat ((0 : Int), (0 : Nat))).1))))))) rfl ?_
          refine so_nil ?_
          refine fi_inBlock ?_
          refine fi_region ?_
          refine so_move (v := (.v (.int .i64 k137))) rfl ?_
          refine so_bin rfl rfl ab_add ?_
          refine so_assign (v := (.v (.int .i64 (IntKind.i64.wrap (k137 + (1 : Int)))))) rfl ?_
          refine so_nil ?_
          exact fi_at [(0, (.v v0)), (4, (.v v131)), (5, (.v (.int .i64 i132))), (6, (.v (.int .i64 k137))), (7, (.v (.flt .f32 (fop .quo .f32 (fop .sub .f32 (l0.getD (i132).toNat ((0 : Int), (0 : Nat))).2 (l0.getD (k137).toNat ((0 : Int), (0 : Nat))).2) (itof .f32 (IntKind.i64.wrap ((l0.getD (k137).toNat ((0 : Int), (0 : Nat))).1 - (l0.getD (i132).toNat ((0 : Int), (0 : Nat))).1))))))), (8, (.v (.int .i64 (IntKind.i64.wrap (k137 + (1 : Int))))))] ⟨rfl, rfl, rfl, rfl, rfl, rfl, trivial⟩ (h _ _  hs)
        · refine so_gyes rfl (decide_eq_false c141) ?_
          refine so_move (v := (.v (.flt .f32 (fop .quo .f32 (fop .sub .f32 (l0.getD (i132).toNat ((0 : Int), (0 : Nat))).2 (l0.getD (k137).toNat ((0 : Int), (0 : Nat))).2) (itof .f32 (IntKind.i64.wrap ((l0.getD (k137).toNat ((0 : Int), (0 : Nat))).1 - (l0.getD (i132).toNat ((0 : Int), (0 : Nat))).1))))))) rfl ?_
          refine so_gyes rfl (decide_eq_false c141) ?_
          refine so_move (v := (.v (.flt .f32 best136))) rfl ?_
          refine so_gyes rfl (decide_eq_false c141) ?_
          refine so_bin rfl rfl ab_fgeq ?_
          refine so_pick_f (v := (.v (.bool (fcmp .geq .f32 (fop .quo .f32 (fop .sub .f32 (l0.getD (i132).toNat ((0 : Int), (0 : Nat))).2 (l0.getD (k137).toNat ((0 : Int), (0 : Nat))).2) (itof .f32 (IntKind.i64.wrap ((l0.getD (k137).toNat ((0 : Int), (0 : Nat))).1 - (l0.getD (i132).toNat ((0 : Int), (0 : Nat))).1)))) best136)))) rfl (decide_eq_false c141) rfl ?_
          refine so_nil ?_
          replace h := ofT h; rcases h with ⟨c142, h⟩ | ⟨c142, h⟩
          · refine fi_true rfl c142 ?_
            refine fi_region ?_
            refine so_move (v := (.v (.int .i64 k137))) rfl ?_
            refine so_move (v := (.v (.flt .f32 (fop .quo .f32 (fop .sub .f32 (l0.getD (i132).toNat ((0 : Int), (0 : Nat))).2 (l0.getD (k137).toNat ((0 : Int), (0 : Nat))).2) (itof .f32 (IntKind.i64.wrap ((l0.getD (k137).toNat ((0 : Int), (0 : Nat))).1 - (l0.getD (i132).toNat ((0 : Int), (0 : Nat))).1))))))) rfl ?_
            refine so_assign (v := (.v (.int .i64 k137))) rfl ?_
            refine so_assign (v := (.v (.flt .f32 (fop .quo .f32 (fop .sub .f32 (l0.getD (i132).toNat ((0 : Int), (0 : Nat))).2 (l0.getD (k137).toNat ((0 : Int), (0 : Nat))).2) (itof .f32 (IntKind.i64.wrap ((l0.getD (k137).toNat ((0 : Int), (0 : Nat))).1 - (l0.getD (i132).toNat ((0 : Int), (0 : Nat))).1))))))) rfl ?_
            refine so_nil ?_
            refine fi_inBlock ?_
            refine fi_region ?_
            refine so_move (v := (.v (.int .i64 k137))) rfl ?_
            refine so_bin rfl rfl ab_add ?_
            refine so_assign (v := (.v (.int .i64 (IntKind.i64.wrap (k137 + (1 : Int)))))) rfl ?_
            refine so_nil ?_
            exact fi_at [(0, (.v v0)), (4, (.v v131)), (5, (.v (.int .i64 i132))), (6, (.v (.int .i64 k137))), (7, (.v (.flt .f32 (fop .quo .f32 (fop .sub .f32 (l0.getD (i132).toNat ((0 : Int), (0 : Nat))).2 (l0.getD (k137).toNat ((0 : Int), (0 : Nat))).2) (itof .f32 (IntKind.i64.wrap ((l0.getD (k137).toNat ((0 : Int), (0 : Nat))).1 - (l0.getD (i132).toNat ((0 : Int), (0 : Nat))).1))))))), (8, (.v (.int .i64 (IntKind.i64.wrap (k137 + (1 : Int))))))] ⟨rfl, rfl, rfl, rfl, rfl, rfl, trivial⟩ (h _ _  hs)
          · refine fi_false rfl c142 ?_
            refine fi_skip ?_
            refine fi_inBlock ?_
            refine fi_region ?_
            refine so_move (v := (.v (.int .i64 k137))) rfl ?_
            refine so_bin rfl rfl ab_add ?_
            refine so_assign (v := (.v (.int .i64 (IntKind.i64.wrap (k137 + (1 : Int)))))) rfl ?_
            refine so_nil ?_
            exact fi_at [(0, (.v v0)), (4, (.v v131)), (5, (.v (.int .i64 i132))), (6, (.v (.int .i64 next135))), (7, (.v (.flt .f32 best136))), (8, (.v (.int .i64 (IntKind.i64.wrap (k137 + (1 : Int))))))] ⟨rfl, rfl, rfl, rfl, rfl, rfl, trivial⟩ (h _ _  hs)
      · refine fi_false rfl (decide_eq_false c138) ?_
        refine fi_exit rfl ?_
        refine fi_seq ?_
        refine fi_region ?_
        refine so_move (v := (.v (.int .i64 next135))) rfl ?_
        refine so_assign (v := (.v (.int .i64 next135))) rfl ?_
        refine so_nil ?_
        refine fi_region ?_
        refine so_move (v := (.v v131)) rfl ?_
        refine so_move (v := (.v (.int .i64 next135))) rfl ?_
        refine sv_bslice hs (eInt .i64) ([next135] : List (Int)) [[(.int .i64 next135)]] F27.te22 F27.sz2 F27.ze2 rfl rfl rfl rfl (fun _ => rfl) rfl (by decide) nofun (fun v143 H144 nv143 hs => ?_)
        obtain ⟨c148, h⟩ := h
        refine sv_app hs 1 rfl (hs.shows 0 rfl) (fun _ => rfl) (by decide) F27.ta22_22 (by decide) c148 rfl rfl nofun (fun v146 H147 kv146 hs => ?_)
        replace hs := hs.del 0
        have nv146 := kv146 nv131
        refine so_assign (v := (.v v146)) rfl ?_
        refine so_nil ?_
        refine fi_inBlock ?_
        exact fi_at [(0, (.v v0)), (4, (.v v146)), (5, (.v (.int .i64 next135)))] ⟨rfl, rfl, rfl, trivial⟩ (h _ _ _ nv146 hs)
    · refine fi_false rfl (decide_eq_false c133) ?_
      refine fi_exit rfl ?_
      refine fi_seq ?_
      refine fi_region ?_
      refine so_move (v := (.v v131)) rfl ?_
      refine so_assign (v := (.v v131)) rfl ?_
      refine so_assign (v := (.v (.bool true))) rfl ?_
      refine so_nil ?_
      exact by_ret rfl ⟨_, _, h, _, rfl, hs⟩
  · refine fi_true rfl (not_t c103) ?_
    refine fi_seq ?_
    refine fi_region ?_
    refine so_assign (v := (.v .nilsl)) rfl ?_
    refine so_assign (v := (.v (.bool false))) rfl ?_
    refine so_nil ?_
    exact by_ret rfl ⟨_, _, h, _, rfl, (Sep.nil hs 1)⟩

end Go.Proofs.Ytecdkjnomkdbkaa.G

