/-
  The model ends so. Printed by a program of the session; nothing here is trusted.
-/
import Derived.Test.YtfhlhgnipmgfdaaProg
import Derived.KernelRfl
import Derived.Test.YtfhlhgnipmgfdaaMHolesWa
import Derived.Test.YtfhlhgnipmgfdaaMHolesKa
namespace Go.Proofs.Ytfhlhgnipmgfdaa.G
open Go Go.Ab Go.Proofs Go.Proofs.Ytfhlhgnipmgfdaa
set_option maxRecDepth 100000
set_option linter.unusedVariables false
set_option linter.unusedSimpArgs false
set_option maxHeartbeats 1000000
attribute [local irreducible] wops wopf Go.Ab.Fin
theorem F70.ag26 : tagg Try.prog 26 = some false := by kernel_rfl
theorem F70.ti24 : (telem Try.prog 24).isSome = true := by kernel_rfl
theorem F70.tl24 : (telem Try.prog 24).bind (tsz Try.prog) = some 1 := by kernel_rfl
theorem spec_l02Finite_ok {fr : List Pc} {H : Heap} (v0 : AV) (l0 : List (Nat)) (hs : Sep H (fr)) (g0 : ∀ H, Sep H fr → Shows H v0 1 (enc (eFlt .f32) l0)) (K : Bool → Prop) (h : spec_l02Finite.wp l0 K) : OkQ Try.prog 70 [(.v v0)] H (fun r H2 => ∃ (y0 : Bool), K y0 ∧ r = (.v (.bool y0)) ∧ H = H2) := by
  unfold spec_l02Finite.wp at h
  refine of_body Try.f70 F.hm Try.func70 rfl Try.call70 (by kernel_rfl) (by simp) ?_
  refine fi_seq ?_
  refine fi_region ?_
  refine so_assign (v := (.v (.bool false))) rfl ?_
  refine so_nil ?_
  refine fi_seq ?_
  refine fi_seq ?_
  refine fi_region ?_
  refine so_assign (v := (.v (.int .i64 (0 : Int)))) rfl ?_
  refine so_nil ?_
  refine fi_block ?_
  refine fi_loop ?_
  refine fi_at [(0, (.v v0)), (3, (.v (.int .i64 (0 : Int))))] ⟨rfl, rfl, trivial⟩ ?_
  refine h (fun (i102 : Int) => ∀ (s : Nat → TV), Fin _ _ (updL s [(0, (.v v0)), (3, (.v (.int .i64 i102)))]) _ _) ?_ _
  intro i102 h s108
  refine fi_inLoop ?_
  refine fi_seq ?_
  refine fi_seq ?_
  refine fi_region ?_
  refine so_move (v := (.v (.int .i64 i102))) rfl ?_
  refine so_move (v := (.v v0)) rfl ?_
  refine sv_len (g0 _ hs) (fun _ => rfl) (by decide) rfl F70.ti24 ?_
  refine so_bin rfl rfl ab_lss ?_
  refine so_nil ?_
  replace h := ofP h; rcases h with ⟨c103, h⟩ | ⟨c103, h⟩
  · refine fi_true rfl (decide_eq_true c103) ?_
    refine fi_skip ?_
    refine fi_seq ?_
    refine fi_block ?_
    refine fi_seq ?_
    refine fi_region ?_
    refine so_move (v := (.v v0)) rfl ?_
    refine so_move (v := (.v (.int .i64 i102))) rfl ?_
    obtain ⟨c104, h⟩ := h
    refine sv_idx (g0 _ hs) c104 (fun _ => rfl) (by decide) rfl rfl F70.tl24 ?_
    refine sv_cell (g0 _ hs) c104 (0 : Nat) 0 (fun x => (AV.flt .f32 x)) (fun _ => rfl) (fun _ => rfl) rfl F70.ag26 ?_
    refine sv_callS (spec_l01Finite_ok (l0.getD (i102).toNat (0 : Nat)) hs  _ h) (fun _ _ ⟨_, _, _, e⟩ => e) rfl rfl ?_
    clear h
    rintro _ _ ⟨y105, h, rfl, rfl⟩
    refine so_un rfl au_not ?_
    refine so_nil ?_
    replace h := ofT h; rcases h with ⟨c107, h⟩ | ⟨c107, h⟩
    · refine fi_false rfl (not_f c107) ?_
      refine fi_skip ?_
      refine fi_inBlock ?_
      refine fi_region ?_
      refine so_move (v := (.v (.int .i64 i102))) rfl ?_
      refine so_bin rfl rfl ab_add ?_
      refine so_assign (v := (.v (.int .i64 (IntKind.i64.wrap (i102 + (1 : Int)))))) rfl ?_
      refine so_nil ?_
      exact fi_at [(0, (.v v0)), (3, (.v (.int .i64 (IntKind.i64.wrap (i102 + (1 : Int))))))] ⟨rfl, rfl, trivial⟩ (h _)
    · refine fi_true rfl (not_t c107) ?_
      refine fi_seq ?_
      refine fi_region ?_
      refine so_assign (v := (.v (.bool false))) rfl ?_
      refine so_nil ?_
      exact by_ret rfl ⟨_, h, rfl, rfl⟩
  · refine fi_false rfl (decide_eq_false c103) ?_
    refine fi_exit rfl ?_
    refine fi_seq ?_
    refine fi_region ?_
    refine so_assign (v := (.v (.bool true))) rfl ?_
    refine so_nil ?_
    exact by_ret rfl ⟨_, h, rfl, rfl⟩
theorem F62.ti24 : (telem Try.prog 24).isSome = true := by kernel_rfl
theorem spec_l03Long_ok {fr : List Pc} {H : Heap} (v0 : AV) (l0 : List (Nat)) (hs : Sep H (fr)) (g0 : ∀ H, Sep H fr → Shows H v0 1 (enc (eFlt .f32) l0)) (K : Bool → Prop) (h : spec_l03Long.wp l0 K) : OkQ Try.prog 62 [(.v v0)] H (fun r H2 => ∃ (y0 : Bool), K y0 ∧ r = (.v (.bool y0)) ∧ H = H2) := by
  unfold spec_l03Long.wp at h
  refine of_body Try.f62 F.hm Try.func62 rfl Try.call62 (by kernel_rfl) (by simp) ?_
  refine fi_seq ?_
  refine fi_region ?_
  refine so_assign (v := (.v (.bool false))) rfl ?_
  refine so_nil ?_
  refine fi_seq ?_
  refine fi_region ?_
  refine so_move (v := (.v v0)) rfl ?_
  refine sv_len (g0 _ hs) (fun _ => rfl) (by decide) rfl F62.ti24 ?_
  refine so_bin rfl rfl ab_geq ?_
  refine so_move (v := (.v (.bool (decide ((1 : Int) ≤ (l0.length : Int)))))) rfl ?_
  replace h := ofP h; rcases h with ⟨c101, h⟩ | ⟨c101, h⟩
  · refine so_gyes rfl (decide_eq_true c101) ?_
    refine so_move (v := (.v v0)) rfl ?_
    refine so_gyes rfl (decide_eq_true c101) ?_
    refine sv_len (g0 _ hs) (fun _ => rfl) (by decide) rfl F62.ti24 ?_
    refine so_gyes rfl (decide_eq_true c101) ?_
    refine so_bin rfl rfl ab_leq ?_
    refine so_pick_t (v := (.v (.bool (decide ((l0.length : Int) ≤ (128 : Int)))))) rfl (decide_eq_true c101) rfl ?_
    refine so_move (v := (.v (.bool (decide ((l0.length : Int) ≤ (128 : Int)))))) rfl ?_
    replace h := ofP h; rcases h with ⟨c102, h⟩ | ⟨c102, h⟩
    · refine so_gyes rfl (decide_eq_true c102) ?_
      refine so_move (v := (.v v0)) rfl ?_
      refine so_gyes rfl (decide_eq_true c102) ?_
      refine sv_callS (spec_l02Finite_ok v0 l0 hs (fun _ hs => (g0 _ hs)) _ h) (fun _ _ ⟨_, _, _, e⟩ => e) rfl rfl ?_
      clear h
      rintro _ _ ⟨y103, h, rfl, rfl⟩
      refine so_pick_t (v := (.v (.bool y103))) rfl (decide_eq_true c102) rfl ?_
      refine so_assign (v := (.v (.bool y103))) rfl ?_
      refine so_nil ?_
      exact by_ret rfl ⟨_, h, rfl, rfl⟩
    · refine so_gno rfl (decide_eq_false c102) ?_
      refine so_gno rfl (decide_eq_false c102) ?_
      refine so_pick_f (v := (.v (.bool false))) rfl (decide_eq_false c102) rfl ?_
      refine so_assign (v := (.v (.bool false))) rfl ?_
      refine so_nil ?_
      exact by_ret rfl ⟨_, h, rfl, rfl⟩
  · refine so_gno rfl (decide_eq_false c101) ?_
    refine so_gno rfl (decide_eq_false c101) ?_
    refine so_gno rfl (decide_eq_false c101) ?_
    refine so_pick_f (v := (.v (.bool false))) rfl (decide_eq_false c101) rfl ?_
    refine so_move (v := (.v (.bool false))) rfl ?_
    refine so_gno rfl rfl ?_
    refine so_gno rfl rfl ?_
    refine so_pick_f (v := (.v (.bool false))) rfl rfl rfl ?_
    refine so_assign (v := (.v (.bool false))) rfl ?_
    refine so_nil ?_
    exact by_ret rfl ⟨_, h, rfl, rfl⟩
theorem F63.ag24 : tagg Try.prog 24 = some false := by kernel_rfl
theorem F63.ag26 : tagg Try.prog 26 = some false := by kernel_rfl
theorem F63.fd46_0 : tfield Try.prog 46 0 = some (0, 1, false) := by kernel_rfl
theorem F63.ti24 : (telem Try.prog 24).isSome = true := by kernel_rfl
theorem F63.tl24 : (telem Try.prog 24).bind (tsz Try.prog) = some 1 := by kernel_rfl
theorem spec_l03Pair_ok {fr : List Pc} {H : Heap} (i0 o0 : Nat) (v0 : AV) (l0 : List (Nat)) (hs : Sep H (fr)) (g0 : ∀ H, Sep H fr → Shows H v0 1 (enc (eFlt .f32) l0)) (q0 : ∀ H, Sep H fr → PtAt H i0 o0 [v0]) (K : Bool → Prop) (h : spec_l03Pair.wp l0 K) : OkQ Try.prog 63 [(.v (.ptr i0 o0))] H (fun r H2 => ∃ (y0 : Bool), K y0 ∧ r = (.v (.bool y0)) ∧ H = H2) := by
  unfold spec_l03Pair.wp at h
  refine of_body Try.f63 F.hm Try.func63 rfl Try.call63 (by kernel_rfl) (by simp) ?_
  refine fi_seq ?_
  refine fi_region ?_
  refine so_assign (v := (.v (.bool false))) rfl ?_
  refine so_nil ?_
  refine fi_seq ?_
  refine fi_region ?_
  refine so_move (v := (.v (.ptr i0 o0))) rfl ?_
  refine so_nilCheck rfl ?_
  refine so_fieldAddr rfl F63.fd46_0 ?_
  refine su_ld (q0 _ hs) 0 rfl rfl F63.ag24 ?_
  refine sv_len (g0 _ hs) (fun _ => rfl) (by decide) rfl F63.ti24 ?_
  refine so_assign (v := (.v (.int .i64 (l0.length : Int)))) rfl ?_
  refine so_nil ?_
  refine fi_seq ?_
  refine fi_seq ?_
  refine fi_region ?_
  refine so_move (v := (.v (.int .i64 (l0.length : Int)))) rfl ?_
  refine so_bin rfl rfl ab_lss ?_
  refine so_move (v := (.v (.bool (decide ((l0.length : Int) < (2 : Int)))))) rfl ?_
  replace h := ofP h; rcases h with ⟨c101, h⟩ | ⟨c101, h⟩
  · refine so_gno rfl (decide_eq_true c101) ?_
    refine so_gno rfl (decide_eq_true c101) ?_
    refine so_pick_t (v := (.v (.bool true))) rfl (decide_eq_true c101) rfl ?_
    refine so_move (v := (.v (.bool true))) rfl ?_
    refine so_gno rfl rfl ?_
    refine so_gno rfl rfl ?_
    refine so_gno rfl rfl ?_
    refine so_pick_t (v := (.v (.bool true))) rfl rfl rfl ?_
    refine so_move (v := (.v (.bool true))) rfl ?_
    refine so_gno rfl rfl ?_
    refine so_gno rfl rfl ?_
    refine so_gno rfl rfl ?_
    refine so_gno rfl rfl ?_
    refine so_gno rfl rfl ?_
    refine so_gno rfl rfl ?_
    refine so_pick_t (v := (.v (.bool true))) rfl rfl rfl ?_
    refine so_nil ?_
    refine fi_true rfl rfl ?_
    refine fi_seq ?_
    refine fi_region ?_
    refine so_assign (v := (.v (.bool false))) rfl ?_
    refine so_nil ?_
    exact by_ret rfl ⟨_, h, rfl, rfl⟩
  · refine so_gyes rfl (decide_eq_false c101) ?_
    refine so_move (v := (.v (.int .i64 (l0.length : Int)))) rfl ?_
    refine so_gyes rfl (decide_eq_false c101) ?_
    refine so_bin rfl rfl ab_gtr ?_
    refine so_pick_f (v := (.v (.bool (decide ((8 : Int) < (l0.length : Int)))))) rfl (decide_eq_false c101) rfl ?_
    refine so_move (v := (.v (.bool (decide ((8 : Int) < (l0.length : Int)))))) rfl ?_
    replace h := ofP h; rcases h with ⟨c102, h⟩ | ⟨c102, h⟩
    · refine so_gno rfl (decide_eq_true c102) ?_
      refine so_gno rfl (decide_eq_true c102) ?_
      refine so_gno rfl (decide_eq_true c102) ?_
      refine so_pick_t (v := (.v (.bool true))) rfl (decide_eq_true c102) rfl ?_
      refine so_move (v := (.v (.bool true))) rfl ?_
      refine so_gno rfl rfl ?_
      refine so_gno rfl rfl ?_
      refine so_gno rfl rfl ?_
      refine so_gno rfl rfl ?_
      refine so_gno rfl rfl ?_
      refine so_gno rfl rfl ?_
      refine so_pick_t (v := (.v (.bool true))) rfl rfl rfl ?_
      refine so_nil ?_
      refine fi_true rfl rfl ?_
      refine fi_seq ?_
      refine fi_region ?_
      refine so_assign (v := (.v (.bool false))) rfl ?_
      refine so_nil ?_
      exact by_ret rfl ⟨_, h, rfl, rfl⟩
    · refine so_gyes rfl (decide_eq_false c102) ?_
      refine so_move (v := (.v (.int .i64 (l0.length : Int)))) rfl ?_
      refine so_gyes rfl (decide_eq_false c102) ?_
      refine so_bin rfl rfl (ab_rem (by decide)) ?_
      refine so_gyes rfl (decide_eq_false c102) ?_
      refine so_bin rfl rfl ab_neq ?_
      refine so_pick_f (v := (.v (.bool (!(decide ((Int.tmod (l0.length : Int) (2 : Int)) = (0 : Int))))))) rfl (decide_eq_false c102) rfl ?_
      refine so_move (v := (.v (.bool (!(decide ((Int.tmod (l0.length : Int) (2 : Int)) = (0 : Int))))))) rfl ?_
      replace h := ofP h; rcases h with ⟨c103, h⟩ | ⟨c103, h⟩
      · refine so_gyes rfl (not_f (decide_eq_true c103)) ?_
        refine so_move (v := (.v (.ptr i0 o0))) rfl ?_
        refine so_gyes rfl (not_f (decide_eq_true c103)) ?_
        refine so_nilCheck rfl ?_
        refine so_gyes rfl (not_f (decide_eq_true c103)) ?_
        refine so_fieldAddr rfl F63.fd46_0 ?_
        refine so_gyes rfl (not_f (decide_eq_true c103)) ?_
        refine su_ld (q0 _ hs) 0 rfl rfl F63.ag24 ?_
        refine so_gyes rfl (not_f (decide_eq_true c103)) ?_
        refine sv_callS (spec_l02Finite_ok v0 l0 hs (fun _ hs => (g0 _ hs)) _ h) (fun _ _ ⟨_, _, _, e⟩ => e) rfl rfl ?_
        clear h
        rintro _ _ ⟨y104, h, rfl, rfl⟩
        refine so_gyes rfl (not_f (decide_eq_true c103)) ?_
        refine so_un rfl au_not ?_
        refine so_pick_f (v := (.v (.bool (!y104)))) rfl (not_f (decide_eq_true c103)) rfl ?_
        refine so_nil ?_
        replace h := ofT h; rcases h with ⟨c106, h⟩ | ⟨c106, h⟩
        · refine fi_false rfl (not_f c106) ?_
          refine fi_skip ?_
          refine fi_seq ?_
          refine fi_seq ?_
          refine fi_region ?_
          refine so_assign (v := (.v (.int .i64 (0 : Int)))) rfl ?_
          refine so_nil ?_
          refine fi_block ?_
          refine fi_loop ?_
          refine fi_at [(0, (.v (.ptr i0 o0))), (3, (.v (.int .i64 (l0.length : Int)))), (4, (.v (.int .i64 (0 : Int))))] ⟨rfl, rfl, rfl, trivial⟩ ?_
          refine h (fun (shift108 : Int) => ∀ (s : Nat → TV), Fin _ _ (updL s [(0, (.v (.ptr i0 o0))), (3, (.v (.int .i64 (l0.length : Int)))), (4, (.v (.int .i64 shift108)))]) _ _) ?_ _
          intro shift108 h s123
          refine fi_inLoop ?_
          refine fi_seq ?_
          refine fi_seq ?_
          refine fi_region ?_
          refine so_move (v := (.v (.int .i64 shift108))) rfl ?_
          refine so_move (v := (.v (.int .i64 (l0.length : Int)))) rfl ?_
          refine so_bin rfl rfl ab_lss ?_
          refine so_nil ?_
          replace h := ofP h; rcases h with ⟨c109, h⟩ | ⟨c109, h⟩
          · refine fi_true rfl (decide_eq_true c109) ?_
            refine fi_skip ?_
            refine fi_seq ?_
            refine fi_block ?_
            refine fi_seq ?_
            refine fi_region ?_
            refine so_assign (v := (.v (.flt .f32 (cz .f32 0)))) rfl ?_
            refine so_nil ?_
            refine fi_seq ?_
            refine fi_seq ?_
            refine fi_region ?_
            refine so_assign (v := (.v (.int .i64 (0 : Int)))) rfl ?_
            refine so_nil ?_
            refine fi_block ?_
            refine fi_loop ?_
            refine fi_at [(0, (.v (.ptr i0 o0))), (3, (.v (.int .i64 (l0.length : Int)))), (4, (.v (.int .i64 shift108))), (5, (.v (.flt .f32 (cz .f32 0)))), (6, (.v (.int .i64 (0 : Int))))] ⟨rfl, rfl, rfl, rfl, rfl, trivial⟩ ?_
            refine h (fun (sum111 : Nat) (k112 : Int) => ∀ (s : Nat → TV), Fin _ _ (updL s [(0, (.v (.ptr i0 o0))), (3, (.v (.int .i64 (l0.length : Int)))), (4, (.v (.int .i64 shift108))), (5, (.v (.flt .f32 sum111))), (6, (.v (.int .i64 k112)))]) _ _) ?_ _
            intro sum111 k112 h s121
            refine fi_inLoop ?_
            refine fi_seq ?_
            refine fi_seq ?_
            refine fi_region ?_
            refine so_move (v := (.v (.int .i64 k112))) rfl ?_
            refine so_move (v := (.v (.int .i64 shift108))) rfl ?_
            refine so_bin rfl rfl ab_add ?_
            refine so_move (v := (.v (.int .i64 (l0.length : Int)))) rfl ?_
            refine so_bin rfl rfl ab_lss ?_
            refine so_nil ?_
            replace h := ofP h; rcases h with ⟨c113, h⟩ | ⟨c113, h⟩
            · refine fi_true rfl (decide_eq_true c113) ?_
              refine fi_skip ?_
              refine fi_seq ?_
              refine fi_block ?_
              refine fi_region ?_
              refine so_move (v := (.v (.flt .f32 sum111))) rfl ?_
              refine so_move (v := (.v (.ptr i0 o0))) rfl ?_
              refine so_nilCheck rfl ?_
              refine so_fieldAddr rfl F63.fd46_0 ?_
              refine su_ld (q0 _ hs) 0 rfl rfl F63.ag24 ?_
              refine so_move (v := (.v (.int .i64 k112))) rfl ?_
              obtain ⟨c114, h⟩ := h
              refine sv_idx (g0 _ hs) c114 (fun _ => rfl) (by decide) rfl rfl F63.tl24 ?_
              refine sv_cell (g0 _ hs) c114 (0 : Nat) 0 (fun x => (AV.flt .f32 x)) (fun _ => rfl) (fun _ => rfl) rfl F63.ag26 ?_
              refine so_move (v := (.v (.ptr i0 o0))) rfl ?_
              refine so_nilCheck rfl ?_
              refine so_fieldAddr rfl F63.fd46_0 ?_
              refine su_ld (q0 _ hs) 0 rfl rfl F63.ag24 ?_
              refine so_move (v := (.v (.int .i64 k112))) rfl ?_
              refine so_move (v := (.v (.int .i64 shift108))) rfl ?_
              refine so_bin rfl rfl ab_add ?_
              obtain ⟨c115, h⟩ := h
              refine sv_idx (g0 _ hs) c115 (fun _ => rfl) (by decide) rfl rfl F63.tl24 ?_
              refine sv_cell (g0 _ hs) c115 (0 : Nat) 0 (fun x => (AV.flt .f32 x)) (fun _ => rfl) (fun _ => rfl) rfl F63.ag26 ?_
              refine so_bin rfl rfl ab_fmul ?_
              refine so_bin rfl rfl ab_fadd ?_
              refine so_assign (v := (.v (.flt .f32 (fop .add .f32 sum111 (fop .mul .f32 (l0.getD (k112).toNat (0 : Nat)) (l0.getD ((IntKind.i64.wrap (k112 + shift108))).toNat (0 : Nat))))))) rfl ?_
              refine so_nil ?_
              refine fi_inBlock ?_
              refine fi_region ?_
              refine so_move (v := (.v (.int .i64 k112))) rfl ?_
              refine so_bin rfl rfl ab_add ?_
              refine so_assign (v := (.v (.int .i64 (IntKind.i64.wrap (k112 + (1 : Int)))))) rfl ?_
              refine so_nil ?_
              exact fi_at [(0, (.v (.ptr i0 o0))), (3, (.v (.int .i64 (l0.length : Int)))), (4, (.v (.int .i64 shift108))), (5, (.v (.flt .f32 (fop .add .f32 sum111 (fop .mul .f32 (l0.getD (k112).toNat (0 : Nat)) (l0.getD ((IntKind.i64.wrap (k112 + shift108))).toNat (0 : Nat))))))), (6, (.v (.int .i64 (IntKind.i64.wrap (k112 + (1 : Int))))))] ⟨rfl, rfl, rfl, rfl, rfl, trivial⟩ (h _)
            · refine fi_false rfl (decide_eq_false c113) ?_
              refine fi_exit rfl ?_
              refine fi_seq ?_
              refine fi_seq ?_
              refine fi_region ?_
              refine so_move (v := (.v (.int .i64 shift108))) rfl ?_
              refine so_bin rfl rfl ab_eql ?_
              refine so_nil ?_
              replace h := ofP h; rcases h with ⟨c116, h⟩ | ⟨c116, h⟩
              · refine fi_true rfl (decide_eq_true c116) ?_
                refine fi_region ?_
                refine so_move (v := (.v (.flt .f32 sum111))) rfl ?_
                refine so_bin rfl rfl ab_fsub ?_
                refine so_assign (v := (.v (.flt .f32 (fop .sub .f32 sum111 (cz .f32 1065353216))))) rfl ?_
                refine so_nil ?_
                refine fi_seq ?_
                refine fi_region ?_
                refine so_move (v := (.v (.flt .f32 (fop .sub .f32 sum111 (cz .f32 1065353216))))) rfl ?_
                refine so_bin rfl rfl ab_fleq ?_
                refine so_move (v := (.v (.bool (fcmp .leq .f32 (fop .sub .f32 sum111 (cz .f32 1065353216)) (cz .f32 981668463))))) rfl ?_
                replace h := ofT h; rcases h with ⟨c117, h⟩ | ⟨c117, h⟩
                · refine so_gyes rfl c117 ?_
                  refine so_move (v := (.v (.flt .f32 (fop .sub .f32 sum111 (cz .f32 1065353216))))) rfl ?_
                  refine so_gyes rfl c117 ?_
                  refine so_bin rfl rfl ab_fgeq ?_
                  refine so_pick_t (v := (.v (.bool (fcmp .geq .f32 (fop .sub .f32 sum111 (cz .f32 1065353216)) (cz .f32 3129152111))))) rfl c117 rfl ?_
                  refine so_un rfl au_not ?_
                  refine so_nil ?_
                  replace h := ofT h; rcases h with ⟨c118, h⟩ | ⟨c118, h⟩
                  · refine fi_false rfl (not_f c118) ?_
                    refine fi_skip ?_
                    refine fi_inBlock ?_
                    refine fi_region ?_
                    refine so_move (v := (.v (.int .i64 shift108))) rfl ?_
                    refine so_bin rfl rfl ab_add ?_
                    refine so_assign (v := (.v (.int .i64 (IntKind.i64.wrap (shift108 + (2 : Int)))))) rfl ?_
                    refine so_nil ?_
                    exact fi_at [(0, (.v (.ptr i0 o0))), (3, (.v (.int .i64 (l0.length : Int)))), (4, (.v (.int .i64 (IntKind.i64.wrap (shift108 + (2 : Int))))))] ⟨rfl, rfl, rfl, trivial⟩ (h _)
                  · refine fi_true rfl (not_t c118) ?_
                    refine fi_seq ?_
                    refine fi_region ?_
                    refine so_assign (v := (.v (.bool false))) rfl ?_
                    refine so_nil ?_
                    exact by_ret rfl ⟨_, h, rfl, rfl⟩
                · refine so_gno rfl c117 ?_
                  refine so_gno rfl c117 ?_
                  refine so_pick_f (v := (.v (.bool false))) rfl c117 rfl ?_
                  refine so_un rfl au_not ?_
                  refine so_nil ?_
                  refine fi_true rfl (not_t rfl) ?_
                  refine fi_seq ?_
                  refine fi_region ?_
                  refine so_assign (v := (.v (.bool false))) rfl ?_
                  refine so_nil ?_
                  exact by_ret rfl ⟨_, h, rfl, rfl⟩
              · refine fi_false rfl (decide_eq_false c116) ?_
                refine fi_skip ?_
                refine fi_seq ?_
                refine fi_region ?_
                refine so_move (v := (.v (.flt .f32 sum111))) rfl ?_
                refine so_bin rfl rfl ab_fleq ?_
                refine so_move (v := (.v (.bool (fcmp .leq .f32 sum111 (cz .f32 981668463))))) rfl ?_
                replace h := ofT h; rcases h with ⟨c119, h⟩ | ⟨c119, h⟩
                · refine so_gyes rfl c119 ?_
                  refine so_move (v := (.v (.flt .f32 sum111))) rfl ?_
                  refine so_gyes rfl c119 ?_
                  refine so_bin rfl rfl ab_fgeq ?_
                  refine so_pick_t (v := (.v (.bool (fcmp .geq .f32 sum111 (cz .f32 3129152111))))) rfl c119 rfl ?_
                  refine so_un rfl au_not ?_
                  refine so_nil ?_
                  replace h := ofT h; rcases h with ⟨c120, h⟩ | ⟨c120, h⟩
                  · refine fi_false rfl (not_f c120) ?_
                    refine fi_skip ?_
                    refine fi_inBlock ?_
                    refine fi_region ?_
                    refine so_move (v := (.v (.int .i64 shift108))) rfl ?_
                    refine so_bin rfl rfl ab_add ?_
                    refine so_assign (v := (.v (.int .i64 (IntKind.i64.wrap (shift108 + (2 : Int)))))) rfl ?_
                    refine so_nil ?_
                    exact fi_at [(0, (.v (.ptr i0 o0))), (3, (.v (.int .i64 (l0.length : Int)))), (4, (.v (.int .i64 (IntKind.i64.wrap (shift108 + (2 : Int))))))] ⟨rfl, rfl, rfl, trivial⟩ (h _)
                  · refine fi_true rfl (not_t c120) ?_
                    refine fi_seq ?_
                    refine fi_region ?_
                    refine so_assign (v := (.v (.bool false))) rfl ?_
                    refine so_nil ?_
                    exact by_ret rfl ⟨_, h, rfl, rfl⟩
                · refine so_gno rfl c119 ?_
                  refine so_gno rfl c119 ?_
                  refine so_pick_f (v := (.v (.bool false))) rfl c119 rfl ?_
                  refine so_un rfl au_not ?_
                  refine so_nil ?_
                  refine fi_true rfl (not_t rfl) ?_
                  refine fi_seq ?_
                  refine fi_region ?_
                  refine so_assign (v := (.v (.bool false))) rfl ?_
                  refine so_nil ?_
                  exact by_ret rfl ⟨_, h, rfl, rfl⟩
          · refine fi_false rfl (decide_eq_false c109) ?_
            refine fi_exit rfl ?_
            refine fi_seq ?_
            refine fi_region ?_
            refine so_assign (v := (.v (.bool true))) rfl ?_
            refine so_nil ?_
            exact by_ret rfl ⟨_, h, rfl, rfl⟩
        · refine fi_true rfl (not_t c106) ?_
          refine fi_seq ?_
          refine fi_region ?_
          refine so_assign (v := (.v (.bool false))) rfl ?_
          refine so_nil ?_
          exact by_ret rfl ⟨_, h, rfl, rfl⟩
      · refine so_gno rfl (not_t (decide_eq_false c103)) ?_
        refine so_gno rfl (not_t (decide_eq_false c103)) ?_
        refine so_gno rfl (not_t (decide_eq_false c103)) ?_
        refine so_gno rfl (not_t (decide_eq_false c103)) ?_
        refine so_gno rfl (not_t (decide_eq_false c103)) ?_
        refine so_gno rfl (not_t (decide_eq_false c103)) ?_
        refine so_pick_t (v := (.v (.bool true))) rfl (not_t (decide_eq_false c103)) rfl ?_
        refine so_nil ?_
        refine fi_true rfl rfl ?_
        refine fi_seq ?_
        refine fi_region ?_
        refine so_assign (v := (.v (.bool false))) rfl ?_
        refine so_nil ?_
        exact by_ret rfl ⟨_, h, rfl, rfl⟩
theorem spec_l00In_ok {fr : List Pc} {H : Heap} (a0 : Int) (a1 : Int) (a2 : Int) (hs : Sep H (fr))  (K : Bool → Prop) (h : spec_l00In.wp a0 a1 a2 K) : OkQ Try.prog 64 [(.v (.int .i64 a0)), (.v (.int .i64 a1)), (.v (.int .i64 a2))] H (fun r H2 => ∃ (y0 : Bool), K y0 ∧ r = (.v (.bool y0)) ∧ H = H2) := by
  unfold spec_l00In.wp at h
  refine of_body Try.f64 F.hm Try.func64 rfl Try.call64 (by kernel_rfl) (by simp) ?_
  refine fi_seq ?_
  refine fi_region ?_
  refine so_assign (v := (.v (.bool false))) rfl ?_
  refine so_nil ?_
  refine fi_seq ?_
  refine fi_region ?_
  refine so_move (v := (.v (.int .i64 a0))) rfl ?_
  refine so_move (v := (.v (.int .i64 a1))) rfl ?_
  refine so_bin rfl rfl ab_geq ?_
  refine so_move (v := (.v (.bool (decide (a1 ≤ a0))))) rfl ?_
  replace h := ofP h; rcases h with ⟨c101, h⟩ | ⟨c101, h⟩
  · refine so_gyes rfl (decide_eq_true c101) ?_
    refine so_move (v := (.v (.int .i64 a0))) rfl ?_
    refine so_gyes rfl (decide_eq_true c101) ?_
    refine so_move (v := (.v (.int .i64 a2))) rfl ?_
    refine so_gyes rfl (decide_eq_true c101) ?_
    refine so_bin rfl rfl ab_leq ?_
    refine so_pick_t (v := (.v (.bool (decide (a0 ≤ a2))))) rfl (decide_eq_true c101) rfl ?_
    refine so_assign (v := (.v (.bool (decide (a0 ≤ a2))))) rfl ?_
    refine so_nil ?_
    exact by_ret rfl ⟨_, h, rfl, rfl⟩
  · refine so_gno rfl (decide_eq_false c101) ?_
    refine so_gno rfl (decide_eq_false c101) ?_
    refine so_gno rfl (decide_eq_false c101) ?_
    refine so_pick_f (v := (.v (.bool false))) rfl (decide_eq_false c101) rfl ?_
    refine so_assign (v := (.v (.bool false))) rfl ?_
    refine so_nil ?_
    exact by_ret rfl ⟨_, h, rfl, rfl⟩
theorem spec_l02Least_ok {fr : List Pc} {H : Heap} (a0 : Nat) (hs : Sep H (fr))  (K : Bool → Prop) (h : spec_l02Least.wp a0 K) : OkQ Try.prog 65 [(.v (.flt .f32 a0))] H (fun r H2 => ∃ (y0 : Bool), K y0 ∧ r = (.v (.bool y0)) ∧ H = H2) := by
  unfold spec_l02Least.wp at h
  refine of_body Try.f65 F.hm Try.func65 rfl Try.call65 (by kernel_rfl) (by simp) ?_
  refine fi_seq ?_
  refine fi_region ?_
  refine so_assign (v := (.v (.bool false))) rfl ?_
  refine so_nil ?_
  refine fi_seq ?_
  refine fi_region ?_
  refine so_move (v := (.v (.flt .f32 a0))) rfl ?_
  refine sv_callS (spec_l01Finite_ok a0 hs  _ h) (fun _ _ ⟨_, _, _, e⟩ => e) rfl rfl ?_
  clear h
  rintro _ _ ⟨y101, h, rfl, rfl⟩
  refine so_move (v := (.v (.bool y101))) rfl ?_
  replace h := ofT h; rcases h with ⟨c103, h⟩ | ⟨c103, h⟩
  · refine so_gyes rfl c103 ?_
    refine so_move (v := (.v (.flt .f32 a0))) rfl ?_
    refine so_gyes rfl c103 ?_
    refine so_bin rfl rfl ab_fgeq ?_
    refine so_pick_t (v := (.v (.bool (fcmp .geq .f32 a0 (cz .f32 0))))) rfl c103 rfl ?_
    refine so_assign (v := (.v (.bool (fcmp .geq .f32 a0 (cz .f32 0))))) rfl ?_
    refine so_nil ?_
    exact by_ret rfl ⟨_, h, rfl, rfl⟩
  · refine so_gno rfl c103 ?_
    refine so_gno rfl c103 ?_
    refine so_pick_f (v := (.v (.bool false))) rfl c103 rfl ?_
    refine so_assign (v := (.v (.bool false))) rfl ?_
    refine so_nil ?_
    exact by_ret rfl ⟨_, h, rfl, rfl⟩
theorem spec_l02Share_ok {fr : List Pc} {H : Heap} (a0 : Nat) (hs : Sep H (fr))  (K : Bool → Prop) (h : spec_l02Share.wp a0 K) : OkQ Try.prog 66 [(.v (.flt .f32 a0))] H (fun r H2 => ∃ (y0 : Bool), K y0 ∧ r = (.v (.bool y0)) ∧ H = H2) := by
  unfold spec_l02Share.wp at h
  refine of_body Try.f66 F.hm Try.func66 rfl Try.call66 (by kernel_rfl) (by simp) ?_
  refine fi_seq ?_
  refine fi_region ?_
  refine so_assign (v := (.v (.bool false))) rfl ?_
  refine so_nil ?_
  refine fi_seq ?_
  refine fi_region ?_
  refine so_move (v := (.v (.flt .f32 a0))) rfl ?_
  refine so_bin rfl rfl ab_fgeq ?_
  refine so_move (v := (.v (.bool (fcmp .geq .f32 a0 (cz .f32 0))))) rfl ?_
  replace h := ofT h; rcases h with ⟨c101, h⟩ | ⟨c101, h⟩
  · refine so_gyes rfl c101 ?_
    refine so_move (v := (.v (.flt .f32 a0))) rfl ?_
    refine so_gyes rfl c101 ?_
    refine so_bin rfl rfl ab_fleq ?_
    refine so_pick_t (v := (.v (.bool (fcmp .leq .f32 a0 (cz .f32 1065353216))))) rfl c101 rfl ?_
    refine so_assign (v := (.v (.bool (fcmp .leq .f32 a0 (cz .f32 1065353216))))) rfl ?_
    refine so_nil ?_
    exact by_ret rfl ⟨_, h, rfl, rfl⟩
  · refine so_gno rfl c101 ?_
    refine so_gno rfl c101 ?_
    refine so_pick_f (v := (.v (.bool false))) rfl c101 rfl ?_
    refine so_assign (v := (.v (.bool false))) rfl ?_
    refine so_nil ?_
    exact by_ret rfl ⟨_, h, rfl, rfl⟩
theorem F140.ag26 : tagg Try.prog 26 = some false := by kernel_rfl
theorem F140.sz26 : tsz Try.prog 26 = some 1 := by kernel_rfl
theorem F140.ta24_24 : tapp Try.prog 24 24 = some (1, 4) := by kernel_rfl
theorem F140.te24 : telem Try.prog 24 = some 26 := by kernel_rfl
theorem F140.ti24 : (telem Try.prog 24).isSome = true := by kernel_rfl
theorem F140.tl24 : (telem Try.prog 24).bind (tsz Try.prog) = some 1 := by kernel_rfl
theorem F140.ze26 : tzero Try.prog 26 = some [(.flt .f32 (0 : Nat))] := by kernel_rfl
theorem spec_l03Taps_ok {fr : List Pc} {H : Heap} (v0 : AV) (l0 : List (Nat)) (v1 : AV) (l1 : List (Nat)) (hs : Sep H (fr)) (g0 : ∀ H, Sep H fr → Shows H v0 1 (enc (eFlt .f32) l0)) (g1 : ∀ H, Sep H fr → Shows H v1 1 (enc (eFlt .f32) l1)) (K : (List (Nat)) → Prop) (h : spec_l03Taps.wp l0 l1 K) : OkQ Try.prog 140 [(.v v0), (.v v1)] H (fun r H2 => ∃ (y0 : List (Nat)), K y0 ∧ ∃ (w0_ : AV), r = (.v w0_) ∧ Sep H2 (Pc.osl w0_ 1 (enc (eFlt .f32) y0) :: fr)) := by
  unfold spec_l03Taps.wp at h
  refine of_body Try.f140 F.hm Try.func140 rfl Try.call140 (by kernel_rfl) (by simp) ?_
  refine fi_seq ?_
  refine fi_region ?_
  refine so_assign (v := (.v .nilsl)) rfl ?_
  refine so_nil ?_
  refine fi_seq ?_
  refine fi_region ?_
  refine so_move (v := (.v v0)) rfl ?_
  refine sv_len (g0 _ hs) (fun _ => rfl) (by decide) rfl F140.ti24 ?_
  refine so_assign (v := (.v (.int .i64 (l0.length : Int)))) rfl ?_
  refine so_nil ?_
  refine fi_seq ?_
  refine fi_region ?_
  refine sv_bslice hs (eFlt .f32) ([] : List (Nat)) [] F140.te24 F140.sz26 F140.ze26 rfl rfl rfl rfl (fun _ => rfl) rfl (by decide) nofun (fun v101 H102 nv101 hs => ?_)
  refine so_assign (v := (.v v101)) rfl ?_
  refine so_nil ?_
  refine fi_seq ?_
  refine fi_seq ?_
  refine fi_region ?_
  refine so_assign (v := (.v (.int .i64 (0 : Int)))) rfl ?_
  refine so_nil ?_
  refine fi_block ?_
  refine fi_loop ?_
  refine fi_at [(0, (.v v0)), (1, (.v v1)), (5, (.v (.int .i64 (l0.length : Int)))), (6, (.v v101)), (7, (.v (.int .i64 (0 : Int))))] ⟨rfl, rfl, rfl, rfl, rfl, trivial⟩ ?_
  refine h (fun (out125 : List (Nat)) (j127 : Int) => ∀ (s : Nat → TV) (H : Heap) (v126 : AV) (nv126 : v126 ≠ .nilsl), Sep H (Pc.osl v126 1 (enc (eFlt .f32) out125) :: fr) → Fin _ _ (updL s [(0, (.v v0)), (1, (.v v1)), (5, (.v (.int .i64 (l0.length : Int)))), (6, (.v v126)), (7, (.v (.int .i64 j127)))]) H _) ?_ _ _ _ nv101 hs
  intro out125 j127 h s144 H145 v126 nv126 hs
  refine fi_inLoop ?_
  refine fi_seq ?_
  refine fi_seq ?_
  refine fi_region ?_
  refine so_move (v := (.v (.int .i64 j127))) rfl ?_
  refine so_bin rfl rfl ab_mul ?_
  refine so_move (v := (.v (.int .i64 (l0.length : Int)))) rfl ?_
  refine so_bin rfl rfl ab_lss ?_
  refine so_nil ?_
  replace h := ofP h; rcases h with ⟨c128, h⟩ | ⟨c128, h⟩
  · refine fi_true rfl (decide_eq_true c128) ?_
    refine fi_skip ?_
    refine fi_seq ?_
    refine fi_block ?_
    refine fi_seq ?_
    refine fi_region ?_
    refine so_assign (v := (.v (.flt .f32 (cz .f32 0)))) rfl ?_
    refine so_nil ?_
    refine fi_seq ?_
    refine fi_seq ?_
    refine fi_region ?_
    refine so_move (v := (.v v1)) rfl ?_
    refine sv_len (g1 _ hs.tl) (fun _ => rfl) (by decide) rfl F140.ti24 ?_
    refine so_move (v := (.v (.int .i64 (0 : Int)))) rfl ?_
    refine so_nil ?_
    refine fi_block ?_
    refine fi_loop ?_
    refine fi_at [(0, (.v v0)), (1, (.v v1)), (5, (.v (.int .i64 (l0.length : Int)))), (6, (.v v126)), (7, (.v (.int .i64 j127))), (8, (.v (.flt .f32 (cz .f32 0)))), (20, (.v (.int .i64 (l1.length : Int)))), (21, (.v (.int .i64 (0 : Int))))] ⟨rfl, rfl, rfl, rfl, rfl, rfl, rfl, rfl, trivial⟩ ?_
    refine h (fun (sum130 : Nat) (x131 : Int) => ∀ (s : Nat → TV) (H : Heap), Sep H (Pc.osl v126 1 (enc (eFlt .f32) out125) :: fr) → Fin _ _ (updL s [(0, (.v v0)), (1, (.v v1)), (5, (.v (.int .i64 (l0.length : Int)))), (6, (.v v126)), (7, (.v (.int .i64 j127))), (8, (.v (.flt .f32 sum130))), (20, (.v (.int .i64 (l1.length : Int)))), (21, (.v (.int .i64 x131)))]) H _) ?_ _ _ hs
    intro sum130 x131 h s142 H143 hs
    refine fi_inLoop ?_
    refine fi_seq ?_
    refine fi_region ?_
    refine so_bin rfl rfl ab_lss ?_
    refine so_nil ?_
    refine fi_seq ?_
    replace h := ofP h; rcases h with ⟨c132, h⟩ | ⟨c132, h⟩
    · refine fi_true rfl (decide_eq_true c132) ?_
      refine fi_skip ?_
      refine fi_seq ?_
      refine fi_block ?_
      refine fi_seq ?_
      refine fi_region ?_
      refine so_move (v := (.v (.int .i64 x131))) rfl ?_
      refine so_assign (v := (.v (.int .i64 x131))) rfl ?_
      refine so_nil ?_
      refine fi_region ?_
      refine so_move (v := (.v (.flt .f32 sum130))) rfl ?_
      refine so_move (v := (.v v1)) rfl ?_
      refine so_move (v := (.v (.int .i64 x131))) rfl ?_
      obtain ⟨c133, h⟩ := h
      refine sv_idx (g1 _ hs.tl) c133 (fun _ => rfl) (by decide) rfl rfl F140.tl24 ?_
      refine sv_cell (g1 _ hs.tl) c133 (0 : Nat) 0 (fun x => (AV.flt .f32 x)) (fun _ => rfl) (fun _ => rfl) rfl F140.ag26 ?_
      refine so_move (v := (.v v0)) rfl ?_
      refine so_move (v := (.v (.int .i64 j127))) rfl ?_
      refine so_bin rfl rfl ab_mul ?_
      refine so_move (v := (.v (.int .i64 x131))) rfl ?_
      refine so_bin rfl rfl ab_add ?_
      refine so_move (v := (.v (.int .i64 (l0.length : Int)))) rfl ?_
      obtain ⟨c134, h⟩ := h
      refine so_bin rfl rfl (ab_rem c134) ?_
      obtain ⟨c135, h⟩ := h
      refine sv_idx (g0 _ hs.tl) c135 (fun _ => rfl) (by decide) rfl rfl F140.tl24 ?_
      refine sv_cell (g0 _ hs.tl) c135 (0 : Nat) 0 (fun x => (AV.flt .f32 x)) (fun _ => rfl) (fun _ => rfl) rfl F140.ag26 ?_
      refine so_bin rfl rfl ab_fmul ?_
      refine so_bin rfl rfl ab_fadd ?_
      refine so_assign (v := (.v (.flt .f32 (fop .add .f32 sum130 (fop .mul .f32 (l1.getD (x131).toNat (0 : Nat)) (l0.getD ((Int.tmod (IntKind.i64.wrap ((IntKind.i64.wrap ((2 : Int) * j127)) + x131)) (l0.length : Int))).toNat (0 : Nat))))))) rfl ?_
      refine so_nil ?_
      refine fi_inBlock ?_
      refine fi_region ?_
      refine so_bin rfl rfl ab_add ?_
      refine so_move (v := (.v (.int .i64 (IntKind.i64.wrap (x131 + (1 : Int)))))) rfl ?_
      refine so_nil ?_
      exact fi_at [(0, (.v v0)), (1, (.v v1)), (5, (.v (.int .i64 (l0.length : Int)))), (6, (.v v126)), (7, (.v (.int .i64 j127))), (8, (.v (.flt .f32 (fop .add .f32 sum130 (fop .mul .f32 (l1.getD (x131).toNat (0 : Nat)) (l0.getD ((Int.tmod (IntKind.i64.wrap ((IntKind.i64.wrap ((2 : Int) * j127)) + x131)) (l0.length : Int))).toNat (0 : Nat))))))), (20, (.v (.int .i64 (l1.length : Int)))), (21, (.v (.int .i64 (IntKind.i64.wrap (x131 + (1 : Int))))))] ⟨rfl, rfl, rfl, rfl, rfl, rfl, rfl, rfl, trivial⟩ (h _ _  hs)
    · refine fi_false rfl (decide_eq_false c132) ?_
      refine fi_exit rfl ?_
      refine fi_region ?_
      refine so_move (v := (.v v126)) rfl ?_
      refine so_move (v := (.v (.flt .f32 sum130))) rfl ?_
      refine sv_bslice hs (eFlt .f32) ([sum130] : List (Nat)) [[(.flt .f32 sum130)]] F140.te24 F140.sz26 F140.ze26 rfl rfl rfl rfl (fun _ => rfl) rfl (by decide) nofun (fun v136 H137 nv136 hs => ?_)
      obtain ⟨c141, h⟩ := h
      refine sv_app hs 1 rfl (hs.shows 0 rfl) (fun _ => rfl) (by decide) F140.ta24_24 (by decide) c141 rfl rfl nofun (fun v139 H140 kv139 hs => ?_)
      replace hs := hs.del 0
      have nv139 := kv139 nv126
      refine so_assign (v := (.v v139)) rfl ?_
      refine so_nil ?_
      refine fi_inBlock ?_
      refine fi_region ?_
      refine so_move (v := (.v (.int .i64 j127))) rfl ?_
      refine so_bin rfl rfl ab_add ?_
      refine so_assign (v := (.v (.int .i64 (IntKind.i64.wrap (j127 + (1 : Int)))))) rfl ?_
      refine so_nil ?_
      exact fi_at [(0, (.v v0)), (1, (.v v1)), (5, (.v (.int .i64 (l0.length : Int)))), (6, (.v v139)), (7, (.v (.int .i64 (IntKind.i64.wrap (j127 + (1 : Int))))))] ⟨rfl, rfl, rfl, rfl, rfl, trivial⟩ (h _ _ _ nv139 hs)
  · refine fi_false rfl (decide_eq_false c128) ?_
    refine fi_exit rfl ?_
    refine fi_seq ?_
    refine fi_region ?_
    refine so_move (v := (.v v126)) rfl ?_
    refine so_assign (v := (.v v126)) rfl ?_
    refine so_nil ?_
    exact by_ret rfl ⟨_, h, _, rfl, hs⟩
theorem F141.ag24 : tagg Try.prog 24 = some false := by kernel_rfl
theorem F141.ag26 : tagg Try.prog 26 = some false := by kernel_rfl
theorem F141.fd46_0 : tfield Try.prog 46 0 = some (0, 1, false) := by kernel_rfl
theorem F141.sz26 : tsz Try.prog 26 = some 1 := by kernel_rfl
theorem F141.ta24_24 : tapp Try.prog 24 24 = some (1, 4) := by kernel_rfl
theorem F141.te24 : telem Try.prog 24 = some 26 := by kernel_rfl
theorem F141.ti24 : (telem Try.prog 24).isSome = true := by kernel_rfl
theorem F141.tl24 : (telem Try.prog 24).bind (tsz Try.prog) = some 1 := by kernel_rfl
theorem F141.ze26 : tzero Try.prog 26 = some [(.flt .f32 (0 : Nat))] := by kernel_rfl
theorem spec_l03High_ok {fr : List Pc} {H : Heap} (i0 o0 : Nat) (v0 : AV) (l0 : List (Nat)) (hs : Sep H (fr)) (g0 : ∀ H, Sep H fr → Shows H v0 1 (enc (eFlt .f32) l0)) (q0 : ∀ H, Sep H fr → PtAt H i0 o0 [v0]) (K : (List (Nat)) → Prop) (h : spec_l03High.wp l0 K) : OkQ Try.prog 141 [(.v (.ptr i0 o0))] H (fun r H2 => ∃ (y0 : List (Nat)), K y0 ∧ ∃ (w0_ : AV), r = (.v w0_) ∧ Sep H2 (Pc.osl w0_ 1 (enc (eFlt .f32) y0) :: fr)) := by
  unfold spec_l03High.wp at h
  refine of_body Try.f141 F.hm Try.func141 rfl Try.call141 (by kernel_rfl) (by simp) ?_
  refine fi_seq ?_
  refine fi_region ?_
  refine so_assign (v := (.v .nilsl)) rfl ?_
  refine so_nil ?_
  refine fi_seq ?_
  refine fi_region ?_
  refine sv_bslice hs (eFlt .f32) ([] : List (Nat)) [] F141.te24 F141.sz26 F141.ze26 rfl rfl rfl rfl (fun _ => rfl) rfl (by decide) nofun (fun v101 H102 nv101 hs => ?_)
  refine so_assign (v := (.v v101)) rfl ?_
  refine so_nil ?_
  refine fi_seq ?_
  refine fi_region ?_
  refine so_move (v := (.v (.ptr i0 o0))) rfl ?_
  refine so_nilCheck rfl ?_
  refine so_fieldAddr rfl F141.fd46_0 ?_
  refine su_ld (q0 _ hs.tl) 0 rfl rfl F141.ag24 ?_
  refine sv_len (g0 _ hs.tl) (fun _ => rfl) (by decide) rfl F141.ti24 ?_
  refine so_assign (v := (.v (.int .i64 (l0.length : Int)))) rfl ?_
  refine so_nil ?_
  refine fi_seq ?_
  refine fi_seq ?_
  refine fi_region ?_
  refine so_assign (v := (.v (.int .i64 (0 : Int)))) rfl ?_
  refine so_nil ?_
  refine fi_block ?_
  refine fi_loop ?_
  refine fi_at [(0, (.v (.ptr i0 o0))), (3, (.v v101)), (4, (.v (.int .i64 (l0.length : Int)))), (5, (.v (.int .i64 (0 : Int))))] ⟨rfl, rfl, rfl, rfl, trivial⟩ ?_
  refine h (fun (out124 : List (Nat)) (k126 : Int) => ∀ (s : Nat → TV) (H : Heap) (v125 : AV) (nv125 : v125 ≠ .nilsl), Sep H (Pc.osl v125 1 (enc (eFlt .f32) out124) :: fr) → Fin _ _ (updL s [(0, (.v (.ptr i0 o0))), (3, (.v v125)), (4, (.v (.int .i64 (l0.length : Int)))), (5, (.v (.int .i64 k126)))]) H _) ?_ _ _ _ nv101 hs
  intro out124 k126 h s142 H143 v125 nv125 hs
  refine fi_inLoop ?_
  refine fi_seq ?_
  refine fi_seq ?_
  refine fi_region ?_
  refine so_move (v := (.v (.int .i64 k126))) rfl ?_
  refine so_move (v := (.v (.int .i64 (l0.length : Int)))) rfl ?_
  refine so_bin rfl rfl ab_lss ?_
  refine so_nil ?_
  replace h := ofP h; rcases h with ⟨c127, h⟩ | ⟨c127, h⟩
  · refine fi_true rfl (decide_eq_true c127) ?_
    refine fi_skip ?_
    refine fi_seq ?_
    refine fi_block ?_
    refine fi_seq ?_
    refine fi_region ?_
    refine so_move (v := (.v (.ptr i0 o0))) rfl ?_
    refine so_nilCheck rfl ?_
    refine so_fieldAddr rfl F141.fd46_0 ?_
    refine su_ld (q0 _ hs.tl) 0 rfl rfl F141.ag24 ?_
    refine so_move (v := (.v (.int .i64 (l0.length : Int)))) rfl ?_
    refine so_bin rfl rfl ab_sub ?_
    refine so_move (v := (.v (.int .i64 k126))) rfl ?_
    refine so_bin rfl rfl ab_sub ?_
    obtain ⟨c128, h⟩ := h
    refine sv_idx (g0 _ hs.tl) c128 (fun _ => rfl) (by decide) rfl rfl F141.tl24 ?_
    refine sv_cell (g0 _ hs.tl) c128 (0 : Nat) 0 (fun x => (AV.flt .f32 x)) (fun _ => rfl) (fun _ => rfl) rfl F141.ag26 ?_
    refine so_assign (v := (.v (.flt .f32 (l0.getD ((IntKind.i64.wrap ((IntKind.i64.wrap ((l0.length : Int) - (1 : Int))) - k126))).toNat (0 : Nat))))) rfl ?_
    refine so_nil ?_
    refine fi_seq ?_
    refine fi_seq ?_
    refine fi_region ?_
    refine so_move (v := (.v (.int .i64 k126))) rfl ?_
    refine so_bin rfl rfl (ab_rem (by decide)) ?_
    refine so_bin rfl rfl ab_eql ?_
    refine so_nil ?_
    replace h := ofP h; rcases h with ⟨c129, h⟩ | ⟨c129, h⟩
    · refine fi_true rfl (decide_eq_true c129) ?_
      refine fi_region ?_
      refine so_move (v := (.v (.flt .f32 (l0.getD ((IntKind.i64.wrap ((IntKind.i64.wrap ((l0.length : Int) - (1 : Int))) - k126))).toNat (0 : Nat))))) rfl ?_
      refine so_un rfl au_fneg' ?_
      refine so_assign (v := (.v (.flt .f32 (fneg .f32 (l0.getD ((IntKind.i64.wrap ((IntKind.i64.wrap ((l0.length : Int) - (1 : Int))) - k126))).toNat (0 : Nat)))))) rfl ?_
      refine so_nil ?_
      refine fi_region ?_
      refine so_move (v := (.v v125)) rfl ?_
      refine so_move (v := (.v (.flt .f32 (fneg .f32 (l0.getD ((IntKind.i64.wrap ((IntKind.i64.wrap ((l0.length : Int) - (1 : Int))) - k126))).toNat (0 : Nat)))))) rfl ?_
      refine sv_bslice hs (eFlt .f32) ([(fneg .f32 (l0.getD ((IntKind.i64.wrap ((IntKind.i64.wrap ((l0.length : Int) - (1 : Int))) - k126))).toNat (0 : Nat)))] : List (Nat)) [[(.flt .f32 (fneg .f32 (l0.getD ((IntKind.i64.wrap ((IntKind.i64.wrap ((l0.length : Int) - (1 : Int))) - k126))).toNat (0 : Nat))))]] F141.te24 F141.sz26 F141.ze26 rfl rfl rfl rfl (fun _ => rfl) rfl (by decide) nofun (fun v130 H131 nv130 hs => ?_)
      obtain ⟨c135, h⟩ := h
      refine sv_app hs 1 rfl (hs.shows 0 rfl) (fun _ => rfl) (by decide) F141.ta24_24 (by decide) c135 rfl rfl nofun (fun v133 H134 kv133 hs => ?_)
      replace hs := hs.del 0
      have nv133 := kv133 nv125
      refine so_assign (v := (.v v133)) rfl ?_
      refine so_nil ?_
      refine fi_inBlock ?_
      refine fi_region ?_
      refine so_move (v := (.v (.int .i64 k126))) rfl ?_
      refine so_bin rfl rfl ab_add ?_
      refine so_assign (v := (.v (.int .i64 (IntKind.i64.wrap (k126 + (1 : Int)))))) rfl ?_
      refine so_nil ?_
      exact fi_at [(0, (.v (.ptr i0 o0))), (3, (.v v133)), (4, (.v (.int .i64 (l0.length : Int)))), (5, (.v (.int .i64 (IntKind.i64.wrap (k126 + (1 : Int))))))] ⟨rfl, rfl, rfl, rfl, trivial⟩ (h _ _ _ nv133 hs)
    · refine fi_false rfl (decide_eq_false c129) ?_
      refine fi_skip ?_
      refine fi_region ?_
      refine so_move (v := (.v v125)) rfl ?_
      refine so_move (v := (.v (.flt .f32 (l0.getD ((IntKind.i64.wrap ((IntKind.i64.wrap ((l0.length : Int) - (1 : Int))) - k126))).toNat (0 : Nat))))) rfl ?_
      refine sv_bslice hs (eFlt .f32) ([(l0.getD ((IntKind.i64.wrap ((IntKind.i64.wrap ((l0.length : Int) - (1 : Int))) - k126))).toNat (0 : Nat))] : List (Nat)) [[(.flt .f32 (l0.getD ((IntKind.i64.wrap ((IntKind.i64.wrap ((l0.length : Int) - (1 : Int))) - k126))).toNat (0 : Nat)))]] F141.te24 F141.sz26 F141.ze26 rfl rfl rfl rfl (fun _ => rfl) rfl (by decide) nofun (fun v136 H137 nv136 hs => ?_)
      obtain ⟨c141, h⟩ := h
      refine sv_app hs 1 rfl (hs.shows 0 rfl) (fun _ => rfl) (by decide) F141.ta24_24 (by decide) c141 rfl rfl nofun (fun v139 H140 kv139 hs => ?_)
      replace hs := hs.del 0
      have nv139 := kv139 nv125
      refine so_assign (v := (.v v139)) rfl ?_
      refine so_nil ?_
      refine fi_inBlock ?_
      refine fi_region ?_
      refine so_move (v := (.v (.int .i64 k126))) rfl ?_
      refine so_bin rfl rfl ab_add ?_
      refine so_assign (v := (.v (.int .i64 (IntKind.i64.wrap (k126 + (1 : Int)))))) rfl ?_
      refine so_nil ?_
      exact fi_at [(0, (.v (.ptr i0 o0))), (3, (.v v139)), (4, (.v (.int .i64 (l0.length : Int)))), (5, (.v (.int .i64 (IntKind.i64.wrap (k126 + (1 : Int))))))] ⟨rfl, rfl, rfl, rfl, trivial⟩ (h _ _ _ nv139 hs)
  · refine fi_false rfl (decide_eq_false c127) ?_
    refine fi_exit rfl ?_
    refine fi_seq ?_
    refine fi_region ?_
    refine so_move (v := (.v v125)) rfl ?_
    refine so_assign (v := (.v v125)) rfl ?_
    refine so_nil ?_
    exact by_ret rfl ⟨_, h, _, rfl, hs⟩
theorem F109.ag24 : tagg Try.prog 24 = some false := by kernel_rfl
theorem F109.fd46_0 : tfield Try.prog 46 0 = some (0, 1, false) := by kernel_rfl
theorem F109.inf46 : (Try.prog.info? 46).isSome = true := by kernel_rfl
theorem F109.ti24 : (telem Try.prog 24).isSome = true := by kernel_rfl
theorem spec_SplitRing_ok {fr : List Pc} {H : Heap} (v0 : AV) (l0 : List (Nat)) (v1 : AV) (l1 : List (Nat)) (hs : Sep H (fr)) (g0 : ∀ H, Sep H fr → Shows H v0 1 (enc (eFlt .f32) l0)) (g1 : ∀ H, Sep H fr → Shows H v1 1 (enc (eFlt .f32) l1)) (K : (List (Nat)) → (List (Nat)) → Bool → Prop) (h : spec_SplitRing.wp l0 l1 K) : OkQ Try.prog 109 [(.v v0), (.g [v1])] H (fun r H2 => ∃ (y0 : List (Nat)) (y1 : List (Nat)) (y2 : Bool), K y0 y1 y2 ∧ ∃ (w0_ : AV) (w1_ : AV), r = (.t [(.v w0_), (.v w1_), (.v (.bool y2))]) ∧ Sep H2 (Pc.osl w0_ 1 (enc (eFlt .f32) y0) :: Pc.osl w1_ 1 (enc (eFlt .f32) y1) :: fr)) := by
  unfold spec_SplitRing.wp at h
  refine of_body Try.f109 F.hm Try.func109 rfl Try.call109 (by kernel_rfl) (by simp) ?_
  refine fi_seq ?_
  refine fi_region ?_
  refine sv_box hs rfl (c := [v1]) rfl F109.inf46 (stc (g1 _ hs).stor stn) nofun (fun id101 H102 hs => ?_)
  refine so_assign (v := (.v .nilsl)) rfl ?_
  refine so_assign (v := (.v .nilsl)) rfl ?_
  refine so_assign (v := (.v (.bool false))) rfl ?_
  refine so_nil ?_
  refine fi_seq ?_
  refine fi_seq ?_
  refine fi_region ?_
  refine so_move (v := (.v v0)) rfl ?_
  refine sv_callS (spec_l03Long_ok v0 l0 hs (fun _ hs => (g0 _ hs.tl)) _ h) (fun _ _ ⟨_, _, _, e⟩ => e) rfl rfl ?_
  clear h
  rintro _ _ ⟨y104, h, rfl, rfl⟩
  refine so_un rfl au_not ?_
  refine so_move (v := (.v (.bool (!y104)))) rfl ?_
  replace h := ofT h; rcases h with ⟨c106, h⟩ | ⟨c106, h⟩
  · refine so_gyes rfl (not_f c106) ?_
    refine so_move (v := (.v v0)) rfl ?_
    refine so_gyes rfl (not_f c106) ?_
    refine sv_len (g0 _ hs.tl) (fun _ => rfl) (by decide) rfl F109.ti24 ?_
    refine so_gyes rfl (not_f c106) ?_
    refine so_bin rfl rfl (ab_rem (by decide)) ?_
    refine so_gyes rfl (not_f c106) ?_
    refine so_bin rfl rfl ab_neq ?_
    refine so_pick_f (v := (.v (.bool (!(decide ((Int.tmod (l0.length : Int) (2 : Int)) = (0 : Int))))))) rfl (not_f c106) rfl ?_
    refine so_move (v := (.v (.bool (!(decide ((Int.tmod (l0.length : Int) (2 : Int)) = (0 : Int))))))) rfl ?_
    replace h := ofP h; rcases h with ⟨c107, h⟩ | ⟨c107, h⟩
    · refine so_gyes rfl (not_f (decide_eq_true c107)) ?_
      refine sv_callS (spec_l03Pair_ok id101 0 v1 l1 hs (fun _ hs => (g1 _ hs.tl)) (fun _ hs => (hs.ptat 0 rfl)) _ h) (fun _ _ ⟨_, _, _, e⟩ => e) rfl rfl ?_
      clear h
      rintro _ _ ⟨y108, h, rfl, rfl⟩
      refine so_gyes rfl (not_f (decide_eq_true c107)) ?_
      refine so_un rfl au_not ?_
      refine so_pick_f (v := (.v (.bool (!y108)))) rfl (not_f (decide_eq_true c107)) rfl ?_
      refine so_nil ?_
      replace h := ofT h; rcases h with ⟨c110, h⟩ | ⟨c110, h⟩
      · refine fi_false rfl (not_f c110) ?_
        refine fi_skip ?_
        refine fi_seq ?_
        refine fi_region ?_
        refine so_move (v := (.v v0)) rfl ?_
        refine so_fieldAddr rfl F109.fd46_0 ?_
        refine sv_ld hs 0 rfl rfl rfl F109.ag24 ?_
        refine sv_call (spec_l03Taps_ok v0 l0 v1 l1 hs (fun _ hs => (g0 _ hs.tl)) (fun _ hs => (g1 _ hs.tl)) _ h) rfl rfl nofun ?_
        clear h hs
        rintro _ H114 ⟨y111, h, v112, rfl, hs⟩
        refine so_assign (v := (.v v112)) rfl ?_
        refine so_nil ?_
        refine fi_seq ?_
        refine fi_region ?_
        refine so_move (v := (.v v0)) rfl ?_
        refine sv_call (spec_l03High_ok id101 0 v1 l1 hs (fun _ hs => (g1 _ hs.tl.tl)) (fun _ hs => (hs.ptat 1 rfl)) _ h) rfl rfl nofun ?_
        clear h hs
        rintro _ H118 ⟨y115, h, v116, rfl, hs⟩
        refine sv_call (spec_l03Taps_ok v0 l0 v116 y115 hs (fun _ hs => (g0 _ hs.tl.tl.tl)) (fun _ hs => (hs.shows 0 rfl)) _ h) rfl rfl nofun ?_
        clear h hs
        rintro _ H122 ⟨y119, h, v120, rfl, hs⟩
        refine so_assign (v := (.v v120)) rfl ?_
        refine so_nil ?_
        refine fi_seq ?_
        refine fi_seq ?_
        refine fi_region ?_
        refine so_move (v := (.v v112)) rfl ?_
        refine sv_callS (spec_l02Finite_ok v112 y111 hs (fun _ hs => (hs.shows 2 rfl)) _ h) (fun _ _ ⟨_, _, _, e⟩ => e) rfl rfl ?_
        clear h
        rintro _ _ ⟨y123, h, rfl, rfl⟩
        refine so_un rfl au_not ?_
        refine so_move (v := (.v (.bool (!y123)))) rfl ?_
        replace h := ofT h; rcases h with ⟨c125, h⟩ | ⟨c125, h⟩
        · refine so_gyes rfl (not_f c125) ?_
          refine so_move (v := (.v v120)) rfl ?_
          refine so_gyes rfl (not_f c125) ?_
          refine sv_callS (spec_l02Finite_ok v120 y119 hs (fun _ hs => (hs.shows 0 rfl)) _ h) (fun _ _ ⟨_, _, _, e⟩ => e) rfl rfl ?_
          clear h
          rintro _ _ ⟨y126, h, rfl, rfl⟩
          refine so_gyes rfl (not_f c125) ?_
          refine so_un rfl au_not ?_
          refine so_pick_f (v := (.v (.bool (!y126)))) rfl (not_f c125) rfl ?_
          refine so_nil ?_
          replace h := ofT h; rcases h with ⟨c128, h⟩ | ⟨c128, h⟩
          · refine fi_false rfl (not_f c128) ?_
            refine fi_skip ?_
            refine fi_seq ?_
            refine fi_region ?_
            refine so_move (v := (.v v112)) rfl ?_
            refine so_move (v := (.v v120)) rfl ?_
            refine so_assign (v := (.v v112)) rfl ?_
            refine so_assign (v := (.v v120)) rfl ?_
            refine so_assign (v := (.v (.bool true))) rfl ?_
            refine so_nil ?_
            exact by_ret rfl ⟨_, _, _, h, _, _, rfl, (Sep.front 1 (Sep.del 2 (Sep.del 1 hs)) rfl)⟩
          · refine fi_true rfl (not_t c128) ?_
            refine fi_seq ?_
            refine fi_region ?_
            refine so_assign (v := (.v .nilsl)) rfl ?_
            refine so_assign (v := (.v .nilsl)) rfl ?_
            refine so_assign (v := (.v (.bool false))) rfl ?_
            refine so_nil ?_
            exact by_ret rfl ⟨_, _, _, h, _, _, rfl, (Sep.nil (Sep.nil (Sep.dropn 4 hs) 1) 1)⟩
        · refine so_gno rfl (not_t c125) ?_
          refine so_gno rfl (not_t c125) ?_
          refine so_gno rfl (not_t c125) ?_
          refine so_pick_t (v := (.v (.bool true))) rfl (not_t c125) rfl ?_
          refine so_nil ?_
          refine fi_true rfl rfl ?_
          refine fi_seq ?_
          refine fi_region ?_
          refine so_assign (v := (.v .nilsl)) rfl ?_
          refine so_assign (v := (.v .nilsl)) rfl ?_
          refine so_assign (v := (.v (.bool false))) rfl ?_
          refine so_nil ?_
          exact by_ret rfl ⟨_, _, _, h, _, _, rfl, (Sep.nil (Sep.nil (Sep.dropn 4 hs) 1) 1)⟩
      · refine fi_true rfl (not_t c110) ?_
        refine fi_seq ?_
        refine fi_region ?_
        refine so_assign (v := (.v .nilsl)) rfl ?_
        refine so_assign (v := (.v .nilsl)) rfl ?_
        refine so_assign (v := (.v (.bool false))) rfl ?_
        refine so_nil ?_
        exact by_ret rfl ⟨_, _, _, h, _, _, rfl, (Sep.nil (Sep.nil (Sep.del 0 hs) 1) 1)⟩
    · refine so_gno rfl (not_t (decide_eq_false c107)) ?_
      refine so_gno rfl (not_t (decide_eq_false c107)) ?_
      refine so_pick_t (v := (.v (.bool true))) rfl (not_t (decide_eq_false c107)) rfl ?_
      refine so_nil ?_
      refine fi_true rfl rfl ?_
      refine fi_seq ?_
      refine fi_region ?_
      refine so_assign (v := (.v .nilsl)) rfl ?_
      refine so_assign (v := (.v .nilsl)) rfl ?_
      refine so_assign (v := (.v (.bool false))) rfl ?_
      refine so_nil ?_
      exact by_ret rfl ⟨_, _, _, h, _, _, rfl, (Sep.nil (Sep.nil (Sep.del 0 hs) 1) 1)⟩
  · refine so_gno rfl (not_t c106) ?_
    refine so_gno rfl (not_t c106) ?_
    refine so_gno rfl (not_t c106) ?_
    refine so_gno rfl (not_t c106) ?_
    refine so_pick_t (v := (.v (.bool true))) rfl (not_t c106) rfl ?_
    refine so_move (v := (.v (.bool true))) rfl ?_
    refine so_gno rfl rfl ?_
    refine so_gno rfl rfl ?_
    refine so_pick_t (v := (.v (.bool true))) rfl rfl rfl ?_
    refine so_nil ?_
    refine fi_true rfl rfl ?_
    refine fi_seq ?_
    refine fi_region ?_
    refine so_assign (v := (.v .nilsl)) rfl ?_
    refine so_assign (v := (.v .nilsl)) rfl ?_
    refine so_assign (v := (.v (.bool false))) rfl ?_
    refine so_nil ?_
    exact by_ret rfl ⟨_, _, _, h, _, _, rfl, (Sep.nil (Sep.nil (Sep.del 0 hs) 1) 1)⟩
theorem F67.ag24 : tagg Try.prog 24 = some false := by kernel_rfl
theorem F67.ag46 : tagg Try.prog 46 = some true := by kernel_rfl
theorem F67.ag72 : tagg Try.prog 72 = some false := by kernel_rfl
theorem F67.ag91 : tagg Try.prog 91 = some true := by kernel_rfl
theorem F67.bp91 : bplan Try.prog 91 = some ([.nilsl, .nilsl], [(0, 1), (1, 1)]) := by kernel_rfl
theorem F67.fd91_0 : tfield Try.prog 91 0 = some (0, 1, false) := by kernel_rfl
theorem F67.fd91_1 : tfield Try.prog 91 1 = some (1, 1, false) := by kernel_rfl
theorem F67.inf46 : (Try.prog.info? 46).isSome = true := by kernel_rfl
theorem F67.sz24 : tsz Try.prog 24 = some 1 := by kernel_rfl
theorem F67.sz26 : tsz Try.prog 26 = some 1 := by kernel_rfl
theorem F67.sz46 : tsz Try.prog 46 = some 1 := by kernel_rfl
theorem F67.sz72 : tsz Try.prog 72 = some 1 := by kernel_rfl
theorem F67.sz91 : tsz Try.prog 91 = some 2 := by kernel_rfl
theorem F67.ta24_24 : tapp Try.prog 24 24 = some (1, 4) := by kernel_rfl
theorem F67.ta72_72 : tapp Try.prog 72 72 = some (1, 24) := by kernel_rfl
theorem F67.te24 : telem Try.prog 24 = some 26 := by kernel_rfl
theorem F67.te72 : telem Try.prog 72 = some 24 := by kernel_rfl
theorem F67.ti24 : (telem Try.prog 24).isSome = true := by kernel_rfl
theorem F67.ze24 : tzero Try.prog 24 = some [.nilsl] := by kernel_rfl
theorem F67.ze26 : tzero Try.prog 26 = some [(.flt .f32 (0 : Nat))] := by kernel_rfl
theorem F67.ze91 : tzero Try.prog 91 = some [.nilsl, .nilsl] := by kernel_rfl
theorem spec_SplitLevels_ok {fr : List Pc} {H : Heap} (v0 : AV) (l0 : List (Nat)) (v1 : AV) (l1 : List (Nat)) (a2 : Int) (hs : Sep H (fr)) (g0 : ∀ H, Sep H fr → Shows H v0 1 (enc (eFlt .f32) l0)) (g1 : ∀ H, Sep H fr → Shows H v1 1 (enc (eFlt .f32) l1)) (K : (List (Nat)) → (List (List (Nat))) → Bool → Prop) (h : spec_SplitLevels.wp l0 l1 a2 K) : OkQ Try.prog 67 [(.v v0), (.g [v1]), (.v (.int .i64 a2))] H (fun r H2 => ∃ (y0 : List (Nat)) (y1 : List (List (Nat))) (y2 : Bool), K y0 y1 y2 ∧ ∃ (w0_ : AV) (w1_ : AV) (wsw1_ : List (List AV)) (Sw1_ : Nat → Prop), r = (.t [(.g [w0_, w1_]), (.v (.bool y2))]) ∧ Sep H2 (Pc.osl w0_ 1 (enc (eFlt .f32) y0) :: dpc w1_ 1 R_LeFlt_f32_o IR_LeFlt_f32_o y1 wsw1_ Sw1_ :: fr)) := by
  unfold spec_SplitLevels.wp at h
  refine of_body Try.f67 F.hm Try.func67 rfl Try.call67 (by kernel_rfl) (by simp) ?_
  refine fi_seq ?_
  refine fi_region ?_
  refine sv_box hs rfl (c := [v1]) rfl F67.inf46 (stc (g1 _ hs).stor stn) nofun (fun id101 H102 hs => ?_)
  refine sv_alloc hs F67.ze91 rfl nofun (fun id104 H105 hs => ?_)
  refine so_assign (v := (.v (.bool false))) rfl ?_
  refine so_nil ?_
  refine fi_seq ?_
  refine fi_seq ?_
  refine fi_region ?_
  refine so_move (v := (.v v0)) rfl ?_
  refine sv_callS (spec_l03Long_ok v0 l0 hs (fun _ hs => (g0 _ hs.tl.tl)) _ h) (fun _ _ ⟨_, _, _, e⟩ => e) rfl rfl ?_
  clear h
  rintro _ _ ⟨y107, h, rfl, rfl⟩
  refine so_un rfl au_not ?_
  refine so_move (v := (.v (.bool (!y107)))) rfl ?_
  replace h := ofT h; rcases h with ⟨c109, h⟩ | ⟨c109, h⟩
  · refine so_gyes rfl (not_f c109) ?_
    refine sv_callS (spec_l03Pair_ok id101 0 v1 l1 hs (fun _ hs => (g1 _ hs.tl.tl)) (fun _ hs => (hs.ptat 1 rfl)) _ h) (fun _ _ ⟨_, _, _, e⟩ => e) rfl rfl ?_
    clear h
    rintro _ _ ⟨y110, h, rfl, rfl⟩
    refine so_gyes rfl (not_f c109) ?_
    refine so_un rfl au_not ?_
    refine so_pick_f (v := (.v (.bool (!y110)))) rfl (not_f c109) rfl ?_
    refine so_move (v := (.v (.bool (!y110)))) rfl ?_
    replace h := ofT h; rcases h with ⟨c112, h⟩ | ⟨c112, h⟩
    · refine so_gyes rfl (not_f c112) ?_
      refine so_move (v := (.v (.int .i64 a2))) rfl ?_
      refine so_gyes rfl (not_f c112) ?_
      refine sv_callS (spec_l00In_ok a2 (1 : Int) (6 : Int) hs  _ h) (fun _ _ ⟨_, _, _, e⟩ => e) rfl rfl ?_
      clear h
      rintro _ _ ⟨y113, h, rfl, rfl⟩
      refine so_gyes rfl (not_f c112) ?_
      refine so_un rfl au_not ?_
      refine so_pick_f (v := (.v (.bool (!y113)))) rfl (not_f c112) rfl ?_
      refine so_move (v := (.v (.bool (!y113)))) rfl ?_
      replace h := ofT h; rcases h with ⟨c115, h⟩ | ⟨c115, h⟩
      · refine so_gyes rfl (not_f c115) ?_
        refine so_move (v := (.v v0)) rfl ?_
        refine so_gyes rfl (not_f c115) ?_
        refine sv_len (g0 _ hs.tl.tl) (fun _ => rfl) (by decide) rfl F67.ti24 ?_
        refine so_gyes rfl (not_f c115) ?_
        refine so_move (v := (.v (.int .i64 a2))) rfl ?_
        refine so_gyes rfl (not_f c115) ?_
        obtain ⟨c116, h⟩ := h
        refine so_bin rfl rfl (ab_shl c116) ?_
        refine so_gyes rfl (not_f c115) ?_
        obtain ⟨c117, h⟩ := h
        refine so_bin rfl rfl (ab_rem c117) ?_
        refine so_gyes rfl (not_f c115) ?_
        refine so_bin rfl rfl ab_neq ?_
        refine so_pick_f (v := (.v (.bool (!(decide ((Int.tmod (l0.length : Int) (IntKind.i64.wrap ((1 : Int) * (2 ^ (min (a2).toNat IntKind.i64.bits))))) = (0 : Int))))))) rfl (not_f c115) rfl ?_
        refine so_nil ?_
        replace h := ofP h; rcases h with ⟨c118, h⟩ | ⟨c118, h⟩
        · refine fi_false rfl (not_f (decide_eq_true c118)) ?_
          refine fi_skip ?_
          refine fi_seq ?_
          refine fi_region ?_
          refine sv_bslice hs (eFlt .f32) ([] : List (Nat)) [] F67.te24 F67.sz26 F67.ze26 rfl rfl rfl rfl (fun _ => rfl) rfl (by decide) nofun (fun v119 H120 nv119 hs => ?_)
          refine so_move (v := (.v v0)) rfl ?_
          obtain ⟨c124, h⟩ := h
          refine sv_app hs 0 rfl (g0 _ hs.tl.tl.tl) (fun _ => rfl) (by decide) F67.ta24_24 (by decide) c124 rfl rfl nofun (fun v122 H123 kv122 hs => ?_)
          have nv122 := kv122 nv119
          refine so_build F67.bp91 (cps := [(0, [v122])]) rfl (fac (stc (hs.shows 0 rfl).stor stn) fan) rfl ?_
          refine sv_alloc hs F67.ze91 rfl nofun (fun id125 H126 hs => ?_)
          refine sv_st hs 0 rfl rfl rfl (c := [v122, .nilsl]) rfl F67.sz91 rfl (stc (hs.shows 1 rfl).stor (stc rfl stn)) (leb rfl) (cs' := [v122, .nilsl]) rfl nofun (fun H128 hs => ?_)
          refine so_nil ?_
          refine fi_seq ?_
          refine fi_block ?_
          refine fi_loop ?_
          replace hs := hs.dnil 1 R_LeFlt_f32_o IR_LeFlt_f32_o
          replace hs := hs.nil 1
          replace hs := hs.dnil 1 R_LeFlt_f32_o IR_LeFlt_f32_o
          refine fi_at [(2, (.v (.int .i64 a2))), (4, (.v (.ptr id101 0))), (6, (.v (.ptr id104 0))), (8, (.v (.ptr id125 0)))] ⟨rfl, rfl, rfl, rfl, trivial⟩ ?_
          refine h (fun (l205 : List (Nat)) (b208 : List (List (Nat))) (b213 : List (Nat)) (b216 : List (List (Nat))) (levels220 : Int) => ∀ (s : Nat → TV) (H : Heap) (v206 : AV) (v209 : AV) (ws210 : List (List AV)) (S211 : Nat → Prop) (v214 : AV) (v217 : AV) (ws218 : List (List AV)) (S219 : Nat → Prop), Sep H (dpc v217 1 R_LeFlt_f32_o IR_LeFlt_f32_o b216 ws218 S219 :: Pc.osl v214 1 (enc (eFlt .f32) b213) :: dpc v209 1 R_LeFlt_f32_o IR_LeFlt_f32_o b208 ws210 S211 :: Pc.box id125 [v206, v209] :: Pc.osl v206 1 (enc (eFlt .f32) l205) :: Pc.box id104 [v214, v217] :: Pc.box id101 [v1] :: fr) → Fin _ _ (updL s [(2, (.v (.int .i64 levels220))), (4, (.v (.ptr id101 0))), (6, (.v (.ptr id104 0))), (8, (.v (.ptr id125 0)))]) H _) ?_ _ _ _ _ _ _ _ _ _ _ hs
          intro l205 b208 b213 b216 levels220 h s243 H244 v206 v209 ws210 S211 v214 v217 ws218 S219 hs
          refine fi_inLoop ?_
          refine fi_seq ?_
          refine fi_seq ?_
          refine fi_region ?_
          refine so_move (v := (.v (.int .i64 levels220))) rfl ?_
          refine so_bin rfl rfl ab_gtr ?_
          refine so_nil ?_
          replace h := ofP h; rcases h with ⟨c221, h⟩ | ⟨c221, h⟩
          · refine fi_true rfl (decide_eq_true c221) ?_
            refine fi_skip ?_
            refine fi_seq ?_
            refine fi_block ?_
            refine fi_seq ?_
            refine fi_region ?_
            refine so_fieldAddr rfl F67.fd91_0 ?_
            refine sv_ld hs 3 rfl rfl rfl F67.ag24 ?_
            refine sv_lds hs 6 rfl rfl (leb rfl) rfl F67.ag46 F67.sz46 ?_
            refine sv_call (spec_SplitRing_ok v206 l205 v1 l1 hs (fun _ hs => (hs.shows 4 rfl)) (fun _ hs => (g1 _ hs.tl.tl.tl.tl.tl.tl.tl)) _ h) rfl rfl nofun ?_
            clear h hs
            rintro _ H229 ⟨y222, y225, y228, h, v223, v226, rfl, hs⟩
            refine so_move (v := (.t [(.v v223), (.v v226), (.v (.bool y228))])) rfl ?_
            refine so_extract rfl rfl rfl ?_
            refine so_extract rfl rfl rfl ?_
            refine so_extract rfl rfl rfl ?_
            refine so_assign (v := (.v v223)) rfl ?_
            refine so_assign (v := (.v v226)) rfl ?_
            refine so_assign (v := (.v (.bool y228))) rfl ?_
            refine so_nil ?_
            refine fi_seq ?_
            refine fi_seq ?_
            refine fi_region ?_
            refine so_move (v := (.v (.bool y228))) rfl ?_
            refine so_un rfl au_not ?_
            refine so_nil ?_
            replace h := ofT h; rcases h with ⟨c230, h⟩ | ⟨c230, h⟩
            · refine fi_false rfl (not_f c230) ?_
              refine fi_skip ?_
              refine fi_seq ?_
              refine fi_region ?_
              refine so_move (v := (.v v223)) rfl ?_
              refine so_fieldAddr rfl F67.fd91_0 ?_
              refine sv_st hs 5 rfl rfl rfl (c := [v223]) rfl F67.sz24 rfl (stc (hs.shows 0 rfl).stor stn) (leb rfl) (cs' := [v223, v209]) rfl nofun (fun H231 hs => ?_)
              refine so_nil ?_
              refine fi_region ?_
              refine so_fieldAddr rfl F67.fd91_1 ?_
              refine sv_ld hs 5 rfl rfl rfl F67.ag72 ?_
              refine so_move (v := (.v v226)) rfl ?_
              refine sd_bslice hs [[v226]] F67.te72 F67.sz24 F67.ze24 rfl rfl rfl (by simp) (fac (stc (hs.shows 1 rfl).stor stn) fan) (by decide) rfl nofun (fun v232 H233 _ hs => ?_)
              obtain ⟨c235, h⟩ := h
              replace hs := Sep.front 2 hs rfl
              refine sk_app hs 4 rfl y225 [v226] (hs.tl.shows 0 rfl) (fun _ hh => ⟨rfl, hh⟩) rfl rfl (by decide) F67.ta72_72 (by decide) c235 rfl rfl nofun (fun v236 ws237 S238 H239 hs => ?_)
              replace hs := hs.del 0
              refine so_fieldAddr rfl F67.fd91_1 ?_
              refine sv_st hs 4 rfl rfl rfl (c := [v236]) rfl F67.sz72 rfl (stc (hs.dshows 3 rfl).stor stn) (leb rfl) (cs' := [v223, v236]) rfl nofun (fun H240 hs => ?_)
              refine so_nil ?_
              refine fi_inBlock ?_
              refine fi_region ?_
              refine so_move (v := (.v (.int .i64 levels220))) rfl ?_
              refine so_bin rfl rfl ab_sub ?_
              refine so_assign (v := (.v (.int .i64 (IntKind.i64.wrap (levels220 - (1 : Int)))))) rfl ?_
              refine so_nil ?_
              exact fi_at [(2, (.v (.int .i64 (IntKind.i64.wrap (levels220 - (1 : Int)))))), (4, (.v (.ptr id101 0))), (6, (.v (.ptr id104 0))), (8, (.v (.ptr id125 0)))] ⟨rfl, rfl, rfl, rfl, trivial⟩ (h _ _ _ _ _ _ _ _ _ _ (Sep.front 6 (Sep.front 6 (Sep.front 6 (Sep.front 6 (Sep.front 2 (Sep.front 6 (Sep.front 6 (Sep.del 5 hs) rfl) rfl) rfl) rfl) rfl) rfl) rfl))
            · refine fi_true rfl (not_t c230) ?_
              refine fi_seq ?_
              refine fi_region ?_
              refine so_build F67.bp91 (cps := []) rfl fan rfl ?_
              refine sv_st hs 7 rfl rfl rfl (c := [.nilsl, .nilsl]) rfl F67.sz91 rfl (stc rfl (stc rfl stn)) (leb rfl) (cs' := [.nilsl, .nilsl]) rfl nofun (fun H241 hs => ?_)
              refine so_assign (v := (.v (.bool false))) rfl ?_
              refine so_nil ?_
              exact by_ret (res_mk (ar_cells rfl F67.ag91 F67.sz91 (hs.lds 7 rfl (leb rfl) rfl) (ar_tmp rfl ar_nil)) rfl) ⟨_, _, _, h, _, _, _, _, rfl, (Sep.nil (Sep.dnil (Sep.dropn 9 hs) 1 R_LeFlt_f32_o IR_LeFlt_f32_o) 1)⟩
          · refine fi_false rfl (decide_eq_false c221) ?_
            refine fi_exit rfl ?_
            refine fi_seq ?_
            refine fi_region ?_
            refine sv_lds hs 3 rfl rfl (leb rfl) rfl F67.ag91 F67.sz91 ?_
            refine sv_st hs 5 rfl rfl rfl (c := [v206, v209]) rfl F67.sz91 rfl (stc (hs.shows 4 rfl).stor (stc (hs.dshows 2 rfl).stor stn)) (leb rfl) (cs' := [v206, v209]) rfl nofun (fun H242 hs => ?_)
            refine so_assign (v := (.v (.bool true))) rfl ?_
            refine so_nil ?_
            exact by_ret (res_mk (ar_cells rfl F67.ag91 F67.sz91 (hs.lds 5 rfl (leb rfl) rfl) (ar_tmp rfl ar_nil)) rfl) ⟨_, _, _, h, _, _, _, _, rfl, (Sep.front 1 (Sep.del 2 (Sep.del 2 (Sep.del 1 (Sep.del 0 (Sep.del 0 hs))))) rfl)⟩
        · refine fi_true rfl (not_t (decide_eq_false c118)) ?_
          refine fi_seq ?_
          refine fi_region ?_
          refine so_build F67.bp91 (cps := []) rfl fan rfl ?_
          refine sv_st hs 0 rfl rfl rfl (c := [.nilsl, .nilsl]) rfl F67.sz91 rfl (stc rfl (stc rfl stn)) (leb rfl) (cs' := [.nilsl, .nilsl]) rfl nofun (fun H245 hs => ?_)
          refine so_assign (v := (.v (.bool false))) rfl ?_
          refine so_nil ?_
          exact by_ret (res_mk (ar_cells rfl F67.ag91 F67.sz91 (hs.lds 0 rfl (leb rfl) rfl) (ar_tmp rfl ar_nil)) rfl) ⟨_, _, _, h, _, _, _, _, rfl, (Sep.nil (Sep.dnil (Sep.del 0 (Sep.del 0 hs)) 1 R_LeFlt_f32_o IR_LeFlt_f32_o) 1)⟩
      · refine so_gno rfl (not_t c115) ?_
        refine so_gno rfl (not_t c115) ?_
        refine so_gno rfl (not_t c115) ?_
        refine so_gno rfl (not_t c115) ?_
        refine so_gno rfl (not_t c115) ?_
        refine so_gno rfl (not_t c115) ?_
        refine so_pick_t (v := (.v (.bool true))) rfl (not_t c115) rfl ?_
        refine so_nil ?_
        refine fi_true rfl rfl ?_
        refine fi_seq ?_
        refine fi_region ?_
        refine so_build F67.bp91 (cps := []) rfl fan rfl ?_
        refine sv_st hs 0 rfl rfl rfl (c := [.nilsl, .nilsl]) rfl F67.sz91 rfl (stc rfl (stc rfl stn)) (leb rfl) (cs' := [.nilsl, .nilsl]) rfl nofun (fun H246 hs => ?_)
        refine so_assign (v := (.v (.bool false))) rfl ?_
        refine so_nil ?_
        exact by_ret (res_mk (ar_cells rfl F67.ag91 F67.sz91 (hs.lds 0 rfl (leb rfl) rfl) (ar_tmp rfl ar_nil)) rfl) ⟨_, _, _, h, _, _, _, _, rfl, (Sep.nil (Sep.dnil (Sep.del 0 (Sep.del 0 hs)) 1 R_LeFlt_f32_o IR_LeFlt_f32_o) 1)⟩
    · refine so_gno rfl (not_t c112) ?_
      refine so_gno rfl (not_t c112) ?_
      refine so_gno rfl (not_t c112) ?_
      refine so_pick_t (v := (.v (.bool true))) rfl (not_t c112) rfl ?_
      refine so_move (v := (.v (.bool true))) rfl ?_
      refine so_gno rfl rfl ?_
      refine so_gno rfl rfl ?_
      refine so_gno rfl rfl ?_
      refine so_gno rfl rfl ?_
      refine so_gno rfl rfl ?_
      refine so_gno rfl rfl ?_
      refine so_pick_t (v := (.v (.bool true))) rfl rfl rfl ?_
      refine so_nil ?_
      refine fi_true rfl rfl ?_
      refine fi_seq ?_
      refine fi_region ?_
      refine so_build F67.bp91 (cps := []) rfl fan rfl ?_
      refine sv_st hs 0 rfl rfl rfl (c := [.nilsl, .nilsl]) rfl F67.sz91 rfl (stc rfl (stc rfl stn)) (leb rfl) (cs' := [.nilsl, .nilsl]) rfl nofun (fun H247 hs => ?_)
      refine so_assign (v := (.v (.bool false))) rfl ?_
      refine so_nil ?_
      exact by_ret (res_mk (ar_cells rfl F67.ag91 F67.sz91 (hs.lds 0 rfl (leb rfl) rfl) (ar_tmp rfl ar_nil)) rfl) ⟨_, _, _, h, _, _, _, _, rfl, (Sep.nil (Sep.dnil (Sep.del 0 (Sep.del 0 hs)) 1 R_LeFlt_f32_o IR_LeFlt_f32_o) 1)⟩
  · refine so_gno rfl (not_t c109) ?_
    refine so_gno rfl (not_t c109) ?_
    refine so_pick_t (v := (.v (.bool true))) rfl (not_t c109) rfl ?_
    refine so_move (v := (.v (.bool true))) rfl ?_
    refine so_gno rfl rfl ?_
    refine so_gno rfl rfl ?_
    refine so_gno rfl rfl ?_
    refine so_pick_t (v := (.v (.bool true))) rfl rfl rfl ?_
    refine so_move (v := (.v (.bool true))) rfl ?_
    refine so_gno rfl rfl ?_
    refine so_gno rfl rfl ?_
    refine so_gno rfl rfl ?_
    refine so_gno rfl rfl ?_
    refine so_gno rfl rfl ?_
    refine so_gno rfl rfl ?_
    refine so_pick_t (v := (.v (.bool true))) rfl rfl rfl ?_
    refine so_nil ?_
    refine fi_true rfl rfl ?_
    refine fi_seq ?_
    refine fi_region ?_
    refine so_build F67.bp91 (cps := []) rfl fan rfl ?_
    refine sv_st hs 0 rfl rfl rfl (c := [.nilsl, .nilsl]) rfl F67.sz91 rfl (stc rfl (stc rfl stn)) (leb rfl) (cs' := [.nilsl, .nilsl]) rfl nofun (fun H248 hs => ?_)
    refine so_assign (v := (.v (.bool false))) rfl ?_
    refine so_nil ?_
    exact by_ret (res_mk (ar_cells rfl F67.ag91 F67.sz91 (hs.lds 0 rfl (leb rfl) rfl) (ar_tmp rfl ar_nil)) rfl) ⟨_, _, _, h, _, _, _, _, rfl, (Sep.nil (Sep.dnil (Sep.del 0 (Sep.del 0 hs)) 1 R_LeFlt_f32_o IR_LeFlt_f32_o) 1)⟩
theorem F110.ag24 : tagg Try.prog 24 = some false := by kernel_rfl
theorem F110.ag72 : tagg Try.prog 72 = some false := by kernel_rfl
theorem F110.fd91_0 : tfield Try.prog 91 0 = some (0, 1, false) := by kernel_rfl
theorem F110.fd91_1 : tfield Try.prog 91 1 = some (1, 1, false) := by kernel_rfl
theorem F110.ti24 : (telem Try.prog 24).isSome = true := by kernel_rfl
theorem F110.ti72 : (telem Try.prog 72).isSome = true := by kernel_rfl
theorem F110.tl72 : (telem Try.prog 72).bind (tsz Try.prog) = some 1 := by kernel_rfl
theorem spec_l03Bands_ok {fr : List Pc} {H : Heap} (i0 o0 : Nat) (v0 : AV) (l0 : List (Nat)) (v1 : AV) (w1 : List (List AV)) (l1 : List (List (Nat))) (hs : Sep H (fr)) (g0 : ∀ H, Sep H fr → Shows H v0 1 (enc (eFlt .f32) l0)) (g1 : ∀ H, Sep H fr → DSh H v1 1 R_LeFlt_f32_o l1 w1) (q0 : ∀ H, Sep H fr → PtAt H i0 o0 [v0, v1]) (K : Bool → Prop) (h : spec_l03Bands.wp l0 l1 K) : OkQ Try.prog 110 [(.v (.ptr i0 o0))] H (fun r H2 => ∃ (y0 : Bool), K y0 ∧ r = (.v (.bool y0)) ∧ H = H2) := by
  unfold spec_l03Bands.wp at h
  refine of_body Try.f110 F.hm Try.func110 rfl Try.call110 (by kernel_rfl) (by simp) ?_
  refine fi_seq ?_
  refine fi_region ?_
  refine so_assign (v := (.v (.bool false))) rfl ?_
  refine so_nil ?_
  refine fi_seq ?_
  refine fi_region ?_
  refine so_move (v := (.v (.ptr i0 o0))) rfl ?_
  refine so_nilCheck rfl ?_
  refine so_fieldAddr rfl F110.fd91_1 ?_
  refine su_ld (q0 _ hs) 1 rfl rfl F110.ag72 ?_
  refine sd_len ((g1 _ hs) : DSh _ _ 1 R_LeFlt_f32_o l1 w1) (by decide) rfl F110.ti72 ?_
  refine so_assign (v := (.v (.int .i64 (l1.length : Int)))) rfl ?_
  refine so_nil ?_
  refine fi_seq ?_
  refine fi_seq ?_
  refine fi_region ?_
  refine so_move (v := (.v (.int .i64 (l1.length : Int)))) rfl ?_
  refine so_bin rfl rfl ab_lss ?_
  refine so_move (v := (.v (.bool (decide ((l1.length : Int) < (1 : Int)))))) rfl ?_
  replace h := ofP h; rcases h with ⟨c101, h⟩ | ⟨c101, h⟩
  · refine so_gno rfl (decide_eq_true c101) ?_
    refine so_gno rfl (decide_eq_true c101) ?_
    refine so_pick_t (v := (.v (.bool true))) rfl (decide_eq_true c101) rfl ?_
    refine so_move (v := (.v (.bool true))) rfl ?_
    refine so_gno rfl rfl ?_
    refine so_gno rfl rfl ?_
    refine so_gno rfl rfl ?_
    refine so_gno rfl rfl ?_
    refine so_gno rfl rfl ?_
    refine so_gno rfl rfl ?_
    refine so_gno rfl rfl ?_
    refine so_gno rfl rfl ?_
    refine so_pick_t (v := (.v (.bool true))) rfl rfl rfl ?_
    refine so_move (v := (.v (.bool true))) rfl ?_
    refine so_gno rfl rfl ?_
    refine so_gno rfl rfl ?_
    refine so_gno rfl rfl ?_
    refine so_gno rfl rfl ?_
    refine so_gno rfl rfl ?_
    refine so_gno rfl rfl ?_
    refine so_pick_t (v := (.v (.bool true))) rfl rfl rfl ?_
    refine so_nil ?_
    refine fi_true rfl rfl ?_
    refine fi_seq ?_
    refine fi_region ?_
    refine so_assign (v := (.v (.bool false))) rfl ?_
    refine so_nil ?_
    exact by_ret rfl ⟨_, h, rfl, rfl⟩
  · refine so_gyes rfl (decide_eq_false c101) ?_
    refine so_move (v := (.v (.int .i64 (l1.length : Int)))) rfl ?_
    refine so_gyes rfl (decide_eq_false c101) ?_
    refine so_bin rfl rfl ab_gtr ?_
    refine so_pick_f (v := (.v (.bool (decide ((6 : Int) < (l1.length : Int)))))) rfl (decide_eq_false c101) rfl ?_
    refine so_move (v := (.v (.bool (decide ((6 : Int) < (l1.length : Int)))))) rfl ?_
    replace h := ofP h; rcases h with ⟨c102, h⟩ | ⟨c102, h⟩
    · refine so_gno rfl (decide_eq_true c102) ?_
      refine so_gno rfl (decide_eq_true c102) ?_
      refine so_gno rfl (decide_eq_true c102) ?_
      refine so_gno rfl (decide_eq_true c102) ?_
      refine so_gno rfl (decide_eq_true c102) ?_
      refine so_gno rfl (decide_eq_true c102) ?_
      refine so_gno rfl (decide_eq_true c102) ?_
      refine so_gno rfl (decide_eq_true c102) ?_
      refine so_pick_t (v := (.v (.bool true))) rfl (decide_eq_true c102) rfl ?_
      refine so_move (v := (.v (.bool true))) rfl ?_
      refine so_gno rfl rfl ?_
      refine so_gno rfl rfl ?_
      refine so_gno rfl rfl ?_
      refine so_gno rfl rfl ?_
      refine so_gno rfl rfl ?_
      refine so_gno rfl rfl ?_
      refine so_pick_t (v := (.v (.bool true))) rfl rfl rfl ?_
      refine so_nil ?_
      refine fi_true rfl rfl ?_
      refine fi_seq ?_
      refine fi_region ?_
      refine so_assign (v := (.v (.bool false))) rfl ?_
      refine so_nil ?_
      exact by_ret rfl ⟨_, h, rfl, rfl⟩
    · refine so_gyes rfl (decide_eq_false c102) ?_
      refine so_move (v := (.v (.ptr i0 o0))) rfl ?_
      refine so_gyes rfl (decide_eq_false c102) ?_
      refine so_nilCheck rfl ?_
      refine so_gyes rfl (decide_eq_false c102) ?_
      refine so_fieldAddr rfl F110.fd91_1 ?_
      refine so_gyes rfl (decide_eq_false c102) ?_
      refine su_ld (q0 _ hs) 1 rfl rfl F110.ag72 ?_
      refine so_gyes rfl (decide_eq_false c102) ?_
      obtain ⟨c103, h⟩ := h
      refine sd_idx ((g1 _ hs) : DSh _ _ 1 R_LeFlt_f32_o l1 w1) c103 ([] : List (Nat)) (by decide) rfl rfl F110.tl72 ?_
      refine so_gyes rfl (decide_eq_false c102) ?_
      refine su_ld ((((g1 _ hs) : DSh _ _ 1 R_LeFlt_f32_o l1 w1)).at (by decide) c103 ([] : List (Nat))).2.2 0 (congrArg (fun c => c[0]?) ((((g1 _ hs) : DSh _ _ 1 R_LeFlt_f32_o l1 w1)).at (by decide) c103 ([] : List (Nat))).2.1.1) rfl F110.ag24 ?_
      refine so_gyes rfl (decide_eq_false c102) ?_
      refine sv_len ((((g1 _ hs) : DSh _ _ 1 R_LeFlt_f32_o l1 w1)).at (by decide) c103 ([] : List (Nat))).2.1.2 (fun _ => rfl) (by decide) rfl F110.ti24 ?_
      refine so_gyes rfl (decide_eq_false c102) ?_
      refine so_bin rfl rfl ab_gtr ?_
      refine so_pick_f (v := (.v (.bool (decide ((64 : Int) < ((l1.getD ((0 : Int)).toNat ([] : List (Nat))).length : Int)))))) rfl (decide_eq_false c102) rfl ?_
      refine so_move (v := (.v (.bool (decide ((64 : Int) < ((l1.getD ((0 : Int)).toNat ([] : List (Nat))).length : Int)))))) rfl ?_
      replace h := ofP h; rcases h with ⟨c104, h⟩ | ⟨c104, h⟩
      · refine so_gno rfl (decide_eq_true c104) ?_
        refine so_gno rfl (decide_eq_true c104) ?_
        refine so_gno rfl (decide_eq_true c104) ?_
        refine so_gno rfl (decide_eq_true c104) ?_
        refine so_gno rfl (decide_eq_true c104) ?_
        refine so_gno rfl (decide_eq_true c104) ?_
        refine so_pick_t (v := (.v (.bool true))) rfl (decide_eq_true c104) rfl ?_
        refine so_nil ?_
        refine fi_true rfl rfl ?_
        refine fi_seq ?_
        refine fi_region ?_
        refine so_assign (v := (.v (.bool false))) rfl ?_
        refine so_nil ?_
        exact by_ret rfl ⟨_, h, rfl, rfl⟩
      · refine so_gyes rfl (decide_eq_false c104) ?_
        refine so_move (v := (.v (.ptr i0 o0))) rfl ?_
        refine so_gyes rfl (decide_eq_false c104) ?_
        refine so_nilCheck rfl ?_
        refine so_gyes rfl (decide_eq_false c104) ?_
        refine so_fieldAddr rfl F110.fd91_0 ?_
        refine so_gyes rfl (decide_eq_false c104) ?_
        refine su_ld (q0 _ hs) 0 rfl rfl F110.ag24 ?_
        refine so_gyes rfl (decide_eq_false c104) ?_
        refine sv_callS (spec_l02Finite_ok v0 l0 hs (fun _ hs => (g0 _ hs)) _ h) (fun _ _ ⟨_, _, _, e⟩ => e) rfl rfl ?_
        clear h
        rintro _ _ ⟨y105, h, rfl, rfl⟩
        refine so_gyes rfl (decide_eq_false c104) ?_
        refine so_un rfl au_not ?_
        refine so_pick_f (v := (.v (.bool (!y105)))) rfl (decide_eq_false c104) rfl ?_
        refine so_nil ?_
        replace h := ofT h; rcases h with ⟨c107, h⟩ | ⟨c107, h⟩
        · refine fi_false rfl (not_f c107) ?_
          refine fi_skip ?_
          refine fi_seq ?_
          refine fi_seq ?_
          refine fi_region ?_
          refine so_move (v := (.v (.ptr i0 o0))) rfl ?_
          refine so_nilCheck rfl ?_
          refine so_fieldAddr rfl F110.fd91_1 ?_
          refine su_ld (q0 _ hs) 1 rfl rfl F110.ag72 ?_
          refine sd_len ((g1 _ hs) : DSh _ _ 1 R_LeFlt_f32_o l1 w1) (by decide) rfl F110.ti72 ?_
          refine so_move (v := (.v (.int .i64 (0 : Int)))) rfl ?_
          refine so_nil ?_
          refine fi_block ?_
          refine fi_loop ?_
          refine fi_at [(0, (.v (.ptr i0 o0))), (3, (.v (.int .i64 (l1.length : Int)))), (38, (.v (.int .i64 (l1.length : Int)))), (39, (.v (.int .i64 (0 : Int))))] ⟨rfl, rfl, rfl, rfl, trivial⟩ ?_
          refine h (fun (x109 : Int) => ∀ (s : Nat → TV), Fin _ _ (updL s [(0, (.v (.ptr i0 o0))), (3, (.v (.int .i64 (l1.length : Int)))), (38, (.v (.int .i64 (l1.length : Int)))), (39, (.v (.int .i64 x109)))]) _ _) ?_ _
          intro x109 h s120
          refine fi_inLoop ?_
          refine fi_seq ?_
          refine fi_region ?_
          refine so_bin rfl rfl ab_lss ?_
          refine so_nil ?_
          refine fi_seq ?_
          replace h := ofP h; rcases h with ⟨c110, h⟩ | ⟨c110, h⟩
          · refine fi_true rfl (decide_eq_true c110) ?_
            refine fi_skip ?_
            refine fi_seq ?_
            refine fi_block ?_
            refine fi_seq ?_
            refine fi_region ?_
            refine so_move (v := (.v (.int .i64 x109))) rfl ?_
            refine so_assign (v := (.v (.int .i64 x109))) rfl ?_
            refine so_nil ?_
            refine fi_seq ?_
            refine fi_region ?_
            refine so_move (v := (.v (.ptr i0 o0))) rfl ?_
            refine so_nilCheck rfl ?_
            refine so_fieldAddr rfl F110.fd91_1 ?_
            refine su_ld (q0 _ hs) 1 rfl rfl F110.ag72 ?_
            refine so_move (v := (.v (.int .i64 x109))) rfl ?_
            obtain ⟨c111, h⟩ := h
            refine sd_idx ((g1 _ hs) : DSh _ _ 1 R_LeFlt_f32_o l1 w1) c111 ([] : List (Nat)) (by decide) rfl rfl F110.tl72 ?_
            refine su_ld ((((g1 _ hs) : DSh _ _ 1 R_LeFlt_f32_o l1 w1)).at (by decide) c111 ([] : List (Nat))).2.2 0 (congrArg (fun c => c[0]?) ((((g1 _ hs) : DSh _ _ 1 R_LeFlt_f32_o l1 w1)).at (by decide) c111 ([] : List (Nat))).2.1.1) rfl F110.ag24 ?_
            refine sv_len ((((g1 _ hs) : DSh _ _ 1 R_LeFlt_f32_o l1 w1)).at (by decide) c111 ([] : List (Nat))).2.1.2 (fun _ => rfl) (by decide) rfl F110.ti24 ?_
            refine so_bin rfl rfl ab_lss ?_
            refine so_move (v := (.v (.bool (decide (((l1.getD (x109).toNat ([] : List (Nat))).length : Int) < (1 : Int)))))) rfl ?_
            replace h := ofP h; rcases h with ⟨c112, h⟩ | ⟨c112, h⟩
            · refine so_gno rfl (decide_eq_true c112) ?_
              refine so_gno rfl (decide_eq_true c112) ?_
              refine so_gno rfl (decide_eq_true c112) ?_
              refine so_gno rfl (decide_eq_true c112) ?_
              refine so_gno rfl (decide_eq_true c112) ?_
              refine so_gno rfl (decide_eq_true c112) ?_
              refine so_gno rfl (decide_eq_true c112) ?_
              refine so_gno rfl (decide_eq_true c112) ?_
              refine so_gno rfl (decide_eq_true c112) ?_
              refine so_pick_t (v := (.v (.bool true))) rfl (decide_eq_true c112) rfl ?_
              refine so_move (v := (.v (.bool true))) rfl ?_
              refine so_gno rfl rfl ?_
              refine so_gno rfl rfl ?_
              refine so_gno rfl rfl ?_
              refine so_gund rfl ?_
              refine so_gund rfl ?_
              refine so_gund rfl ?_
              refine so_gund rfl ?_
              refine so_gund rfl ?_
              refine so_gund rfl ?_
              refine so_gund rfl ?_
              refine so_gund rfl ?_
              refine so_gund rfl ?_
              refine so_gund rfl ?_
              refine so_gund rfl ?_
              refine so_gund rfl ?_
              refine so_gund rfl ?_
              refine so_gund rfl ?_
              refine so_gund rfl ?_
              refine so_gund rfl ?_
              refine so_gund rfl ?_
              refine so_gund rfl ?_
              refine so_gund rfl ?_
              refine so_gno rfl rfl ?_
              refine so_pick_t (v := (.v (.bool true))) rfl rfl rfl ?_
              refine so_nil ?_
              refine fi_true rfl rfl ?_
              refine fi_seq ?_
              refine fi_region ?_
              refine so_assign (v := (.v (.bool false))) rfl ?_
              refine so_nil ?_
              exact by_ret rfl ⟨_, h, rfl, rfl⟩
            · refine so_gyes rfl (decide_eq_false c112) ?_
              refine so_move (v := (.v (.ptr i0 o0))) rfl ?_
              refine so_gyes rfl (decide_eq_false c112) ?_
              refine so_nilCheck rfl ?_
              refine so_gyes rfl (decide_eq_false c112) ?_
              refine so_fieldAddr rfl F110.fd91_1 ?_
              refine so_gyes rfl (decide_eq_false c112) ?_
              refine su_ld (q0 _ hs) 1 rfl rfl F110.ag72 ?_
              refine so_gyes rfl (decide_eq_false c112) ?_
              refine so_move (v := (.v (.int .i64 x109))) rfl ?_
              refine so_gyes rfl (decide_eq_false c112) ?_
              refine sd_idx ((g1 _ hs) : DSh _ _ 1 R_LeFlt_f32_o l1 w1) c111 ([] : List (Nat)) (by decide) rfl rfl F110.tl72 ?_
              refine so_gyes rfl (decide_eq_false c112) ?_
              refine su_ld ((((g1 _ hs) : DSh _ _ 1 R_LeFlt_f32_o l1 w1)).at (by decide) c111 ([] : List (Nat))).2.2 0 (congrArg (fun c => c[0]?) ((((g1 _ hs) : DSh _ _ 1 R_LeFlt_f32_o l1 w1)).at (by decide) c111 ([] : List (Nat))).2.1.1) rfl F110.ag24 ?_
              refine so_gyes rfl (decide_eq_false c112) ?_
              refine sv_callS (spec_l02Finite_ok ((w1.getD (x109).toNat []).getD 0 .und) (l1.getD (x109).toNat ([] : List (Nat))) hs (fun _ hs => ((((g1 _ hs) : DSh _ _ 1 R_LeFlt_f32_o l1 w1)).at (by decide) c111 ([] : List (Nat))).2.1.2) _ h) (fun _ _ ⟨_, _, _, e⟩ => e) rfl rfl ?_
              clear h
              rintro _ _ ⟨y113, h, rfl, rfl⟩
              refine so_gyes rfl (decide_eq_false c112) ?_
              refine so_un rfl au_not ?_
              refine so_pick_f (v := (.v (.bool (!y113)))) rfl (decide_eq_false c112) rfl ?_
              refine so_move (v := (.v (.bool (!y113)))) rfl ?_
              replace h := ofT h; rcases h with ⟨c115, h⟩ | ⟨c115, h⟩
              · refine so_gyes rfl (not_f c115) ?_
                refine so_move (v := (.v (.int .i64 x109))) rfl ?_
                refine so_gyes rfl (not_f c115) ?_
                refine so_bin rfl rfl ab_gtr ?_
                refine so_gyes rfl (not_f c115) ?_
                refine so_move (v := (.v (.bool (decide ((0 : Int) < x109))))) rfl ?_
                replace h := ofP h; rcases h with ⟨c116, h⟩ | ⟨c116, h⟩
                · refine so_gyes rfl (decide_eq_true c116) ?_
                  refine so_move (v := (.v (.ptr i0 o0))) rfl ?_
                  refine so_gyes rfl (decide_eq_true c116) ?_
                  refine so_nilCheck rfl ?_
                  refine so_gyes rfl (decide_eq_true c116) ?_
                  refine so_fieldAddr rfl F110.fd91_1 ?_
                  refine so_gyes rfl (decide_eq_true c116) ?_
                  refine su_ld (q0 _ hs) 1 rfl rfl F110.ag72 ?_
                  refine so_gyes rfl (decide_eq_true c116) ?_
                  refine so_move (v := (.v (.int .i64 x109))) rfl ?_
                  refine so_gyes rfl (decide_eq_true c116) ?_
                  refine so_bin rfl rfl ab_sub ?_
                  refine so_gyes rfl (decide_eq_true c116) ?_
                  obtain ⟨c117, h⟩ := h
                  refine sd_idx ((g1 _ hs) : DSh _ _ 1 R_LeFlt_f32_o l1 w1) c117 ([] : List (Nat)) (by decide) rfl rfl F110.tl72 ?_
                  refine so_gyes rfl (decide_eq_true c116) ?_
                  refine su_ld ((((g1 _ hs) : DSh _ _ 1 R_LeFlt_f32_o l1 w1)).at (by decide) c117 ([] : List (Nat))).2.2 0 (congrArg (fun c => c[0]?) ((((g1 _ hs) : DSh _ _ 1 R_LeFlt_f32_o l1 w1)).at (by decide) c117 ([] : List (Nat))).2.1.1) rfl F110.ag24 ?_
                  refine so_gyes rfl (decide_eq_true c116) ?_
                  refine sv_len ((((g1 _ hs) : DSh _ _ 1 R_LeFlt_f32_o l1 w1)).at (by decide) c117 ([] : List (Nat))).2.1.2 (fun _ => rfl) (by decide) rfl F110.ti24 ?_
                  refine so_gyes rfl (decide_eq_true c116) ?_
                  refine so_move (v := (.v (.ptr i0 o0))) rfl ?_
                  refine so_gyes rfl (decide_eq_true c116) ?_
                  refine so_nilCheck rfl ?_
                  refine so_gyes rfl (decide_eq_true c116) ?_
                  refine so_fieldAddr rfl F110.fd91_1 ?_
                  refine so_gyes rfl (decide_eq_true c116) ?_
                  refine su_ld (q0 _ hs) 1 rfl rfl F110.ag72 ?_
                  refine so_gyes rfl (decide_eq_true c116) ?_
                  refine so_move (v := (.v (.int .i64 x109))) rfl ?_
                  refine so_gyes rfl (decide_eq_true c116) ?_
                  refine sd_idx ((g1 _ hs) : DSh _ _ 1 R_LeFlt_f32_o l1 w1) c111 ([] : List (Nat)) (by decide) rfl rfl F110.tl72 ?_
                  refine so_gyes rfl (decide_eq_true c116) ?_
                  refine su_ld ((((g1 _ hs) : DSh _ _ 1 R_LeFlt_f32_o l1 w1)).at (by decide) c111 ([] : List (Nat))).2.2 0 (congrArg (fun c => c[0]?) ((((g1 _ hs) : DSh _ _ 1 R_LeFlt_f32_o l1 w1)).at (by decide) c111 ([] : List (Nat))).2.1.1) rfl F110.ag24 ?_
                  refine so_gyes rfl (decide_eq_true c116) ?_
                  refine sv_len ((((g1 _ hs) : DSh _ _ 1 R_LeFlt_f32_o l1 w1)).at (by decide) c111 ([] : List (Nat))).2.1.2 (fun _ => rfl) (by decide) rfl F110.ti24 ?_
                  refine so_gyes rfl (decide_eq_true c116) ?_
                  refine so_bin rfl rfl ab_mul ?_
                  refine so_gyes rfl (decide_eq_true c116) ?_
                  refine so_bin rfl rfl ab_neq ?_
                  refine so_gyes rfl (not_f c115) ?_
                  refine so_pick_t (v := (.v (.bool (!(decide (((l1.getD ((IntKind.i64.wrap (x109 - (1 : Int)))).toNat ([] : List (Nat))).length : Int) = (IntKind.i64.wrap ((2 : Int) * ((l1.getD (x109).toNat ([] : List (Nat))).length : Int))))))))) rfl (decide_eq_true c116) rfl ?_
                  refine so_pick_f (v := (.v (.bool (!(decide (((l1.getD ((IntKind.i64.wrap (x109 - (1 : Int)))).toNat ([] : List (Nat))).length : Int) = (IntKind.i64.wrap ((2 : Int) * ((l1.getD (x109).toNat ([] : List (Nat))).length : Int))))))))) rfl (not_f c115) rfl ?_
                  refine so_nil ?_
                  replace h := ofP h; rcases h with ⟨c118, h⟩ | ⟨c118, h⟩
                  · refine fi_false rfl (not_f (decide_eq_true c118)) ?_
                    refine fi_skip ?_
                    refine fi_inBlock ?_
                    refine fi_region ?_
                    refine so_bin rfl rfl ab_add ?_
                    refine so_move (v := (.v (.int .i64 (IntKind.i64.wrap (x109 + (1 : Int)))))) rfl ?_
                    refine so_nil ?_
                    exact fi_at [(0, (.v (.ptr i0 o0))), (3, (.v (.int .i64 (l1.length : Int)))), (38, (.v (.int .i64 (l1.length : Int)))), (39, (.v (.int .i64 (IntKind.i64.wrap (x109 + (1 : Int))))))] ⟨rfl, rfl, rfl, rfl, trivial⟩ (h _)
                  · refine fi_true rfl (not_t (decide_eq_false c118)) ?_
                    refine fi_seq ?_
                    refine fi_region ?_
                    refine so_assign (v := (.v (.bool false))) rfl ?_
                    refine so_nil ?_
                    exact by_ret rfl ⟨_, h, rfl, rfl⟩
                · refine so_gno rfl (decide_eq_false c116) ?_
                  refine so_gno rfl (decide_eq_false c116) ?_
                  refine so_gno rfl (decide_eq_false c116) ?_
                  refine so_gno rfl (decide_eq_false c116) ?_
                  refine so_gno rfl (decide_eq_false c116) ?_
                  refine so_gno rfl (decide_eq_false c116) ?_
                  refine so_gno rfl (decide_eq_false c116) ?_
                  refine so_gno rfl (decide_eq_false c116) ?_
                  refine so_gno rfl (decide_eq_false c116) ?_
                  refine so_gno rfl (decide_eq_false c116) ?_
                  refine so_gno rfl (decide_eq_false c116) ?_
                  refine so_gno rfl (decide_eq_false c116) ?_
                  refine so_gno rfl (decide_eq_false c116) ?_
                  refine so_gno rfl (decide_eq_false c116) ?_
                  refine so_gno rfl (decide_eq_false c116) ?_
                  refine so_gno rfl (decide_eq_false c116) ?_
                  refine so_gno rfl (decide_eq_false c116) ?_
                  refine so_gno rfl (decide_eq_false c116) ?_
                  refine so_gno rfl (decide_eq_false c116) ?_
                  refine so_gyes rfl (not_f c115) ?_
                  refine so_pick_f (v := (.v (.bool false))) rfl (decide_eq_false c116) rfl ?_
                  refine so_pick_f (v := (.v (.bool false))) rfl (not_f c115) rfl ?_
                  refine so_nil ?_
                  refine fi_false rfl rfl ?_
                  refine fi_skip ?_
                  refine fi_inBlock ?_
                  refine fi_region ?_
                  refine so_bin rfl rfl ab_add ?_
                  refine so_move (v := (.v (.int .i64 (IntKind.i64.wrap (x109 + (1 : Int)))))) rfl ?_
                  refine so_nil ?_
                  exact fi_at [(0, (.v (.ptr i0 o0))), (3, (.v (.int .i64 (l1.length : Int)))), (38, (.v (.int .i64 (l1.length : Int)))), (39, (.v (.int .i64 (IntKind.i64.wrap (x109 + (1 : Int))))))] ⟨rfl, rfl, rfl, rfl, trivial⟩ (h _)
              · refine so_gno rfl (not_t c115) ?_
                refine so_gno rfl (not_t c115) ?_
                refine so_gno rfl (not_t c115) ?_
                refine so_gund rfl ?_
                refine so_gund rfl ?_
                refine so_gund rfl ?_
                refine so_gund rfl ?_
                refine so_gund rfl ?_
                refine so_gund rfl ?_
                refine so_gund rfl ?_
                refine so_gund rfl ?_
                refine so_gund rfl ?_
                refine so_gund rfl ?_
                refine so_gund rfl ?_
                refine so_gund rfl ?_
                refine so_gund rfl ?_
                refine so_gund rfl ?_
                refine so_gund rfl ?_
                refine so_gund rfl ?_
                refine so_gund rfl ?_
                refine so_gund rfl ?_
                refine so_gund rfl ?_
                refine so_gno rfl (not_t c115) ?_
                refine so_pick_t (v := (.v (.bool true))) rfl (not_t c115) rfl ?_
                refine so_nil ?_
                refine fi_true rfl rfl ?_
                refine fi_seq ?_
                refine fi_region ?_
                refine so_assign (v := (.v (.bool false))) rfl ?_
                refine so_nil ?_
                exact by_ret rfl ⟨_, h, rfl, rfl⟩
          · refine fi_false rfl (decide_eq_false c110) ?_
            refine fi_exit rfl ?_
            refine fi_seq ?_
            refine fi_region ?_
            refine so_move (v := (.v (.ptr i0 o0))) rfl ?_
            refine so_nilCheck rfl ?_
            refine so_fieldAddr rfl F110.fd91_0 ?_
            refine su_ld (q0 _ hs) 0 rfl rfl F110.ag24 ?_
            refine sv_len (g0 _ hs) (fun _ => rfl) (by decide) rfl F110.ti24 ?_
            refine so_move (v := (.v (.ptr i0 o0))) rfl ?_
            refine so_nilCheck rfl ?_
            refine so_fieldAddr rfl F110.fd91_1 ?_
            refine su_ld (q0 _ hs) 1 rfl rfl F110.ag72 ?_
            refine so_move (v := (.v (.int .i64 (l1.length : Int)))) rfl ?_
            refine so_bin rfl rfl ab_sub ?_
            obtain ⟨c119, h⟩ := h
            refine sd_idx ((g1 _ hs) : DSh _ _ 1 R_LeFlt_f32_o l1 w1) c119 ([] : List (Nat)) (by decide) rfl rfl F110.tl72 ?_
            refine su_ld ((((g1 _ hs) : DSh _ _ 1 R_LeFlt_f32_o l1 w1)).at (by decide) c119 ([] : List (Nat))).2.2 0 (congrArg (fun c => c[0]?) ((((g1 _ hs) : DSh _ _ 1 R_LeFlt_f32_o l1 w1)).at (by decide) c119 ([] : List (Nat))).2.1.1) rfl F110.ag24 ?_
            refine sv_len ((((g1 _ hs) : DSh _ _ 1 R_LeFlt_f32_o l1 w1)).at (by decide) c119 ([] : List (Nat))).2.1.2 (fun _ => rfl) (by decide) rfl F110.ti24 ?_
            refine so_bin rfl rfl ab_eql ?_
            refine so_assign (v := (.v (.bool (decide ((l0.length : Int) = ((l1.getD ((IntKind.i64.wrap ((l1.length : Int) - (1 : Int)))).toNat ([] : List (Nat))).length : Int)))))) rfl ?_
            refine so_nil ?_
            exact by_ret rfl ⟨_, h, rfl, rfl⟩
        · refine fi_true rfl (not_t c107) ?_
          refine fi_seq ?_
          refine fi_region ?_
          refine so_assign (v := (.v (.bool false))) rfl ?_
          refine so_nil ?_
          exact by_ret rfl ⟨_, h, rfl, rfl⟩
theorem spec_l03Size_ok {fr : List Pc} {H : Heap} (a0 : Nat) (hs : Sep H (fr))  (K : Nat → Prop) (h : spec_l03Size.wp a0 K) : OkQ Try.prog 156 [(.v (.flt .f32 a0))] H (fun r H2 => ∃ (y0 : Nat), K y0 ∧ r = (.v (.flt .f32 y0)) ∧ H = H2) := by
  unfold spec_l03Size.wp at h
  refine of_body Try.f156 F.hm Try.func156 rfl Try.call156 (by kernel_rfl) (by simp) ?_
  refine fi_seq ?_
  refine fi_region ?_
  refine so_assign (v := (.v (.flt .f32 (cz .f32 0)))) rfl ?_
  refine so_nil ?_
  refine fi_seq ?_
  refine fi_seq ?_
  refine fi_region ?_
  refine so_move (v := (.v (.flt .f32 a0))) rfl ?_
  refine so_bin rfl rfl ab_fleq ?_
  refine so_nil ?_
  replace h := ofT h; rcases h with ⟨c101, h⟩ | ⟨c101, h⟩
  · refine fi_true rfl c101 ?_
    refine fi_seq ?_
    refine fi_region ?_
    refine so_move (v := (.v (.flt .f32 a0))) rfl ?_
    refine so_bin rfl rfl ab_fsub ?_
    refine so_assign (v := (.v (.flt .f32 (fop .sub .f32 (cz .f32 0) a0)))) rfl ?_
    refine so_nil ?_
    exact by_ret rfl ⟨_, h, rfl, rfl⟩
  · refine fi_false rfl c101 ?_
    refine fi_skip ?_
    refine fi_seq ?_
    refine fi_region ?_
    refine so_move (v := (.v (.flt .f32 a0))) rfl ?_
    refine so_assign (v := (.v (.flt .f32 a0))) rfl ?_
    refine so_nil ?_
    exact by_ret rfl ⟨_, h, rfl, rfl⟩
theorem spec_l05Shrink_ok {fr : List Pc} {H : Heap} (a0 : Nat) (a1 : Nat) (a2 : Bool) (hs : Sep H (fr))  (K : Nat → Prop) (h : spec_l05Shrink.wp a0 a1 a2 K) : OkQ Try.prog 142 [(.v (.flt .f32 a0)), (.v (.flt .f32 a1)), (.v (.bool a2))] H (fun r H2 => ∃ (y0 : Nat), K y0 ∧ r = (.v (.flt .f32 y0)) ∧ H = H2) := by
  unfold spec_l05Shrink.wp at h
  refine of_body Try.f142 F.hm Try.func142 rfl Try.call142 (by kernel_rfl) (by simp) ?_
  refine fi_seq ?_
  refine fi_region ?_
  refine so_assign (v := (.v (.flt .f32 (cz .f32 0)))) rfl ?_
  refine so_nil ?_
  refine fi_seq ?_
  refine fi_region ?_
  refine so_move (v := (.v (.flt .f32 a0))) rfl ?_
  refine sv_callS (spec_l03Size_ok a0 hs  _ h) (fun _ _ ⟨_, _, _, e⟩ => e) rfl rfl ?_
  clear h
  rintro _ _ ⟨y101, h, rfl, rfl⟩
  refine so_assign (v := (.v (.flt .f32 y101))) rfl ?_
  refine so_nil ?_
  refine fi_seq ?_
  refine fi_seq ?_
  refine fi_region ?_
  refine so_move (v := (.v (.flt .f32 y101))) rfl ?_
  refine so_move (v := (.v (.flt .f32 a1))) rfl ?_
  refine so_bin rfl rfl ab_fgtr ?_
  refine so_un rfl au_not ?_
  refine so_nil ?_
  replace h := ofT h; rcases h with ⟨c103, h⟩ | ⟨c103, h⟩
  · refine fi_false rfl (not_f c103) ?_
    refine fi_skip ?_
    refine fi_seq ?_
    refine fi_seq ?_
    refine fi_region ?_
    refine so_move (v := (.v (.bool a2))) rfl ?_
    refine so_nil ?_
    replace h := ofT h; rcases h with ⟨c104, h⟩ | ⟨c104, h⟩
    · refine fi_true rfl c104 ?_
      refine fi_seq ?_
      refine fi_region ?_
      refine so_move (v := (.v (.flt .f32 a0))) rfl ?_
      refine so_assign (v := (.v (.flt .f32 a0))) rfl ?_
      refine so_nil ?_
      exact by_ret rfl ⟨_, h, rfl, rfl⟩
    · refine fi_false rfl c104 ?_
      refine fi_skip ?_
      refine fi_seq ?_
      refine fi_seq ?_
      refine fi_region ?_
      refine so_move (v := (.v (.flt .f32 a0))) rfl ?_
      refine so_bin rfl rfl ab_flss ?_
      refine so_nil ?_
      replace h := ofT h; rcases h with ⟨c105, h⟩ | ⟨c105, h⟩
      · refine fi_true rfl c105 ?_
        refine fi_seq ?_
        refine fi_region ?_
        refine so_move (v := (.v (.flt .f32 y101))) rfl ?_
        refine so_move (v := (.v (.flt .f32 a1))) rfl ?_
        refine so_bin rfl rfl ab_fsub ?_
        refine so_un rfl au_fneg' ?_
        refine so_assign (v := (.v (.flt .f32 (fneg .f32 (fop .sub .f32 y101 a1))))) rfl ?_
        refine so_nil ?_
        exact by_ret rfl ⟨_, h, rfl, rfl⟩
      · refine fi_false rfl c105 ?_
        refine fi_skip ?_
        refine fi_seq ?_
        refine fi_region ?_
        refine so_move (v := (.v (.flt .f32 y101))) rfl ?_
        refine so_move (v := (.v (.flt .f32 a1))) rfl ?_
        refine so_bin rfl rfl ab_fsub ?_
        refine so_assign (v := (.v (.flt .f32 (fop .sub .f32 y101 a1)))) rfl ?_
        refine so_nil ?_
        exact by_ret rfl ⟨_, h, rfl, rfl⟩
  · refine fi_true rfl (not_t c103) ?_
    refine fi_seq ?_
    refine fi_region ?_
    refine so_assign (v := (.v (.flt .f32 (cz .f32 0)))) rfl ?_
    refine so_nil ?_
    exact by_ret rfl ⟨_, h, rfl, rfl⟩
theorem F111.ag26 : tagg Try.prog 26 = some false := by kernel_rfl
theorem F111.sz26 : tsz Try.prog 26 = some 1 := by kernel_rfl
theorem F111.ta24_24 : tapp Try.prog 24 24 = some (1, 4) := by kernel_rfl
theorem F111.te24 : telem Try.prog 24 = some 26 := by kernel_rfl
theorem F111.ti24 : (telem Try.prog 24).isSome = true := by kernel_rfl
theorem F111.tl24 : (telem Try.prog 24).bind (tsz Try.prog) = some 1 := by kernel_rfl
theorem F111.ze26 : tzero Try.prog 26 = some [(.flt .f32 (0 : Nat))] := by kernel_rfl
theorem spec_l05List_ok {fr : List Pc} {H : Heap} (v0 : AV) (l0 : List (Nat)) (a1 : Nat) (a2 : Bool) (hs : Sep H (fr)) (g0 : ∀ H, Sep H fr → Shows H v0 1 (enc (eFlt .f32) l0)) (K : (List (Nat)) → Prop) (h : spec_l05List.wp l0 a1 a2 K) : OkQ Try.prog 111 [(.v v0), (.v (.flt .f32 a1)), (.v (.bool a2))] H (fun r H2 => ∃ (y0 : List (Nat)), K y0 ∧ ∃ (w0_ : AV), r = (.v w0_) ∧ Sep H2 (Pc.osl w0_ 1 (enc (eFlt .f32) y0) :: fr)) := by
  unfold spec_l05List.wp at h
  refine of_body Try.f111 F.hm Try.func111 rfl Try.call111 (by kernel_rfl) (by simp) ?_
  refine fi_seq ?_
  refine fi_region ?_
  refine so_assign (v := (.v .nilsl)) rfl ?_
  refine so_nil ?_
  refine fi_seq ?_
  refine fi_region ?_
  refine sv_bslice hs (eFlt .f32) ([] : List (Nat)) [] F111.te24 F111.sz26 F111.ze26 rfl rfl rfl rfl (fun _ => rfl) rfl (by decide) nofun (fun v101 H102 nv101 hs => ?_)
  refine so_assign (v := (.v v101)) rfl ?_
  refine so_nil ?_
  refine fi_seq ?_
  refine fi_seq ?_
  refine fi_region ?_
  refine so_move (v := (.v v0)) rfl ?_
  refine sv_len (g0 _ hs.tl) (fun _ => rfl) (by decide) rfl F111.ti24 ?_
  refine so_move (v := (.v (.int .i64 (0 : Int)))) rfl ?_
  refine so_nil ?_
  refine fi_block ?_
  refine fi_loop ?_
  refine fi_at [(0, (.v v0)), (1, (.v (.flt .f32 a1))), (2, (.v (.bool a2))), (7, (.v v101)), (11, (.v (.int .i64 (l0.length : Int)))), (12, (.v (.int .i64 (0 : Int))))] ⟨rfl, rfl, rfl, rfl, rfl, rfl, trivial⟩ ?_
  refine h (fun (out119 : List (Nat)) (x121 : Int) => ∀ (s : Nat → TV) (H : Heap) (v120 : AV) (nv120 : v120 ≠ .nilsl), Sep H (Pc.osl v120 1 (enc (eFlt .f32) out119) :: fr) → Fin _ _ (updL s [(0, (.v v0)), (1, (.v (.flt .f32 a1))), (2, (.v (.bool a2))), (7, (.v v120)), (11, (.v (.int .i64 (l0.length : Int)))), (12, (.v (.int .i64 x121)))]) H _) ?_ _ _ _ nv101 hs
  intro out119 x121 h s132 H133 v120 nv120 hs
  refine fi_inLoop ?_
  refine fi_seq ?_
  refine fi_region ?_
  refine so_bin rfl rfl ab_lss ?_
  refine so_nil ?_
  refine fi_seq ?_
  replace h := ofP h; rcases h with ⟨c122, h⟩ | ⟨c122, h⟩
  · refine fi_true rfl (decide_eq_true c122) ?_
    refine fi_skip ?_
    refine fi_seq ?_
    refine fi_block ?_
    refine fi_seq ?_
    refine fi_region ?_
    refine so_move (v := (.v (.int .i64 x121))) rfl ?_
    refine so_assign (v := (.v (.int .i64 x121))) rfl ?_
    refine so_nil ?_
    refine fi_region ?_
    refine so_move (v := (.v v120)) rfl ?_
    refine so_move (v := (.v v0)) rfl ?_
    refine so_move (v := (.v (.int .i64 x121))) rfl ?_
    obtain ⟨c123, h⟩ := h
    refine sv_idx (g0 _ hs.tl) c123 (fun _ => rfl) (by decide) rfl rfl F111.tl24 ?_
    refine sv_cell (g0 _ hs.tl) c123 (0 : Nat) 0 (fun x => (AV.flt .f32 x)) (fun _ => rfl) (fun _ => rfl) rfl F111.ag26 ?_
    refine so_move (v := (.v (.flt .f32 a1))) rfl ?_
    refine so_move (v := (.v (.bool a2))) rfl ?_
    refine sv_callS (spec_l05Shrink_ok (l0.getD (x121).toNat (0 : Nat)) a1 a2 hs  _ h) (fun _ _ ⟨_, _, _, e⟩ => e) rfl rfl ?_
    clear h
    rintro _ _ ⟨y124, h, rfl, rfl⟩
    refine sv_bslice hs (eFlt .f32) ([y124] : List (Nat)) [[(.flt .f32 y124)]] F111.te24 F111.sz26 F111.ze26 rfl rfl rfl rfl (fun _ => rfl) rfl (by decide) nofun (fun v126 H127 nv126 hs => ?_)
    obtain ⟨c131, h⟩ := h
    refine sv_app hs 1 rfl (hs.shows 0 rfl) (fun _ => rfl) (by decide) F111.ta24_24 (by decide) c131 rfl rfl nofun (fun v129 H130 kv129 hs => ?_)
    replace hs := hs.del 0
    have nv129 := kv129 nv120
    refine so_assign (v := (.v v129)) rfl ?_
    refine so_nil ?_
    refine fi_inBlock ?_
    refine fi_region ?_
    refine so_bin rfl rfl ab_add ?_
    refine so_move (v := (.v (.int .i64 (IntKind.i64.wrap (x121 + (1 : Int)))))) rfl ?_
    refine so_nil ?_
    exact fi_at [(0, (.v v0)), (1, (.v (.flt .f32 a1))), (2, (.v (.bool a2))), (7, (.v v129)), (11, (.v (.int .i64 (l0.length : Int)))), (12, (.v (.int .i64 (IntKind.i64.wrap (x121 + (1 : Int))))))] ⟨rfl, rfl, rfl, rfl, rfl, rfl, trivial⟩ (h _ _ _ nv129 hs)
  · refine fi_false rfl (decide_eq_false c122) ?_
    refine fi_exit rfl ?_
    refine fi_seq ?_
    refine fi_region ?_
    refine so_move (v := (.v v120)) rfl ?_
    refine so_assign (v := (.v v120)) rfl ?_
    refine so_nil ?_
    exact by_ret rfl ⟨_, h, _, rfl, hs⟩
theorem F68.ag24 : tagg Try.prog 24 = some false := by kernel_rfl
theorem F68.ag26 : tagg Try.prog 26 = some false := by kernel_rfl
theorem F68.ag72 : tagg Try.prog 72 = some false := by kernel_rfl
theorem F68.ag91 : tagg Try.prog 91 = some true := by kernel_rfl
theorem F68.bp91 : bplan Try.prog 91 = some ([.nilsl, .nilsl], [(0, 1), (1, 1)]) := by kernel_rfl
theorem F68.fd91_0 : tfield Try.prog 91 0 = some (0, 1, false) := by kernel_rfl
theorem F68.fd91_1 : tfield Try.prog 91 1 = some (1, 1, false) := by kernel_rfl
theorem F68.inf91 : (Try.prog.info? 91).isSome = true := by kernel_rfl
theorem F68.sz24 : tsz Try.prog 24 = some 1 := by kernel_rfl
theorem F68.sz26 : tsz Try.prog 26 = some 1 := by kernel_rfl
theorem F68.sz72 : tsz Try.prog 72 = some 1 := by kernel_rfl
theorem F68.sz91 : tsz Try.prog 91 = some 2 := by kernel_rfl
theorem F68.ta24_24 : tapp Try.prog 24 24 = some (1, 4) := by kernel_rfl
theorem F68.ta72_72 : tapp Try.prog 72 72 = some (1, 24) := by kernel_rfl
theorem F68.te24 : telem Try.prog 24 = some 26 := by kernel_rfl
theorem F68.te72 : telem Try.prog 72 = some 24 := by kernel_rfl
theorem F68.ti24 : (telem Try.prog 24).isSome = true := by kernel_rfl
theorem F68.ti72 : (telem Try.prog 72).isSome = true := by kernel_rfl
theorem F68.tl24 : (telem Try.prog 24).bind (tsz Try.prog) = some 1 := by kernel_rfl
theorem F68.tl72 : (telem Try.prog 72).bind (tsz Try.prog) = some 1 := by kernel_rfl
theorem F68.ze24 : tzero Try.prog 24 = some [.nilsl] := by kernel_rfl
theorem F68.ze26 : tzero Try.prog 26 = some [(.flt .f32 (0 : Nat))] := by kernel_rfl
theorem F68.ze91 : tzero Try.prog 91 = some [.nilsl, .nilsl] := by kernel_rfl
theorem spec_ShrinkBands_ok {fr : List Pc} {H : Heap} (v0 : AV) (l0 : List (Nat)) (v1 : AV) (w1 : List (List AV)) (l1 : List (List (Nat))) (v2 : AV) (l2 : List (Nat)) (a3 : Bool) (hs : Sep H (fr)) (g0 : ∀ H, Sep H fr → Shows H v0 1 (enc (eFlt .f32) l0)) (g1 : ∀ H, Sep H fr → DSh H v1 1 R_LeFlt_f32_o l1 w1) (g2 : ∀ H, Sep H fr → Shows H v2 1 (enc (eFlt .f32) l2)) (K : (List (Nat)) → (List (List (Nat))) → Bool → Prop) (h : spec_ShrinkBands.wp l0 l1 l2 a3 K) : OkQ Try.prog 68 [(.g [v0, v1]), (.v v2), (.v (.bool a3))] H (fun r H2 => ∃ (y0 : List (Nat)) (y1 : List (List (Nat))) (y2 : Bool), K y0 y1 y2 ∧ ∃ (w0_ : AV) (w1_ : AV) (wsw1_ : List (List AV)) (Sw1_ : Nat → Prop), r = (.t [(.g [w0_, w1_]), (.v (.bool y2))]) ∧ Sep H2 (Pc.osl w0_ 1 (enc (eFlt .f32) y0) :: dpc w1_ 1 R_LeFlt_f32_o IR_LeFlt_f32_o y1 wsw1_ Sw1_ :: fr)) := by
  unfold spec_ShrinkBands.wp at h
  refine of_body Try.f68 F.hm Try.func68 rfl Try.call68 (by kernel_rfl) (by simp) ?_
  refine fi_seq ?_
  refine fi_region ?_
  refine sv_box hs rfl (c := [v0, v1]) rfl F68.inf91 (stc (g0 _ hs).stor (stc (g1 _ hs).stor stn)) nofun (fun id101 H102 hs => ?_)
  refine sv_alloc hs F68.ze91 rfl nofun (fun id104 H105 hs => ?_)
  refine so_assign (v := (.v (.bool false))) rfl ?_
  refine so_nil ?_
  refine fi_seq ?_
  refine fi_seq ?_
  refine fi_region ?_
  refine sv_callS (spec_l03Bands_ok id101 0 v0 l0 v1 w1 l1 hs (fun _ hs => (g0 _ hs.tl.tl)) (fun _ hs => (g1 _ hs.tl.tl)) (fun _ hs => (hs.ptat 1 rfl)) _ h) (fun _ _ ⟨_, _, _, e⟩ => e) rfl rfl ?_
  clear h
  rintro _ _ ⟨y107, h, rfl, rfl⟩
  refine so_un rfl au_not ?_
  refine so_move (v := (.v (.bool (!y107)))) rfl ?_
  replace h := ofT h; rcases h with ⟨c109, h⟩ | ⟨c109, h⟩
  · refine so_gyes rfl (not_f c109) ?_
    refine so_move (v := (.v v2)) rfl ?_
    refine so_gyes rfl (not_f c109) ?_
    refine sv_len (g2 _ hs.tl.tl) (fun _ => rfl) (by decide) rfl F68.ti24 ?_
    refine so_gyes rfl (not_f c109) ?_
    refine so_fieldAddr rfl F68.fd91_1 ?_
    refine so_gyes rfl (not_f c109) ?_
    refine sv_ld hs 1 rfl rfl rfl F68.ag72 ?_
    refine so_gyes rfl (not_f c109) ?_
    refine sd_len ((g1 _ hs.tl.tl) : DSh _ _ 1 R_LeFlt_f32_o l1 w1) (by decide) rfl F68.ti72 ?_
    refine so_gyes rfl (not_f c109) ?_
    refine so_bin rfl rfl ab_neq ?_
    refine so_pick_f (v := (.v (.bool (!(decide ((l2.length : Int) = (l1.length : Int))))))) rfl (not_f c109) rfl ?_
    refine so_nil ?_
    replace h := ofP h; rcases h with ⟨c110, h⟩ | ⟨c110, h⟩
    · refine fi_false rfl (not_f (decide_eq_true c110)) ?_
      refine fi_skip ?_
      refine fi_seq ?_
      refine fi_region ?_
      refine sv_bslice hs (eFlt .f32) ([] : List (Nat)) [] F68.te24 F68.sz26 F68.ze26 rfl rfl rfl rfl (fun _ => rfl) rfl (by decide) nofun (fun v111 H112 nv111 hs => ?_)
      refine so_fieldAddr rfl F68.fd91_0 ?_
      refine sv_ld hs 2 rfl rfl rfl F68.ag24 ?_
      obtain ⟨c116, h⟩ := h
      refine sv_app hs 0 rfl (g0 _ hs.tl.tl.tl) (fun _ => rfl) (by decide) F68.ta24_24 (by decide) c116 rfl rfl nofun (fun v114 H115 kv114 hs => ?_)
      have nv114 := kv114 nv111
      refine so_build F68.bp91 (cps := [(0, [v114])]) rfl (fac (stc (hs.shows 0 rfl).stor stn) fan) rfl ?_
      refine sv_alloc hs F68.ze91 rfl nofun (fun id117 H118 hs => ?_)
      refine sv_st hs 0 rfl rfl rfl (c := [v114, .nilsl]) rfl F68.sz91 rfl (stc (hs.shows 1 rfl).stor (stc rfl stn)) (leb rfl) (cs' := [v114, .nilsl]) rfl nofun (fun H120 hs => ?_)
      refine so_nil ?_
      refine fi_seq ?_
      refine fi_seq ?_
      refine fi_region ?_
      refine so_fieldAddr rfl F68.fd91_1 ?_
      refine sv_ld hs 3 rfl rfl rfl F68.ag72 ?_
      refine sd_len ((g1 _ hs.tl.tl.tl.tl) : DSh _ _ 1 R_LeFlt_f32_o l1 w1) (by decide) rfl F68.ti72 ?_
      refine so_move (v := (.v (.int .i64 (0 : Int)))) rfl ?_
      refine so_nil ?_
      refine fi_block ?_
      refine fi_loop ?_
      replace hs := hs.dnil 1 R_LeFlt_f32_o IR_LeFlt_f32_o
      replace hs := hs.nil 1
      replace hs := hs.dnil 1 R_LeFlt_f32_o IR_LeFlt_f32_o
      refine fi_at [(1, (.v v2)), (2, (.v (.bool a3))), (3, (.v (.ptr id101 0))), (6, (.v (.ptr id104 0))), (8, (.v (.ptr id117 0))), (28, (.v (.int .i64 (l1.length : Int)))), (29, (.v (.int .i64 (0 : Int))))] ⟨rfl, rfl, rfl, rfl, rfl, rfl, rfl, trivial⟩ ?_
      refine h (fun (b147 : List (List (Nat))) (b152 : List (Nat)) (b155 : List (List (Nat))) (x159 : Int) => ∀ (s : Nat → TV) (H : Heap) (v148 : AV) (ws149 : List (List AV)) (S150 : Nat → Prop) (v153 : AV) (v156 : AV) (ws157 : List (List AV)) (S158 : Nat → Prop), Sep H (dpc v156 1 R_LeFlt_f32_o IR_LeFlt_f32_o b155 ws157 S158 :: Pc.osl v153 1 (enc (eFlt .f32) b152) :: dpc v148 1 R_LeFlt_f32_o IR_LeFlt_f32_o b147 ws149 S150 :: Pc.box id117 [v114, v148] :: Pc.osl v114 1 (enc (eFlt .f32) (([] : List (Nat)) ++ l0)) :: Pc.box id104 [v153, v156] :: Pc.box id101 [v0, v1] :: fr) → Fin _ _ (updL s [(1, (.v v2)), (2, (.v (.bool a3))), (3, (.v (.ptr id101 0))), (6, (.v (.ptr id104 0))), (8, (.v (.ptr id117 0))), (28, (.v (.int .i64 (l1.length : Int)))), (29, (.v (.int .i64 x159)))]) H _) ?_ _ _ _ _ _ _ _ _ _ hs
      intro b147 b152 b155 x159 h s181 H182 v148 ws149 S150 v153 v156 ws157 S158 hs
      refine fi_inLoop ?_
      refine fi_seq ?_
      refine fi_region ?_
      refine so_bin rfl rfl ab_lss ?_
      refine so_nil ?_
      refine fi_seq ?_
      replace h := ofP h; rcases h with ⟨c160, h⟩ | ⟨c160, h⟩
      · refine fi_true rfl (decide_eq_true c160) ?_
        refine fi_skip ?_
        refine fi_seq ?_
        refine fi_block ?_
        refine fi_seq ?_
        refine fi_region ?_
        refine so_move (v := (.v (.int .i64 x159))) rfl ?_
        refine so_assign (v := (.v (.int .i64 x159))) rfl ?_
        refine so_nil ?_
        refine fi_seq ?_
        refine fi_seq ?_
        refine fi_region ?_
        refine so_move (v := (.v v2)) rfl ?_
        refine so_move (v := (.v (.int .i64 x159))) rfl ?_
        obtain ⟨c161, h⟩ := h
        refine sv_idx (g2 _ hs.tl.tl.tl.tl.tl.tl.tl) c161 (fun _ => rfl) (by decide) rfl rfl F68.tl24 ?_
        refine sv_cell (g2 _ hs.tl.tl.tl.tl.tl.tl.tl) c161 (0 : Nat) 0 (fun x => (AV.flt .f32 x)) (fun _ => rfl) (fun _ => rfl) rfl F68.ag26 ?_
        refine sv_callS (spec_l02Least_ok (l2.getD (x159).toNat (0 : Nat)) hs  _ h) (fun _ _ ⟨_, _, _, e⟩ => e) rfl rfl ?_
        clear h
        rintro _ _ ⟨y162, h, rfl, rfl⟩
        refine so_un rfl au_not ?_
        refine so_nil ?_
        replace h := ofT h; rcases h with ⟨c164, h⟩ | ⟨c164, h⟩
        · refine fi_false rfl (not_f c164) ?_
          refine fi_skip ?_
          refine fi_free [1] ?_
          refine wf_pure rfl (by kernel_rfl) ?_
          refine so_fieldAddr rfl F68.fd91_1 ?_
          refine so_end ?_
          refine wf_free (.v v148) rfl (by kernel_rfl) (stepr (i := 0) rfl (by refine sv_ld hs 3 rfl rfl rfl F68.ag72 ?_; exact so_end ⟨rfl, rfl⟩)) fan ?_
          refine wf_pure rfl (by kernel_rfl) ?_
          refine so_fieldAddr rfl F68.fd91_1 ?_
          refine so_end ?_
          refine wf_same (by decide +kernel) (by kernel_rfl) ?_
          refine sv_ld hs 6 rfl rfl rfl F68.ag72 ?_
          refine so_end ⟨rfl, ?_⟩
          refine wf_pure rfl (by kernel_rfl) ?_
          refine so_move (v := (.v (.int .i64 x159))) rfl ?_
          refine so_end ?_
          obtain ⟨c165, h⟩ := h
          refine wf_same (by decide +kernel) (by kernel_rfl) ?_
          refine sd_idx ((g1 _ hs.tl.tl.tl.tl.tl.tl.tl) : DSh _ _ 1 R_LeFlt_f32_o l1 w1) c165 ([] : List (Nat)) (by decide) rfl rfl F68.tl72 ?_
          refine so_end ⟨rfl, ?_⟩
          refine wf_same (by decide +kernel) (by kernel_rfl) ?_
          refine su_ld ((((g1 _ hs.tl.tl.tl.tl.tl.tl.tl) : DSh _ _ 1 R_LeFlt_f32_o l1 w1)).at (by decide) c165 ([] : List (Nat))).2.2 0 (congrArg (fun c => c[0]?) ((((g1 _ hs.tl.tl.tl.tl.tl.tl.tl) : DSh _ _ 1 R_LeFlt_f32_o l1 w1)).at (by decide) c165 ([] : List (Nat))).2.1.1) rfl F68.ag24 ?_
          refine so_end ⟨rfl, ?_⟩
          refine wf_pure rfl (by kernel_rfl) ?_
          refine so_move (v := (.v v2)) rfl ?_
          refine so_end ?_
          refine wf_pure rfl (by kernel_rfl) ?_
          refine so_move (v := (.v (.int .i64 x159))) rfl ?_
          refine so_end ?_
          refine wf_same (by decide +kernel) (by kernel_rfl) ?_
          refine sv_idx (g2 _ hs.tl.tl.tl.tl.tl.tl.tl) c161 (fun _ => rfl) (by decide) rfl rfl F68.tl24 ?_
          refine so_end ⟨rfl, ?_⟩
          refine wf_same (by decide +kernel) (by kernel_rfl) ?_
          refine sv_cell (g2 _ hs.tl.tl.tl.tl.tl.tl.tl) c161 (0 : Nat) 0 (fun x => (AV.flt .f32 x)) (fun _ => rfl) (fun _ => rfl) rfl F68.ag26 ?_
          refine so_end ⟨rfl, ?_⟩
          refine wf_pure rfl (by kernel_rfl) ?_
          refine so_move (v := (.v (.bool a3))) rfl ?_
          refine so_end ?_
          have hs0_ := hs
          refine wf_chg (by kernel_rfl) ?_
          refine sv_call (spec_l05List_ok ((w1.getD (x159).toNat []).getD 0 .und) (l1.getD (x159).toNat ([] : List (Nat))) (l2.getD (x159).toNat (0 : Nat)) a3 hs (fun _ hs => ((((g1 _ hs.tl.tl.tl.tl.tl.tl.tl) : DSh _ _ 1 R_LeFlt_f32_o l1 w1)).at (by decide) c165 ([] : List (Nat))).2.1.2) _ h) rfl rfl nofun ?_
          clear h
          rintro _ H169 ⟨y166, h, v167, rfl, hs⟩
          refine so_end ⟨(fac (.inr (stepr (i := 0) rfl (by refine sv_ld hs 4 rfl rfl rfl F68.ag72 ?_; exact so_end ⟨rfl, rfl⟩))) fan), ?_⟩
          have hs1_ := hs
          refine wf_chg (by kernel_rfl) ?_
          refine sd_bslice hs [[v167]] F68.te72 F68.sz24 F68.ze24 rfl rfl rfl (by simp) (fac (stc (hs.shows 0 rfl).stor stn) fan) (by decide) rfl nofun (fun v170 H171 _ hs => ?_)
          refine so_end ⟨(fac (.inr (stepr (i := 0) rfl (by refine sv_ld hs 5 rfl rfl rfl F68.ag72 ?_; exact so_end ⟨rfl, rfl⟩))) fan), ?_⟩
          have hs2_ := hs
          refine wf_chg (by kernel_rfl) ?_
          obtain ⟨c173, h⟩ := h
          replace hs := Sep.front 1 hs rfl
          refine sk_app hs 3 rfl y166 [v167] (hs.tl.shows 0 rfl) (fun _ hh => ⟨rfl, hh⟩) rfl rfl (by decide) F68.ta72_72 (by decide) c173 rfl rfl nofun (fun v174 ws175 S176 H177 hs => ?_)
          replace hs := hs.del 0
          refine so_end ⟨(fac (.inl ⟨14, by kernel_rfl⟩) fan), ?_⟩
          refine wf_pure rfl (by kernel_rfl) ?_
          refine so_fieldAddr rfl F68.fd91_1 ?_
          refine so_end ?_
          have hs3_ := hs
          refine wf_chg (by kernel_rfl) ?_
          refine sv_st hs 3 rfl rfl rfl (c := [v174]) rfl F68.sz72 rfl (stc (hs.dshows 2 rfl).stor stn) (leb rfl) (cs' := [v114, v174]) rfl nofun (fun H178 hs => ?_)
          refine so_end ⟨(fac (.inl ⟨14, by kernel_rfl⟩) fan), ?_⟩
          refine wf_nil ?_
          refine fi_inBlock ?_
          refine fi_region ?_
          refine so_bin rfl rfl ab_add ?_
          refine so_move (v := (.v (.int .i64 (IntKind.i64.wrap (x159 + (1 : Int)))))) rfl ?_
          refine so_nil ?_
          exact fi_at [(1, (.v v2)), (2, (.v (.bool a3))), (3, (.v (.ptr id101 0))), (6, (.v (.ptr id104 0))), (8, (.v (.ptr id117 0))), (28, (.v (.int .i64 (l1.length : Int)))), (29, (.v (.int .i64 (IntKind.i64.wrap (x159 + (1 : Int))))))] ⟨rfl, rfl, rfl, rfl, rfl, rfl, rfl, trivial⟩ (h _ _ _ _ _ _ _ _ _ hs)
        · refine fi_true rfl (not_t c164) ?_
          refine fi_seq ?_
          refine fi_region ?_
          refine so_build F68.bp91 (cps := []) rfl fan rfl ?_
          refine sv_st hs 5 rfl rfl rfl (c := [.nilsl, .nilsl]) rfl F68.sz91 rfl (stc rfl (stc rfl stn)) (leb rfl) (cs' := [.nilsl, .nilsl]) rfl nofun (fun H179 hs => ?_)
          refine so_assign (v := (.v (.bool false))) rfl ?_
          refine so_nil ?_
          exact by_ret (res_mk (ar_cells rfl F68.ag91 F68.sz91 (hs.lds 5 rfl (leb rfl) rfl) (ar_tmp rfl ar_nil)) rfl) ⟨_, _, _, h, _, _, _, _, rfl, (Sep.nil (Sep.dnil (Sep.dropn 7 hs) 1 R_LeFlt_f32_o IR_LeFlt_f32_o) 1)⟩
      · refine fi_false rfl (decide_eq_false c160) ?_
        refine fi_exit rfl ?_
        refine fi_seq ?_
        refine fi_region ?_
        refine sv_lds hs 3 rfl rfl (leb rfl) rfl F68.ag91 F68.sz91 ?_
        refine sv_st hs 5 rfl rfl rfl (c := [v114, v148]) rfl F68.sz91 rfl (stc (hs.shows 4 rfl).stor (stc (hs.dshows 2 rfl).stor stn)) (leb rfl) (cs' := [v114, v148]) rfl nofun (fun H180 hs => ?_)
        refine so_assign (v := (.v (.bool true))) rfl ?_
        refine so_nil ?_
        exact by_ret (res_mk (ar_cells rfl F68.ag91 F68.sz91 (hs.lds 5 rfl (leb rfl) rfl) (ar_tmp rfl ar_nil)) rfl) ⟨_, _, _, h, _, _, _, _, rfl, (Sep.front 1 (Sep.del 2 (Sep.del 2 (Sep.del 1 (Sep.del 0 (Sep.del 0 hs))))) rfl)⟩
    · refine fi_true rfl (not_t (decide_eq_false c110)) ?_
      refine fi_seq ?_
      refine fi_region ?_
      refine so_build F68.bp91 (cps := []) rfl fan rfl ?_
      refine sv_st hs 0 rfl rfl rfl (c := [.nilsl, .nilsl]) rfl F68.sz91 rfl (stc rfl (stc rfl stn)) (leb rfl) (cs' := [.nilsl, .nilsl]) rfl nofun (fun H183 hs => ?_)
      refine so_assign (v := (.v (.bool false))) rfl ?_
      refine so_nil ?_
      exact by_ret (res_mk (ar_cells rfl F68.ag91 F68.sz91 (hs.lds 0 rfl (leb rfl) rfl) (ar_tmp rfl ar_nil)) rfl) ⟨_, _, _, h, _, _, _, _, rfl, (Sep.nil (Sep.dnil (Sep.del 0 (Sep.del 0 hs)) 1 R_LeFlt_f32_o IR_LeFlt_f32_o) 1)⟩
  · refine so_gno rfl (not_t c109) ?_
    refine so_gno rfl (not_t c109) ?_
    refine so_gno rfl (not_t c109) ?_
    refine so_gno rfl (not_t c109) ?_
    refine so_gno rfl (not_t c109) ?_
    refine so_gno rfl (not_t c109) ?_
    refine so_pick_t (v := (.v (.bool true))) rfl (not_t c109) rfl ?_
    refine so_nil ?_
    refine fi_true rfl rfl ?_
    refine fi_seq ?_
    refine fi_region ?_
    refine so_build F68.bp91 (cps := []) rfl fan rfl ?_
    refine sv_st hs 0 rfl rfl rfl (c := [.nilsl, .nilsl]) rfl F68.sz91 rfl (stc rfl (stc rfl stn)) (leb rfl) (cs' := [.nilsl, .nilsl]) rfl nofun (fun H184 hs => ?_)
    refine so_assign (v := (.v (.bool false))) rfl ?_
    refine so_nil ?_
    exact by_ret (res_mk (ar_cells rfl F68.ag91 F68.sz91 (hs.lds 0 rfl (leb rfl) rfl) (ar_tmp rfl ar_nil)) rfl) ⟨_, _, _, h, _, _, _, _, rfl, (Sep.nil (Sep.dnil (Sep.del 0 (Sep.del 0 hs)) 1 R_LeFlt_f32_o IR_LeFlt_f32_o) 1)⟩
theorem F143.ag24 : tagg Try.prog 24 = some false := by kernel_rfl
theorem F143.ag26 : tagg Try.prog 26 = some false := by kernel_rfl
theorem F143.by26 : tbytes Try.prog 26 = some 4 := by kernel_rfl
theorem F143.fd46_0 : tfield Try.prog 46 0 = some (0, 1, false) := by kernel_rfl
theorem F143.sz26 : tsz Try.prog 26 = some 1 := by kernel_rfl
theorem F143.te24 : telem Try.prog 24 = some 26 := by kernel_rfl
theorem F143.ti24 : (telem Try.prog 24).isSome = true := by kernel_rfl
theorem F143.tl24 : (telem Try.prog 24).bind (tsz Try.prog) = some 1 := by kernel_rfl
theorem F143.ze26 : tzero Try.prog 26 = some [(.flt .f32 (0 : Nat))] := by kernel_rfl
theorem spec_l03Join_ok {fr : List Pc} {H : Heap} (v0 : AV) (l0 : List (Nat)) (v1 : AV) (l1 : List (Nat)) (i2 o2 : Nat) (v2 : AV) (l2 : List (Nat)) (hs : Sep H (fr)) (g0 : ∀ H, Sep H fr → Shows H v0 1 (enc (eFlt .f32) l0)) (g1 : ∀ H, Sep H fr → Shows H v1 1 (enc (eFlt .f32) l1)) (g2 : ∀ H, Sep H fr → Shows H v2 1 (enc (eFlt .f32) l2)) (q2 : ∀ H, Sep H fr → PtAt H i2 o2 [v2]) (K : (List (Nat)) → Prop) (h : spec_l03Join.wp l0 l1 l2 K) : OkQ Try.prog 143 [(.v v0), (.v v1), (.v (.ptr i2 o2))] H (fun r H2 => ∃ (y0 : List (Nat)), K y0 ∧ ∃ (w0_ : AV), r = (.v w0_) ∧ Sep H2 (Pc.osl w0_ 1 (enc (eFlt .f32) y0) :: fr)) := by
  unfold spec_l03Join.wp at h
  refine of_body Try.f143 F.hm Try.func143 rfl Try.call143 (by kernel_rfl) (by simp) ?_
  refine fi_seq ?_
  refine fi_region ?_
  refine so_assign (v := (.v .nilsl)) rfl ?_
  refine so_nil ?_
  refine fi_seq ?_
  refine fi_region ?_
  refine so_move (v := (.v v0)) rfl ?_
  refine sv_len (g0 _ hs) (fun _ => rfl) (by decide) rfl F143.ti24 ?_
  refine so_bin rfl rfl ab_mul ?_
  refine so_assign (v := (.v (.int .i64 (IntKind.i64.wrap ((2 : Int) * (l0.length : Int)))))) rfl ?_
  refine so_nil ?_
  refine fi_seq ?_
  refine fi_region ?_
  refine so_move (v := (.v (.ptr i2 o2))) rfl ?_
  refine sv_call (spec_l03High_ok i2 o2 v2 l2 hs (fun _ hs => (g2 _ hs)) (fun _ hs => (q2 _ hs)) _ h) rfl rfl nofun ?_
  clear h hs
  rintro _ H104 ⟨y101, h, v102, rfl, hs⟩
  refine so_assign (v := (.v v102)) rfl ?_
  refine so_nil ?_
  refine fi_seq ?_
  refine fi_region ?_
  refine so_move (v := (.v (.int .i64 (IntKind.i64.wrap ((2 : Int) * (l0.length : Int)))))) rfl ?_
  obtain ⟨c105, h⟩ := h
  refine sv_make hs (eFlt .f32) (0 : Nat) c105 (fun _ => rfl) rfl rfl F143.te24 F143.sz26 F143.by26 F143.ze26 rfl rfl nofun (fun v106 H107 nv106 hs => ?_)
  refine so_assign (v := (.v v106)) rfl ?_
  refine so_nil ?_
  refine fi_seq ?_
  refine fi_seq ?_
  refine fi_region ?_
  refine so_move (v := (.v v0)) rfl ?_
  refine sv_len (g0 _ hs.tl.tl) (fun _ => rfl) (by decide) rfl F143.ti24 ?_
  refine so_move (v := (.v (.int .i64 (0 : Int)))) rfl ?_
  refine so_nil ?_
  refine fi_block ?_
  refine fi_loop ?_
  refine fi_at [(0, (.v v0)), (1, (.v v1)), (2, (.v (.ptr i2 o2))), (7, (.v (.int .i64 (IntKind.i64.wrap ((2 : Int) * (l0.length : Int)))))), (8, (.v v102)), (9, (.v v106)), (21, (.v (.int .i64 (l0.length : Int)))), (22, (.v (.int .i64 (0 : Int))))] ⟨rfl, rfl, rfl, rfl, rfl, rfl, rfl, rfl, trivial⟩ ?_
  refine h (fun (out136 : List (Nat)) (x137 : Int) => ∀ (s : Nat → TV) (H : Heap), Sep H (Pc.osl v106 1 (enc (eFlt .f32) out136) :: Pc.osl v102 1 (enc (eFlt .f32) y101) :: fr) → Fin _ _ (updL s [(0, (.v v0)), (1, (.v v1)), (2, (.v (.ptr i2 o2))), (7, (.v (.int .i64 (IntKind.i64.wrap ((2 : Int) * (l0.length : Int)))))), (8, (.v v102)), (9, (.v v106)), (21, (.v (.int .i64 (l0.length : Int)))), (22, (.v (.int .i64 x137)))]) H _) ?_ _ _ hs
  intro out136 x137 h s162 H163 hs
  refine fi_inLoop ?_
  refine fi_seq ?_
  refine fi_region ?_
  refine so_bin rfl rfl ab_lss ?_
  refine so_nil ?_
  refine fi_seq ?_
  replace h := ofP h; rcases h with ⟨c138, h⟩ | ⟨c138, h⟩
  · refine fi_true rfl (decide_eq_true c138) ?_
    refine fi_skip ?_
    refine fi_seq ?_
    refine fi_block ?_
    refine fi_seq ?_
    refine fi_region ?_
    refine so_move (v := (.v (.int .i64 x137))) rfl ?_
    refine so_assign (v := (.v (.int .i64 x137))) rfl ?_
    refine so_nil ?_
    refine fi_seq ?_
    refine fi_region ?_
    refine so_move (v := (.v (.ptr i2 o2))) rfl ?_
    refine so_nilCheck rfl ?_
    refine so_fieldAddr rfl F143.fd46_0 ?_
    refine su_ld (q2 _ hs.tl.tl) 0 rfl rfl F143.ag24 ?_
    refine sv_len (g2 _ hs.tl.tl) (fun _ => rfl) (by decide) rfl F143.ti24 ?_
    refine so_move (v := (.v (.int .i64 (0 : Int)))) rfl ?_
    refine so_nil ?_
    refine fi_block ?_
    refine fi_loop ?_
    refine fi_at [(0, (.v v0)), (1, (.v v1)), (2, (.v (.ptr i2 o2))), (7, (.v (.int .i64 (IntKind.i64.wrap ((2 : Int) * (l0.length : Int)))))), (8, (.v v102)), (9, (.v v106)), (10, (.v (.int .i64 x137))), (21, (.v (.int .i64 (l0.length : Int)))), (22, (.v (.int .i64 x137))), (29, (.v (.int .i64 (l2.length : Int)))), (30, (.v (.int .i64 (0 : Int))))] ⟨rfl, rfl, rfl, rfl, rfl, rfl, rfl, rfl, rfl, rfl, rfl, trivial⟩ ?_
    refine h (fun (out150 : List (Nat)) (x151 : Int) => ∀ (s : Nat → TV) (H : Heap), Sep H (Pc.osl v106 1 (enc (eFlt .f32) out150) :: Pc.osl v102 1 (enc (eFlt .f32) y101) :: fr) → Fin _ _ (updL s [(0, (.v v0)), (1, (.v v1)), (2, (.v (.ptr i2 o2))), (7, (.v (.int .i64 (IntKind.i64.wrap ((2 : Int) * (l0.length : Int)))))), (8, (.v v102)), (9, (.v v106)), (10, (.v (.int .i64 x137))), (21, (.v (.int .i64 (l0.length : Int)))), (22, (.v (.int .i64 x137))), (29, (.v (.int .i64 (l2.length : Int)))), (30, (.v (.int .i64 x151)))]) H _) ?_ _ _ hs
    intro out150 x151 h s160 H161 hs
    refine fi_inLoop ?_
    refine fi_seq ?_
    refine fi_region ?_
    refine so_bin rfl rfl ab_lss ?_
    refine so_nil ?_
    refine fi_seq ?_
    replace h := ofP h; rcases h with ⟨c152, h⟩ | ⟨c152, h⟩
    · refine fi_true rfl (decide_eq_true c152) ?_
      refine fi_skip ?_
      refine fi_seq ?_
      refine fi_block ?_
      refine fi_seq ?_
      refine fi_region ?_
      refine so_move (v := (.v (.int .i64 x151))) rfl ?_
      refine so_assign (v := (.v (.int .i64 x151))) rfl ?_
      refine so_nil ?_
      refine fi_seq ?_
      refine fi_region ?_
      refine so_move (v := (.v (.int .i64 x137))) rfl ?_
      refine so_bin rfl rfl ab_mul ?_
      refine so_move (v := (.v (.int .i64 x151))) rfl ?_
      refine so_bin rfl rfl ab_add ?_
      refine so_move (v := (.v (.int .i64 (IntKind.i64.wrap ((2 : Int) * (l0.length : Int)))))) rfl ?_
      obtain ⟨c153, h⟩ := h
      refine so_bin rfl rfl (ab_rem c153) ?_
      refine so_assign (v := (.v (.int .i64 (Int.tmod (IntKind.i64.wrap ((IntKind.i64.wrap ((2 : Int) * x137)) + x151)) (IntKind.i64.wrap ((2 : Int) * (l0.length : Int))))))) rfl ?_
      refine so_nil ?_
      refine fi_region ?_
      refine so_move (v := (.v v106)) rfl ?_
      refine so_move (v := (.v (.int .i64 (Int.tmod (IntKind.i64.wrap ((IntKind.i64.wrap ((2 : Int) * x137)) + x151)) (IntKind.i64.wrap ((2 : Int) * (l0.length : Int))))))) rfl ?_
      refine so_move (v := (.v v106)) rfl ?_
      refine so_move (v := (.v (.int .i64 (Int.tmod (IntKind.i64.wrap ((IntKind.i64.wrap ((2 : Int) * x137)) + x151)) (IntKind.i64.wrap ((2 : Int) * (l0.length : Int))))))) rfl ?_
      obtain ⟨c154, h⟩ := h
      refine sv_idx (hs.shows 0 rfl) c154 (fun _ => rfl) (by decide) rfl rfl F143.tl24 ?_
      refine sv_cell (hs.shows 0 rfl) c154 (0 : Nat) 0 (fun x => (AV.flt .f32 x)) (fun _ => rfl) (fun _ => rfl) rfl F143.ag26 ?_
      refine so_move (v := (.v (.ptr i2 o2))) rfl ?_
      refine so_nilCheck rfl ?_
      refine so_fieldAddr rfl F143.fd46_0 ?_
      refine su_ld (q2 _ hs.tl.tl) 0 rfl rfl F143.ag24 ?_
      refine so_move (v := (.v (.int .i64 x151))) rfl ?_
      obtain ⟨c155, h⟩ := h
      refine sv_idx (g2 _ hs.tl.tl) c155 (fun _ => rfl) (by decide) rfl rfl F143.tl24 ?_
      refine sv_cell (g2 _ hs.tl.tl) c155 (0 : Nat) 0 (fun x => (AV.flt .f32 x)) (fun _ => rfl) (fun _ => rfl) rfl F143.ag26 ?_
      refine so_move (v := (.v v0)) rfl ?_
      refine so_move (v := (.v (.int .i64 x137))) rfl ?_
      obtain ⟨c156, h⟩ := h
      refine sv_idx (g0 _ hs.tl.tl) c156 (fun _ => rfl) (by decide) rfl rfl F143.tl24 ?_
      refine sv_cell (g0 _ hs.tl.tl) c156 (0 : Nat) 0 (fun x => (AV.flt .f32 x)) (fun _ => rfl) (fun _ => rfl) rfl F143.ag26 ?_
      refine so_bin rfl rfl ab_fmul ?_
      refine so_move (v := (.v v102)) rfl ?_
      refine so_move (v := (.v (.int .i64 x151))) rfl ?_
      obtain ⟨c157, h⟩ := h
      refine sv_idx (hs.shows 1 rfl) c157 (fun _ => rfl) (by decide) rfl rfl F143.tl24 ?_
      refine sv_cell (hs.shows 1 rfl) c157 (0 : Nat) 0 (fun x => (AV.flt .f32 x)) (fun _ => rfl) (fun _ => rfl) rfl F143.ag26 ?_
      refine so_move (v := (.v v1)) rfl ?_
      refine so_move (v := (.v (.int .i64 x137))) rfl ?_
      obtain ⟨c158, h⟩ := h
      refine sv_idx (g1 _ hs.tl.tl) c158 (fun _ => rfl) (by decide) rfl rfl F143.tl24 ?_
      refine sv_cell (g1 _ hs.tl.tl) c158 (0 : Nat) 0 (fun x => (AV.flt .f32 x)) (fun _ => rfl) (fun _ => rfl) rfl F143.ag26 ?_
      refine so_bin rfl rfl ab_fmul ?_
      refine so_bin rfl rfl ab_fadd ?_
      refine so_bin rfl rfl ab_fadd ?_
      refine sv_idx (hs.shows 0 rfl) c154 (fun _ => rfl) (by decide) rfl rfl F143.tl24 ?_
      refine sv_set hs 0 rfl c154 (fop .add .f32 (out150.getD ((Int.tmod (IntKind.i64.wrap ((IntKind.i64.wrap ((2 : Int) * x137)) + x151)) (IntKind.i64.wrap ((2 : Int) * (l0.length : Int))))).toNat (0 : Nat)) (fop .add .f32 (fop .mul .f32 (l2.getD (x151).toNat (0 : Nat)) (l0.getD (x137).toNat (0 : Nat))) (fop .mul .f32 (y101.getD (x151).toNat (0 : Nat)) (l1.getD (x137).toNat (0 : Nat))))) (fun _ => rfl) (by decide) rfl rfl rfl rfl F143.sz26 (fun _ => by kernel_rfl) (fun H159 hs => ?_)
      refine so_nil ?_
      refine fi_inBlock ?_
      refine fi_region ?_
      refine so_bin rfl rfl ab_add ?_
      refine so_move (v := (.v (.int .i64 (IntKind.i64.wrap (x151 + (1 : Int)))))) rfl ?_
      refine so_nil ?_
      exact fi_at [(0, (.v v0)), (1, (.v v1)), (2, (.v (.ptr i2 o2))), (7, (.v (.int .i64 (IntKind.i64.wrap ((2 : Int) * (l0.length : Int)))))), (8, (.v v102)), (9, (.v v106)), (10, (.v (.int .i64 x137))), (21, (.v (.int .i64 (l0.length : Int)))), (22, (.v (.int .i64 x137))), (29, (.v (.int .i64 (l2.length : Int)))), (30, (.v (.int .i64 (IntKind.i64.wrap (x151 + (1 : Int))))))] ⟨rfl, rfl, rfl, rfl, rfl, rfl, rfl, rfl, rfl, rfl, rfl, trivial⟩ (h _ _  hs)
    · refine fi_false rfl (decide_eq_false c152) ?_
      refine fi_exit rfl ?_
      refine fi_inBlock ?_
      refine fi_region ?_
      refine so_bin rfl rfl ab_add ?_
      refine so_move (v := (.v (.int .i64 (IntKind.i64.wrap (x137 + (1 : Int)))))) rfl ?_
      refine so_nil ?_
      exact fi_at [(0, (.v v0)), (1, (.v v1)), (2, (.v (.ptr i2 o2))), (7, (.v (.int .i64 (IntKind.i64.wrap ((2 : Int) * (l0.length : Int)))))), (8, (.v v102)), (9, (.v v106)), (21, (.v (.int .i64 (l0.length : Int)))), (22, (.v (.int .i64 (IntKind.i64.wrap (x137 + (1 : Int))))))] ⟨rfl, rfl, rfl, rfl, rfl, rfl, rfl, rfl, trivial⟩ (h _ _  hs)
  · refine fi_false rfl (decide_eq_false c138) ?_
    refine fi_exit rfl ?_
    refine fi_seq ?_
    refine fi_region ?_
    refine so_move (v := (.v v106)) rfl ?_
    refine so_assign (v := (.v v106)) rfl ?_
    refine so_nil ?_
    exact by_ret rfl ⟨_, h, _, rfl, (Sep.del 1 hs)⟩
theorem F112.ag24 : tagg Try.prog 24 = some false := by kernel_rfl
theorem F112.ag72 : tagg Try.prog 72 = some false := by kernel_rfl
theorem F112.fd91_0 : tfield Try.prog 91 0 = some (0, 1, false) := by kernel_rfl
theorem F112.fd91_1 : tfield Try.prog 91 1 = some (1, 1, false) := by kernel_rfl
theorem F112.sz26 : tsz Try.prog 26 = some 1 := by kernel_rfl
theorem F112.ta24_24 : tapp Try.prog 24 24 = some (1, 4) := by kernel_rfl
theorem F112.te24 : telem Try.prog 24 = some 26 := by kernel_rfl
theorem F112.ti72 : (telem Try.prog 72).isSome = true := by kernel_rfl
theorem F112.tl72 : (telem Try.prog 72).bind (tsz Try.prog) = some 1 := by kernel_rfl
theorem F112.ze26 : tzero Try.prog 26 = some [(.flt .f32 (0 : Nat))] := by kernel_rfl
theorem spec_l03Levels_ok {fr : List Pc} {H : Heap} (i0 o0 : Nat) (v0 : AV) (l0 : List (Nat)) (v1 : AV) (w1 : List (List AV)) (l1 : List (List (Nat))) (i2 o2 : Nat) (v2 : AV) (l2 : List (Nat)) (hs : Sep H (fr)) (g0 : ∀ H, Sep H fr → Shows H v0 1 (enc (eFlt .f32) l0)) (g1 : ∀ H, Sep H fr → DSh H v1 1 R_LeFlt_f32_o l1 w1) (q0 : ∀ H, Sep H fr → PtAt H i0 o0 [v0, v1]) (g2 : ∀ H, Sep H fr → Shows H v2 1 (enc (eFlt .f32) l2)) (q2 : ∀ H, Sep H fr → PtAt H i2 o2 [v2]) (K : (List (Nat)) → Bool → Prop) (h : spec_l03Levels.wp l0 l1 l2 K) : OkQ Try.prog 112 [(.v (.ptr i0 o0)), (.v (.ptr i2 o2))] H (fun r H2 => ∃ (y0 : List (Nat)) (y1 : Bool), K y0 y1 ∧ ∃ (w0_ : AV), r = (.t [(.v w0_), (.v (.bool y1))]) ∧ Sep H2 (Pc.osl w0_ 1 (enc (eFlt .f32) y0) :: fr)) := by
  unfold spec_l03Levels.wp at h
  refine of_body Try.f112 F.hm Try.func112 rfl Try.call112 (by kernel_rfl) (by simp) ?_
  refine fi_seq ?_
  refine fi_region ?_
  refine so_assign (v := (.v .nilsl)) rfl ?_
  refine so_assign (v := (.v (.bool false))) rfl ?_
  refine so_nil ?_
  refine fi_seq ?_
  refine fi_region ?_
  refine sv_bslice hs (eFlt .f32) ([] : List (Nat)) [] F112.te24 F112.sz26 F112.ze26 rfl rfl rfl rfl (fun _ => rfl) rfl (by decide) nofun (fun v101 H102 nv101 hs => ?_)
  refine so_move (v := (.v (.ptr i0 o0))) rfl ?_
  refine so_nilCheck rfl ?_
  refine so_fieldAddr rfl F112.fd91_0 ?_
  refine su_ld (q0 _ hs.tl) 0 rfl rfl F112.ag24 ?_
  obtain ⟨c106, h⟩ := h
  refine sv_app hs 0 rfl (g0 _ hs.tl) (fun _ => rfl) (by decide) F112.ta24_24 (by decide) c106 rfl rfl nofun (fun v104 H105 kv104 hs => ?_)
  have nv104 := kv104 nv101
  refine so_assign (v := (.v v104)) rfl ?_
  refine so_nil ?_
  refine fi_seq ?_
  refine fi_seq ?_
  refine fi_region ?_
  refine so_move (v := (.v (.ptr i0 o0))) rfl ?_
  refine so_nilCheck rfl ?_
  refine so_fieldAddr rfl F112.fd91_1 ?_
  refine su_ld (q0 _ hs.tl) 1 rfl rfl F112.ag72 ?_
  refine sd_len ((g1 _ hs.tl) : DSh _ _ 1 R_LeFlt_f32_o l1 w1) (by decide) rfl F112.ti72 ?_
  refine so_bin rfl rfl ab_sub ?_
  refine so_assign (v := (.v (.int .i64 (IntKind.i64.wrap ((l1.length : Int) - (1 : Int)))))) rfl ?_
  refine so_nil ?_
  refine fi_block ?_
  refine fi_loop ?_
  refine fi_at [(0, (.v (.ptr i0 o0))), (1, (.v (.ptr i2 o2))), (6, (.v v104)), (7, (.v (.int .i64 (IntKind.i64.wrap ((l1.length : Int) - (1 : Int))))))] ⟨rfl, rfl, rfl, rfl, trivial⟩ ?_
  refine h (fun (now121 : List (Nat)) (i123 : Int) => ∀ (s : Nat → TV) (H : Heap) (v122 : AV), Sep H (Pc.osl v122 1 (enc (eFlt .f32) now121) :: fr) → Fin _ _ (updL s [(0, (.v (.ptr i0 o0))), (1, (.v (.ptr i2 o2))), (6, (.v v122)), (7, (.v (.int .i64 i123)))]) H _) ?_ _ _ _ hs
  intro now121 i123 h s133 H134 v122 hs
  refine fi_inLoop ?_
  refine fi_seq ?_
  refine fi_seq ?_
  refine fi_region ?_
  refine so_move (v := (.v (.int .i64 i123))) rfl ?_
  refine so_bin rfl rfl ab_geq ?_
  refine so_nil ?_
  replace h := ofP h; rcases h with ⟨c124, h⟩ | ⟨c124, h⟩
  · refine fi_true rfl (decide_eq_true c124) ?_
    refine fi_skip ?_
    refine fi_seq ?_
    refine fi_block ?_
    refine fi_seq ?_
    refine fi_region ?_
    refine so_move (v := (.v v122)) rfl ?_
    refine so_move (v := (.v (.ptr i0 o0))) rfl ?_
    refine so_nilCheck rfl ?_
    refine so_fieldAddr rfl F112.fd91_1 ?_
    refine su_ld (q0 _ hs.tl) 1 rfl rfl F112.ag72 ?_
    refine so_move (v := (.v (.int .i64 i123))) rfl ?_
    obtain ⟨c125, h⟩ := h
    refine sd_idx ((g1 _ hs.tl) : DSh _ _ 1 R_LeFlt_f32_o l1 w1) c125 ([] : List (Nat)) (by decide) rfl rfl F112.tl72 ?_
    refine su_ld ((((g1 _ hs.tl) : DSh _ _ 1 R_LeFlt_f32_o l1 w1)).at (by decide) c125 ([] : List (Nat))).2.2 0 (congrArg (fun c => c[0]?) ((((g1 _ hs.tl) : DSh _ _ 1 R_LeFlt_f32_o l1 w1)).at (by decide) c125 ([] : List (Nat))).2.1.1) rfl F112.ag24 ?_
    refine so_move (v := (.v (.ptr i2 o2))) rfl ?_
    refine sv_call (spec_l03Join_ok v122 now121 ((w1.getD (i123).toNat []).getD 0 .und) (l1.getD (i123).toNat ([] : List (Nat))) i2 o2 v2 l2 hs (fun _ hs => (hs.shows 0 rfl)) (fun _ hs => ((((g1 _ hs.tl) : DSh _ _ 1 R_LeFlt_f32_o l1 w1)).at (by decide) c125 ([] : List (Nat))).2.1.2) (fun _ hs => (g2 _ hs.tl)) (fun _ hs => (q2 _ hs.tl)) _ h) rfl rfl nofun ?_
    clear h hs
    rintro _ H129 ⟨y126, h, v127, rfl, hs⟩
    refine so_assign (v := (.v v127)) rfl ?_
    refine so_nil ?_
    refine fi_seq ?_
    refine fi_region ?_
    refine so_move (v := (.v v127)) rfl ?_
    refine sv_callS (spec_l02Finite_ok v127 y126 hs (fun _ hs => (hs.shows 0 rfl)) _ h) (fun _ _ ⟨_, _, _, e⟩ => e) rfl rfl ?_
    clear h
    rintro _ _ ⟨y130, h, rfl, rfl⟩
    refine so_un rfl au_not ?_
    refine so_nil ?_
    replace h := ofT h; rcases h with ⟨c132, h⟩ | ⟨c132, h⟩
    · refine fi_false rfl (not_f c132) ?_
      refine fi_skip ?_
      refine fi_inBlock ?_
      refine fi_region ?_
      refine so_move (v := (.v (.int .i64 i123))) rfl ?_
      refine so_bin rfl rfl ab_sub ?_
      refine so_assign (v := (.v (.int .i64 (IntKind.i64.wrap (i123 - (1 : Int)))))) rfl ?_
      refine so_nil ?_
      exact fi_at [(0, (.v (.ptr i0 o0))), (1, (.v (.ptr i2 o2))), (6, (.v v127)), (7, (.v (.int .i64 (IntKind.i64.wrap (i123 - (1 : Int))))))] ⟨rfl, rfl, rfl, rfl, trivial⟩ (h _ _ _ (Sep.del 1 hs))
    · refine fi_true rfl (not_t c132) ?_
      refine fi_seq ?_
      refine fi_region ?_
      refine so_assign (v := (.v .nilsl)) rfl ?_
      refine so_assign (v := (.v (.bool false))) rfl ?_
      refine so_nil ?_
      exact by_ret rfl ⟨_, _, h, _, rfl, (Sep.nil (Sep.del 0 (Sep.del 0 hs)) 1)⟩
  · refine fi_false rfl (decide_eq_false c124) ?_
    refine fi_exit rfl ?_
    refine fi_seq ?_
    refine fi_region ?_
    refine so_move (v := (.v v122)) rfl ?_
    refine so_assign (v := (.v v122)) rfl ?_
    refine so_assign (v := (.v (.bool true))) rfl ?_
    refine so_nil ?_
    exact by_ret rfl ⟨_, _, h, _, rfl, hs⟩
theorem F69.inf46 : (Try.prog.info? 46).isSome = true := by kernel_rfl
theorem F69.inf91 : (Try.prog.info? 91).isSome = true := by kernel_rfl
theorem spec_JoinLevels_ok {fr : List Pc} {H : Heap} (v0 : AV) (l0 : List (Nat)) (v1 : AV) (w1 : List (List AV)) (l1 : List (List (Nat))) (v2 : AV) (l2 : List (Nat)) (hs : Sep H (fr)) (g0 : ∀ H, Sep H fr → Shows H v0 1 (enc (eFlt .f32) l0)) (g1 : ∀ H, Sep H fr → DSh H v1 1 R_LeFlt_f32_o l1 w1) (g2 : ∀ H, Sep H fr → Shows H v2 1 (enc (eFlt .f32) l2)) (K : (List (Nat)) → Bool → Prop) (h : spec_JoinLevels.wp l0 l1 l2 K) : OkQ Try.prog 69 [(.g [v0, v1]), (.g [v2])] H (fun r H2 => ∃ (y0 : List (Nat)) (y1 : Bool), K y0 y1 ∧ ∃ (w0_ : AV), r = (.t [(.v w0_), (.v (.bool y1))]) ∧ Sep H2 (Pc.osl w0_ 1 (enc (eFlt .f32) y0) :: fr)) := by
  unfold spec_JoinLevels.wp at h
  refine of_body Try.f69 F.hm Try.func69 rfl Try.call69 (by kernel_rfl) (by simp) ?_
  refine fi_seq ?_
  refine fi_region ?_
  refine sv_box hs rfl (c := [v0, v1]) rfl F69.inf91 (stc (g0 _ hs).stor (stc (g1 _ hs).stor stn)) nofun (fun id101 H102 hs => ?_)
  refine sv_box hs rfl (c := [v2]) rfl F69.inf46 (stc (g2 _ hs.tl).stor stn) nofun (fun id104 H105 hs => ?_)
  refine so_assign (v := (.v .nilsl)) rfl ?_
  refine so_assign (v := (.v (.bool false))) rfl ?_
  refine so_nil ?_
  refine fi_seq ?_
  refine fi_seq ?_
  refine fi_region ?_
  refine sv_callS (spec_l03Bands_ok id101 0 v0 l0 v1 w1 l1 hs (fun _ hs => (g0 _ hs.tl.tl)) (fun _ hs => (g1 _ hs.tl.tl)) (fun _ hs => (hs.ptat 1 rfl)) _ h) (fun _ _ ⟨_, _, _, e⟩ => e) rfl rfl ?_
  clear h
  rintro _ _ ⟨y107, h, rfl, rfl⟩
  refine so_un rfl au_not ?_
  refine so_move (v := (.v (.bool (!y107)))) rfl ?_
  replace h := ofT h; rcases h with ⟨c109, h⟩ | ⟨c109, h⟩
  · refine so_gyes rfl (not_f c109) ?_
    refine sv_callS (spec_l03Pair_ok id104 0 v2 l2 hs (fun _ hs => (g2 _ hs.tl.tl)) (fun _ hs => (hs.ptat 0 rfl)) _ h) (fun _ _ ⟨_, _, _, e⟩ => e) rfl rfl ?_
    clear h
    rintro _ _ ⟨y110, h, rfl, rfl⟩
    refine so_gyes rfl (not_f c109) ?_
    refine so_un rfl au_not ?_
    refine so_pick_f (v := (.v (.bool (!y110)))) rfl (not_f c109) rfl ?_
    refine so_nil ?_
    replace h := ofT h; rcases h with ⟨c112, h⟩ | ⟨c112, h⟩
    · refine fi_false rfl (not_f c112) ?_
      refine fi_skip ?_
      refine fi_seq ?_
      refine fi_region ?_
      refine sv_call (spec_l03Levels_ok id101 0 v0 l0 v1 w1 l1 id104 0 v2 l2 hs (fun _ hs => (g0 _ hs.tl.tl)) (fun _ hs => (g1 _ hs.tl.tl)) (fun _ hs => (hs.ptat 1 rfl)) (fun _ hs => (g2 _ hs.tl.tl)) (fun _ hs => (hs.ptat 0 rfl)) _ h) rfl rfl nofun ?_
      clear h hs
      rintro _ H117 ⟨y113, y116, h, v114, rfl, hs⟩
      refine so_extract rfl rfl rfl ?_
      refine so_extract rfl rfl rfl ?_
      refine so_assign (v := (.v v114)) rfl ?_
      refine so_assign (v := (.v (.bool y116))) rfl ?_
      refine so_nil ?_
      exact by_ret rfl ⟨_, _, h, _, rfl, (Sep.del 1 (Sep.del 1 hs))⟩
    · refine fi_true rfl (not_t c112) ?_
      refine fi_seq ?_
      refine fi_region ?_
      refine so_assign (v := (.v .nilsl)) rfl ?_
      refine so_assign (v := (.v (.bool false))) rfl ?_
      refine so_nil ?_
      exact by_ret rfl ⟨_, _, h, _, rfl, (Sep.nil (Sep.del 0 (Sep.del 0 hs)) 1)⟩
  · refine so_gno rfl (not_t c109) ?_
    refine so_gno rfl (not_t c109) ?_
    refine so_pick_t (v := (.v (.bool true))) rfl (not_t c109) rfl ?_
    refine so_nil ?_
    refine fi_true rfl rfl ?_
    refine fi_seq ?_
    refine fi_region ?_
    refine so_assign (v := (.v .nilsl)) rfl ?_
    refine so_assign (v := (.v (.bool false))) rfl ?_
    refine so_nil ?_
    exact by_ret rfl ⟨_, _, h, _, rfl, (Sep.nil (Sep.del 0 (Sep.del 0 hs)) 1)⟩
theorem F22.ag26 : tagg Try.prog 26 = some false := by kernel_rfl
theorem F22.ag4 : tagg Try.prog 4 = some false := by kernel_rfl
theorem F22.ag46 : tagg Try.prog 46 = some true := by kernel_rfl
theorem F22.ag72 : tagg Try.prog 72 = some false := by kernel_rfl
theorem F22.ag91 : tagg Try.prog 91 = some true := by kernel_rfl
theorem F22.fd91_1 : tfield Try.prog 91 1 = some (1, 1, false) := by kernel_rfl
theorem F22.fl26 : tflt Try.prog 26 = some .f32 := by kernel_rfl
theorem F22.in26 : tint Try.prog 26 = none := by kernel_rfl
theorem F22.inf46 : (Try.prog.info? 46).isSome = true := by kernel_rfl
theorem F22.sz26 : tsz Try.prog 26 = some 1 := by kernel_rfl
theorem F22.sz46 : tsz Try.prog 46 = some 1 := by kernel_rfl
theorem F22.sz91 : tsz Try.prog 91 = some 2 := by kernel_rfl
theorem F22.ta24_24 : tapp Try.prog 24 24 = some (1, 4) := by kernel_rfl
theorem F22.te24 : telem Try.prog 24 = some 26 := by kernel_rfl
theorem F22.ti24 : (telem Try.prog 24).isSome = true := by kernel_rfl
theorem F22.ti49 : (telem Try.prog 49).isSome = true := by kernel_rfl
theorem F22.ti72 : (telem Try.prog 72).isSome = true := by kernel_rfl
theorem F22.tl24 : (telem Try.prog 24).bind (tsz Try.prog) = some 1 := by kernel_rfl
theorem F22.tl49 : (telem Try.prog 49).bind (tsz Try.prog) = some 1 := by kernel_rfl
theorem F22.us3 : (Try.prog.underlying 3).isSome = true := by kernel_rfl
theorem F22.ze26 : tzero Try.prog 26 = some [(.flt .f32 (0 : Nat))] := by kernel_rfl
theorem F22.ze91 : tzero Try.prog 91 = some [.nilsl, .nilsl] := by kernel_rfl
theorem spec_FillRounds_ok {fr : List Pc} {H : Heap} (v0 : AV) (l0 : List (Nat)) (v1 : AV) (l1 : List (Bool)) (v2 : AV) (l2 : List (Nat)) (a3 : Int) (a4 : Nat) (a5 : Nat) (a6 : Int) (hs : Sep H (fr)) (g0 : ∀ H, Sep H fr → Shows H v0 1 (enc (eFlt .f32) l0)) (g1 : ∀ H, Sep H fr → Shows H v1 1 (enc eBool l1)) (g2 : ∀ H, Sep H fr → Shows H v2 1 (enc (eFlt .f32) l2)) (K : (List (Nat)) → Bool → Prop) (h : spec_FillRounds.wp l0 l1 l2 a3 a4 a5 a6 K) : OkQ Try.prog 22 [(.v v0), (.v v1), (.g [v2]), (.v (.int .i64 a3)), (.v (.flt .f32 a4)), (.v (.flt .f32 a5)), (.v (.int .i64 a6))] H (fun r H2 => ∃ (y0 : List (Nat)) (y1 : Bool), K y0 y1 ∧ ∃ (w0_ : AV), r = (.t [(.v w0_), (.v (.bool y1))]) ∧ Sep H2 (Pc.osl w0_ 1 (enc (eFlt .f32) y0) :: fr)) := by
  unfold spec_FillRounds.wp at h
  refine of_body Try.f22 F.hm Try.func22 rfl Try.call22 (by kernel_rfl) (by simp) ?_
  refine fi_seq ?_
  refine fi_region ?_
  refine sv_box hs rfl (c := [v2]) rfl F22.inf46 (stc (g2 _ hs).stor stn) nofun (fun id101 H102 hs => ?_)
  refine so_assign (v := (.v .nilsl)) rfl ?_
  refine so_assign (v := (.v (.bool false))) rfl ?_
  refine so_nil ?_
  refine fi_seq ?_
  refine fi_seq ?_
  refine fi_region ?_
  refine so_move (v := (.v v0)) rfl ?_
  refine sv_callS (spec_l03Long_ok v0 l0 hs (fun _ hs => (g0 _ hs.tl)) _ h) (fun _ _ ⟨_, _, _, e⟩ => e) rfl rfl ?_
  clear h
  rintro _ _ ⟨y104, h, rfl, rfl⟩
  refine so_un rfl au_not ?_
  refine so_move (v := (.v (.bool (!y104)))) rfl ?_
  replace h := ofT h; rcases h with ⟨c106, h⟩ | ⟨c106, h⟩
  · refine so_gyes rfl (not_f c106) ?_
    refine so_move (v := (.v v1)) rfl ?_
    refine so_gyes rfl (not_f c106) ?_
    refine sv_len (g1 _ hs.tl) (fun _ => rfl) (by decide) rfl F22.ti49 ?_
    refine so_gyes rfl (not_f c106) ?_
    refine so_move (v := (.v v0)) rfl ?_
    refine so_gyes rfl (not_f c106) ?_
    refine sv_len (g0 _ hs.tl) (fun _ => rfl) (by decide) rfl F22.ti24 ?_
    refine so_gyes rfl (not_f c106) ?_
    refine so_bin rfl rfl ab_neq ?_
    refine so_pick_f (v := (.v (.bool (!(decide ((l1.length : Int) = (l0.length : Int))))))) rfl (not_f c106) rfl ?_
    refine so_move (v := (.v (.bool (!(decide ((l1.length : Int) = (l0.length : Int))))))) rfl ?_
    replace h := ofP h; rcases h with ⟨c107, h⟩ | ⟨c107, h⟩
    · refine so_gyes rfl (not_f (decide_eq_true c107)) ?_
      refine sv_callS (spec_l03Pair_ok id101 0 v2 l2 hs (fun _ hs => (g2 _ hs.tl)) (fun _ hs => (hs.ptat 0 rfl)) _ h) (fun _ _ ⟨_, _, _, e⟩ => e) rfl rfl ?_
      clear h
      rintro _ _ ⟨y108, h, rfl, rfl⟩
      refine so_gyes rfl (not_f (decide_eq_true c107)) ?_
      refine so_un rfl au_not ?_
      refine so_pick_f (v := (.v (.bool (!y108)))) rfl (not_f (decide_eq_true c107)) rfl ?_
      refine so_move (v := (.v (.bool (!y108)))) rfl ?_
      replace h := ofT h; rcases h with ⟨c110, h⟩ | ⟨c110, h⟩
      · refine so_gyes rfl (not_f c110) ?_
        refine so_move (v := (.v (.int .i64 a3))) rfl ?_
        refine so_gyes rfl (not_f c110) ?_
        refine sv_callS (spec_l00In_ok a3 (1 : Int) (6 : Int) hs  _ h) (fun _ _ ⟨_, _, _, e⟩ => e) rfl rfl ?_
        clear h
        rintro _ _ ⟨y111, h, rfl, rfl⟩
        refine so_gyes rfl (not_f c110) ?_
        refine so_un rfl au_not ?_
        refine so_pick_f (v := (.v (.bool (!y111)))) rfl (not_f c110) rfl ?_
        refine so_move (v := (.v (.bool (!y111)))) rfl ?_
        replace h := ofT h; rcases h with ⟨c113, h⟩ | ⟨c113, h⟩
        · refine so_gyes rfl (not_f c113) ?_
          refine so_move (v := (.v v0)) rfl ?_
          refine so_gyes rfl (not_f c113) ?_
          refine sv_len (g0 _ hs.tl) (fun _ => rfl) (by decide) rfl F22.ti24 ?_
          refine so_gyes rfl (not_f c113) ?_
          refine so_move (v := (.v (.int .i64 a3))) rfl ?_
          refine so_gyes rfl (not_f c113) ?_
          obtain ⟨c114, h⟩ := h
          refine so_bin rfl rfl (ab_shl c114) ?_
          refine so_gyes rfl (not_f c113) ?_
          obtain ⟨c115, h⟩ := h
          refine so_bin rfl rfl (ab_rem c115) ?_
          refine so_gyes rfl (not_f c113) ?_
          refine so_bin rfl rfl ab_neq ?_
          refine so_pick_f (v := (.v (.bool (!(decide ((Int.tmod (l0.length : Int) (IntKind.i64.wrap ((1 : Int) * (2 ^ (min (a3).toNat IntKind.i64.bits))))) = (0 : Int))))))) rfl (not_f c113) rfl ?_
          refine so_move (v := (.v (.bool (!(decide ((Int.tmod (l0.length : Int) (IntKind.i64.wrap ((1 : Int) * (2 ^ (min (a3).toNat IntKind.i64.bits))))) = (0 : Int))))))) rfl ?_
          replace h := ofP h; rcases h with ⟨c116, h⟩ | ⟨c116, h⟩
          · refine so_gyes rfl (not_f (decide_eq_true c116)) ?_
            refine so_move (v := (.v (.flt .f32 a4))) rfl ?_
            refine so_gyes rfl (not_f (decide_eq_true c116)) ?_
            refine sv_callS (spec_l02Least_ok a4 hs  _ h) (fun _ _ ⟨_, _, _, e⟩ => e) rfl rfl ?_
            clear h
            rintro _ _ ⟨y117, h, rfl, rfl⟩
            refine so_gyes rfl (not_f (decide_eq_true c116)) ?_
            refine so_un rfl au_not ?_
            refine so_pick_f (v := (.v (.bool (!y117)))) rfl (not_f (decide_eq_true c116)) rfl ?_
            refine so_move (v := (.v (.bool (!y117)))) rfl ?_
            replace h := ofT h; rcases h with ⟨c119, h⟩ | ⟨c119, h⟩
            · refine so_gyes rfl (not_f c119) ?_
              refine so_move (v := (.v (.flt .f32 a5))) rfl ?_
              refine so_gyes rfl (not_f c119) ?_
              refine sv_callS (spec_l02Share_ok a5 hs  _ h) (fun _ _ ⟨_, _, _, e⟩ => e) rfl rfl ?_
              clear h
              rintro _ _ ⟨y120, h, rfl, rfl⟩
              refine so_gyes rfl (not_f c119) ?_
              refine so_un rfl au_not ?_
              refine so_pick_f (v := (.v (.bool (!y120)))) rfl (not_f c119) rfl ?_
              refine so_move (v := (.v (.bool (!y120)))) rfl ?_
              replace h := ofT h; rcases h with ⟨c122, h⟩ | ⟨c122, h⟩
              · refine so_gyes rfl (not_f c122) ?_
                refine so_move (v := (.v (.int .i64 a6))) rfl ?_
                refine so_gyes rfl (not_f c122) ?_
                refine sv_callS (spec_l00In_ok a6 (0 : Int) (32 : Int) hs  _ h) (fun _ _ ⟨_, _, _, e⟩ => e) rfl rfl ?_
                clear h
                rintro _ _ ⟨y123, h, rfl, rfl⟩
                refine so_gyes rfl (not_f c122) ?_
                refine so_un rfl au_not ?_
                refine so_pick_f (v := (.v (.bool (!y123)))) rfl (not_f c122) rfl ?_
                refine so_nil ?_
                replace h := ofT h; rcases h with ⟨c125, h⟩ | ⟨c125, h⟩
                · refine fi_false rfl (not_f c125) ?_
                  refine fi_skip ?_
                  refine fi_seq ?_
                  refine fi_region ?_
                  refine so_assign (v := (.v (.flt .f32 (cz .f32 0)))) rfl ?_
                  refine so_nil ?_
                  refine fi_seq ?_
                  refine fi_region ?_
                  refine so_assign (v := (.v (.int .i64 (0 : Int)))) rfl ?_
                  refine so_nil ?_
                  refine fi_seq ?_
                  refine fi_seq ?_
                  refine fi_region ?_
                  refine so_move (v := (.v v0)) rfl ?_
                  refine sv_len (g0 _ hs.tl) (fun _ => rfl) (by decide) rfl F22.ti24 ?_
                  refine so_move (v := (.v (.int .i64 (0 : Int)))) rfl ?_
                  refine so_nil ?_
                  refine fi_block ?_
                  refine fi_loop ?_
                  refine fi_at [(0, (.v v0)), (1, (.v v1)), (3, (.v (.int .i64 a3))), (4, (.v (.flt .f32 a4))), (5, (.v (.flt .f32 a5))), (6, (.v (.int .i64 a6))), (9, (.v (.ptr id101 0))), (16, (.v (.flt .f32 (cz .f32 0)))), (17, (.v (.int .i64 (0 : Int)))), (72, (.v (.int .i64 (l0.length : Int)))), (73, (.v (.int .i64 (0 : Int))))] ⟨rfl, rfl, rfl, rfl, rfl, rfl, rfl, rfl, rfl, rfl, rfl, trivial⟩ ?_
                  refine h (fun (sum127 : Nat) (n128 : Int) (x129 : Int) => ∀ (s : Nat → TV) (H : Heap), Sep H (Pc.box id101 [v2] :: fr) → Fin _ _ (updL s [(0, (.v v0)), (1, (.v v1)), (3, (.v (.int .i64 a3))), (4, (.v (.flt .f32 a4))), (5, (.v (.flt .f32 a5))), (6, (.v (.int .i64 a6))), (9, (.v (.ptr id101 0))), (16, (.v (.flt .f32 sum127))), (17, (.v (.int .i64 n128))), (72, (.v (.int .i64 (l0.length : Int)))), (73, (.v (.int .i64 x129)))]) H _) ?_ _ _ hs
                  intro sum127 n128 x129 h s554 H555 hs
                  refine fi_inLoop ?_
                  refine fi_seq ?_
                  refine fi_region ?_
                  refine so_bin rfl rfl ab_lss ?_
                  refine so_nil ?_
                  refine fi_seq ?_
                  replace h := ofP h; rcases h with ⟨c130, h⟩ | ⟨c130, h⟩
                  · refine fi_true rfl (decide_eq_true c130) ?_
                    refine fi_skip ?_
                    refine fi_seq ?_
                    refine fi_block ?_
                    refine fi_seq ?_
                    refine fi_region ?_
                    refine so_move (v := (.v (.int .i64 x129))) rfl ?_
                    refine so_assign (v := (.v (.int .i64 x129))) rfl ?_
                    refine so_nil ?_
                    refine fi_seq ?_
                    refine fi_region ?_
                    refine so_move (v := (.v v1)) rfl ?_
                    refine so_move (v := (.v (.int .i64 x129))) rfl ?_
                    obtain ⟨c131, h⟩ := h
                    refine sv_idx (g1 _ hs.tl) c131 (fun _ => rfl) (by decide) rfl rfl F22.tl49 ?_
                    refine sv_cell (g1 _ hs.tl) c131 false 0 (fun x => (AV.bool x)) (fun _ => rfl) (fun _ => rfl) rfl F22.ag4 ?_
                    refine so_nil ?_
                    replace h := ofT h; rcases h with ⟨c132, h⟩ | ⟨c132, h⟩
                    · refine fi_true rfl c132 ?_
                      refine fi_seq ?_
                      refine fi_region ?_
                      refine so_move (v := (.v (.flt .f32 sum127))) rfl ?_
                      refine so_move (v := (.v v0)) rfl ?_
                      refine so_move (v := (.v (.int .i64 x129))) rfl ?_
                      obtain ⟨c133, h⟩ := h
                      refine sv_idx (g0 _ hs.tl) c133 (fun _ => rfl) (by decide) rfl rfl F22.tl24 ?_
                      refine sv_cell (g0 _ hs.tl) c133 (0 : Nat) 0 (fun x => (AV.flt .f32 x)) (fun _ => rfl) (fun _ => rfl) rfl F22.ag26 ?_
                      refine so_bin rfl rfl ab_fadd ?_
                      refine so_assign (v := (.v (.flt .f32 (fop .add .f32 sum127 (l0.getD (x129).toNat (0 : Nat)))))) rfl ?_
                      refine so_nil ?_
                      refine fi_region ?_
                      refine so_move (v := (.v (.int .i64 n128))) rfl ?_
                      refine so_bin rfl rfl ab_add ?_
                      refine so_assign (v := (.v (.int .i64 (IntKind.i64.wrap (n128 + (1 : Int)))))) rfl ?_
                      refine so_nil ?_
                      refine fi_inBlock ?_
                      refine fi_region ?_
                      refine so_bin rfl rfl ab_add ?_
                      refine so_move (v := (.v (.int .i64 (IntKind.i64.wrap (x129 + (1 : Int)))))) rfl ?_
                      refine so_nil ?_
                      exact fi_at [(0, (.v v0)), (1, (.v v1)), (3, (.v (.int .i64 a3))), (4, (.v (.flt .f32 a4))), (5, (.v (.flt .f32 a5))), (6, (.v (.int .i64 a6))), (9, (.v (.ptr id101 0))), (16, (.v (.flt .f32 (fop .add .f32 sum127 (l0.getD (x129).toNat (0 : Nat)))))), (17, (.v (.int .i64 (IntKind.i64.wrap (n128 + (1 : Int)))))), (72, (.v (.int .i64 (l0.length : Int)))), (73, (.v (.int .i64 (IntKind.i64.wrap (x129 + (1 : Int))))))] ⟨rfl, rfl, rfl, rfl, rfl, rfl, rfl, rfl, rfl, rfl, rfl, trivial⟩ (h _ _  hs)
                    · refine fi_false rfl c132 ?_
                      refine fi_skip ?_
                      refine fi_inBlock ?_
                      refine fi_region ?_
                      refine so_bin rfl rfl ab_add ?_
                      refine so_move (v := (.v (.int .i64 (IntKind.i64.wrap (x129 + (1 : Int)))))) rfl ?_
                      refine so_nil ?_
                      exact fi_at [(0, (.v v0)), (1, (.v v1)), (3, (.v (.int .i64 a3))), (4, (.v (.flt .f32 a4))), (5, (.v (.flt .f32 a5))), (6, (.v (.int .i64 a6))), (9, (.v (.ptr id101 0))), (16, (.v (.flt .f32 sum127))), (17, (.v (.int .i64 n128))), (72, (.v (.int .i64 (l0.length : Int)))), (73, (.v (.int .i64 (IntKind.i64.wrap (x129 + (1 : Int))))))] ⟨rfl, rfl, rfl, rfl, rfl, rfl, rfl, rfl, rfl, rfl, rfl, trivial⟩ (h _ _  hs)
                  · refine fi_false rfl (decide_eq_false c130) ?_
                    refine fi_exit rfl ?_
                    refine fi_seq ?_
                    refine fi_seq ?_
                    refine fi_region ?_
                    refine so_move (v := (.v (.int .i64 n128))) rfl ?_
                    refine so_bin rfl rfl ab_eql ?_
                    refine so_nil ?_
                    replace h := ofP h; rcases h with ⟨c134, h⟩ | ⟨c134, h⟩
                    · refine fi_true rfl (decide_eq_true c134) ?_
                      refine fi_seq ?_
                      refine fi_region ?_
                      refine so_assign (v := (.v .nilsl)) rfl ?_
                      refine so_assign (v := (.v (.bool false))) rfl ?_
                      refine so_nil ?_
                      exact by_ret rfl ⟨_, _, h, _, rfl, (Sep.nil (Sep.del 0 hs) 1)⟩
                    · refine fi_false rfl (decide_eq_false c134) ?_
                      refine fi_skip ?_
                      refine fi_seq ?_
                      refine fi_region ?_
                      refine sv_bslice hs (eFlt .f32) ([] : List (Nat)) [] F22.te24 F22.sz26 F22.ze26 rfl rfl rfl rfl (fun _ => rfl) rfl (by decide) nofun (fun v135 H136 nv135 hs => ?_)
                      refine so_move (v := (.v v0)) rfl ?_
                      obtain ⟨c140, h⟩ := h
                      refine sv_app hs 0 rfl (g0 _ hs.tl.tl) (fun _ => rfl) (by decide) F22.ta24_24 (by decide) c140 rfl rfl nofun (fun v138 H139 kv138 hs => ?_)
                      have nv138 := kv138 nv135
                      refine so_assign (v := (.v v138)) rfl ?_
                      refine so_nil ?_
                      refine fi_seq ?_
                      refine fi_seq ?_
                      refine fi_region ?_
                      refine so_move (v := (.v v138)) rfl ?_
                      refine sv_len (hs.shows 0 rfl) (fun _ => rfl) (by decide) rfl F22.ti24 ?_
                      refine so_move (v := (.v (.int .i64 (0 : Int)))) rfl ?_
                      refine so_nil ?_
                      refine fi_block ?_
                      refine fi_loop ?_
                      refine fi_at [(0, (.v v0)), (1, (.v v1)), (3, (.v (.int .i64 a3))), (4, (.v (.flt .f32 a4))), (5, (.v (.flt .f32 a5))), (6, (.v (.int .i64 a6))), (9, (.v (.ptr id101 0))), (16, (.v (.flt .f32 sum127))), (17, (.v (.int .i64 n128))), (19, (.v v138)), (95, (.v (.int .i64 ((([] : List (Nat)) ++ l0).length : Int)))), (96, (.v (.int .i64 (0 : Int))))] ⟨rfl, rfl, rfl, rfl, rfl, rfl, rfl, rfl, rfl, rfl, rfl, rfl, trivial⟩ ?_
                      refine h (fun (out347 : List (Nat)) (x348 : Int) => ∀ (s : Nat → TV) (H : Heap), Sep H (Pc.osl v138 1 (enc (eFlt .f32) out347) :: Pc.box id101 [v2] :: fr) → Fin _ _ (updL s [(0, (.v v0)), (1, (.v v1)), (3, (.v (.int .i64 a3))), (4, (.v (.flt .f32 a4))), (5, (.v (.flt .f32 a5))), (6, (.v (.int .i64 a6))), (9, (.v (.ptr id101 0))), (16, (.v (.flt .f32 sum127))), (17, (.v (.int .i64 n128))), (19, (.v v138)), (95, (.v (.int .i64 ((([] : List (Nat)) ++ l0).length : Int)))), (96, (.v (.int .i64 x348)))]) H _) ?_ _ _ hs
                      intro out347 x348 h s552 H553 hs
                      refine fi_inLoop ?_
                      refine fi_seq ?_
                      refine fi_region ?_
                      refine so_bin rfl rfl ab_lss ?_
                      refine so_nil ?_
                      refine fi_seq ?_
                      replace h := ofP h; rcases h with ⟨c349, h⟩ | ⟨c349, h⟩
                      · refine fi_true rfl (decide_eq_true c349) ?_
                        refine fi_skip ?_
                        refine fi_seq ?_
                        refine fi_block ?_
                        refine fi_seq ?_
                        refine fi_region ?_
                        refine so_move (v := (.v (.int .i64 x348))) rfl ?_
                        refine so_assign (v := (.v (.int .i64 x348))) rfl ?_
                        refine so_nil ?_
                        refine fi_seq ?_
                        refine fi_region ?_
                        refine so_move (v := (.v v1)) rfl ?_
                        refine so_move (v := (.v (.int .i64 x348))) rfl ?_
                        obtain ⟨c350, h⟩ := h
                        refine sv_idx (g1 _ hs.tl.tl) c350 (fun _ => rfl) (by decide) rfl rfl F22.tl49 ?_
                        refine sv_cell (g1 _ hs.tl.tl) c350 false 0 (fun x => (AV.bool x)) (fun _ => rfl) (fun _ => rfl) rfl F22.ag4 ?_
                        refine so_un rfl au_not ?_
                        refine so_nil ?_
                        replace h := ofT h; rcases h with ⟨c351, h⟩ | ⟨c351, h⟩
                        · refine fi_false rfl (not_f c351) ?_
                          refine fi_skip ?_
                          refine fi_inBlock ?_
                          refine fi_region ?_
                          refine so_bin rfl rfl ab_add ?_
                          refine so_move (v := (.v (.int .i64 (IntKind.i64.wrap (x348 + (1 : Int)))))) rfl ?_
                          refine so_nil ?_
                          exact fi_at [(0, (.v v0)), (1, (.v v1)), (3, (.v (.int .i64 a3))), (4, (.v (.flt .f32 a4))), (5, (.v (.flt .f32 a5))), (6, (.v (.int .i64 a6))), (9, (.v (.ptr id101 0))), (16, (.v (.flt .f32 sum127))), (17, (.v (.int .i64 n128))), (19, (.v v138)), (95, (.v (.int .i64 ((([] : List (Nat)) ++ l0).length : Int)))), (96, (.v (.int .i64 (IntKind.i64.wrap (x348 + (1 : Int))))))] ⟨rfl, rfl, rfl, rfl, rfl, rfl, rfl, rfl, rfl, rfl, rfl, rfl, trivial⟩ (h _ _  hs)
                        · refine fi_true rfl (not_t c351) ?_
                          refine fi_region ?_
                          refine so_move (v := (.v v138)) rfl ?_
                          refine so_move (v := (.v (.int .i64 x348))) rfl ?_
                          refine so_move (v := (.v (.flt .f32 sum127))) rfl ?_
                          refine so_move (v := (.v (.int .i64 n128))) rfl ?_
                          refine sv_if rfl F22.us3 F22.in26 F22.fl26 ?_
                          refine so_bin rfl rfl ab_fquo ?_
                          obtain ⟨c352, h⟩ := h
                          refine sv_idx (hs.shows 0 rfl) c352 (fun _ => rfl) (by decide) rfl rfl F22.tl24 ?_
                          refine sv_set hs 0 rfl c352 (fop .quo .f32 sum127 (itof .f32 n128)) (fun _ => rfl) (by decide) rfl rfl rfl rfl F22.sz26 nofun (fun H353 hs => ?_)
                          refine so_nil ?_
                          refine fi_inBlock ?_
                          refine fi_region ?_
                          refine so_bin rfl rfl ab_add ?_
                          refine so_move (v := (.v (.int .i64 (IntKind.i64.wrap (x348 + (1 : Int)))))) rfl ?_
                          refine so_nil ?_
                          exact fi_at [(0, (.v v0)), (1, (.v v1)), (3, (.v (.int .i64 a3))), (4, (.v (.flt .f32 a4))), (5, (.v (.flt .f32 a5))), (6, (.v (.int .i64 a6))), (9, (.v (.ptr id101 0))), (16, (.v (.flt .f32 sum127))), (17, (.v (.int .i64 n128))), (19, (.v v138)), (95, (.v (.int .i64 ((([] : List (Nat)) ++ l0).length : Int)))), (96, (.v (.int .i64 (IntKind.i64.wrap (x348 + (1 : Int))))))] ⟨rfl, rfl, rfl, rfl, rfl, rfl, rfl, rfl, rfl, rfl, rfl, rfl, trivial⟩ (h _ _  hs)
                      · refine fi_false rfl (decide_eq_false c349) ?_
                        refine fi_exit rfl ?_
                        refine fi_seq ?_
                        refine fi_block ?_
                        refine fi_loop ?_
                        refine fi_at [(0, (.v v0)), (1, (.v v1)), (3, (.v (.int .i64 a3))), (4, (.v (.flt .f32 a4))), (5, (.v (.flt .f32 a5))), (6, (.v (.int .i64 a6))), (9, (.v (.ptr id101 0))), (19, (.v v138))] ⟨rfl, rfl, rfl, rfl, rfl, rfl, rfl, rfl, trivial⟩ ?_
                        refine h (fun (out419 : List (Nat)) (limit421 : Nat) (turns422 : Int) => ∀ (s : Nat → TV) (H : Heap) (v420 : AV), Sep H (Pc.osl v420 1 (enc (eFlt .f32) out419) :: Pc.box id101 [v2] :: fr) → Fin _ _ (updL s [(0, (.v v0)), (1, (.v v1)), (3, (.v (.int .i64 a3))), (4, (.v (.flt .f32 limit421))), (5, (.v (.flt .f32 a5))), (6, (.v (.int .i64 turns422))), (9, (.v (.ptr id101 0))), (19, (.v v420))]) H _) ?_ _ _ _ hs
                        intro out419 limit421 turns422 h s550 H551 v420 hs
                        refine fi_inLoop ?_
                        refine fi_seq ?_
                        refine fi_seq ?_
                        refine fi_region ?_
                        refine so_move (v := (.v (.int .i64 turns422))) rfl ?_
                        refine so_bin rfl rfl ab_gtr ?_
                        refine so_nil ?_
                        replace h := ofP h; rcases h with ⟨c423, h⟩ | ⟨c423, h⟩
                        · refine fi_true rfl (decide_eq_true c423) ?_
                          refine fi_skip ?_
                          refine fi_seq ?_
                          refine fi_block ?_
                          refine fi_seq ?_
                          refine fi_region ?_
                          refine so_move (v := (.v v420)) rfl ?_
                          refine sv_lds hs 1 rfl rfl (leb rfl) rfl F22.ag46 F22.sz46 ?_
                          refine so_move (v := (.v (.int .i64 a3))) rfl ?_
                          refine sv_call (spec_SplitLevels_ok v420 out419 v2 l2 a3 hs (fun _ hs => (hs.shows 0 rfl)) (fun _ hs => (g2 _ hs.tl.tl)) _ h) rfl rfl nofun ?_
                          clear h hs
                          rintro _ H433 ⟨y424, y427, y432, h, v425, v428, ws430, S431, rfl, hs⟩
                          refine so_move (v := (.t [(.g [v425, v428]), (.v (.bool y432))])) rfl ?_
                          refine so_extract rfl rfl rfl ?_
                          refine so_extract rfl rfl rfl ?_
                          refine sv_alloc hs F22.ze91 rfl nofun (fun id434 H435 hs => ?_)
                          refine sv_st hs 0 rfl rfl rfl (c := [v425, v428]) rfl F22.sz91 rfl (stc (hs.shows 1 rfl).stor (stc (hs.dshows 2 rfl).stor stn)) (leb rfl) (cs' := [v425, v428]) rfl nofun (fun H437 hs => ?_)
                          refine so_assign (v := (.v (.bool y432))) rfl ?_
                          refine so_nil ?_
                          refine fi_seq ?_
                          refine fi_region ?_
                          refine sv_bslice hs (eFlt .f32) ([] : List (Nat)) [] F22.te24 F22.sz26 F22.ze26 rfl rfl rfl rfl (fun _ => rfl) rfl (by decide) nofun (fun v438 H439 nv438 hs => ?_)
                          refine so_assign (v := (.v v438)) rfl ?_
                          refine so_nil ?_
                          refine fi_seq ?_
                          refine fi_seq ?_
                          refine fi_region ?_
                          refine so_fieldAddr rfl F22.fd91_1 ?_
                          refine sv_ld hs 1 rfl rfl rfl F22.ag72 ?_
                          refine sd_len ((hs.dshows 3 rfl) : DSh _ _ 1 R_LeFlt_f32_o y427 ws430) (by decide) rfl F22.ti72 ?_
                          refine so_move (v := (.v (.int .i64 (0 : Int)))) rfl ?_
                          refine so_nil ?_
                          refine fi_block ?_
                          refine fi_loop ?_
                          replace hs := hs.del 4
                          refine fi_at [(0, (.v v0)), (1, (.v v1)), (3, (.v (.int .i64 a3))), (4, (.v (.flt .f32 limit421))), (5, (.v (.flt .f32 a5))), (6, (.v (.int .i64 turns422))), (9, (.v (.ptr id101 0))), (21, (.v (.ptr id434 0))), (22, (.v (.bool y432))), (23, (.v v438)), (126, (.v (.int .i64 (y427.length : Int)))), (127, (.v (.int .i64 (0 : Int))))] ⟨rfl, rfl, rfl, rfl, rfl, rfl, rfl, rfl, rfl, rfl, rfl, rfl, trivial⟩ ?_
                          refine h (fun (limits494 : List (Nat)) (x496 : Int) => ∀ (s : Nat → TV) (H : Heap) (v495 : AV) (nv495 : v495 ≠ .nilsl), Sep H (Pc.osl v495 1 (enc (eFlt .f32) limits494) :: Pc.box id434 [v425, v428] :: Pc.osl v425 1 (enc (eFlt .f32) y424) :: dpc v428 1 R_LeFlt_f32_o IR_LeFlt_f32_o y427 ws430 S431 :: Pc.box id101 [v2] :: fr) → Fin _ _ (updL s [(0, (.v v0)), (1, (.v v1)), (3, (.v (.int .i64 a3))), (4, (.v (.flt .f32 limit421))), (5, (.v (.flt .f32 a5))), (6, (.v (.int .i64 turns422))), (9, (.v (.ptr id101 0))), (21, (.v (.ptr id434 0))), (22, (.v (.bool y432))), (23, (.v v495)), (126, (.v (.int .i64 (y427.length : Int)))), (127, (.v (.int .i64 x496)))]) H _) ?_ _ _ _ nv438 hs
                          intro limits494 x496 h s545 H546 v495 nv495 hs
                          refine fi_inLoop ?_
                          refine fi_seq ?_
                          refine fi_region ?_
                          refine so_bin rfl rfl ab_lss ?_
                          refine so_nil ?_
                          refine fi_seq ?_
                          replace h := ofP h; rcases h with ⟨c497, h⟩ | ⟨c497, h⟩
                          · refine fi_true rfl (decide_eq_true c497) ?_
                            refine fi_skip ?_
                            refine fi_seq ?_
                            refine fi_block ?_
                            refine fi_region ?_
                            refine so_move (v := (.v v495)) rfl ?_
                            refine so_move (v := (.v (.flt .f32 limit421))) rfl ?_
                            refine sv_bslice hs (eFlt .f32) ([limit421] : List (Nat)) [[(.flt .f32 limit421)]] F22.te24 F22.sz26 F22.ze26 rfl rfl rfl rfl (fun _ => rfl) rfl (by decide) nofun (fun v498 H499 nv498 hs => ?_)
                            obtain ⟨c503, h⟩ := h
                            refine sv_app hs 1 rfl (hs.shows 0 rfl) (fun _ => rfl) (by decide) F22.ta24_24 (by decide) c503 rfl rfl nofun (fun v501 H502 kv501 hs => ?_)
                            replace hs := hs.del 0
                            have nv501 := kv501 nv495
                            refine so_assign (v := (.v v501)) rfl ?_
                            refine so_nil ?_
                            refine fi_inBlock ?_
                            refine fi_region ?_
                            refine so_bin rfl rfl ab_add ?_
                            refine so_move (v := (.v (.int .i64 (IntKind.i64.wrap (x496 + (1 : Int)))))) rfl ?_
                            refine so_nil ?_
                            exact fi_at [(0, (.v v0)), (1, (.v v1)), (3, (.v (.int .i64 a3))), (4, (.v (.flt .f32 limit421))), (5, (.v (.flt .f32 a5))), (6, (.v (.int .i64 turns422))), (9, (.v (.ptr id101 0))), (21, (.v (.ptr id434 0))), (22, (.v (.bool y432))), (23, (.v v501)), (126, (.v (.int .i64 (y427.length : Int)))), (127, (.v (.int .i64 (IntKind.i64.wrap (x496 + (1 : Int))))))] ⟨rfl, rfl, rfl, rfl, rfl, rfl, rfl, rfl, rfl, rfl, rfl, rfl, trivial⟩ (h _ _ _ nv501 hs)
                          · refine fi_false rfl (decide_eq_false c497) ?_
                            refine fi_exit rfl ?_
                            refine fi_seq ?_
                            refine fi_region ?_
                            refine sv_lds hs 1 rfl rfl (leb rfl) rfl F22.ag91 F22.sz91 ?_
                            refine so_move (v := (.v v495)) rfl ?_
                            refine sv_call (spec_ShrinkBands_ok v425 y424 v428 ws430 y427 v495 limits494 false hs (fun _ hs => (hs.shows 2 rfl)) (fun _ hs => (hs.dshows 3 rfl)) (fun _ hs => (hs.shows 0 rfl)) _ h) rfl rfl nofun ?_
                            clear h hs
                            rintro _ H513 ⟨y504, y507, y512, h, v505, v508, ws510, S511, rfl, hs⟩
                            refine so_move (v := (.t [(.g [v505, v508]), (.v (.bool y512))])) rfl ?_
                            refine so_extract rfl rfl rfl ?_
                            refine so_extract rfl rfl rfl ?_
                            refine sv_alloc hs F22.ze91 rfl nofun (fun id514 H515 hs => ?_)
                            refine sv_st hs 0 rfl rfl rfl (c := [v505, v508]) rfl F22.sz91 rfl (stc (hs.shows 1 rfl).stor (stc (hs.dshows 2 rfl).stor stn)) (leb rfl) (cs' := [v505, v508]) rfl nofun (fun H517 hs => ?_)
                            refine so_assign (v := (.v (.bool y512))) rfl ?_
                            refine so_nil ?_
                            refine fi_seq ?_
                            refine fi_seq ?_
                            refine fi_region ?_
                            refine so_move (v := (.v (.bool y432))) rfl ?_
                            refine so_un rfl au_not ?_
                            refine so_move (v := (.v (.bool (!y432)))) rfl ?_
                            replace h := ofT h; rcases h with ⟨c518, h⟩ | ⟨c518, h⟩
                            · refine so_gyes rfl (not_f c518) ?_
                              refine so_move (v := (.v (.bool y512))) rfl ?_
                              refine so_gyes rfl (not_f c518) ?_
                              refine so_un rfl au_not ?_
                              refine so_pick_f (v := (.v (.bool (!y512)))) rfl (not_f c518) rfl ?_
                              refine so_nil ?_
                              replace h := ofT h; rcases h with ⟨c519, h⟩ | ⟨c519, h⟩
                              · refine fi_false rfl (not_f c519) ?_
                                refine fi_skip ?_
                                refine fi_seq ?_
                                refine fi_region ?_
                                refine sv_lds hs 0 rfl rfl (leb rfl) rfl F22.ag91 F22.sz91 ?_
                                refine sv_lds hs 7 rfl rfl (leb rfl) rfl F22.ag46 F22.sz46 ?_
                                refine sv_call (spec_JoinLevels_ok v505 y504 v508 ws510 y507 v2 l2 hs (fun _ hs => (hs.shows 1 rfl)) (fun _ hs => (hs.dshows 2 rfl)) (fun _ hs => (g2 _ hs.tl.tl.tl.tl.tl.tl.tl.tl)) _ h) rfl rfl nofun ?_
                                clear h hs
                                rintro _ H524 ⟨y520, y523, h, v521, rfl, hs⟩
                                refine so_move (v := (.t [(.v v521), (.v (.bool y523))])) rfl ?_
                                refine so_extract rfl rfl rfl ?_
                                refine so_extract rfl rfl rfl ?_
                                refine so_assign (v := (.v v521)) rfl ?_
                                refine so_assign (v := (.v (.bool y523))) rfl ?_
                                refine so_nil ?_
                                refine fi_seq ?_
                                refine fi_seq ?_
                                refine fi_region ?_
                                refine so_move (v := (.v (.bool y523))) rfl ?_
                                refine so_un rfl au_not ?_
                                refine so_nil ?_
                                replace h := ofT h; rcases h with ⟨c525, h⟩ | ⟨c525, h⟩
                                · refine fi_false rfl (not_f c525) ?_
                                  refine fi_skip ?_
                                  refine fi_seq ?_
                                  refine fi_seq ?_
                                  refine fi_region ?_
                                  refine so_move (v := (.v v521)) rfl ?_
                                  refine sv_len (hs.shows 0 rfl) (fun _ => rfl) (by decide) rfl F22.ti24 ?_
                                  refine so_move (v := (.v (.int .i64 (0 : Int)))) rfl ?_
                                  refine so_nil ?_
                                  refine fi_block ?_
                                  refine fi_loop ?_
                                  replace hs := hs.del 1
                                  replace hs := hs.del 1
                                  replace hs := hs.del 1
                                  replace hs := hs.del 1
                                  replace hs := hs.del 1
                                  replace hs := hs.del 1
                                  replace hs := hs.del 1
                                  refine fi_at [(0, (.v v0)), (1, (.v v1)), (3, (.v (.int .i64 a3))), (4, (.v (.flt .f32 limit421))), (5, (.v (.flt .f32 a5))), (6, (.v (.int .i64 turns422))), (9, (.v (.ptr id101 0))), (26, (.v v521)), (155, (.v (.int .i64 (y520.length : Int)))), (156, (.v (.int .i64 (0 : Int))))] ⟨rfl, rfl, rfl, rfl, rfl, rfl, rfl, rfl, rfl, rfl, trivial⟩ ?_
                                  refine h (fun (next535 : List (Nat)) (x536 : Int) => ∀ (s : Nat → TV) (H : Heap), Sep H (Pc.osl v521 1 (enc (eFlt .f32) next535) :: Pc.box id101 [v2] :: fr) → Fin _ _ (updL s [(0, (.v v0)), (1, (.v v1)), (3, (.v (.int .i64 a3))), (4, (.v (.flt .f32 limit421))), (5, (.v (.flt .f32 a5))), (6, (.v (.int .i64 turns422))), (9, (.v (.ptr id101 0))), (26, (.v v521)), (155, (.v (.int .i64 (y520.length : Int)))), (156, (.v (.int .i64 x536)))]) H _) ?_ _ _ hs
                                  intro next535 x536 h s543 H544 hs
                                  refine fi_inLoop ?_
                                  refine fi_seq ?_
                                  refine fi_region ?_
                                  refine so_bin rfl rfl ab_lss ?_
                                  refine so_nil ?_
                                  refine fi_seq ?_
                                  replace h := ofP h; rcases h with ⟨c537, h⟩ | ⟨c537, h⟩
                                  · refine fi_true rfl (decide_eq_true c537) ?_
                                    refine fi_skip ?_
                                    refine fi_seq ?_
                                    refine fi_block ?_
                                    refine fi_seq ?_
                                    refine fi_region ?_
                                    refine so_move (v := (.v (.int .i64 x536))) rfl ?_
                                    refine so_assign (v := (.v (.int .i64 x536))) rfl ?_
                                    refine so_nil ?_
                                    refine fi_seq ?_
                                    refine fi_region ?_
                                    refine so_move (v := (.v v1)) rfl ?_
                                    refine so_move (v := (.v (.int .i64 x536))) rfl ?_
                                    obtain ⟨c538, h⟩ := h
                                    refine sv_idx (g1 _ hs.tl.tl) c538 (fun _ => rfl) (by decide) rfl rfl F22.tl49 ?_
                                    refine sv_cell (g1 _ hs.tl.tl) c538 false 0 (fun x => (AV.bool x)) (fun _ => rfl) (fun _ => rfl) rfl F22.ag4 ?_
                                    refine so_nil ?_
                                    replace h := ofT h; rcases h with ⟨c539, h⟩ | ⟨c539, h⟩
                                    · refine fi_true rfl c539 ?_
                                      refine fi_region ?_
                                      refine so_move (v := (.v v521)) rfl ?_
                                      refine so_move (v := (.v (.int .i64 x536))) rfl ?_
                                      refine so_move (v := (.v v0)) rfl ?_
                                      refine so_move (v := (.v (.int .i64 x536))) rfl ?_
                                      obtain ⟨c540, h⟩ := h
                                      refine sv_idx (g0 _ hs.tl.tl) c540 (fun _ => rfl) (by decide) rfl rfl F22.tl24 ?_
                                      refine sv_cell (g0 _ hs.tl.tl) c540 (0 : Nat) 0 (fun x => (AV.flt .f32 x)) (fun _ => rfl) (fun _ => rfl) rfl F22.ag26 ?_
                                      obtain ⟨c541, h⟩ := h
                                      refine sv_idx (hs.shows 0 rfl) c541 (fun _ => rfl) (by decide) rfl rfl F22.tl24 ?_
                                      refine sv_set hs 0 rfl c541 (l0.getD (x536).toNat (0 : Nat)) (fun _ => rfl) (by decide) rfl rfl rfl rfl F22.sz26 nofun (fun H542 hs => ?_)
                                      refine so_nil ?_
                                      refine fi_inBlock ?_
                                      refine fi_region ?_
                                      refine so_bin rfl rfl ab_add ?_
                                      refine so_move (v := (.v (.int .i64 (IntKind.i64.wrap (x536 + (1 : Int)))))) rfl ?_
                                      refine so_nil ?_
                                      exact fi_at [(0, (.v v0)), (1, (.v v1)), (3, (.v (.int .i64 a3))), (4, (.v (.flt .f32 limit421))), (5, (.v (.flt .f32 a5))), (6, (.v (.int .i64 turns422))), (9, (.v (.ptr id101 0))), (26, (.v v521)), (155, (.v (.int .i64 (y520.length : Int)))), (156, (.v (.int .i64 (IntKind.i64.wrap (x536 + (1 : Int))))))] ⟨rfl, rfl, rfl, rfl, rfl, rfl, rfl, rfl, rfl, rfl, trivial⟩ (h _ _  hs)
                                    · refine fi_false rfl c539 ?_
                                      refine fi_skip ?_
                                      refine fi_inBlock ?_
                                      refine fi_region ?_
                                      refine so_bin rfl rfl ab_add ?_
                                      refine so_move (v := (.v (.int .i64 (IntKind.i64.wrap (x536 + (1 : Int)))))) rfl ?_
                                      refine so_nil ?_
                                      exact fi_at [(0, (.v v0)), (1, (.v v1)), (3, (.v (.int .i64 a3))), (4, (.v (.flt .f32 limit421))), (5, (.v (.flt .f32 a5))), (6, (.v (.int .i64 turns422))), (9, (.v (.ptr id101 0))), (26, (.v v521)), (155, (.v (.int .i64 (y520.length : Int)))), (156, (.v (.int .i64 (IntKind.i64.wrap (x536 + (1 : Int))))))] ⟨rfl, rfl, rfl, rfl, rfl, rfl, rfl, rfl, rfl, rfl, trivial⟩ (h _ _  hs)
                                  · refine fi_false rfl (decide_eq_false c537) ?_
                                    refine fi_exit rfl ?_
                                    refine fi_seq ?_
                                    refine fi_region ?_
                                    refine so_move (v := (.v v521)) rfl ?_
                                    refine so_assign (v := (.v v521)) rfl ?_
                                    refine so_nil ?_
                                    refine fi_region ?_
                                    refine so_move (v := (.v (.flt .f32 limit421))) rfl ?_
                                    refine so_move (v := (.v (.flt .f32 a5))) rfl ?_
                                    refine so_bin rfl rfl ab_fmul ?_
                                    refine so_assign (v := (.v (.flt .f32 (fop .mul .f32 limit421 a5)))) rfl ?_
                                    refine so_nil ?_
                                    refine fi_inBlock ?_
                                    refine fi_region ?_
                                    refine so_move (v := (.v (.int .i64 turns422))) rfl ?_
                                    refine so_bin rfl rfl ab_sub ?_
                                    refine so_assign (v := (.v (.int .i64 (IntKind.i64.wrap (turns422 - (1 : Int)))))) rfl ?_
                                    refine so_nil ?_
                                    exact fi_at [(0, (.v v0)), (1, (.v v1)), (3, (.v (.int .i64 a3))), (4, (.v (.flt .f32 (fop .mul .f32 limit421 a5)))), (5, (.v (.flt .f32 a5))), (6, (.v (.int .i64 (IntKind.i64.wrap (turns422 - (1 : Int)))))), (9, (.v (.ptr id101 0))), (19, (.v v521))] ⟨rfl, rfl, rfl, rfl, rfl, rfl, rfl, rfl, trivial⟩ (h _ _ _ hs)
                                · refine fi_true rfl (not_t c525) ?_
                                  refine fi_seq ?_
                                  refine fi_region ?_
                                  refine so_assign (v := (.v .nilsl)) rfl ?_
                                  refine so_assign (v := (.v (.bool false))) rfl ?_
                                  refine so_nil ?_
                                  exact by_ret rfl ⟨_, _, h, _, rfl, (Sep.nil (Sep.dropn 9 hs) 1)⟩
                              · refine fi_true rfl (not_t c519) ?_
                                refine fi_seq ?_
                                refine fi_region ?_
                                refine so_assign (v := (.v .nilsl)) rfl ?_
                                refine so_assign (v := (.v (.bool false))) rfl ?_
                                refine so_nil ?_
                                exact by_ret rfl ⟨_, _, h, _, rfl, (Sep.nil (Sep.dropn 8 hs) 1)⟩
                            · refine so_gno rfl (not_t c518) ?_
                              refine so_gno rfl (not_t c518) ?_
                              refine so_pick_t (v := (.v (.bool true))) rfl (not_t c518) rfl ?_
                              refine so_nil ?_
                              refine fi_true rfl rfl ?_
                              refine fi_seq ?_
                              refine fi_region ?_
                              refine so_assign (v := (.v .nilsl)) rfl ?_
                              refine so_assign (v := (.v (.bool false))) rfl ?_
                              refine so_nil ?_
                              exact by_ret rfl ⟨_, _, h, _, rfl, (Sep.nil (Sep.dropn 8 hs) 1)⟩
                        · refine fi_false rfl (decide_eq_false c423) ?_
                          refine fi_exit rfl ?_
                          refine fi_seq ?_
                          refine fi_seq ?_
                          refine fi_region ?_
                          refine so_move (v := (.v v420)) rfl ?_
                          refine sv_callS (spec_l02Finite_ok v420 out419 hs (fun _ hs => (hs.shows 0 rfl)) _ h) (fun _ _ ⟨_, _, _, e⟩ => e) rfl rfl ?_
                          clear h
                          rintro _ _ ⟨y547, h, rfl, rfl⟩
                          refine so_un rfl au_not ?_
                          refine so_nil ?_
                          replace h := ofT h; rcases h with ⟨c549, h⟩ | ⟨c549, h⟩
                          · refine fi_false rfl (not_f c549) ?_
                            refine fi_skip ?_
                            refine fi_seq ?_
                            refine fi_region ?_
                            refine so_move (v := (.v v420)) rfl ?_
                            refine so_assign (v := (.v v420)) rfl ?_
                            refine so_assign (v := (.v (.bool true))) rfl ?_
                            refine so_nil ?_
                            exact by_ret rfl ⟨_, _, h, _, rfl, (Sep.del 1 hs)⟩
                          · refine fi_true rfl (not_t c549) ?_
                            refine fi_seq ?_
                            refine fi_region ?_
                            refine so_assign (v := (.v .nilsl)) rfl ?_
                            refine so_assign (v := (.v (.bool false))) rfl ?_
                            refine so_nil ?_
                            exact by_ret rfl ⟨_, _, h, _, rfl, (Sep.nil (Sep.del 0 (Sep.del 0 hs)) 1)⟩
                · refine fi_true rfl (not_t c125) ?_
                  refine fi_seq ?_
                  refine fi_region ?_
                  refine so_assign (v := (.v .nilsl)) rfl ?_
                  refine so_assign (v := (.v (.bool false))) rfl ?_
                  refine so_nil ?_
                  exact by_ret rfl ⟨_, _, h, _, rfl, (Sep.nil (Sep.del 0 hs) 1)⟩
              · refine so_gno rfl (not_t c122) ?_
                refine so_gno rfl (not_t c122) ?_
                refine so_gno rfl (not_t c122) ?_
                refine so_pick_t (v := (.v (.bool true))) rfl (not_t c122) rfl ?_
                refine so_nil ?_
                refine fi_true rfl rfl ?_
                refine fi_seq ?_
                refine fi_region ?_
                refine so_assign (v := (.v .nilsl)) rfl ?_
                refine so_assign (v := (.v (.bool false))) rfl ?_
                refine so_nil ?_
                exact by_ret rfl ⟨_, _, h, _, rfl, (Sep.nil (Sep.del 0 hs) 1)⟩
            · refine so_gno rfl (not_t c119) ?_
              refine so_gno rfl (not_t c119) ?_
              refine so_gno rfl (not_t c119) ?_
              refine so_pick_t (v := (.v (.bool true))) rfl (not_t c119) rfl ?_
              refine so_move (v := (.v (.bool true))) rfl ?_
              refine so_gno rfl rfl ?_
              refine so_gno rfl rfl ?_
              refine so_gno rfl rfl ?_
              refine so_pick_t (v := (.v (.bool true))) rfl rfl rfl ?_
              refine so_nil ?_
              refine fi_true rfl rfl ?_
              refine fi_seq ?_
              refine fi_region ?_
              refine so_assign (v := (.v .nilsl)) rfl ?_
              refine so_assign (v := (.v (.bool false))) rfl ?_
              refine so_nil ?_
              exact by_ret rfl ⟨_, _, h, _, rfl, (Sep.nil (Sep.del 0 hs) 1)⟩
          · refine so_gno rfl (not_t (decide_eq_false c116)) ?_
            refine so_gno rfl (not_t (decide_eq_false c116)) ?_
            refine so_gno rfl (not_t (decide_eq_false c116)) ?_
            refine so_pick_t (v := (.v (.bool true))) rfl (not_t (decide_eq_false c116)) rfl ?_
            refine so_move (v := (.v (.bool true))) rfl ?_
            refine so_gno rfl rfl ?_
            refine so_gno rfl rfl ?_
            refine so_gno rfl rfl ?_
            refine so_pick_t (v := (.v (.bool true))) rfl rfl rfl ?_
            refine so_move (v := (.v (.bool true))) rfl ?_
            refine so_gno rfl rfl ?_
            refine so_gno rfl rfl ?_
            refine so_gno rfl rfl ?_
            refine so_pick_t (v := (.v (.bool true))) rfl rfl rfl ?_
            refine so_nil ?_
            refine fi_true rfl rfl ?_
            refine fi_seq ?_
            refine fi_region ?_
            refine so_assign (v := (.v .nilsl)) rfl ?_
            refine so_assign (v := (.v (.bool false))) rfl ?_
            refine so_nil ?_
            exact by_ret rfl ⟨_, _, h, _, rfl, (Sep.nil (Sep.del 0 hs) 1)⟩
        · refine so_gno rfl (not_t c113) ?_
          refine so_gno rfl (not_t c113) ?_
          refine so_gno rfl (not_t c113) ?_
          refine so_gno rfl (not_t c113) ?_
          refine so_gno rfl (not_t c113) ?_
          refine so_gno rfl (not_t c113) ?_
          refine so_pick_t (v := (.v (.bool true))) rfl (not_t c113) rfl ?_
          refine so_move (v := (.v (.bool true))) rfl ?_
          refine so_gno rfl rfl ?_
          refine so_gno rfl rfl ?_
          refine so_gno rfl rfl ?_
          refine so_pick_t (v := (.v (.bool true))) rfl rfl rfl ?_
          refine so_move (v := (.v (.bool true))) rfl ?_
          refine so_gno rfl rfl ?_
          refine so_gno rfl rfl ?_
          refine so_gno rfl rfl ?_
          refine so_pick_t (v := (.v (.bool true))) rfl rfl rfl ?_
          refine so_move (v := (.v (.bool true))) rfl ?_
          refine so_gno rfl rfl ?_
          refine so_gno rfl rfl ?_
          refine so_gno rfl rfl ?_
          refine so_pick_t (v := (.v (.bool true))) rfl rfl rfl ?_
          refine so_nil ?_
          refine fi_true rfl rfl ?_
          refine fi_seq ?_
          refine fi_region ?_
          refine so_assign (v := (.v .nilsl)) rfl ?_
          refine so_assign (v := (.v (.bool false))) rfl ?_
          refine so_nil ?_
          exact by_ret rfl ⟨_, _, h, _, rfl, (Sep.nil (Sep.del 0 hs) 1)⟩
      · refine so_gno rfl (not_t c110) ?_
        refine so_gno rfl (not_t c110) ?_
        refine so_gno rfl (not_t c110) ?_
        refine so_pick_t (v := (.v (.bool true))) rfl (not_t c110) rfl ?_
        refine so_move (v := (.v (.bool true))) rfl ?_
        refine so_gno rfl rfl ?_
        refine so_gno rfl rfl ?_
        refine so_gno rfl rfl ?_
        refine so_gno rfl rfl ?_
        refine so_gno rfl rfl ?_
        refine so_gno rfl rfl ?_
        refine so_pick_t (v := (.v (.bool true))) rfl rfl rfl ?_
        refine so_move (v := (.v (.bool true))) rfl ?_
        refine so_gno rfl rfl ?_
        refine so_gno rfl rfl ?_
        refine so_gno rfl rfl ?_
        refine so_pick_t (v := (.v (.bool true))) rfl rfl rfl ?_
        refine so_move (v := (.v (.bool true))) rfl ?_
        refine so_gno rfl rfl ?_
        refine so_gno rfl rfl ?_
        refine so_gno rfl rfl ?_
        refine so_pick_t (v := (.v (.bool true))) rfl rfl rfl ?_
        refine so_move (v := (.v (.bool true))) rfl ?_
        refine so_gno rfl rfl ?_
        refine so_gno rfl rfl ?_
        refine so_gno rfl rfl ?_
        refine so_pick_t (v := (.v (.bool true))) rfl rfl rfl ?_
        refine so_nil ?_
        refine fi_true rfl rfl ?_
        refine fi_seq ?_
        refine fi_region ?_
        refine so_assign (v := (.v .nilsl)) rfl ?_
        refine so_assign (v := (.v (.bool false))) rfl ?_
        refine so_nil ?_
        exact by_ret rfl ⟨_, _, h, _, rfl, (Sep.nil (Sep.del 0 hs) 1)⟩
    · refine so_gno rfl (not_t (decide_eq_false c107)) ?_
      refine so_gno rfl (not_t (decide_eq_false c107)) ?_
      refine so_pick_t (v := (.v (.bool true))) rfl (not_t (decide_eq_false c107)) rfl ?_
      refine so_move (v := (.v (.bool true))) rfl ?_
      refine so_gno rfl rfl ?_
      refine so_gno rfl rfl ?_
      refine so_gno rfl rfl ?_
      refine so_pick_t (v := (.v (.bool true))) rfl rfl rfl ?_
      refine so_move (v := (.v (.bool true))) rfl ?_
      refine so_gno rfl rfl ?_
      refine so_gno rfl rfl ?_
      refine so_gno rfl rfl ?_
      refine so_gno rfl rfl ?_
      refine so_gno rfl rfl ?_
      refine so_gno rfl rfl ?_
      refine so_pick_t (v := (.v (.bool true))) rfl rfl rfl ?_
      refine so_move (v := (.v (.bool true))) rfl ?_
      refine so_gno rfl rfl ?_
      refine so_gno rfl rfl ?_
      refine so_gno rfl rfl ?_
      refine so_pick_t (v := (.v (.bool true))) rfl rfl rfl ?_
      refine so_move (v := (.v (.bool true))) rfl ?_
      refine so_gno rfl rfl ?_
      refine so_gno rfl rfl ?_
      refine so_gno rfl rfl ?_
      refine so_pick_t (v := (.v (.bool true))) rfl rfl rfl ?_
      refine so_move (v := (.v (.bool true))) rfl ?_
      refine so_gno rfl rfl ?_
      refine so_gno rfl rfl ?_
      refine so_gno rfl rfl ?_
      refine so_pick_t (v := (.v (.bool true))) rfl rfl rfl ?_
      refine so_nil ?_
      refine fi_true rfl rfl ?_
      refine fi_seq ?_
      refine fi_region ?_
      refine so_assign (v := (.v .nilsl)) rfl ?_
      refine so_assign (v := (.v (.bool false))) rfl ?_
      refine so_nil ?_
      exact by_ret rfl ⟨_, _, h, _, rfl, (Sep.nil (Sep.del 0 hs) 1)⟩
  · refine so_gno rfl (not_t c106) ?_
    refine so_gno rfl (not_t c106) ?_
    refine so_gno rfl (not_t c106) ?_
    refine so_gno rfl (not_t c106) ?_
    refine so_gno rfl (not_t c106) ?_
    refine so_pick_t (v := (.v (.bool true))) rfl (not_t c106) rfl ?_
    refine so_move (v := (.v (.bool true))) rfl ?_
    refine so_gno rfl rfl ?_
    refine so_gno rfl rfl ?_
    refine so_pick_t (v := (.v (.bool true))) rfl rfl rfl ?_
    refine so_move (v := (.v (.bool true))) rfl ?_
    refine so_gno rfl rfl ?_
    refine so_gno rfl rfl ?_
    refine so_gno rfl rfl ?_
    refine so_pick_t (v := (.v (.bool true))) rfl rfl rfl ?_
    refine so_move (v := (.v (.bool true))) rfl ?_
    refine so_gno rfl rfl ?_
    refine so_gno rfl rfl ?_
    refine so_gno rfl rfl ?_
    refine so_gno rfl rfl ?_
    refine so_gno rfl rfl ?_
    refine so_gno rfl rfl ?_
    refine so_pick_t (v := (.v (.bool true))) rfl rfl rfl ?_
    refine so_move (v := (.v (.bool true))) rfl ?_
    refine so_gno rfl rfl ?_
    refine so_gno rfl rfl ?_
    refine so_gno rfl rfl ?_
    refine so_pick_t (v := (.v (.bool true))) rfl rfl rfl ?_
    refine so_move (v := (.v (.bool true))) rfl ?_
    refine so_gno rfl rfl ?_
    refine so_gno rfl rfl ?_
    refine so_gno rfl rfl ?_
    refine so_pick_t (v := (.v (.bool true))) rfl rfl rfl ?_
    refine so_move (v := (.v (.bool true))) rfl ?_
    refine so_gno rfl rfl ?_
    refine so_gno rfl rfl ?_
    refine so_gno rfl rfl ?_
    refine so_pick_t (v := (.v (.bool true))) rfl rfl rfl ?_
    refine so_nil ?_
    refine fi_true rfl rfl ?_
    refine fi_seq ?_
    refine fi_region ?_
    refine so_assign (v := (.v .nilsl)) rfl ?_
    refine so_assign (v := (.v (.bool false))) rfl ?_
    refine so_nil ?_
    exact by_ret rfl ⟨_, _, h, _, rfl, (Sep.nil (Sep.del 0 hs) 1)⟩
theorem F144.xb144 : Try.f144.body = none := rfl
theorem F144.xe144 : Extern.find Try.f144 = some Extern.MathFloatBits.float32bits := by rfl
theorem F144.xf144 : (Extern.findNext Try.f144).isNone = true := by kernel_rfl
theorem F144.xn144 : (Try.f144.name == "runtime.NumGoroutine") = false := by kernel_rfl
theorem math_Float32bits_ok {fr : List Pc} {H : Heap} (x : Nat) (hs : Sep H fr) (K : Int → Prop) (h : math_Float32bits.wp x K) : OkQ Try.prog 144 [(.v (.flt .f32 x))] H (fun r H2 => ∃ y0 : Int, K y0 ∧ r = (.v (.int .u32 y0)) ∧ H = H2) := ⟨_, _, f32bits_ok Try.func144 F144.xn144 F144.xb144 F144.xf144 F144.xe144 x h.1, _, h.2, rfl, rfl⟩
theorem F113.it2 : tint Try.prog 2 = some .i64 := by kernel_rfl
theorem F113.us150 : (Try.prog.underlying 150).isSome = true := by kernel_rfl
theorem spec_l01Bits_ok {fr : List Pc} {H : Heap} (a0 : Nat) (hs : Sep H (fr))  (K : Int → Prop) (h : spec_l01Bits.wp a0 K) : OkQ Try.prog 113 [(.v (.flt .f32 a0))] H (fun r H2 => ∃ (y0 : Int), K y0 ∧ r = (.v (.int .i64 y0)) ∧ H = H2) := by
  unfold spec_l01Bits.wp at h
  refine of_body Try.f113 F.hm Try.func113 rfl Try.call113 (by kernel_rfl) (by simp) ?_
  refine fi_seq ?_
  refine fi_region ?_
  refine so_assign (v := (.v (.int .i64 (0 : Int)))) rfl ?_
  refine so_nil ?_
  refine fi_seq ?_
  refine fi_seq ?_
  refine fi_region ?_
  refine so_move (v := (.v (.flt .f32 a0))) rfl ?_
  refine so_move (v := (.v (.flt .f32 a0))) rfl ?_
  refine so_bin rfl rfl ab_fneq ?_
  refine so_nil ?_
  replace h := ofT h; rcases h with ⟨c101, h⟩ | ⟨c101, h⟩
  · refine fi_true rfl c101 ?_
    refine fi_seq ?_
    refine fi_region ?_
    refine so_assign (v := (.v (.int .i64 (2143289344 : Int)))) rfl ?_
    refine so_nil ?_
    exact by_ret rfl ⟨_, h, rfl, rfl⟩
  · refine fi_false rfl c101 ?_
    refine fi_skip ?_
    refine fi_seq ?_
    refine fi_region ?_
    refine so_move (v := (.v (.flt .f32 a0))) rfl ?_
    refine sv_callS (math_Float32bits_ok a0 hs  _ h) (fun _ _ ⟨_, _, _, e⟩ => e) rfl rfl ?_
    clear h
    rintro _ _ ⟨y102, h, rfl, rfl⟩
    refine sv_ii rfl F113.us150 F113.it2 ?_
    refine so_assign (v := (.v (.int .i64 (IntKind.i64.wrap y102)))) rfl ?_
    refine so_nil ?_
    exact by_ret rfl ⟨_, h, rfl, rfl⟩
theorem spec_l01Same_ok {fr : List Pc} {H : Heap} (a0 : Nat) (a1 : Nat) (hs : Sep H (fr))  (K : Bool → Prop) (h : spec_l01Same.wp a0 a1 K) : OkQ Try.prog 72 [(.v (.flt .f32 a0)), (.v (.flt .f32 a1))] H (fun r H2 => ∃ (y0 : Bool), K y0 ∧ r = (.v (.bool y0)) ∧ H = H2) := by
  unfold spec_l01Same.wp at h
  refine of_body Try.f72 F.hm Try.func72 rfl Try.call72 (by kernel_rfl) (by simp) ?_
  refine fi_seq ?_
  refine fi_region ?_
  refine so_assign (v := (.v (.bool false))) rfl ?_
  refine so_nil ?_
  refine fi_seq ?_
  refine fi_region ?_
  refine so_move (v := (.v (.flt .f32 a0))) rfl ?_
  refine sv_callS (spec_l01Bits_ok a0 hs  _ h) (fun _ _ ⟨_, _, _, e⟩ => e) rfl rfl ?_
  clear h
  rintro _ _ ⟨y101, h, rfl, rfl⟩
  refine so_move (v := (.v (.flt .f32 a1))) rfl ?_
  refine sv_callS (spec_l01Bits_ok a1 hs  _ h) (fun _ _ ⟨_, _, _, e⟩ => e) rfl rfl ?_
  clear h
  rintro _ _ ⟨y103, h, rfl, rfl⟩
  refine so_bin rfl rfl ab_eql ?_
  refine so_assign (v := (.v (.bool (decide (y101 = y103))))) rfl ?_
  refine so_nil ?_
  exact by_ret rfl ⟨_, h, rfl, rfl⟩
theorem spec_SameNumber_ok {fr : List Pc} {H : Heap} (a0 : Nat) (a1 : Nat) (hs : Sep H (fr))  (K : Bool → Prop) (h : spec_SameNumber.wp a0 a1 K) : OkQ Try.prog 25 [(.v (.flt .f32 a0)), (.v (.flt .f32 a1))] H (fun r H2 => ∃ (y0 : Bool), K y0 ∧ r = (.v (.bool y0)) ∧ H = H2) := by
  unfold spec_SameNumber.wp at h
  refine of_body Try.f25 F.hm Try.func25 rfl Try.call25 (by kernel_rfl) (by simp) ?_
  refine fi_seq ?_
  refine fi_region ?_
  refine so_assign (v := (.v (.bool false))) rfl ?_
  refine so_nil ?_
  refine fi_seq ?_
  refine fi_region ?_
  refine so_move (v := (.v (.flt .f32 a0))) rfl ?_
  refine so_move (v := (.v (.flt .f32 a1))) rfl ?_
  refine sv_callS (spec_l01Same_ok a0 a1 hs  _ h) (fun _ _ ⟨_, _, _, e⟩ => e) rfl rfl ?_
  clear h
  rintro _ _ ⟨y101, h, rfl, rfl⟩
  refine so_assign (v := (.v (.bool y101))) rfl ?_
  refine so_nil ?_
  exact by_ret rfl ⟨_, h, rfl, rfl⟩
theorem F23.ag26 : tagg Try.prog 26 = some false := by kernel_rfl
theorem F23.ti24 : (telem Try.prog 24).isSome = true := by kernel_rfl
theorem F23.tl24 : (telem Try.prog 24).bind (tsz Try.prog) = some 1 := by kernel_rfl
theorem laws_b10List_ok {fr : List Pc} {H : Heap} (v0 : AV) (l0 : List (Nat)) (v1 : AV) (l1 : List (Nat)) (hs : Sep H (fr)) (g0 : ∀ H, Sep H fr → Shows H v0 1 (enc (eFlt .f32) l0)) (g1 : ∀ H, Sep H fr → Shows H v1 1 (enc (eFlt .f32) l1)) (K : Bool → Prop) (h : laws_b10List.wp l0 l1 K) : OkQ Try.prog 23 [(.v v0), (.v v1)] H (fun r H2 => ∃ (y0 : Bool), K y0 ∧ r = (.v (.bool y0)) ∧ H = H2) := by
  unfold laws_b10List.wp at h
  refine of_body Try.f23 F.hm Try.func23 rfl Try.call23 (by kernel_rfl) (by simp) ?_
  refine fi_seq ?_
  refine fi_region ?_
  refine so_assign (v := (.v (.bool false))) rfl ?_
  refine so_nil ?_
  refine fi_seq ?_
  refine fi_seq ?_
  refine fi_region ?_
  refine so_move (v := (.v v0)) rfl ?_
  refine sv_len (g0 _ hs) (fun _ => rfl) (by decide) rfl F23.ti24 ?_
  refine so_move (v := (.v v1)) rfl ?_
  refine sv_len (g1 _ hs) (fun _ => rfl) (by decide) rfl F23.ti24 ?_
  refine so_bin rfl rfl ab_neq ?_
  refine so_nil ?_
  replace h := ofP h; rcases h with ⟨c101, h⟩ | ⟨c101, h⟩
  · refine fi_false rfl (not_f (decide_eq_true c101)) ?_
    refine fi_skip ?_
    refine fi_seq ?_
    refine fi_seq ?_
    refine fi_region ?_
    refine so_move (v := (.v v0)) rfl ?_
    refine sv_len (g0 _ hs) (fun _ => rfl) (by decide) rfl F23.ti24 ?_
    refine so_move (v := (.v (.int .i64 (0 : Int)))) rfl ?_
    refine so_nil ?_
    refine fi_block ?_
    refine fi_loop ?_
    refine fi_at [(0, (.v v0)), (1, (.v v1)), (12, (.v (.int .i64 (l0.length : Int)))), (13, (.v (.int .i64 (0 : Int))))] ⟨rfl, rfl, rfl, rfl, trivial⟩ ?_
    refine h (fun (x103 : Int) => ∀ (s : Nat → TV), Fin _ _ (updL s [(0, (.v v0)), (1, (.v v1)), (12, (.v (.int .i64 (l0.length : Int)))), (13, (.v (.int .i64 x103)))]) _ _) ?_ _
    intro x103 h s110
    refine fi_inLoop ?_
    refine fi_seq ?_
    refine fi_region ?_
    refine so_bin rfl rfl ab_lss ?_
    refine so_nil ?_
    refine fi_seq ?_
    replace h := ofP h; rcases h with ⟨c104, h⟩ | ⟨c104, h⟩
    · refine fi_true rfl (decide_eq_true c104) ?_
      refine fi_skip ?_
      refine fi_seq ?_
      refine fi_block ?_
      refine fi_seq ?_
      refine fi_region ?_
      refine so_move (v := (.v (.int .i64 x103))) rfl ?_
      refine so_assign (v := (.v (.int .i64 x103))) rfl ?_
      refine so_nil ?_
      refine fi_seq ?_
      refine fi_region ?_
      refine so_move (v := (.v v0)) rfl ?_
      refine so_move (v := (.v (.int .i64 x103))) rfl ?_
      obtain ⟨c105, h⟩ := h
      refine sv_idx (g0 _ hs) c105 (fun _ => rfl) (by decide) rfl rfl F23.tl24 ?_
      refine sv_cell (g0 _ hs) c105 (0 : Nat) 0 (fun x => (AV.flt .f32 x)) (fun _ => rfl) (fun _ => rfl) rfl F23.ag26 ?_
      refine so_move (v := (.v v1)) rfl ?_
      refine so_move (v := (.v (.int .i64 x103))) rfl ?_
      obtain ⟨c106, h⟩ := h
      refine sv_idx (g1 _ hs) c106 (fun _ => rfl) (by decide) rfl rfl F23.tl24 ?_
      refine sv_cell (g1 _ hs) c106 (0 : Nat) 0 (fun x => (AV.flt .f32 x)) (fun _ => rfl) (fun _ => rfl) rfl F23.ag26 ?_
      refine sv_callS (spec_SameNumber_ok (l0.getD (x103).toNat (0 : Nat)) (l1.getD (x103).toNat (0 : Nat)) hs  _ h) (fun _ _ ⟨_, _, _, e⟩ => e) rfl rfl ?_
      clear h
      rintro _ _ ⟨y107, h, rfl, rfl⟩
      refine so_un rfl au_not ?_
      refine so_nil ?_
      replace h := ofT h; rcases h with ⟨c109, h⟩ | ⟨c109, h⟩
      · refine fi_false rfl (not_f c109) ?_
        refine fi_skip ?_
        refine fi_inBlock ?_
        refine fi_region ?_
        refine so_bin rfl rfl ab_add ?_
        refine so_move (v := (.v (.int .i64 (IntKind.i64.wrap (x103 + (1 : Int)))))) rfl ?_
        refine so_nil ?_
        exact fi_at [(0, (.v v0)), (1, (.v v1)), (12, (.v (.int .i64 (l0.length : Int)))), (13, (.v (.int .i64 (IntKind.i64.wrap (x103 + (1 : Int))))))] ⟨rfl, rfl, rfl, rfl, trivial⟩ (h _)
      · refine fi_true rfl (not_t c109) ?_
        refine fi_seq ?_
        refine fi_region ?_
        refine so_assign (v := (.v (.bool false))) rfl ?_
        refine so_nil ?_
        exact by_ret rfl ⟨_, h, rfl, rfl⟩
    · refine fi_false rfl (decide_eq_false c104) ?_
      refine fi_exit rfl ?_
      refine fi_seq ?_
      refine fi_region ?_
      refine so_assign (v := (.v (.bool true))) rfl ?_
      refine so_nil ?_
      exact by_ret rfl ⟨_, h, rfl, rfl⟩
  · refine fi_true rfl (not_t (decide_eq_false c101)) ?_
    refine fi_seq ?_
    refine fi_region ?_
    refine so_assign (v := (.v (.bool false))) rfl ?_
    refine so_nil ?_
    exact by_ret rfl ⟨_, h, rfl, rfl⟩
theorem laws_b10Gap_ok {fr : List Pc} {H : Heap} (a0 : Nat) (a1 : Nat) (hs : Sep H (fr))  (K : Nat → Prop) (h : laws_b10Gap.wp a0 a1 K) : OkQ Try.prog 71 [(.v (.flt .f64 a0)), (.v (.flt .f64 a1))] H (fun r H2 => ∃ (y0 : Nat), K y0 ∧ r = (.v (.flt .f64 y0)) ∧ H = H2) := by
  unfold laws_b10Gap.wp at h
  refine of_body Try.f71 F.hm Try.func71 rfl Try.call71 (by kernel_rfl) (by simp) ?_
  refine fi_seq ?_
  refine fi_region ?_
  refine so_assign (v := (.v (.flt .f64 (cz .f64 0)))) rfl ?_
  refine so_nil ?_
  refine fi_seq ?_
  refine fi_seq ?_
  refine fi_region ?_
  refine so_move (v := (.v (.flt .f64 a0))) rfl ?_
  refine so_move (v := (.v (.flt .f64 a1))) rfl ?_
  refine so_bin rfl rfl ab_flss ?_
  refine so_nil ?_
  replace h := ofT h; rcases h with ⟨c101, h⟩ | ⟨c101, h⟩
  · refine fi_true rfl c101 ?_
    refine fi_seq ?_
    refine fi_region ?_
    refine so_move (v := (.v (.flt .f64 a1))) rfl ?_
    refine so_move (v := (.v (.flt .f64 a0))) rfl ?_
    refine so_bin rfl rfl ab_fsub ?_
    refine so_assign (v := (.v (.flt .f64 (fop .sub .f64 a1 a0)))) rfl ?_
    refine so_nil ?_
    exact by_ret rfl ⟨_, h, rfl, rfl⟩
  · refine fi_false rfl c101 ?_
    refine fi_skip ?_
    refine fi_seq ?_
    refine fi_region ?_
    refine so_move (v := (.v (.flt .f64 a0))) rfl ?_
    refine so_move (v := (.v (.flt .f64 a1))) rfl ?_
    refine so_bin rfl rfl ab_fsub ?_
    refine so_assign (v := (.v (.flt .f64 (fop .sub .f64 a0 a1)))) rfl ?_
    refine so_nil ?_
    exact by_ret rfl ⟨_, h, rfl, rfl⟩
theorem F24.ag26 : tagg Try.prog 26 = some false := by kernel_rfl
theorem F24.fl33 : tflt Try.prog 33 = some .f64 := by kernel_rfl
theorem F24.in33 : tint Try.prog 33 = none := by kernel_rfl
theorem F24.ti24 : (telem Try.prog 24).isSome = true := by kernel_rfl
theorem F24.tl24 : (telem Try.prog 24).bind (tsz Try.prog) = some 1 := by kernel_rfl
theorem F24.us26 : (Try.prog.underlying 26).isSome = true := by kernel_rfl
theorem laws_b10Apart_ok {fr : List Pc} {H : Heap} (v0 : AV) (l0 : List (Nat)) (v1 : AV) (l1 : List (Nat)) (a2 : Nat) (hs : Sep H (fr)) (g0 : ∀ H, Sep H fr → Shows H v0 1 (enc (eFlt .f32) l0)) (g1 : ∀ H, Sep H fr → Shows H v1 1 (enc (eFlt .f32) l1)) (K : Bool → Prop) (h : laws_b10Apart.wp l0 l1 a2 K) : OkQ Try.prog 24 [(.v v0), (.v v1), (.v (.flt .f64 a2))] H (fun r H2 => ∃ (y0 : Bool), K y0 ∧ r = (.v (.bool y0)) ∧ H = H2) := by
  unfold laws_b10Apart.wp at h
  refine of_body Try.f24 F.hm Try.func24 rfl Try.call24 (by kernel_rfl) (by simp) ?_
  refine fi_seq ?_
  refine fi_region ?_
  refine so_assign (v := (.v (.bool false))) rfl ?_
  refine so_nil ?_
  refine fi_seq ?_
  refine fi_seq ?_
  refine fi_region ?_
  refine so_move (v := (.v v0)) rfl ?_
  refine sv_len (g0 _ hs) (fun _ => rfl) (by decide) rfl F24.ti24 ?_
  refine so_move (v := (.v v1)) rfl ?_
  refine sv_len (g1 _ hs) (fun _ => rfl) (by decide) rfl F24.ti24 ?_
  refine so_bin rfl rfl ab_neq ?_
  refine so_nil ?_
  replace h := ofP h; rcases h with ⟨c101, h⟩ | ⟨c101, h⟩
  · refine fi_false rfl (not_f (decide_eq_true c101)) ?_
    refine fi_skip ?_
    refine fi_seq ?_
    refine fi_seq ?_
    refine fi_region ?_
    refine so_move (v := (.v v0)) rfl ?_
    refine sv_len (g0 _ hs) (fun _ => rfl) (by decide) rfl F24.ti24 ?_
    refine so_move (v := (.v (.int .i64 (0 : Int)))) rfl ?_
    refine so_nil ?_
    refine fi_block ?_
    refine fi_loop ?_
    refine fi_at [(0, (.v v0)), (1, (.v v1)), (2, (.v (.flt .f64 a2))), (14, (.v (.int .i64 (l0.length : Int)))), (15, (.v (.int .i64 (0 : Int))))] ⟨rfl, rfl, rfl, rfl, rfl, trivial⟩ ?_
    refine h (fun (x103 : Int) => ∀ (s : Nat → TV), Fin _ _ (updL s [(0, (.v v0)), (1, (.v v1)), (2, (.v (.flt .f64 a2))), (14, (.v (.int .i64 (l0.length : Int)))), (15, (.v (.int .i64 x103)))]) _ _) ?_ _
    intro x103 h s110
    refine fi_inLoop ?_
    refine fi_seq ?_
    refine fi_region ?_
    refine so_bin rfl rfl ab_lss ?_
    refine so_nil ?_
    refine fi_seq ?_
    replace h := ofP h; rcases h with ⟨c104, h⟩ | ⟨c104, h⟩
    · refine fi_true rfl (decide_eq_true c104) ?_
      refine fi_skip ?_
      refine fi_seq ?_
      refine fi_block ?_
      refine fi_seq ?_
      refine fi_region ?_
      refine so_move (v := (.v (.int .i64 x103))) rfl ?_
      refine so_assign (v := (.v (.int .i64 x103))) rfl ?_
      refine so_nil ?_
      refine fi_seq ?_
      refine fi_region ?_
      refine so_move (v := (.v v0)) rfl ?_
      refine so_move (v := (.v (.int .i64 x103))) rfl ?_
      obtain ⟨c105, h⟩ := h
      refine sv_idx (g0 _ hs) c105 (fun _ => rfl) (by decide) rfl rfl F24.tl24 ?_
      refine sv_cell (g0 _ hs) c105 (0 : Nat) 0 (fun x => (AV.flt .f32 x)) (fun _ => rfl) (fun _ => rfl) rfl F24.ag26 ?_
      refine sv_ffw rfl F24.us26 F24.in33 F24.fl33 ?_
      refine so_move (v := (.v v1)) rfl ?_
      refine so_move (v := (.v (.int .i64 x103))) rfl ?_
      obtain ⟨c106, h⟩ := h
      refine sv_idx (g1 _ hs) c106 (fun _ => rfl) (by decide) rfl rfl F24.tl24 ?_
      refine sv_cell (g1 _ hs) c106 (0 : Nat) 0 (fun x => (AV.flt .f32 x)) (fun _ => rfl) (fun _ => rfl) rfl F24.ag26 ?_
      refine sv_ffw rfl F24.us26 F24.in33 F24.fl33 ?_
      refine sv_callS (laws_b10Gap_ok (widen (l0.getD (x103).toNat (0 : Nat))) (widen (l1.getD (x103).toNat (0 : Nat))) hs  _ h) (fun _ _ ⟨_, _, _, e⟩ => e) rfl rfl ?_
      clear h
      rintro _ _ ⟨y107, h, rfl, rfl⟩
      refine so_move (v := (.v (.flt .f64 a2))) rfl ?_
      refine so_bin rfl rfl ab_fleq ?_
      refine so_un rfl au_not ?_
      refine so_nil ?_
      replace h := ofT h; rcases h with ⟨c109, h⟩ | ⟨c109, h⟩
      · refine fi_false rfl (not_f c109) ?_
        refine fi_skip ?_
        refine fi_inBlock ?_
        refine fi_region ?_
        refine so_bin rfl rfl ab_add ?_
        refine so_move (v := (.v (.int .i64 (IntKind.i64.wrap (x103 + (1 : Int)))))) rfl ?_
        refine so_nil ?_
        exact fi_at [(0, (.v v0)), (1, (.v v1)), (2, (.v (.flt .f64 a2))), (14, (.v (.int .i64 (l0.length : Int)))), (15, (.v (.int .i64 (IntKind.i64.wrap (x103 + (1 : Int))))))] ⟨rfl, rfl, rfl, rfl, rfl, trivial⟩ (h _)
      · refine fi_true rfl (not_t c109) ?_
        refine fi_seq ?_
        refine fi_region ?_
        refine so_assign (v := (.v (.bool true))) rfl ?_
        refine so_nil ?_
        exact by_ret rfl ⟨_, h, rfl, rfl⟩
    · refine fi_false rfl (decide_eq_false c104) ?_
      refine fi_exit rfl ?_
      refine fi_seq ?_
      refine fi_region ?_
      refine so_assign (v := (.v (.bool false))) rfl ?_
      refine so_nil ?_
      exact by_ret rfl ⟨_, h, rfl, rfl⟩
  · refine fi_true rfl (not_t (decide_eq_false c101)) ?_
    refine fi_seq ?_
    refine fi_region ?_
    refine so_assign (v := (.v (.bool true))) rfl ?_
    refine so_nil ?_
    exact by_ret rfl ⟨_, h, rfl, rfl⟩
theorem F4.ag26 : tagg Try.prog 26 = some false := by kernel_rfl
theorem F4.ag4 : tagg Try.prog 4 = some false := by kernel_rfl
theorem F4.ag46 : tagg Try.prog 46 = some true := by kernel_rfl
theorem F4.by4 : tbytes Try.prog 4 = some 1 := by kernel_rfl
theorem F4.fl26 : tflt Try.prog 26 = some .f32 := by kernel_rfl
theorem F4.in26 : tint Try.prog 26 = none := by kernel_rfl
theorem F4.sz26 : tsz Try.prog 26 = some 1 := by kernel_rfl
theorem F4.sz4 : tsz Try.prog 4 = some 1 := by kernel_rfl
theorem F4.sz46 : tsz Try.prog 46 = some 1 := by kernel_rfl
theorem F4.ta24_24 : tapp Try.prog 24 24 = some (1, 4) := by kernel_rfl
theorem F4.ta49_49 : tapp Try.prog 49 49 = some (1, 1) := by kernel_rfl
theorem F4.te24 : telem Try.prog 24 = some 26 := by kernel_rfl
theorem F4.te49 : telem Try.prog 49 = some 4 := by kernel_rfl
theorem F4.ti24 : (telem Try.prog 24).isSome = true := by kernel_rfl
theorem F4.tl24 : (telem Try.prog 24).bind (tsz Try.prog) = some 1 := by kernel_rfl
theorem F4.tl49 : (telem Try.prog 49).bind (tsz Try.prog) = some 1 := by kernel_rfl
theorem F4.us2 : (Try.prog.underlying 2).isSome = true := by kernel_rfl
theorem F4.ze26 : tzero Try.prog 26 = some [(.flt .f32 (0 : Nat))] := by kernel_rfl
theorem F4.ze4 : tzero Try.prog 4 = some [(.bool false)] := by kernel_rfl
theorem F4.ze46 : tzero Try.prog 46 = some [.nilsl] := by kernel_rfl
theorem laws_FnHoles_ok {fr : List Pc} {H : Heap} (v0 : AV) (l0 : List (Int)) (v1 : AV) (l1 : List (Int)) (hs : Sep H (fr)) (g0 : ∀ H, Sep H fr → Shows H v0 1 (enc (eInt .u8) l0)) (g1 : ∀ H, Sep H fr → Shows H v1 1 (enc (eInt .u8) l1)) (K : Bool → Prop) (h : laws_FnHoles.wp l0 l1 K) : OkQ Try.prog 4 [(.v v0), (.v v1)] H (fun r H2 => ∃ (y0 : Bool), K y0 ∧ r = (.v (.bool y0)) ∧ Sep H2 (fr)) := by
  unfold laws_FnHoles.wp at h
  refine of_body Try.f4 F.hm Try.func4 rfl Try.call4 (by kernel_rfl) (by simp) ?_
  refine fi_seq ?_
  refine fi_region ?_
  refine so_assign (v := (.v (.bool false))) rfl ?_
  refine so_nil ?_
  refine fi_seq ?_
  refine fi_seq ?_
  refine fi_region ?_
  refine so_move (v := (.v v0)) rfl ?_
  refine so_move (v := (.v v1)) rfl ?_
  refine sv_callS (laws_b10Long_ok v0 l0 v1 l1 hs (fun _ hs => (g0 _ hs)) (fun _ hs => (g1 _ hs)) _ h) (fun _ _ ⟨_, _, _, e⟩ => e) rfl rfl ?_
  clear h
  rintro _ _ ⟨y101, h, rfl, rfl⟩
  refine so_nil ?_
  replace h := ofT h; rcases h with ⟨c103, h⟩ | ⟨c103, h⟩
  · refine fi_true rfl c103 ?_
    refine fi_seq ?_
    refine fi_region ?_
    refine so_assign (v := (.v (.bool true))) rfl ?_
    refine so_nil ?_
    exact by_ret rfl ⟨_, h, rfl, hs⟩
  · refine fi_false rfl c103 ?_
    refine fi_skip ?_
    refine fi_seq ?_
    refine fi_region ?_
    refine so_move (v := (.v v0)) rfl ?_
    refine sv_call (spec_B10Pair_ok v0 l0 hs (fun _ hs => (g0 _ hs)) _ h) rfl rfl nofun ?_
    clear h hs
    rintro _ H107 ⟨y104, h, v105, rfl, hs⟩
    refine sv_alloc hs F4.ze46 rfl nofun (fun id108 H109 hs => ?_)
    refine sv_st hs 0 rfl rfl rfl (c := [v105]) rfl F4.sz46 rfl (stc (hs.shows 1 rfl).stor stn) (leb rfl) (cs' := [v105]) rfl nofun (fun H111 hs => ?_)
    refine so_nil ?_
    refine fi_seq ?_
    refine fi_region ?_
    refine so_move (v := (.v v1)) rfl ?_
    refine sv_callS (laws_b10At_ok v1 l1 (0 : Int) (4 : Int) hs (fun _ hs => (g1 _ hs.tl.tl)) _ h) (fun _ _ ⟨_, _, _, e⟩ => e) rfl rfl ?_
    clear h
    rintro _ _ ⟨y112, h, rfl, rfl⟩
    refine so_bin rfl rfl ab_add ?_
    refine so_bin rfl rfl ab_mul ?_
    refine so_assign (v := (.v (.int .i64 (IntKind.i64.wrap ((4 : Int) * (IntKind.i64.wrap ((1 : Int) + y112))))))) rfl ?_
    refine so_nil ?_
    refine fi_seq ?_
    refine fi_region ?_
    refine so_move (v := (.v v0)) rfl ?_
    refine so_move (v := (.v (.int .i64 (IntKind.i64.wrap ((4 : Int) * (IntKind.i64.wrap ((1 : Int) + y112))))))) rfl ?_
    refine sv_call (spec_B10Signal_ok v0 l0 (IntKind.i64.wrap ((4 : Int) * (IntKind.i64.wrap ((1 : Int) + y112)))) hs (fun _ hs => (g0 _ hs.tl.tl)) _ h) rfl rfl nofun ?_
    clear h hs
    rintro _ H117 ⟨y114, h, v115, rfl, hs⟩
    refine so_assign (v := (.v v115)) rfl ?_
    refine so_nil ?_
    refine fi_seq ?_
    refine fi_region ?_
    refine sv_bslice hs eBool ([] : List (Bool)) [] F4.te49 F4.sz4 F4.ze4 rfl rfl rfl rfl (fun _ => rfl) rfl (by decide) nofun (fun v118 H119 nv118 hs => ?_)
    refine so_assign (v := (.v v118)) rfl ?_
    refine so_nil ?_
    refine fi_seq ?_
    refine fi_region ?_
    refine sv_bslice hs eBool ([] : List (Bool)) [] F4.te49 F4.sz4 F4.ze4 rfl rfl rfl rfl (fun _ => rfl) rfl (by decide) nofun (fun v121 H122 nv121 hs => ?_)
    refine so_assign (v := (.v v121)) rfl ?_
    refine so_nil ?_
    refine fi_seq ?_
    refine fi_region ?_
    refine sv_bslice hs (eFlt .f32) ([] : List (Nat)) [] F4.te24 F4.sz26 F4.ze26 rfl rfl rfl rfl (fun _ => rfl) rfl (by decide) nofun (fun v124 H125 nv124 hs => ?_)
    refine so_assign (v := (.v v124)) rfl ?_
    refine so_nil ?_
    refine fi_seq ?_
    refine fi_seq ?_
    refine fi_region ?_
    refine so_assign (v := (.v (.int .i64 (0 : Int)))) rfl ?_
    refine so_nil ?_
    refine fi_block ?_
    refine fi_loop ?_
    refine fi_at [(1, (.v v1)), (5, (.v (.ptr id108 0))), (6, (.v (.int .i64 (IntKind.i64.wrap ((4 : Int) * (IntKind.i64.wrap ((1 : Int) + y112))))))), (7, (.v v115)), (8, (.v v118)), (9, (.v v121)), (10, (.v v124)), (11, (.v (.int .i64 (0 : Int))))] ⟨rfl, rfl, rfl, rfl, rfl, rfl, rfl, rfl, trivial⟩ ?_
    refine h (fun (even235 : List (Nat)) (whole237 : List (Bool)) (known239 : List (Bool)) (i241 : Int) => ∀ (s : Nat → TV) (H : Heap) (v236 : AV) (nv236 : v236 ≠ .nilsl) (v238 : AV) (nv238 : v238 ≠ .nilsl) (v240 : AV) (nv240 : v240 ≠ .nilsl), Sep H (Pc.osl v236 1 (enc (eFlt .f32) even235) :: Pc.osl v238 1 (enc eBool whole237) :: Pc.osl v240 1 (enc eBool known239) :: Pc.osl v115 1 (enc (eFlt .f32) y114) :: Pc.box id108 [v105] :: Pc.osl v105 1 (enc (eFlt .f32) y104) :: fr) → Fin _ _ (updL s [(1, (.v v1)), (5, (.v (.ptr id108 0))), (6, (.v (.int .i64 (IntKind.i64.wrap ((4 : Int) * (IntKind.i64.wrap ((1 : Int) + y112))))))), (7, (.v v115)), (8, (.v v240)), (9, (.v v238)), (10, (.v v236)), (11, (.v (.int .i64 i241)))]) H _) ?_ _ _ _ nv124 _ nv121 _ nv118 hs
    intro even235 whole237 known239 i241 h s341 H342 v236 nv236 v238 nv238 v240 nv240 hs
    refine fi_inLoop ?_
    refine fi_seq ?_
    refine fi_seq ?_
    refine fi_region ?_
    refine so_move (v := (.v (.int .i64 i241))) rfl ?_
    refine so_move (v := (.v (.int .i64 (IntKind.i64.wrap ((4 : Int) * (IntKind.i64.wrap ((1 : Int) + y112))))))) rfl ?_
    refine so_bin rfl rfl ab_lss ?_
    refine so_nil ?_
    replace h := ofP h; rcases h with ⟨c242, h⟩ | ⟨c242, h⟩
    · refine fi_true rfl (decide_eq_true c242) ?_
      refine fi_skip ?_
      refine fi_seq ?_
      refine fi_block ?_
      refine fi_seq ?_
      refine fi_region ?_
      refine so_move (v := (.v v240)) rfl ?_
      refine so_move (v := (.v (.int .i64 i241))) rfl ?_
      refine so_bin rfl rfl ab_eql ?_
      refine so_move (v := (.v (.bool (decide (i241 = (0 : Int)))))) rfl ?_
      replace h := ofP h; rcases h with ⟨c243, h⟩ | ⟨c243, h⟩
      · refine so_gno rfl (decide_eq_true c243) ?_
        refine so_gno rfl (decide_eq_true c243) ?_
        refine so_gno rfl (decide_eq_true c243) ?_
        refine so_gno rfl (decide_eq_true c243) ?_
        refine so_gno rfl (decide_eq_true c243) ?_
        refine so_pick_t (v := (.v (.bool true))) rfl (decide_eq_true c243) rfl ?_
        refine sv_bslice hs eBool ([true] : List (Bool)) [[(.bool true)]] F4.te49 F4.sz4 F4.ze4 rfl rfl rfl rfl (fun _ => rfl) rfl (by decide) nofun (fun v244 H245 nv244 hs => ?_)
        obtain ⟨c249, h⟩ := h
        refine sv_app hs 3 rfl (hs.shows 0 rfl) (fun _ => rfl) (by decide) F4.ta49_49 (by decide) c249 rfl rfl nofun (fun v247 H248 kv247 hs => ?_)
        replace hs := hs.del 0
        have nv247 := kv247 nv240
        refine so_assign (v := (.v v247)) rfl ?_
        refine so_nil ?_
        refine fi_seq ?_
        refine fi_region ?_
        refine so_move (v := (.v v238)) rfl ?_
        refine sv_bslice hs eBool ([true] : List (Bool)) [[(.bool true)]] F4.te49 F4.sz4 F4.ze4 rfl rfl rfl rfl (fun _ => rfl) rfl (by decide) nofun (fun v250 H251 nv250 hs => ?_)
        obtain ⟨c255, h⟩ := h
        refine sv_app hs 2 rfl (hs.shows 0 rfl) (fun _ => rfl) (by decide) F4.ta49_49 (by decide) c255 rfl rfl nofun (fun v253 H254 kv253 hs => ?_)
        replace hs := hs.del 0
        have nv253 := kv253 nv238
        refine so_assign (v := (.v v253)) rfl ?_
        refine so_nil ?_
        refine fi_region ?_
        refine so_move (v := (.v v236)) rfl ?_
        refine sv_bslice hs (eFlt .f32) ([(cz .f32 1084227584)] : List (Nat)) [[(.flt .f32 (cz .f32 1084227584))]] F4.te24 F4.sz26 F4.ze26 rfl rfl rfl rfl (fun _ => rfl) rfl (by decide) nofun (fun v256 H257 nv256 hs => ?_)
        obtain ⟨c261, h⟩ := h
        refine sv_app hs 1 rfl (hs.shows 0 rfl) (fun _ => rfl) (by decide) F4.ta24_24 (by decide) c261 rfl rfl nofun (fun v259 H260 kv259 hs => ?_)
        replace hs := hs.del 0
        have nv259 := kv259 nv236
        refine so_assign (v := (.v v259)) rfl ?_
        refine so_nil ?_
        refine fi_inBlock ?_
        refine fi_region ?_
        refine so_move (v := (.v (.int .i64 i241))) rfl ?_
        refine so_bin rfl rfl ab_add ?_
        refine so_assign (v := (.v (.int .i64 (IntKind.i64.wrap (i241 + (1 : Int)))))) rfl ?_
        refine so_nil ?_
        exact fi_at [(1, (.v v1)), (5, (.v (.ptr id108 0))), (6, (.v (.int .i64 (IntKind.i64.wrap ((4 : Int) * (IntKind.i64.wrap ((1 : Int) + y112))))))), (7, (.v v115)), (8, (.v v247)), (9, (.v v253)), (10, (.v v259)), (11, (.v (.int .i64 (IntKind.i64.wrap (i241 + (1 : Int))))))] ⟨rfl, rfl, rfl, rfl, rfl, rfl, rfl, rfl, trivial⟩ (h _ _ _ nv259 _ nv253 _ nv247 hs)
      · refine so_gyes rfl (decide_eq_false c243) ?_
        refine so_move (v := (.v v1)) rfl ?_
        refine so_gyes rfl (decide_eq_false c243) ?_
        refine so_move (v := (.v (.int .i64 i241))) rfl ?_
        refine so_gyes rfl (decide_eq_false c243) ?_
        refine so_bin rfl rfl ab_add ?_
        refine so_gyes rfl (decide_eq_false c243) ?_
        refine sv_callS (laws_b10At_ok v1 l1 (IntKind.i64.wrap (i241 + (1 : Int))) (3 : Int) hs (fun _ hs => (g1 _ hs.tl.tl.tl.tl.tl.tl)) _ h) (fun _ _ ⟨_, _, _, e⟩ => e) rfl rfl ?_
        clear h
        rintro _ _ ⟨y262, h, rfl, rfl⟩
        refine so_gyes rfl (decide_eq_false c243) ?_
        refine so_bin rfl rfl ab_gtr ?_
        refine so_pick_f (v := (.v (.bool (decide ((0 : Int) < y262))))) rfl (decide_eq_false c243) rfl ?_
        refine sv_bslice hs eBool ([(decide ((0 : Int) < y262))] : List (Bool)) [[(.bool (decide ((0 : Int) < y262)))]] F4.te49 F4.sz4 F4.ze4 rfl rfl rfl rfl (fun _ => rfl) rfl (by decide) nofun (fun v264 H265 nv264 hs => ?_)
        obtain ⟨c269, h⟩ := h
        refine sv_app hs 3 rfl (hs.shows 0 rfl) (fun _ => rfl) (by decide) F4.ta49_49 (by decide) c269 rfl rfl nofun (fun v267 H268 kv267 hs => ?_)
        replace hs := hs.del 0
        have nv267 := kv267 nv240
        refine so_assign (v := (.v v267)) rfl ?_
        refine so_nil ?_
        refine fi_seq ?_
        refine fi_region ?_
        refine so_move (v := (.v v238)) rfl ?_
        refine sv_bslice hs eBool ([true] : List (Bool)) [[(.bool true)]] F4.te49 F4.sz4 F4.ze4 rfl rfl rfl rfl (fun _ => rfl) rfl (by decide) nofun (fun v270 H271 nv270 hs => ?_)
        obtain ⟨c275, h⟩ := h
        refine sv_app hs 2 rfl (hs.shows 0 rfl) (fun _ => rfl) (by decide) F4.ta49_49 (by decide) c275 rfl rfl nofun (fun v273 H274 kv273 hs => ?_)
        replace hs := hs.del 0
        have nv273 := kv273 nv238
        refine so_assign (v := (.v v273)) rfl ?_
        refine so_nil ?_
        refine fi_region ?_
        refine so_move (v := (.v v236)) rfl ?_
        refine sv_bslice hs (eFlt .f32) ([(cz .f32 1084227584)] : List (Nat)) [[(.flt .f32 (cz .f32 1084227584))]] F4.te24 F4.sz26 F4.ze26 rfl rfl rfl rfl (fun _ => rfl) rfl (by decide) nofun (fun v276 H277 nv276 hs => ?_)
        obtain ⟨c281, h⟩ := h
        refine sv_app hs 1 rfl (hs.shows 0 rfl) (fun _ => rfl) (by decide) F4.ta24_24 (by decide) c281 rfl rfl nofun (fun v279 H280 kv279 hs => ?_)
        replace hs := hs.del 0
        have nv279 := kv279 nv236
        refine so_assign (v := (.v v279)) rfl ?_
        refine so_nil ?_
        refine fi_inBlock ?_
        refine fi_region ?_
        refine so_move (v := (.v (.int .i64 i241))) rfl ?_
        refine so_bin rfl rfl ab_add ?_
        refine so_assign (v := (.v (.int .i64 (IntKind.i64.wrap (i241 + (1 : Int)))))) rfl ?_
        refine so_nil ?_
        exact fi_at [(1, (.v v1)), (5, (.v (.ptr id108 0))), (6, (.v (.int .i64 (IntKind.i64.wrap ((4 : Int) * (IntKind.i64.wrap ((1 : Int) + y112))))))), (7, (.v v115)), (8, (.v v267)), (9, (.v v273)), (10, (.v v279)), (11, (.v (.int .i64 (IntKind.i64.wrap (i241 + (1 : Int))))))] ⟨rfl, rfl, rfl, rfl, rfl, rfl, rfl, rfl, trivial⟩ (h _ _ _ nv279 _ nv273 _ nv267 hs)
    · refine fi_false rfl (decide_eq_false c242) ?_
      refine fi_exit rfl ?_
      refine fi_seq ?_
      refine fi_region ?_
      refine so_move (v := (.v v1)) rfl ?_
      refine sv_callS (laws_b10At_ok v1 l1 (1 : Int) (6 : Int) hs (fun _ hs => (g1 _ hs.tl.tl.tl.tl.tl.tl)) _ h) (fun _ _ ⟨_, _, _, e⟩ => e) rfl rfl ?_
      clear h
      rintro _ _ ⟨y282, h, rfl, rfl⟩
      refine so_assign (v := (.v (.int .i64 y282))) rfl ?_
      refine so_nil ?_
      refine fi_seq ?_
      refine fi_region ?_
      refine so_move (v := (.v v1)) rfl ?_
      refine sv_callS (laws_b10At_ok v1 l1 (2 : Int) (9 : Int) hs (fun _ hs => (g1 _ hs.tl.tl.tl.tl.tl.tl)) _ h) (fun _ _ ⟨_, _, _, e⟩ => e) rfl rfl ?_
      clear h
      rintro _ _ ⟨y284, h, rfl, rfl⟩
      refine sv_if rfl F4.us2 F4.in26 F4.fl26 ?_
      refine so_bin rfl rfl ab_fquo ?_
      refine so_assign (v := (.v (.flt .f32 (fop .quo .f32 (itof .f32 y284) (cz .f32 1082130432))))) rfl ?_
      refine so_nil ?_
      refine fi_seq ?_
      refine fi_region ?_
      refine so_move (v := (.v v115)) rfl ?_
      refine so_move (v := (.v v240)) rfl ?_
      refine sv_lds hs 4 rfl rfl (leb rfl) rfl F4.ag46 F4.sz46 ?_
      refine so_move (v := (.v (.flt .f32 (fop .quo .f32 (itof .f32 y284) (cz .f32 1082130432))))) rfl ?_
      refine so_move (v := (.v (.int .i64 y282))) rfl ?_
      refine sv_call (impl_FillRounds_ok v115 y114 v240 known239 v105 y104 (2 : Int) (fop .quo .f32 (itof .f32 y284) (cz .f32 1082130432)) (cz .f32 1056964608) y282 hs (fun _ hs => (hs.shows 3 rfl)) (fun _ hs => (hs.shows 2 rfl)) (fun _ hs => (hs.shows 5 rfl)) _ h) rfl rfl nofun ?_
      clear h hs
      rintro _ H290 ⟨y286, y289, h, v287, rfl, hs⟩
      refine so_move (v := (.t [(.v v287), (.v (.bool y289))])) rfl ?_
      refine so_extract rfl rfl rfl ?_
      refine so_extract rfl rfl rfl ?_
      refine so_assign (v := (.v v287)) rfl ?_
      refine so_assign (v := (.v (.bool y289))) rfl ?_
      refine so_nil ?_
      refine fi_seq ?_
      refine fi_region ?_
      refine so_move (v := (.v v115)) rfl ?_
      refine so_move (v := (.v v240)) rfl ?_
      refine sv_lds hs 5 rfl rfl (leb rfl) rfl F4.ag46 F4.sz46 ?_
      refine so_move (v := (.v (.flt .f32 (fop .quo .f32 (itof .f32 y284) (cz .f32 1082130432))))) rfl ?_
      refine so_move (v := (.v (.int .i64 y282))) rfl ?_
      refine sv_call (spec_FillRounds_ok v115 y114 v240 known239 v105 y104 (2 : Int) (fop .quo .f32 (itof .f32 y284) (cz .f32 1082130432)) (cz .f32 1056964608) y282 hs (fun _ hs => (hs.shows 4 rfl)) (fun _ hs => (hs.shows 3 rfl)) (fun _ hs => (hs.shows 6 rfl)) _ h) rfl rfl nofun ?_
      clear h hs
      rintro _ H295 ⟨y291, y294, h, v292, rfl, hs⟩
      refine so_move (v := (.t [(.v v292), (.v (.bool y294))])) rfl ?_
      refine so_extract rfl rfl rfl ?_
      refine so_extract rfl rfl rfl ?_
      refine so_assign (v := (.v v292)) rfl ?_
      refine so_assign (v := (.v (.bool y294))) rfl ?_
      refine so_nil ?_
      refine fi_seq ?_
      refine fi_region ?_
      refine so_move (v := (.v v115)) rfl ?_
      refine so_move (v := (.v v238)) rfl ?_
      refine sv_lds hs 6 rfl rfl (leb rfl) rfl F4.ag46 F4.sz46 ?_
      refine so_move (v := (.v (.flt .f32 (fop .quo .f32 (itof .f32 y284) (cz .f32 1082130432))))) rfl ?_
      refine so_move (v := (.v (.int .i64 y282))) rfl ?_
      refine sv_call (impl_FillRounds_ok v115 y114 v238 whole237 v105 y104 (2 : Int) (fop .quo .f32 (itof .f32 y284) (cz .f32 1082130432)) (cz .f32 1056964608) y282 hs (fun _ hs => (hs.shows 5 rfl)) (fun _ hs => (hs.shows 3 rfl)) (fun _ hs => (hs.shows 7 rfl)) _ h) rfl rfl nofun ?_
      clear h hs
      rintro _ H300 ⟨y296, y299, h, v297, rfl, hs⟩
      refine so_move (v := (.t [(.v v297), (.v (.bool y299))])) rfl ?_
      refine so_extract rfl rfl rfl ?_
      refine so_extract rfl rfl rfl ?_
      refine so_assign (v := (.v v297)) rfl ?_
      refine so_assign (v := (.v (.bool y299))) rfl ?_
      refine so_nil ?_
      refine fi_seq ?_
      refine fi_region ?_
      refine so_move (v := (.v v236)) rfl ?_
      refine so_move (v := (.v v240)) rfl ?_
      refine sv_lds hs 7 rfl rfl (leb rfl) rfl F4.ag46 F4.sz46 ?_
      refine so_move (v := (.v (.flt .f32 (fop .quo .f32 (itof .f32 y284) (cz .f32 1082130432))))) rfl ?_
      refine so_move (v := (.v (.int .i64 y282))) rfl ?_
      refine sv_call (impl_FillRounds_ok v236 even235 v240 known239 v105 y104 (2 : Int) (fop .quo .f32 (itof .f32 y284) (cz .f32 1082130432)) (cz .f32 1056964608) y282 hs (fun _ hs => (hs.shows 3 rfl)) (fun _ hs => (hs.shows 5 rfl)) (fun _ hs => (hs.shows 8 rfl)) _ h) rfl rfl nofun ?_
      clear h hs
      rintro _ H305 ⟨y301, y304, h, v302, rfl, hs⟩
      refine so_move (v := (.t [(.v v302), (.v (.bool y304))])) rfl ?_
      refine so_extract rfl rfl rfl ?_
      refine so_extract rfl rfl rfl ?_
      refine so_assign (v := (.v v302)) rfl ?_
      refine so_assign (v := (.v (.bool y304))) rfl ?_
      refine so_nil ?_
      refine fi_seq ?_
      refine fi_free [3] ?_
      refine wf_pure rfl (by kernel_rfl) ?_
      refine so_move (v := (.v v115)) rfl ?_
      refine so_end ?_
      refine wf_pure rfl (by kernel_rfl) ?_
      refine so_move (v := (.v (.int .i64 (IntKind.i64.wrap ((4 : Int) * (IntKind.i64.wrap ((1 : Int) + y112))))))) rfl ?_
      refine so_end ?_
      have hs0_ := hs
      refine wf_chg (by kernel_rfl) ?_
      obtain ⟨c306, h⟩ := h
      refine sv_make hs eBool false c306 (fun _ => rfl) rfl rfl F4.te49 F4.sz4 F4.by4 F4.ze4 rfl rfl nofun (fun v307 H308 nv307 hs => ?_)
      refine so_end ⟨fan, ?_⟩
      refine wf_free (.g [v105]) rfl (by kernel_rfl) (stepr (i := 0) rfl (by refine sv_lds hs 9 rfl rfl (leb rfl) rfl F4.ag46 F4.sz46 ?_; exact so_end ⟨rfl, rfl⟩)) (fac (.inr (stepr (i := 0) rfl (by refine sv_lds hs0_ 8 rfl rfl (leb rfl) rfl F4.ag46 F4.sz46 ?_; exact so_end ⟨rfl, rfl⟩))) fan) ?_
      refine wf_pure rfl (by kernel_rfl) ?_
      refine so_move (v := (.v (.flt .f32 (fop .quo .f32 (itof .f32 y284) (cz .f32 1082130432))))) rfl ?_
      refine so_end ?_
      refine wf_pure rfl (by kernel_rfl) ?_
      refine so_move (v := (.v (.int .i64 y282))) rfl ?_
      refine so_end ?_
      have hs1_ := hs
      refine wf_chg (by kernel_rfl) ?_
      refine sv_call (impl_FillRounds_ok v115 y114 v307 (List.replicate ((IntKind.i64.wrap ((4 : Int) * (IntKind.i64.wrap ((1 : Int) + y112))))).toNat false) v105 y104 (2 : Int) (fop .quo .f32 (itof .f32 y284) (cz .f32 1082130432)) (cz .f32 1056964608) y282 hs (fun _ hs => (hs.shows 8 rfl)) (fun _ hs => (hs.shows 0 rfl)) (fun _ hs => (hs.shows 10 rfl)) _ h) rfl rfl nofun ?_
      clear h
      rintro _ H314 ⟨y310, y313, h, v311, rfl, hs⟩
      refine so_end ⟨(fac (.inl ⟨6, by kernel_rfl⟩) fan), ?_⟩
      refine wf_pure rfl (by kernel_rfl) ?_
      refine so_move (v := (.t [(.v v311), (.v (.bool y313))])) rfl ?_
      refine so_end ?_
      refine wf_pure rfl (by kernel_rfl) ?_
      refine so_extract rfl rfl rfl ?_
      refine so_end ?_
      refine wf_pure rfl (by kernel_rfl) ?_
      refine so_extract rfl rfl rfl ?_
      refine so_end ?_
      refine wf_pure rfl (by kernel_rfl) ?_
      refine so_assign (v := (.v v311)) rfl ?_
      refine so_end ?_
      refine wf_pure rfl (by kernel_rfl) ?_
      refine so_assign (v := (.v (.bool y313))) rfl ?_
      refine so_end ?_
      refine wf_nil ?_
      refine fi_seq ?_
      refine fi_seq ?_
      refine fi_region ?_
      refine so_move (v := (.v (.bool y289))) rfl ?_
      refine so_un rfl au_not ?_
      refine so_move (v := (.v (.bool (!y289)))) rfl ?_
      replace h := ofT h; rcases h with ⟨c315, h⟩ | ⟨c315, h⟩
      · refine so_gyes rfl (not_f c315) ?_
        refine so_move (v := (.v (.bool y294))) rfl ?_
        refine so_gyes rfl (not_f c315) ?_
        refine so_un rfl au_not ?_
        refine so_pick_f (v := (.v (.bool (!y294)))) rfl (not_f c315) rfl ?_
        refine so_move (v := (.v (.bool (!y294)))) rfl ?_
        replace h := ofT h; rcases h with ⟨c316, h⟩ | ⟨c316, h⟩
        · refine so_gyes rfl (not_f c316) ?_
          refine so_move (v := (.v (.bool y299))) rfl ?_
          refine so_gyes rfl (not_f c316) ?_
          refine so_un rfl au_not ?_
          refine so_pick_f (v := (.v (.bool (!y299)))) rfl (not_f c316) rfl ?_
          refine so_move (v := (.v (.bool (!y299)))) rfl ?_
          replace h := ofT h; rcases h with ⟨c317, h⟩ | ⟨c317, h⟩
          · refine so_gyes rfl (not_f c317) ?_
            refine so_move (v := (.v (.bool y304))) rfl ?_
            refine so_gyes rfl (not_f c317) ?_
            refine so_un rfl au_not ?_
            refine so_pick_f (v := (.v (.bool (!y304)))) rfl (not_f c317) rfl ?_
            refine so_move (v := (.v (.bool (!y304)))) rfl ?_
            replace h := ofT h; rcases h with ⟨c318, h⟩ | ⟨c318, h⟩
            · refine so_gyes rfl (not_f c318) ?_
              refine so_move (v := (.v (.bool y313))) rfl ?_
              refine so_pick_f (v := (.v (.bool y313))) rfl (not_f c318) rfl ?_
              refine so_move (v := (.v (.bool y313))) rfl ?_
              replace h := ofT h; rcases h with ⟨c319, h⟩ | ⟨c319, h⟩
              · refine so_gno rfl c319 ?_
                refine so_gno rfl c319 ?_
                refine so_gno rfl c319 ?_
                refine so_gno rfl c319 ?_
                refine so_pick_t (v := (.v (.bool true))) rfl c319 rfl ?_
                refine so_move (v := (.v (.bool true))) rfl ?_
                refine so_gno rfl rfl ?_
                refine so_gno rfl rfl ?_
                refine so_gno rfl rfl ?_
                refine so_gno rfl rfl ?_
                refine so_pick_t (v := (.v (.bool true))) rfl rfl rfl ?_
                refine so_move (v := (.v (.bool true))) rfl ?_
                refine so_gno rfl rfl ?_
                refine so_gno rfl rfl ?_
                refine so_gno rfl rfl ?_
                refine so_pick_t (v := (.v (.bool true))) rfl rfl rfl ?_
                refine so_nil ?_
                refine fi_true rfl rfl ?_
                refine fi_seq ?_
                refine fi_region ?_
                refine so_assign (v := (.v (.bool false))) rfl ?_
                refine so_nil ?_
                exact by_ret rfl ⟨_, h, rfl, (Sep.dropn 12 hs)⟩
              · refine so_gyes rfl c319 ?_
                refine so_move (v := (.v v287)) rfl ?_
                refine so_gyes rfl c319 ?_
                refine so_move (v := (.v v292)) rfl ?_
                refine so_gyes rfl c319 ?_
                refine sv_callS (laws_b10List_ok v287 y286 v292 y291 hs (fun _ hs => (hs.shows 5 rfl)) (fun _ hs => (hs.shows 4 rfl)) _ h) (fun _ _ ⟨_, _, _, e⟩ => e) rfl rfl ?_
                clear h
                rintro _ _ ⟨y320, h, rfl, rfl⟩
                refine so_gyes rfl c319 ?_
                refine so_un rfl au_not ?_
                refine so_pick_f (v := (.v (.bool (!y320)))) rfl c319 rfl ?_
                refine so_move (v := (.v (.bool (!y320)))) rfl ?_
                replace h := ofT h; rcases h with ⟨c322, h⟩ | ⟨c322, h⟩
                · refine so_gyes rfl (not_f c322) ?_
                  refine so_move (v := (.v v297)) rfl ?_
                  refine so_gyes rfl (not_f c322) ?_
                  refine so_move (v := (.v v115)) rfl ?_
                  refine so_gyes rfl (not_f c322) ?_
                  refine sv_callS (laws_b10List_ok v297 y296 v115 y114 hs (fun _ hs => (hs.shows 3 rfl)) (fun _ hs => (hs.shows 9 rfl)) _ h) (fun _ _ ⟨_, _, _, e⟩ => e) rfl rfl ?_
                  clear h
                  rintro _ _ ⟨y323, h, rfl, rfl⟩
                  refine so_gyes rfl (not_f c322) ?_
                  refine so_un rfl au_not ?_
                  refine so_pick_f (v := (.v (.bool (!y323)))) rfl (not_f c322) rfl ?_
                  refine so_move (v := (.v (.bool (!y323)))) rfl ?_
                  replace h := ofT h; rcases h with ⟨c325, h⟩ | ⟨c325, h⟩
                  · refine so_gyes rfl (not_f c325) ?_
                    refine so_move (v := (.v v302)) rfl ?_
                    refine so_gyes rfl (not_f c325) ?_
                    refine so_move (v := (.v v236)) rfl ?_
                    refine so_gyes rfl (not_f c325) ?_
                    refine sv_callS (laws_b10Apart_ok v302 y301 v236 even235 (cz .f64 4576918229304087675) hs (fun _ hs => (hs.shows 2 rfl)) (fun _ hs => (hs.shows 6 rfl)) _ h) (fun _ _ ⟨_, _, _, e⟩ => e) rfl rfl ?_
                    clear h
                    rintro _ _ ⟨y326, h, rfl, rfl⟩
                    refine so_pick_f (v := (.v (.bool y326))) rfl (not_f c325) rfl ?_
                    refine so_nil ?_
                    replace h := ofT h; rcases h with ⟨c328, h⟩ | ⟨c328, h⟩
                    · refine fi_true rfl c328 ?_
                      refine fi_seq ?_
                      refine fi_region ?_
                      refine so_assign (v := (.v (.bool false))) rfl ?_
                      refine so_nil ?_
                      exact by_ret rfl ⟨_, h, rfl, (Sep.dropn 12 hs)⟩
                    · refine fi_false rfl c328 ?_
                      refine fi_skip ?_
                      refine fi_seq ?_
                      refine fi_seq ?_
                      refine fi_region ?_
                      refine so_move (v := (.v v115)) rfl ?_
                      refine sv_len (hs.shows 9 rfl) (fun _ => rfl) (by decide) rfl F4.ti24 ?_
                      refine so_move (v := (.v (.int .i64 (0 : Int)))) rfl ?_
                      refine so_nil ?_
                      refine fi_block ?_
                      refine fi_loop ?_
                      replace hs := hs.del 0
                      replace hs := hs.del 0
                      replace hs := hs.del 0
                      replace hs := hs.del 0
                      replace hs := hs.del 0
                      replace hs := hs.del 1
                      replace hs := hs.del 1
                      replace hs := hs.del 3
                      replace hs := hs.del 3
                      refine fi_at [(7, (.v v115)), (8, (.v v240)), (14, (.v v287)), (150, (.v (.int .i64 (y114.length : Int)))), (151, (.v (.int .i64 (0 : Int))))] ⟨rfl, rfl, rfl, rfl, rfl, trivial⟩ ?_
                      refine h (fun (x330 : Int) => ∀ (s : Nat → TV) (H : Heap), Sep H (Pc.osl v287 1 (enc (eFlt .f32) y286) :: Pc.osl v240 1 (enc eBool known239) :: Pc.osl v115 1 (enc (eFlt .f32) y114) :: fr) → Fin _ _ (updL s [(7, (.v v115)), (8, (.v v240)), (14, (.v v287)), (150, (.v (.int .i64 (y114.length : Int)))), (151, (.v (.int .i64 x330)))]) H _) ?_ _ _ hs
                      intro x330 h s339 H340 hs
                      refine fi_inLoop ?_
                      refine fi_seq ?_
                      refine fi_region ?_
                      refine so_bin rfl rfl ab_lss ?_
                      refine so_nil ?_
                      refine fi_seq ?_
                      replace h := ofP h; rcases h with ⟨c331, h⟩ | ⟨c331, h⟩
                      · refine fi_true rfl (decide_eq_true c331) ?_
                        refine fi_skip ?_
                        refine fi_seq ?_
                        refine fi_block ?_
                        refine fi_seq ?_
                        refine fi_region ?_
                        refine so_move (v := (.v (.int .i64 x330))) rfl ?_
                        refine so_assign (v := (.v (.int .i64 x330))) rfl ?_
                        refine so_nil ?_
                        refine fi_seq ?_
                        refine fi_region ?_
                        refine so_move (v := (.v v240)) rfl ?_
                        refine so_move (v := (.v (.int .i64 x330))) rfl ?_
                        obtain ⟨c332, h⟩ := h
                        refine sv_idx (hs.shows 1 rfl) c332 (fun _ => rfl) (by decide) rfl rfl F4.tl49 ?_
                        refine sv_cell (hs.shows 1 rfl) c332 false 0 (fun x => (AV.bool x)) (fun _ => rfl) (fun _ => rfl) rfl F4.ag4 ?_
                        refine so_move (v := (.v (.bool (known239.getD (x330).toNat false)))) rfl ?_
                        replace h := ofT h; rcases h with ⟨c333, h⟩ | ⟨c333, h⟩
                        · refine so_gyes rfl c333 ?_
                          refine so_move (v := (.v v287)) rfl ?_
                          refine so_gyes rfl c333 ?_
                          refine so_move (v := (.v (.int .i64 x330))) rfl ?_
                          refine so_gyes rfl c333 ?_
                          obtain ⟨c334, h⟩ := h
                          refine sv_idx (hs.shows 0 rfl) c334 (fun _ => rfl) (by decide) rfl rfl F4.tl24 ?_
                          refine so_gyes rfl c333 ?_
                          refine sv_cell (hs.shows 0 rfl) c334 (0 : Nat) 0 (fun x => (AV.flt .f32 x)) (fun _ => rfl) (fun _ => rfl) rfl F4.ag26 ?_
                          refine so_gyes rfl c333 ?_
                          refine so_move (v := (.v v115)) rfl ?_
                          refine so_gyes rfl c333 ?_
                          refine so_move (v := (.v (.int .i64 x330))) rfl ?_
                          refine so_gyes rfl c333 ?_
                          obtain ⟨c335, h⟩ := h
                          refine sv_idx (hs.shows 2 rfl) c335 (fun _ => rfl) (by decide) rfl rfl F4.tl24 ?_
                          refine so_gyes rfl c333 ?_
                          refine sv_cell (hs.shows 2 rfl) c335 (0 : Nat) 0 (fun x => (AV.flt .f32 x)) (fun _ => rfl) (fun _ => rfl) rfl F4.ag26 ?_
                          refine so_gyes rfl c333 ?_
                          refine sv_callS (spec_SameNumber_ok (y286.getD (x330).toNat (0 : Nat)) (y114.getD (x330).toNat (0 : Nat)) hs  _ h) (fun _ _ ⟨_, _, _, e⟩ => e) rfl rfl ?_
                          clear h
                          rintro _ _ ⟨y336, h, rfl, rfl⟩
                          refine so_gyes rfl c333 ?_
                          refine so_un rfl au_not ?_
                          refine so_pick_t (v := (.v (.bool (!y336)))) rfl c333 rfl ?_
                          refine so_nil ?_
                          replace h := ofT h; rcases h with ⟨c338, h⟩ | ⟨c338, h⟩
                          · refine fi_false rfl (not_f c338) ?_
                            refine fi_skip ?_
                            refine fi_inBlock ?_
                            refine fi_region ?_
                            refine so_bin rfl rfl ab_add ?_
                            refine so_move (v := (.v (.int .i64 (IntKind.i64.wrap (x330 + (1 : Int)))))) rfl ?_
                            refine so_nil ?_
                            exact fi_at [(7, (.v v115)), (8, (.v v240)), (14, (.v v287)), (150, (.v (.int .i64 (y114.length : Int)))), (151, (.v (.int .i64 (IntKind.i64.wrap (x330 + (1 : Int))))))] ⟨rfl, rfl, rfl, rfl, rfl, trivial⟩ (h _ _  hs)
                          · refine fi_true rfl (not_t c338) ?_
                            refine fi_seq ?_
                            refine fi_region ?_
                            refine so_assign (v := (.v (.bool false))) rfl ?_
                            refine so_nil ?_
                            exact by_ret rfl ⟨_, h, rfl, (Sep.del 0 (Sep.del 0 (Sep.del 0 hs)))⟩
                        · refine so_gno rfl c333 ?_
                          refine so_gno rfl c333 ?_
                          refine so_gno rfl c333 ?_
                          refine so_gno rfl c333 ?_
                          refine so_gno rfl c333 ?_
                          refine so_gno rfl c333 ?_
                          refine so_gno rfl c333 ?_
                          refine so_gno rfl c333 ?_
                          refine so_gno rfl c333 ?_
                          refine so_gno rfl c333 ?_
                          refine so_pick_f (v := (.v (.bool false))) rfl c333 rfl ?_
                          refine so_nil ?_
                          refine fi_false rfl rfl ?_
                          refine fi_skip ?_
                          refine fi_inBlock ?_
                          refine fi_region ?_
                          refine so_bin rfl rfl ab_add ?_
                          refine so_move (v := (.v (.int .i64 (IntKind.i64.wrap (x330 + (1 : Int)))))) rfl ?_
                          refine so_nil ?_
                          exact fi_at [(7, (.v v115)), (8, (.v v240)), (14, (.v v287)), (150, (.v (.int .i64 (y114.length : Int)))), (151, (.v (.int .i64 (IntKind.i64.wrap (x330 + (1 : Int))))))] ⟨rfl, rfl, rfl, rfl, rfl, trivial⟩ (h _ _  hs)
                      · refine fi_false rfl (decide_eq_false c331) ?_
                        refine fi_exit rfl ?_
                        refine fi_seq ?_
                        refine fi_region ?_
                        refine so_assign (v := (.v (.bool true))) rfl ?_
                        refine so_nil ?_
                        exact by_ret rfl ⟨_, h, rfl, (Sep.del 0 (Sep.del 0 (Sep.del 0 hs)))⟩
                  · refine so_gno rfl (not_t c325) ?_
                    refine so_gno rfl (not_t c325) ?_
                    refine so_gno rfl (not_t c325) ?_
                    refine so_pick_t (v := (.v (.bool true))) rfl (not_t c325) rfl ?_
                    refine so_nil ?_
                    refine fi_true rfl rfl ?_
                    refine fi_seq ?_
                    refine fi_region ?_
                    refine so_assign (v := (.v (.bool false))) rfl ?_
                    refine so_nil ?_
                    exact by_ret rfl ⟨_, h, rfl, (Sep.dropn 12 hs)⟩
                · refine so_gno rfl (not_t c322) ?_
                  refine so_gno rfl (not_t c322) ?_
                  refine so_gno rfl (not_t c322) ?_
                  refine so_gno rfl (not_t c322) ?_
                  refine so_pick_t (v := (.v (.bool true))) rfl (not_t c322) rfl ?_
                  refine so_move (v := (.v (.bool true))) rfl ?_
                  refine so_gno rfl rfl ?_
                  refine so_gno rfl rfl ?_
                  refine so_gno rfl rfl ?_
                  refine so_pick_t (v := (.v (.bool true))) rfl rfl rfl ?_
                  refine so_nil ?_
                  refine fi_true rfl rfl ?_
                  refine fi_seq ?_
                  refine fi_region ?_
                  refine so_assign (v := (.v (.bool false))) rfl ?_
                  refine so_nil ?_
                  exact by_ret rfl ⟨_, h, rfl, (Sep.dropn 12 hs)⟩
            · refine so_gno rfl (not_t c318) ?_
              refine so_pick_t (v := (.v (.bool true))) rfl (not_t c318) rfl ?_
              refine so_move (v := (.v (.bool true))) rfl ?_
              refine so_gno rfl rfl ?_
              refine so_gno rfl rfl ?_
              refine so_gno rfl rfl ?_
              refine so_gno rfl rfl ?_
              refine so_pick_t (v := (.v (.bool true))) rfl rfl rfl ?_
              refine so_move (v := (.v (.bool true))) rfl ?_
              refine so_gno rfl rfl ?_
              refine so_gno rfl rfl ?_
              refine so_gno rfl rfl ?_
              refine so_gno rfl rfl ?_
              refine so_pick_t (v := (.v (.bool true))) rfl rfl rfl ?_
              refine so_move (v := (.v (.bool true))) rfl ?_
              refine so_gno rfl rfl ?_
              refine so_gno rfl rfl ?_
              refine so_gno rfl rfl ?_
              refine so_pick_t (v := (.v (.bool true))) rfl rfl rfl ?_
              refine so_nil ?_
              refine fi_true rfl rfl ?_
              refine fi_seq ?_
              refine fi_region ?_
              refine so_assign (v := (.v (.bool false))) rfl ?_
              refine so_nil ?_
              exact by_ret rfl ⟨_, h, rfl, (Sep.dropn 12 hs)⟩
          · refine so_gno rfl (not_t c317) ?_
            refine so_gno rfl (not_t c317) ?_
            refine so_pick_t (v := (.v (.bool true))) rfl (not_t c317) rfl ?_
            refine so_move (v := (.v (.bool true))) rfl ?_
            refine so_gno rfl rfl ?_
            refine so_pick_t (v := (.v (.bool true))) rfl rfl rfl ?_
            refine so_move (v := (.v (.bool true))) rfl ?_
            refine so_gno rfl rfl ?_
            refine so_gno rfl rfl ?_
            refine so_gno rfl rfl ?_
            refine so_gno rfl rfl ?_
            refine so_pick_t (v := (.v (.bool true))) rfl rfl rfl ?_
            refine so_move (v := (.v (.bool true))) rfl ?_
            refine so_gno rfl rfl ?_
            refine so_gno rfl rfl ?_
            refine so_gno rfl rfl ?_
            refine so_gno rfl rfl ?_
            refine so_pick_t (v := (.v (.bool true))) rfl rfl rfl ?_
            refine so_move (v := (.v (.bool true))) rfl ?_
            refine so_gno rfl rfl ?_
            refine so_gno rfl rfl ?_
            refine so_gno rfl rfl ?_
            refine so_pick_t (v := (.v (.bool true))) rfl rfl rfl ?_
            refine so_nil ?_
            refine fi_true rfl rfl ?_
            refine fi_seq ?_
            refine fi_region ?_
            refine so_assign (v := (.v (.bool false))) rfl ?_
            refine so_nil ?_
            exact by_ret rfl ⟨_, h, rfl, (Sep.dropn 12 hs)⟩
        · refine so_gno rfl (not_t c316) ?_
          refine so_gno rfl (not_t c316) ?_
          refine so_pick_t (v := (.v (.bool true))) rfl (not_t c316) rfl ?_
          refine so_move (v := (.v (.bool true))) rfl ?_
          refine so_gno rfl rfl ?_
          refine so_gno rfl rfl ?_
          refine so_pick_t (v := (.v (.bool true))) rfl rfl rfl ?_
          refine so_move (v := (.v (.bool true))) rfl ?_
          refine so_gno rfl rfl ?_
          refine so_pick_t (v := (.v (.bool true))) rfl rfl rfl ?_
          refine so_move (v := (.v (.bool true))) rfl ?_
          refine so_gno rfl rfl ?_
          refine so_gno rfl rfl ?_
          refine so_gno rfl rfl ?_
          refine so_gno rfl rfl ?_
          refine so_pick_t (v := (.v (.bool true))) rfl rfl rfl ?_
          refine so_move (v := (.v (.bool true))) rfl ?_
          refine so_gno rfl rfl ?_
          refine so_gno rfl rfl ?_
          refine so_gno rfl rfl ?_
          refine so_gno rfl rfl ?_
          refine so_pick_t (v := (.v (.bool true))) rfl rfl rfl ?_
          refine so_move (v := (.v (.bool true))) rfl ?_
          refine so_gno rfl rfl ?_
          refine so_gno rfl rfl ?_
          refine so_gno rfl rfl ?_
          refine so_pick_t (v := (.v (.bool true))) rfl rfl rfl ?_
          refine so_nil ?_
          refine fi_true rfl rfl ?_
          refine fi_seq ?_
          refine fi_region ?_
          refine so_assign (v := (.v (.bool false))) rfl ?_
          refine so_nil ?_
          exact by_ret rfl ⟨_, h, rfl, (Sep.dropn 12 hs)⟩
      · refine so_gno rfl (not_t c315) ?_
        refine so_gno rfl (not_t c315) ?_
        refine so_pick_t (v := (.v (.bool true))) rfl (not_t c315) rfl ?_
        refine so_move (v := (.v (.bool true))) rfl ?_
        refine so_gno rfl rfl ?_
        refine so_gno rfl rfl ?_
        refine so_pick_t (v := (.v (.bool true))) rfl rfl rfl ?_
        refine so_move (v := (.v (.bool true))) rfl ?_
        refine so_gno rfl rfl ?_
        refine so_gno rfl rfl ?_
        refine so_pick_t (v := (.v (.bool true))) rfl rfl rfl ?_
        refine so_move (v := (.v (.bool true))) rfl ?_
        refine so_gno rfl rfl ?_
        refine so_pick_t (v := (.v (.bool true))) rfl rfl rfl ?_
        refine so_move (v := (.v (.bool true))) rfl ?_
        refine so_gno rfl rfl ?_
        refine so_gno rfl rfl ?_
        refine so_gno rfl rfl ?_
        refine so_gno rfl rfl ?_
        refine so_pick_t (v := (.v (.bool true))) rfl rfl rfl ?_
        refine so_move (v := (.v (.bool true))) rfl ?_
        refine so_gno rfl rfl ?_
        refine so_gno rfl rfl ?_
        refine so_gno rfl rfl ?_
        refine so_gno rfl rfl ?_
        refine so_pick_t (v := (.v (.bool true))) rfl rfl rfl ?_
        refine so_move (v := (.v (.bool true))) rfl ?_
        refine so_gno rfl rfl ?_
        refine so_gno rfl rfl ?_
        refine so_gno rfl rfl ?_
        refine so_pick_t (v := (.v (.bool true))) rfl rfl rfl ?_
        refine so_nil ?_
        refine fi_true rfl rfl ?_
        refine fi_seq ?_
        refine fi_region ?_
        refine so_assign (v := (.v (.bool false))) rfl ?_
        refine so_nil ?_
        exact by_ret rfl ⟨_, h, rfl, (Sep.dropn 12 hs)⟩
end Go.Proofs.Ytfhlhgnipmgfdaa.G
