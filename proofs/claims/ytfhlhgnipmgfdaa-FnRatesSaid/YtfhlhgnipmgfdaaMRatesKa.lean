/-
  The model ends so. Printed by a program of the session; nothing here is trusted.
-/
import Derived.Test.YtfhlhgnipmgfdaaProg
import Derived.KernelRfl
import Derived.Test.YtfhlhgnipmgfdaaMRatesWa
namespace Go.Proofs.Ytfhlhgnipmgfdaa.F
open Go Go.Ab Go.Proofs
set_option maxRecDepth 100000
set_option linter.unusedVariables false
set_option linter.unusedSimpArgs false
set_option maxHeartbeats 1000000
theorem hm : Try.prog.follows .mixedOrders = true := by kernel_rfl
end Go.Proofs.Ytfhlhgnipmgfdaa.F
namespace Go.Proofs.Ytfhlhgnipmgfdaa.G
open Go Go.Ab Go.Proofs Go.Proofs.Ytfhlhgnipmgfdaa
set_option maxRecDepth 100000
set_option linter.unusedVariables false
set_option linter.unusedSimpArgs false
set_option maxHeartbeats 1000000
attribute [local irreducible] wops wopf Go.Ab.Fin
theorem impl_IsFinite_ok {fr : List Pc} {H : Heap} (a0 : Nat) (hs : Sep H (fr))  (K : Bool → Prop) (h : impl_IsFinite.wp a0 K) : OkQ Try.prog 87 [(.v (.flt .f32 a0))] H (fun r H2 => ∃ (y0 : Bool), K y0 ∧ r = (.v (.bool y0)) ∧ H = H2) := by
  unfold impl_IsFinite.wp at h
  refine of_body Try.f87 F.hm Try.func87 rfl Try.call87 (by kernel_rfl) (by simp) ?_
  refine fi_seq ?_
  refine fi_region ?_
  refine so_assign (v := (.v (.bool false))) rfl ?_
  refine so_nil ?_
  refine fi_seq ?_
  refine fi_region ?_
  refine so_move (v := (.v (.flt .f32 a0))) rfl ?_
  refine so_move (v := (.v (.flt .f32 a0))) rfl ?_
  refine so_bin rfl rfl ab_fsub ?_
  refine so_bin rfl rfl ab_feql ?_
  refine so_assign (v := (.v (.bool (fcmp .eql .f32 (fop .sub .f32 a0 a0) (cz .f32 0))))) rfl ?_
  refine so_nil ?_
  exact by_ret rfl ⟨_, h, rfl, rfl⟩
theorem impl_isOver_ok {fr : List Pc} {H : Heap} (a0 : Nat) (hs : Sep H (fr))  (K : Bool → Prop) (h : impl_isOver.wp a0 K) : OkQ Try.prog 41 [(.v (.flt .f32 a0))] H (fun r H2 => ∃ (y0 : Bool), K y0 ∧ r = (.v (.bool y0)) ∧ H = H2) := by
  unfold impl_isOver.wp at h
  refine of_body Try.f41 F.hm Try.func41 rfl Try.call41 (by kernel_rfl) (by simp) ?_
  refine fi_seq ?_
  refine fi_region ?_
  refine so_assign (v := (.v (.bool false))) rfl ?_
  refine so_nil ?_
  refine fi_seq ?_
  refine fi_region ?_
  refine so_move (v := (.v (.flt .f32 a0))) rfl ?_
  refine sv_callS (impl_IsFinite_ok a0 hs  _ h) (fun _ _ ⟨_, _, _, e⟩ => e) rfl rfl ?_
  clear h
  rintro _ _ ⟨y101, h, rfl, rfl⟩
  refine so_move (v := (.v (.bool y101))) rfl ?_
  replace h := ofT h; rcases h with ⟨c103, h⟩ | ⟨c103, h⟩
  · refine so_gyes rfl c103 ?_
    refine so_move (v := (.v (.flt .f32 a0))) rfl ?_
    refine so_gyes rfl c103 ?_
    refine so_bin rfl rfl ab_fgtr ?_
    refine so_pick_t (v := (.v (.bool (fcmp .gtr .f32 a0 (cz .f32 0))))) rfl c103 rfl ?_
    refine so_assign (v := (.v (.bool (fcmp .gtr .f32 a0 (cz .f32 0))))) rfl ?_
    refine so_nil ?_
    exact by_ret rfl ⟨_, h, rfl, rfl⟩
  · refine so_gno rfl c103 ?_
    refine so_gno rfl c103 ?_
    refine so_pick_f (v := (.v (.bool false))) rfl c103 rfl ?_
    refine so_assign (v := (.v (.bool false))) rfl ?_
    refine so_nil ?_
    exact by_ret rfl ⟨_, h, rfl, rfl⟩
theorem impl_within_ok {fr : List Pc} {H : Heap} (a0 : Int) (a1 : Int) (a2 : Int) (hs : Sep H (fr))  (K : Bool → Prop) (h : impl_within.wp a0 a1 a2 K) : OkQ Try.prog 52 [(.v (.int .i64 a0)), (.v (.int .i64 a1)), (.v (.int .i64 a2))] H (fun r H2 => ∃ (y0 : Bool), K y0 ∧ r = (.v (.bool y0)) ∧ H = H2) := by
  unfold impl_within.wp at h
  refine of_body Try.f52 F.hm Try.func52 rfl Try.call52 (by kernel_rfl) (by simp) ?_
  refine fi_seq ?_
  refine fi_region ?_
  refine so_assign (v := (.v (.bool false))) rfl ?_
  refine so_nil ?_
  refine fi_seq ?_
  refine fi_region ?_
  refine so_move (v := (.v (.int .i64 a0))) rfl ?_
  refine so_move (v := (.v (.int .i64 a1))) rfl ?_
  refine so_bin rfl rfl ab_geq ?_
  refine so_move (v := (.v (.bool (decide (a1 ≤ a0))))) rfl ?_
  replace h := ofP h; rcases h with ⟨c101, h⟩ | ⟨c101, h⟩
  · refine so_gyes rfl (decide_eq_true c101) ?_
    refine so_move (v := (.v (.int .i64 a0))) rfl ?_
    refine so_gyes rfl (decide_eq_true c101) ?_
    refine so_move (v := (.v (.int .i64 a2))) rfl ?_
    refine so_gyes rfl (decide_eq_true c101) ?_
    refine so_bin rfl rfl ab_leq ?_
    refine so_pick_t (v := (.v (.bool (decide (a0 ≤ a2))))) rfl (decide_eq_true c101) rfl ?_
    refine so_assign (v := (.v (.bool (decide (a0 ≤ a2))))) rfl ?_
    refine so_nil ?_
    exact by_ret rfl ⟨_, h, rfl, rfl⟩
  · refine so_gno rfl (decide_eq_false c101) ?_
    refine so_gno rfl (decide_eq_false c101) ?_
    refine so_gno rfl (decide_eq_false c101) ?_
    refine so_pick_f (v := (.v (.bool false))) rfl (decide_eq_false c101) rfl ?_
    refine so_assign (v := (.v (.bool false))) rfl ?_
    refine so_nil ?_
    exact by_ret rfl ⟨_, h, rfl, rfl⟩
theorem F88.ag2 : tagg Try.prog 2 = some false := by kernel_rfl
theorem F88.ti28 : (telem Try.prog 28).isSome = true := by kernel_rfl
theorem F88.tl28 : (telem Try.prog 28).bind (tsz Try.prog) = some 1 := by kernel_rfl
theorem impl_areWithin_ok {fr : List Pc} {H : Heap} (v0 : AV) (l0 : List (Int)) (a1 : Int) (hs : Sep H (fr)) (g0 : ∀ H, Sep H fr → Shows H v0 1 (enc (eInt .i64) l0)) (K : Bool → Prop) (h : impl_areWithin.wp l0 a1 K) : OkQ Try.prog 88 [(.v v0), (.v (.int .i64 a1))] H (fun r H2 => ∃ (y0 : Bool), K y0 ∧ r = (.v (.bool y0)) ∧ H = H2) := by
  unfold impl_areWithin.wp at h
  refine of_body Try.f88 F.hm Try.func88 rfl Try.call88 (by kernel_rfl) (by simp) ?_
  refine fi_seq ?_
  refine fi_region ?_
  refine so_assign (v := (.v (.bool false))) rfl ?_
  refine so_nil ?_
  refine fi_seq ?_
  refine fi_seq ?_
  refine fi_region ?_
  refine so_move (v := (.v v0)) rfl ?_
  refine sv_len (g0 _ hs) (fun _ => rfl) (by decide) rfl F88.ti28 ?_
  refine so_move (v := (.v (.int .i64 (0 : Int)))) rfl ?_
  refine so_nil ?_
  refine fi_block ?_
  refine fi_loop ?_
  refine fi_at [(1, (.v (.int .i64 a1))), (7, (.v v0)), (8, (.v (.int .i64 (l0.length : Int)))), (9, (.v (.int .i64 (0 : Int))))] ⟨rfl, rfl, rfl, rfl, trivial⟩ ?_
  refine h (fun (x102 : Int) => ∀ (s : Nat → TV), Fin _ _ (updL s [(1, (.v (.int .i64 a1))), (7, (.v v0)), (8, (.v (.int .i64 (l0.length : Int)))), (9, (.v (.int .i64 x102)))]) _ _) ?_ _
  intro x102 h s108
  refine fi_inLoop ?_
  refine fi_seq ?_
  refine fi_region ?_
  refine so_bin rfl rfl ab_lss ?_
  refine so_nil ?_
  refine fi_seq ?_
  replace h := ofP h; rcases h with ⟨c103, h⟩ | ⟨c103, h⟩
  · refine fi_true rfl (decide_eq_true c103) ?_
    refine fi_skip ?_
    refine fi_seq ?_
    refine fi_block ?_
    refine fi_seq ?_
    refine fi_region ?_
    obtain ⟨c104, h⟩ := h
    refine sv_idx (g0 _ hs) c104 (fun _ => rfl) (by decide) rfl rfl F88.tl28 ?_
    refine sv_cell (g0 _ hs) c104 (0 : Int) 0 (fun x => (AV.int .i64 x)) (fun _ => rfl) (fun _ => rfl) rfl F88.ag2 ?_
    refine so_assign (v := (.v (.int .i64 (l0.getD (x102).toNat (0 : Int))))) rfl ?_
    refine so_nil ?_
    refine fi_seq ?_
    refine fi_region ?_
    refine so_move (v := (.v (.int .i64 (l0.getD (x102).toNat (0 : Int))))) rfl ?_
    refine so_move (v := (.v (.int .i64 a1))) rfl ?_
    refine so_un rfl au_neg ?_
    refine so_move (v := (.v (.int .i64 a1))) rfl ?_
    refine sv_callS (impl_within_ok (l0.getD (x102).toNat (0 : Int)) (IntKind.i64.wrap (0 - a1)) a1 hs  _ h) (fun _ _ ⟨_, _, _, e⟩ => e) rfl rfl ?_
    clear h
    rintro _ _ ⟨y105, h, rfl, rfl⟩
    refine so_un rfl au_not ?_
    refine so_nil ?_
    replace h := ofT h; rcases h with ⟨c107, h⟩ | ⟨c107, h⟩
    · refine fi_false rfl (not_f c107) ?_
      refine fi_skip ?_
      refine fi_inBlock ?_
      refine fi_region ?_
      refine so_bin rfl rfl ab_add ?_
      refine so_move (v := (.v (.int .i64 (IntKind.i64.wrap (x102 + (1 : Int)))))) rfl ?_
      refine so_nil ?_
      exact fi_at [(1, (.v (.int .i64 a1))), (7, (.v v0)), (8, (.v (.int .i64 (l0.length : Int)))), (9, (.v (.int .i64 (IntKind.i64.wrap (x102 + (1 : Int))))))] ⟨rfl, rfl, rfl, rfl, trivial⟩ (h _)
    · refine fi_true rfl (not_t c107) ?_
      refine fi_seq ?_
      refine fi_region ?_
      refine so_assign (v := (.v (.bool false))) rfl ?_
      refine so_nil ?_
      exact by_ret rfl ⟨_, h, rfl, rfl⟩
  · refine fi_false rfl (decide_eq_false c103) ?_
    refine fi_exit rfl ?_
    refine fi_seq ?_
    refine fi_region ?_
    refine so_assign (v := (.v (.bool true))) rfl ?_
    refine so_nil ?_
    exact by_ret rfl ⟨_, h, rfl, rfl⟩
theorem F43.ti28 : (telem Try.prog 28).isSome = true := by kernel_rfl
theorem impl_AreIntegers_ok {fr : List Pc} {H : Heap} (v0 : AV) (l0 : List (Int)) (hs : Sep H (fr)) (g0 : ∀ H, Sep H fr → Shows H v0 1 (enc (eInt .i64) l0)) (K : Bool → Prop) (h : impl_AreIntegers.wp l0 K) : OkQ Try.prog 43 [(.v v0)] H (fun r H2 => ∃ (y0 : Bool), K y0 ∧ r = (.v (.bool y0)) ∧ H = H2) := by
  unfold impl_AreIntegers.wp at h
  refine of_body Try.f43 F.hm Try.func43 rfl Try.call43 (by kernel_rfl) (by simp) ?_
  refine fi_seq ?_
  refine fi_region ?_
  refine so_assign (v := (.v (.bool false))) rfl ?_
  refine so_nil ?_
  refine fi_seq ?_
  refine fi_region ?_
  refine so_move (v := (.v v0)) rfl ?_
  refine sv_len (g0 _ hs) (fun _ => rfl) (by decide) rfl F43.ti28 ?_
  refine sv_callS (impl_within_ok (l0.length : Int) (1 : Int) (128 : Int) hs  _ h) (fun _ _ ⟨_, _, _, e⟩ => e) rfl rfl ?_
  clear h
  rintro _ _ ⟨y101, h, rfl, rfl⟩
  refine so_move (v := (.v (.bool y101))) rfl ?_
  replace h := ofT h; rcases h with ⟨c103, h⟩ | ⟨c103, h⟩
  · refine so_gyes rfl c103 ?_
    refine so_move (v := (.v v0)) rfl ?_
    refine so_gyes rfl c103 ?_
    refine sv_callS (impl_areWithin_ok v0 l0 (1000000 : Int) hs (fun _ hs => (g0 _ hs)) _ h) (fun _ _ ⟨_, _, _, e⟩ => e) rfl rfl ?_
    clear h
    rintro _ _ ⟨y104, h, rfl, rfl⟩
    refine so_pick_t (v := (.v (.bool y104))) rfl c103 rfl ?_
    refine so_assign (v := (.v (.bool y104))) rfl ?_
    refine so_nil ?_
    exact by_ret rfl ⟨_, h, rfl, rfl⟩
  · refine so_gno rfl c103 ?_
    refine so_gno rfl c103 ?_
    refine so_pick_f (v := (.v (.bool false))) rfl c103 rfl ?_
    refine so_assign (v := (.v (.bool false))) rfl ?_
    refine so_nil ?_
    exact by_ret rfl ⟨_, h, rfl, rfl⟩
theorem impl_isShare_ok {fr : List Pc} {H : Heap} (a0 : Nat) (hs : Sep H (fr))  (K : Bool → Prop) (h : impl_isShare.wp a0 K) : OkQ Try.prog 44 [(.v (.flt .f32 a0))] H (fun r H2 => ∃ (y0 : Bool), K y0 ∧ r = (.v (.bool y0)) ∧ H = H2) := by
  unfold impl_isShare.wp at h
  refine of_body Try.f44 F.hm Try.func44 rfl Try.call44 (by kernel_rfl) (by simp) ?_
  refine fi_seq ?_
  refine fi_region ?_
  refine so_assign (v := (.v (.bool false))) rfl ?_
  refine so_nil ?_
  refine fi_seq ?_
  refine fi_region ?_
  refine so_move (v := (.v (.flt .f32 a0))) rfl ?_
  refine so_bin rfl rfl ab_fgeq ?_
  refine so_move (v := (.v (.bool (fcmp .geq .f32 a0 (cz .f32 0))))) rfl ?_
  replace h := ofT h; rcases h with ⟨c101, h⟩ | ⟨c101, h⟩
  · refine so_gyes rfl c101 ?_
    refine so_move (v := (.v (.flt .f32 a0))) rfl ?_
    refine so_gyes rfl c101 ?_
    refine so_bin rfl rfl ab_fleq ?_
    refine so_pick_t (v := (.v (.bool (fcmp .leq .f32 a0 (cz .f32 1065353216))))) rfl c101 rfl ?_
    refine so_assign (v := (.v (.bool (fcmp .leq .f32 a0 (cz .f32 1065353216))))) rfl ?_
    refine so_nil ?_
    exact by_ret rfl ⟨_, h, rfl, rfl⟩
  · refine so_gno rfl c101 ?_
    refine so_gno rfl c101 ?_
    refine so_pick_f (v := (.v (.bool false))) rfl c101 rfl ?_
    refine so_assign (v := (.v (.bool false))) rfl ?_
    refine so_nil ?_
    exact by_ret rfl ⟨_, h, rfl, rfl⟩
theorem F86.ag24 : tagg Try.prog 24 = some false := by kernel_rfl
theorem F86.ag26 : tagg Try.prog 26 = some false := by kernel_rfl
theorem F86.ti24 : (telem Try.prog 24).isSome = true := by kernel_rfl
theorem F86.ti72 : (telem Try.prog 72).isSome = true := by kernel_rfl
theorem F86.tl24 : (telem Try.prog 24).bind (tsz Try.prog) = some 1 := by kernel_rfl
theorem F86.tl72 : (telem Try.prog 72).bind (tsz Try.prog) = some 1 := by kernel_rfl
theorem impl_areFinite_ok {fr : List Pc} {H : Heap} (v0 : AV) (w0 : List (List AV)) (l0 : List (List (Nat))) (hs : Sep H (fr)) (g0 : ∀ H, Sep H fr → DSh H v0 1 R_LeFlt_f32_o l0 w0) (K : Bool → Prop) (h : impl_areFinite.wp l0 K) : OkQ Try.prog 86 [(.v v0)] H (fun r H2 => ∃ (y0 : Bool), K y0 ∧ r = (.v (.bool y0)) ∧ H = H2) := by
  unfold impl_areFinite.wp at h
  refine of_body Try.f86 F.hm Try.func86 rfl Try.call86 (by kernel_rfl) (by simp) ?_
  refine fi_seq ?_
  refine fi_region ?_
  refine so_assign (v := (.v (.bool false))) rfl ?_
  refine so_nil ?_
  refine fi_seq ?_
  refine fi_seq ?_
  refine fi_region ?_
  refine so_move (v := (.v v0)) rfl ?_
  refine sd_len ((g0 _ hs) : DSh _ _ 1 R_LeFlt_f32_o l0 w0) (by decide) rfl F86.ti72 ?_
  refine so_move (v := (.v (.int .i64 (0 : Int)))) rfl ?_
  refine so_nil ?_
  refine fi_block ?_
  refine fi_loop ?_
  refine fi_at [(7, (.v v0)), (8, (.v (.int .i64 (l0.length : Int)))), (9, (.v (.int .i64 (0 : Int))))] ⟨rfl, rfl, rfl, trivial⟩ ?_
  refine h (fun (x102 : Int) => ∀ (s : Nat → TV), Fin _ _ (updL s [(7, (.v v0)), (8, (.v (.int .i64 (l0.length : Int)))), (9, (.v (.int .i64 x102)))]) _ _) ?_ _
  intro x102 h s114
  refine fi_inLoop ?_
  refine fi_seq ?_
  refine fi_region ?_
  refine so_bin rfl rfl ab_lss ?_
  refine so_nil ?_
  refine fi_seq ?_
  replace h := ofP h; rcases h with ⟨c103, h⟩ | ⟨c103, h⟩
  · refine fi_true rfl (decide_eq_true c103) ?_
    refine fi_skip ?_
    refine fi_seq ?_
    refine fi_block ?_
    refine fi_seq ?_
    refine fi_region ?_
    obtain ⟨c104, h⟩ := h
    refine sd_idx ((g0 _ hs) : DSh _ _ 1 R_LeFlt_f32_o l0 w0) c104 ([] : List (Nat)) (by decide) rfl rfl F86.tl72 ?_
    refine su_ld ((((g0 _ hs) : DSh _ _ 1 R_LeFlt_f32_o l0 w0)).at (by decide) c104 ([] : List (Nat))).2.2 0 (congrArg (fun c => c[0]?) ((((g0 _ hs) : DSh _ _ 1 R_LeFlt_f32_o l0 w0)).at (by decide) c104 ([] : List (Nat))).2.1.1) rfl F86.ag24 ?_
    refine so_assign (v := (.v ((w0.getD (x102).toNat []).getD 0 .und))) rfl ?_
    refine so_nil ?_
    refine fi_seq ?_
    refine fi_region ?_
    refine so_move (v := (.v ((w0.getD (x102).toNat []).getD 0 .und))) rfl ?_
    refine sv_len ((((g0 _ hs) : DSh _ _ 1 R_LeFlt_f32_o l0 w0)).at (by decide) c104 ([] : List (Nat))).2.1.2 (fun _ => rfl) (by decide) rfl F86.ti24 ?_
    refine so_move (v := (.v (.int .i64 (0 : Int)))) rfl ?_
    refine so_nil ?_
    refine fi_block ?_
    refine fi_loop ?_
    refine fi_at [(7, (.v v0)), (8, (.v (.int .i64 (l0.length : Int)))), (9, (.v (.int .i64 x102))), (13, (.v ((w0.getD (x102).toNat []).getD 0 .und))), (14, (.v (.int .i64 ((l0.getD (x102).toNat ([] : List (Nat))).length : Int)))), (15, (.v (.int .i64 (0 : Int))))] ⟨rfl, rfl, rfl, rfl, rfl, rfl, trivial⟩ ?_
    refine h (fun (x106 : Int) => ∀ (s : Nat → TV), Fin _ _ (updL s [(7, (.v v0)), (8, (.v (.int .i64 (l0.length : Int)))), (9, (.v (.int .i64 x102))), (13, (.v ((w0.getD (x102).toNat []).getD 0 .und))), (14, (.v (.int .i64 ((l0.getD (x102).toNat ([] : List (Nat))).length : Int)))), (15, (.v (.int .i64 x106)))]) _ _) ?_ _
    intro x106 h s112
    refine fi_inLoop ?_
    refine fi_seq ?_
    refine fi_region ?_
    refine so_bin rfl rfl ab_lss ?_
    refine so_nil ?_
    refine fi_seq ?_
    replace h := ofP h; rcases h with ⟨c107, h⟩ | ⟨c107, h⟩
    · refine fi_true rfl (decide_eq_true c107) ?_
      refine fi_skip ?_
      refine fi_seq ?_
      refine fi_block ?_
      refine fi_seq ?_
      refine fi_region ?_
      obtain ⟨c108, h⟩ := h
      refine sv_idx ((((g0 _ hs) : DSh _ _ 1 R_LeFlt_f32_o l0 w0)).at (by decide) c104 ([] : List (Nat))).2.1.2 c108 (fun _ => rfl) (by decide) rfl rfl F86.tl24 ?_
      refine sv_cell ((((g0 _ hs) : DSh _ _ 1 R_LeFlt_f32_o l0 w0)).at (by decide) c104 ([] : List (Nat))).2.1.2 c108 (0 : Nat) 0 (fun x => (AV.flt .f32 x)) (fun _ => rfl) (fun _ => rfl) rfl F86.ag26 ?_
      refine so_assign (v := (.v (.flt .f32 ((l0.getD (x102).toNat ([] : List (Nat))).getD (x106).toNat (0 : Nat))))) rfl ?_
      refine so_nil ?_
      refine fi_seq ?_
      refine fi_region ?_
      refine so_move (v := (.v (.flt .f32 ((l0.getD (x102).toNat ([] : List (Nat))).getD (x106).toNat (0 : Nat))))) rfl ?_
      refine sv_callS (impl_IsFinite_ok ((l0.getD (x102).toNat ([] : List (Nat))).getD (x106).toNat (0 : Nat)) hs  _ h) (fun _ _ ⟨_, _, _, e⟩ => e) rfl rfl ?_
      clear h
      rintro _ _ ⟨y109, h, rfl, rfl⟩
      refine so_un rfl au_not ?_
      refine so_nil ?_
      replace h := ofT h; rcases h with ⟨c111, h⟩ | ⟨c111, h⟩
      · refine fi_false rfl (not_f c111) ?_
        refine fi_skip ?_
        refine fi_inBlock ?_
        refine fi_region ?_
        refine so_bin rfl rfl ab_add ?_
        refine so_move (v := (.v (.int .i64 (IntKind.i64.wrap (x106 + (1 : Int)))))) rfl ?_
        refine so_nil ?_
        exact fi_at [(7, (.v v0)), (8, (.v (.int .i64 (l0.length : Int)))), (9, (.v (.int .i64 x102))), (13, (.v ((w0.getD (x102).toNat []).getD 0 .und))), (14, (.v (.int .i64 ((l0.getD (x102).toNat ([] : List (Nat))).length : Int)))), (15, (.v (.int .i64 (IntKind.i64.wrap (x106 + (1 : Int))))))] ⟨rfl, rfl, rfl, rfl, rfl, rfl, trivial⟩ (h _)
      · refine fi_true rfl (not_t c111) ?_
        refine fi_seq ?_
        refine fi_region ?_
        refine so_assign (v := (.v (.bool false))) rfl ?_
        refine so_nil ?_
        exact by_ret rfl ⟨_, h, rfl, rfl⟩
    · refine fi_false rfl (decide_eq_false c107) ?_
      refine fi_exit rfl ?_
      refine fi_inBlock ?_
      refine fi_region ?_
      refine so_bin rfl rfl ab_add ?_
      refine so_move (v := (.v (.int .i64 (IntKind.i64.wrap (x102 + (1 : Int)))))) rfl ?_
      refine so_nil ?_
      exact fi_at [(7, (.v v0)), (8, (.v (.int .i64 (l0.length : Int)))), (9, (.v (.int .i64 (IntKind.i64.wrap (x102 + (1 : Int))))))] ⟨rfl, rfl, rfl, trivial⟩ (h _)
  · refine fi_false rfl (decide_eq_false c103) ?_
    refine fi_exit rfl ?_
    refine fi_seq ?_
    refine fi_region ?_
    refine so_assign (v := (.v (.bool true))) rfl ?_
    refine so_nil ?_
    exact by_ret rfl ⟨_, h, rfl, rfl⟩
theorem F45.sz24 : tsz Try.prog 24 = some 1 := by kernel_rfl
theorem F45.te72 : telem Try.prog 72 = some 24 := by kernel_rfl
theorem F45.ze24 : tzero Try.prog 24 = some [.nilsl] := by kernel_rfl
theorem impl_finiteList_ok {fr : List Pc} {H : Heap} (v0 : AV) (l0 : List (Nat)) (hs : Sep H (fr)) (g0 : ∀ H, Sep H fr → Shows H v0 1 (enc (eFlt .f32) l0)) (K : Bool → Bool → Prop) (h : impl_finiteList.wp l0 K) : OkQ Try.prog 45 [(.v v0)] H (fun r H2 => ∃ (y0 : Bool) (y1 : Bool), K y0 y1 ∧ r = (.t [(.v (bif y0 then v0 else .nilsl)), (.v (.bool y1))]) ∧ Sep H2 (fr)) := by
  unfold impl_finiteList.wp at h
  refine of_body Try.f45 F.hm Try.func45 rfl Try.call45 (by kernel_rfl) (by simp) ?_
  refine fi_seq ?_
  refine fi_region ?_
  refine so_assign (v := (.v .nilsl)) rfl ?_
  refine so_assign (v := (.v (.bool false))) rfl ?_
  refine so_nil ?_
  refine fi_seq ?_
  refine fi_seq ?_
  refine fi_region ?_
  refine so_move (v := (.v v0)) rfl ?_
  refine sd_bslice hs [[v0]] F45.te72 F45.sz24 F45.ze24 rfl rfl rfl (by simp) (fac (stc (g0 _ hs).stor stn) fan) (by decide) rfl nofun (fun v101 H102 _ hs => ?_)
  refine sv_callS (impl_areFinite_ok v101 ([[v0]]) ([l0] : List (List (Nat))) hs (fun _ hs => ⟨hs.shows 0 rfl, by simp, ⟨⟨rfl, (g0 _ hs.tl)⟩, trivial⟩⟩) _ h) (fun _ _ ⟨_, _, _, e⟩ => e) rfl rfl ?_
  clear h
  rintro _ _ ⟨y104, h, rfl, rfl⟩
  refine so_un rfl au_not ?_
  refine so_nil ?_
  replace h := ofT h; rcases h with ⟨c106, h⟩ | ⟨c106, h⟩
  · refine fi_false rfl (not_f c106) ?_
    refine fi_skip ?_
    refine fi_seq ?_
    refine fi_region ?_
    refine so_move (v := (.v v0)) rfl ?_
    refine so_assign (v := (.v v0)) rfl ?_
    refine so_assign (v := (.v (.bool true))) rfl ?_
    refine so_nil ?_
    exact by_ret rfl ⟨_, _, h, rfl, (Sep.del 0 hs)⟩
  · refine fi_true rfl (not_t c106) ?_
    refine fi_seq ?_
    refine fi_region ?_
    refine so_assign (v := (.v .nilsl)) rfl ?_
    refine so_assign (v := (.v (.bool false))) rfl ?_
    refine so_nil ?_
    exact by_ret rfl ⟨_, _, h, rfl, (Sep.del 0 hs)⟩
theorem F10.ag2 : tagg Try.prog 2 = some false := by kernel_rfl
theorem F10.fl26 : tflt Try.prog 26 = some .f32 := by kernel_rfl
theorem F10.in26 : tint Try.prog 26 = none := by kernel_rfl
theorem F10.sz26 : tsz Try.prog 26 = some 1 := by kernel_rfl
theorem F10.ta24_24 : tapp Try.prog 24 24 = some (1, 4) := by kernel_rfl
theorem F10.te24 : telem Try.prog 24 = some 26 := by kernel_rfl
theorem F10.ti28 : (telem Try.prog 28).isSome = true := by kernel_rfl
theorem F10.tl28 : (telem Try.prog 28).bind (tsz Try.prog) = some 1 := by kernel_rfl
theorem F10.us2 : (Try.prog.underlying 2).isSome = true := by kernel_rfl
theorem F10.ze26 : tzero Try.prog 26 = some [(.flt .f32 (0 : Nat))] := by kernel_rfl
theorem impl_ListOfScale_ok {fr : List Pc} {H : Heap} (v0 : AV) (l0 : List (Int)) (a1 : Nat) (a2 : Nat) (hs : Sep H (fr)) (g0 : ∀ H, Sep H fr → Shows H v0 1 (enc (eInt .i64) l0)) (K : (List (Nat)) → Bool → Prop) (h : impl_ListOfScale.wp l0 a1 a2 K) : OkQ Try.prog 10 [(.v v0), (.v (.flt .f32 a1)), (.v (.flt .f32 a2))] H (fun r H2 => ∃ (y0 : List (Nat)) (y1 : Bool), K y0 y1 ∧ ∃ (w0_ : AV), r = (.t [(.v w0_), (.v (.bool y1))]) ∧ Sep H2 (Pc.osl w0_ 1 (enc (eFlt .f32) y0) :: fr)) := by
  unfold impl_ListOfScale.wp at h
  refine of_body Try.f10 F.hm Try.func10 rfl Try.call10 (by kernel_rfl) (by simp) ?_
  refine fi_seq ?_
  refine fi_region ?_
  refine so_assign (v := (.v .nilsl)) rfl ?_
  refine so_assign (v := (.v (.bool false))) rfl ?_
  refine so_nil ?_
  refine fi_seq ?_
  refine fi_seq ?_
  refine fi_region ?_
  refine so_move (v := (.v v0)) rfl ?_
  refine sv_callS (impl_AreIntegers_ok v0 l0 hs (fun _ hs => (g0 _ hs)) _ h) (fun _ _ ⟨_, _, _, e⟩ => e) rfl rfl ?_
  clear h
  rintro _ _ ⟨y101, h, rfl, rfl⟩
  refine so_un rfl au_not ?_
  refine so_move (v := (.v (.bool (!y101)))) rfl ?_
  replace h := ofT h; rcases h with ⟨c103, h⟩ | ⟨c103, h⟩
  · refine so_gyes rfl (not_f c103) ?_
    refine so_move (v := (.v (.flt .f32 a1))) rfl ?_
    refine so_gyes rfl (not_f c103) ?_
    refine sv_callS (impl_isOver_ok a1 hs  _ h) (fun _ _ ⟨_, _, _, e⟩ => e) rfl rfl ?_
    clear h
    rintro _ _ ⟨y104, h, rfl, rfl⟩
    refine so_gyes rfl (not_f c103) ?_
    refine so_un rfl au_not ?_
    refine so_pick_f (v := (.v (.bool (!y104)))) rfl (not_f c103) rfl ?_
    refine so_move (v := (.v (.bool (!y104)))) rfl ?_
    replace h := ofT h; rcases h with ⟨c106, h⟩ | ⟨c106, h⟩
    · refine so_gyes rfl (not_f c106) ?_
      refine so_move (v := (.v (.flt .f32 a2))) rfl ?_
      refine so_gyes rfl (not_f c106) ?_
      refine sv_callS (impl_isShare_ok a2 hs  _ h) (fun _ _ ⟨_, _, _, e⟩ => e) rfl rfl ?_
      clear h
      rintro _ _ ⟨y107, h, rfl, rfl⟩
      refine so_gyes rfl (not_f c106) ?_
      refine so_un rfl au_not ?_
      refine so_pick_f (v := (.v (.bool (!y107)))) rfl (not_f c106) rfl ?_
      refine so_nil ?_
      replace h := ofT h; rcases h with ⟨c109, h⟩ | ⟨c109, h⟩
      · refine fi_false rfl (not_f c109) ?_
        refine fi_skip ?_
        refine fi_seq ?_
        refine fi_region ?_
        refine sv_bslice hs (eFlt .f32) ([] : List (Nat)) [] F10.te24 F10.sz26 F10.ze26 rfl rfl rfl rfl (fun _ => rfl) rfl (by decide) nofun (fun v110 H111 nv110 hs => ?_)
        refine so_assign (v := (.v v110)) rfl ?_
        refine so_nil ?_
        refine fi_seq ?_
        refine fi_seq ?_
        refine fi_region ?_
        refine so_move (v := (.v v0)) rfl ?_
        refine sv_len (g0 _ hs.tl) (fun _ => rfl) (by decide) rfl F10.ti28 ?_
        refine so_move (v := (.v (.int .i64 (0 : Int)))) rfl ?_
        refine so_nil ?_
        refine fi_block ?_
        refine fi_loop ?_
        refine fi_at [(1, (.v (.flt .f32 a1))), (2, (.v (.flt .f32 a2))), (8, (.v v110)), (25, (.v v0)), (26, (.v (.int .i64 (l0.length : Int)))), (27, (.v (.int .i64 (0 : Int))))] ⟨rfl, rfl, rfl, rfl, rfl, rfl, trivial⟩ ?_
        refine h (fun (out144 : List (Nat)) (x146 : Int) => ∀ (s : Nat → TV) (H : Heap) (v145 : AV) (nv145 : v145 ≠ .nilsl), Sep H (Pc.osl v145 1 (enc (eFlt .f32) out144) :: fr) → Fin _ _ (updL s [(1, (.v (.flt .f32 a1))), (2, (.v (.flt .f32 a2))), (8, (.v v145)), (25, (.v v0)), (26, (.v (.int .i64 (l0.length : Int)))), (27, (.v (.int .i64 x146)))]) H _) ?_ _ _ _ nv110 hs
        intro out144 x146 h s173 H174 v145 nv145 hs
        refine fi_inLoop ?_
        refine fi_seq ?_
        refine fi_region ?_
        refine so_bin rfl rfl ab_lss ?_
        refine so_nil ?_
        refine fi_seq ?_
        replace h := ofP h; rcases h with ⟨c147, h⟩ | ⟨c147, h⟩
        · refine fi_true rfl (decide_eq_true c147) ?_
          refine fi_skip ?_
          refine fi_seq ?_
          refine fi_block ?_
          refine fi_seq ?_
          refine fi_region ?_
          obtain ⟨c148, h⟩ := h
          refine sv_idx (g0 _ hs.tl) c148 (fun _ => rfl) (by decide) rfl rfl F10.tl28 ?_
          refine sv_cell (g0 _ hs.tl) c148 (0 : Int) 0 (fun x => (AV.int .i64 x)) (fun _ => rfl) (fun _ => rfl) rfl F10.ag2 ?_
          refine so_assign (v := (.v (.int .i64 (l0.getD (x146).toNat (0 : Int))))) rfl ?_
          refine so_nil ?_
          refine fi_block ?_
          refine fi_seq ?_
          refine fi_region ?_
          refine so_move (v := (.v (.int .i64 (l0.getD (x146).toNat (0 : Int))))) rfl ?_
          refine so_bin rfl rfl ab_eql ?_
          refine so_assign (v := (.v (.bool (decide ((l0.getD (x146).toNat (0 : Int)) = (0 : Int)))))) rfl ?_
          refine so_nil ?_
          replace h := ofP h; rcases h with ⟨c149, h⟩ | ⟨c149, h⟩
          · refine fi_true rfl (decide_eq_true c149) ?_
            refine fi_region ?_
            refine so_move (v := (.v v145)) rfl ?_
            refine sv_bslice hs (eFlt .f32) ([(cz .f32 0)] : List (Nat)) [[(.flt .f32 (cz .f32 0))]] F10.te24 F10.sz26 F10.ze26 rfl rfl rfl rfl (fun _ => rfl) rfl (by decide) nofun (fun v150 H151 nv150 hs => ?_)
            obtain ⟨c155, h⟩ := h
            refine sv_app hs 1 rfl (hs.shows 0 rfl) (fun _ => rfl) (by decide) F10.ta24_24 (by decide) c155 rfl rfl nofun (fun v153 H154 kv153 hs => ?_)
            replace hs := hs.del 0
            have nv153 := kv153 nv145
            refine so_assign (v := (.v v153)) rfl ?_
            refine so_nil ?_
            refine fi_inBlock ?_
            refine fi_inBlock ?_
            refine fi_region ?_
            refine so_bin rfl rfl ab_add ?_
            refine so_move (v := (.v (.int .i64 (IntKind.i64.wrap (x146 + (1 : Int)))))) rfl ?_
            refine so_nil ?_
            exact fi_at [(1, (.v (.flt .f32 a1))), (2, (.v (.flt .f32 a2))), (8, (.v v153)), (25, (.v v0)), (26, (.v (.int .i64 (l0.length : Int)))), (27, (.v (.int .i64 (IntKind.i64.wrap (x146 + (1 : Int))))))] ⟨rfl, rfl, rfl, rfl, rfl, rfl, trivial⟩ (h _ _ _ nv153 hs)
          · refine fi_false rfl (decide_eq_false c149) ?_
            refine fi_seq ?_
            refine fi_region ?_
            refine so_move (v := (.v (.int .i64 (l0.getD (x146).toNat (0 : Int))))) rfl ?_
            refine so_bin rfl rfl ab_gtr ?_
            refine so_assign (v := (.v (.bool (decide ((0 : Int) < (l0.getD (x146).toNat (0 : Int))))))) rfl ?_
            refine so_nil ?_
            replace h := ofP h; rcases h with ⟨c156, h⟩ | ⟨c156, h⟩
            · refine fi_true rfl (decide_eq_true c156) ?_
              refine fi_region ?_
              refine so_move (v := (.v v145)) rfl ?_
              refine so_move (v := (.v (.flt .f32 a1))) rfl ?_
              refine so_move (v := (.v (.int .i64 (l0.getD (x146).toNat (0 : Int))))) rfl ?_
              refine sv_if rfl F10.us2 F10.in26 F10.fl26 ?_
              refine so_move (v := (.v (.flt .f32 a2))) rfl ?_
              refine so_bin rfl rfl ab_fadd ?_
              refine so_bin rfl rfl ab_fmul ?_
              refine sv_bslice hs (eFlt .f32) ([(fop .mul .f32 a1 (fop .add .f32 (itof .f32 (l0.getD (x146).toNat (0 : Int))) a2))] : List (Nat)) [[(.flt .f32 (fop .mul .f32 a1 (fop .add .f32 (itof .f32 (l0.getD (x146).toNat (0 : Int))) a2)))]] F10.te24 F10.sz26 F10.ze26 rfl rfl rfl rfl (fun _ => rfl) rfl (by decide) nofun (fun v157 H158 nv157 hs => ?_)
              obtain ⟨c162, h⟩ := h
              refine sv_app hs 1 rfl (hs.shows 0 rfl) (fun _ => rfl) (by decide) F10.ta24_24 (by decide) c162 rfl rfl nofun (fun v160 H161 kv160 hs => ?_)
              replace hs := hs.del 0
              have nv160 := kv160 nv145
              refine so_assign (v := (.v v160)) rfl ?_
              refine so_nil ?_
              refine fi_inBlock ?_
              refine fi_inBlock ?_
              refine fi_region ?_
              refine so_bin rfl rfl ab_add ?_
              refine so_move (v := (.v (.int .i64 (IntKind.i64.wrap (x146 + (1 : Int)))))) rfl ?_
              refine so_nil ?_
              exact fi_at [(1, (.v (.flt .f32 a1))), (2, (.v (.flt .f32 a2))), (8, (.v v160)), (25, (.v v0)), (26, (.v (.int .i64 (l0.length : Int)))), (27, (.v (.int .i64 (IntKind.i64.wrap (x146 + (1 : Int))))))] ⟨rfl, rfl, rfl, rfl, rfl, rfl, trivial⟩ (h _ _ _ nv160 hs)
            · refine fi_false rfl (decide_eq_false c156) ?_
              refine fi_region ?_
              refine so_move (v := (.v v145)) rfl ?_
              refine so_move (v := (.v (.flt .f32 a1))) rfl ?_
              refine so_move (v := (.v (.int .i64 (l0.getD (x146).toNat (0 : Int))))) rfl ?_
              refine sv_if rfl F10.us2 F10.in26 F10.fl26 ?_
              refine so_move (v := (.v (.flt .f32 a2))) rfl ?_
              refine so_bin rfl rfl ab_fsub ?_
              refine so_bin rfl rfl ab_fmul ?_
              refine sv_bslice hs (eFlt .f32) ([(fop .mul .f32 a1 (fop .sub .f32 (itof .f32 (l0.getD (x146).toNat (0 : Int))) a2))] : List (Nat)) [[(.flt .f32 (fop .mul .f32 a1 (fop .sub .f32 (itof .f32 (l0.getD (x146).toNat (0 : Int))) a2)))]] F10.te24 F10.sz26 F10.ze26 rfl rfl rfl rfl (fun _ => rfl) rfl (by decide) nofun (fun v163 H164 nv163 hs => ?_)
              obtain ⟨c168, h⟩ := h
              refine sv_app hs 1 rfl (hs.shows 0 rfl) (fun _ => rfl) (by decide) F10.ta24_24 (by decide) c168 rfl rfl nofun (fun v166 H167 kv166 hs => ?_)
              replace hs := hs.del 0
              have nv166 := kv166 nv145
              refine so_assign (v := (.v v166)) rfl ?_
              refine so_nil ?_
              refine fi_inBlock ?_
              refine fi_inBlock ?_
              refine fi_region ?_
              refine so_bin rfl rfl ab_add ?_
              refine so_move (v := (.v (.int .i64 (IntKind.i64.wrap (x146 + (1 : Int)))))) rfl ?_
              refine so_nil ?_
              exact fi_at [(1, (.v (.flt .f32 a1))), (2, (.v (.flt .f32 a2))), (8, (.v v166)), (25, (.v v0)), (26, (.v (.int .i64 (l0.length : Int)))), (27, (.v (.int .i64 (IntKind.i64.wrap (x146 + (1 : Int))))))] ⟨rfl, rfl, rfl, rfl, rfl, rfl, trivial⟩ (h _ _ _ nv166 hs)
        · refine fi_false rfl (decide_eq_false c147) ?_
          refine fi_exit rfl ?_
          refine fi_seq ?_
          refine fi_region ?_
          refine so_move (v := (.v v145)) rfl ?_
          refine sv_call (impl_finiteList_ok v145 out144 hs (fun _ hs => (hs.shows 0 rfl)) _ h) rfl rfl nofun ?_
          clear h hs
          rintro _ H171 ⟨y169, y170, h, rfl, hs⟩
          replace h := ofT h; rcases h with ⟨c172, h⟩ | ⟨c172, h⟩
          · subst c172
            refine so_extract rfl rfl rfl ?_
            refine so_extract rfl rfl rfl ?_
            refine so_assign (v := (.v v145)) rfl ?_
            refine so_assign (v := (.v (.bool y170))) rfl ?_
            refine so_nil ?_
            exact by_ret rfl ⟨_, _, h, _, rfl, hs⟩
          · subst c172
            refine so_extract rfl rfl rfl ?_
            refine so_extract rfl rfl rfl ?_
            refine so_assign (v := (.v .nilsl)) rfl ?_
            refine so_assign (v := (.v (.bool y170))) rfl ?_
            refine so_nil ?_
            exact by_ret rfl ⟨_, _, h, _, rfl, (Sep.nil (Sep.del 0 hs) 1)⟩
      · refine fi_true rfl (not_t c109) ?_
        refine fi_seq ?_
        refine fi_region ?_
        refine so_assign (v := (.v .nilsl)) rfl ?_
        refine so_assign (v := (.v (.bool false))) rfl ?_
        refine so_nil ?_
        exact by_ret rfl ⟨_, _, h, _, rfl, (Sep.nil hs 1)⟩
    · refine so_gno rfl (not_t c106) ?_
      refine so_gno rfl (not_t c106) ?_
      refine so_gno rfl (not_t c106) ?_
      refine so_pick_t (v := (.v (.bool true))) rfl (not_t c106) rfl ?_
      refine so_nil ?_
      refine fi_true rfl rfl ?_
      refine fi_seq ?_
      refine fi_region ?_
      refine so_assign (v := (.v .nilsl)) rfl ?_
      refine so_assign (v := (.v (.bool false))) rfl ?_
      refine so_nil ?_
      exact by_ret rfl ⟨_, _, h, _, rfl, (Sep.nil hs 1)⟩
  · refine so_gno rfl (not_t c103) ?_
    refine so_gno rfl (not_t c103) ?_
    refine so_gno rfl (not_t c103) ?_
    refine so_pick_t (v := (.v (.bool true))) rfl (not_t c103) rfl ?_
    refine so_move (v := (.v (.bool true))) rfl ?_
    refine so_gno rfl rfl ?_
    refine so_gno rfl rfl ?_
    refine so_gno rfl rfl ?_
    refine so_pick_t (v := (.v (.bool true))) rfl rfl rfl ?_
    refine so_nil ?_
    refine fi_true rfl rfl ?_
    refine fi_seq ?_
    refine fi_region ?_
    refine so_assign (v := (.v .nilsl)) rfl ?_
    refine so_assign (v := (.v (.bool false))) rfl ?_
    refine so_nil ?_
    exact by_ret rfl ⟨_, _, h, _, rfl, (Sep.nil hs 1)⟩
theorem laws_r8Gap_ok {fr : List Pc} {H : Heap} (a0 : Nat) (a1 : Nat) (hs : Sep H (fr))  (K : Nat → Prop) (h : laws_r8Gap.wp a0 a1 K) : OkQ Try.prog 11 [(.v (.flt .f64 a0)), (.v (.flt .f64 a1))] H (fun r H2 => ∃ (y0 : Nat), K y0 ∧ r = (.v (.flt .f64 y0)) ∧ H = H2) := by
  unfold laws_r8Gap.wp at h
  refine of_body Try.f11 F.hm Try.func11 rfl Try.call11 (by kernel_rfl) (by simp) ?_
  refine fi_seq ?_
  refine fi_region ?_
  refine so_assign (v := (.v (.flt .f64 (cz .f64 0)))) rfl ?_
  refine so_nil ?_
  refine fi_seq ?_
  refine fi_region ?_
  refine so_move (v := (.v (.flt .f64 a0))) rfl ?_
  refine so_move (v := (.v (.flt .f64 a1))) rfl ?_
  refine so_bin rfl rfl ab_fsub ?_
  refine so_move (v := (.v (.flt .f64 a1))) rfl ?_
  refine so_move (v := (.v (.flt .f64 a0))) rfl ?_
  refine so_bin rfl rfl ab_fsub ?_
  refine sv_maxF rfl rfl ?_
  refine so_assign (v := (.v (.flt .f64 (mxF .f64 (fop .sub .f64 a0 a1) (fop .sub .f64 a1 a0))))) rfl ?_
  refine so_nil ?_
  exact by_ret rfl ⟨_, h, rfl, rfl⟩
theorem F40.sz24 : tsz Try.prog 24 = some 1 := by kernel_rfl
theorem F40.te72 : telem Try.prog 72 = some 24 := by kernel_rfl
theorem F40.ti24 : (telem Try.prog 24).isSome = true := by kernel_rfl
theorem F40.ze24 : tzero Try.prog 24 = some [.nilsl] := by kernel_rfl
theorem impl_IsList_ok {fr : List Pc} {H : Heap} (v0 : AV) (l0 : List (Nat)) (hs : Sep H (fr)) (g0 : ∀ H, Sep H fr → Shows H v0 1 (enc (eFlt .f32) l0)) (K : Bool → Prop) (h : impl_IsList.wp l0 K) : OkQ Try.prog 40 [(.v v0)] H (fun r H2 => ∃ (y0 : Bool), K y0 ∧ r = (.v (.bool y0)) ∧ Sep H2 (fr)) := by
  unfold impl_IsList.wp at h
  refine of_body Try.f40 F.hm Try.func40 rfl Try.call40 (by kernel_rfl) (by simp) ?_
  refine fi_seq ?_
  refine fi_region ?_
  refine so_assign (v := (.v (.bool false))) rfl ?_
  refine so_nil ?_
  refine fi_seq ?_
  refine fi_region ?_
  refine so_move (v := (.v v0)) rfl ?_
  refine sv_len (g0 _ hs) (fun _ => rfl) (by decide) rfl F40.ti24 ?_
  refine sv_callS (impl_within_ok (l0.length : Int) (1 : Int) (128 : Int) hs  _ h) (fun _ _ ⟨_, _, _, e⟩ => e) rfl rfl ?_
  clear h
  rintro _ _ ⟨y101, h, rfl, rfl⟩
  refine so_move (v := (.v (.bool y101))) rfl ?_
  replace h := ofT h; rcases h with ⟨c103, h⟩ | ⟨c103, h⟩
  · refine so_gyes rfl c103 ?_
    refine so_move (v := (.v v0)) rfl ?_
    refine so_gyes rfl c103 ?_
    refine sd_bslice hs [[v0]] F40.te72 F40.sz24 F40.ze24 rfl rfl rfl (by simp) (fac (stc (g0 _ hs).stor stn) fan) (by decide) rfl nofun (fun v104 H105 _ hs => ?_)
    refine so_gyes rfl c103 ?_
    refine sv_callS (impl_areFinite_ok v104 ([[v0]]) ([l0] : List (List (Nat))) hs (fun _ hs => ⟨hs.shows 0 rfl, by simp, ⟨⟨rfl, (g0 _ hs.tl)⟩, trivial⟩⟩) _ h) (fun _ _ ⟨_, _, _, e⟩ => e) rfl rfl ?_
    clear h
    rintro _ _ ⟨y107, h, rfl, rfl⟩
    refine so_pick_t (v := (.v (.bool y107))) rfl c103 rfl ?_
    refine so_assign (v := (.v (.bool y107))) rfl ?_
    refine so_nil ?_
    exact by_ret rfl ⟨_, h, rfl, (Sep.del 0 hs)⟩
  · refine so_gno rfl c103 ?_
    refine so_gno rfl c103 ?_
    refine so_gno rfl c103 ?_
    refine so_pick_f (v := (.v (.bool false))) rfl c103 rfl ?_
    refine so_assign (v := (.v (.bool false))) rfl ?_
    refine so_nil ?_
    exact by_ret rfl ⟨_, h, rfl, hs⟩
theorem impl_IsList_okS {fr : List Pc} {H : Heap} (v0 : AV) (l0 : List (Nat)) (hs : Sep H fr) (g0 : ∀ H, Sep H fr → Shows H v0 1 (enc (eFlt .f32) l0)) (K : Bool → Prop) (h : impl_IsList.wp l0 K) : OkQ Try.prog 40 [(.v v0)] H (fun r H2 => ∃ (y0 : Bool), K y0 ∧ r = (.v (.bool y0)) ∧ H = H2) := by
  obtain ⟨r, H2, h1, y0, hK, hr, hsep⟩ := impl_IsList_ok (fr := came H) (H := H) v0 l0 (came_sep H) (came_shows (g0 H hs)) K h
  have hk : H.n ≤ H2.n ∧ ∀ i, i < H.n → H2.f i = H.f i := hsep.1.2.1
  exact ⟨r, H, h1.forget hk.1 hk.2 (by subst hr; rfl), y0, hK, hr, rfl⟩
theorem F89.ag24 : tagg Try.prog 24 = some false := by kernel_rfl
theorem F89.ag26 : tagg Try.prog 26 = some false := by kernel_rfl
theorem F89.fd38_0 : tfield Try.prog 38 0 = some (0, 1, false) := by kernel_rfl
theorem F89.fd38_1 : tfield Try.prog 38 1 = some (1, 1, false) := by kernel_rfl
theorem F89.inf38 : (Try.prog.info? 38).isSome = true := by kernel_rfl
theorem F89.sz24 : tsz Try.prog 24 = some 1 := by kernel_rfl
theorem F89.te72 : telem Try.prog 72 = some 24 := by kernel_rfl
theorem F89.ti24 : (telem Try.prog 24).isSome = true := by kernel_rfl
theorem F89.ze24 : tzero Try.prog 24 = some [.nilsl] := by kernel_rfl
theorem impl_ValidScheme_ok {fr : List Pc} {H : Heap} (v0 : AV) (l0 : List (Nat)) (a1 : Nat) (hs : Sep H (fr)) (g0 : ∀ H, Sep H fr → Shows H v0 1 (enc (eFlt .f32) l0)) (K : Bool → Prop) (h : impl_ValidScheme.wp l0 a1 K) : OkQ Try.prog 89 [(.g [v0, (.flt .f32 a1)])] H (fun r H2 => ∃ (y0 : Bool), K y0 ∧ r = (.v (.bool y0)) ∧ Sep H2 (fr)) := by
  unfold impl_ValidScheme.wp at h
  refine of_body Try.f89 F.hm Try.func89 rfl Try.call89 (by kernel_rfl) (by simp) ?_
  refine fi_seq ?_
  refine fi_region ?_
  refine sv_box hs rfl (c := [v0, (.flt .f32 a1)]) rfl F89.inf38 (stc (g0 _ hs).stor (stc rfl stn)) nofun (fun id101 H102 hs => ?_)
  refine so_assign (v := (.v (.bool false))) rfl ?_
  refine so_nil ?_
  refine fi_seq ?_
  refine fi_region ?_
  refine so_fieldAddr rfl F89.fd38_0 ?_
  refine sv_ld hs 0 rfl rfl rfl F89.ag24 ?_
  refine sv_len (g0 _ hs.tl) (fun _ => rfl) (by decide) rfl F89.ti24 ?_
  refine sv_callS (impl_within_ok (l0.length : Int) (1 : Int) (8 : Int) hs  _ h) (fun _ _ ⟨_, _, _, e⟩ => e) rfl rfl ?_
  clear h
  rintro _ _ ⟨y104, h, rfl, rfl⟩
  refine so_move (v := (.v (.bool y104))) rfl ?_
  replace h := ofT h; rcases h with ⟨c106, h⟩ | ⟨c106, h⟩
  · refine so_gyes rfl c106 ?_
    refine so_fieldAddr rfl F89.fd38_0 ?_
    refine so_gyes rfl c106 ?_
    refine sv_ld hs 0 rfl rfl rfl F89.ag24 ?_
    refine so_gyes rfl c106 ?_
    refine sd_bslice hs [[v0]] F89.te72 F89.sz24 F89.ze24 rfl rfl rfl (by simp) (fac (stc (g0 _ hs.tl).stor stn) fan) (by decide) rfl nofun (fun v107 H108 _ hs => ?_)
    refine so_gyes rfl c106 ?_
    refine sv_callS (impl_areFinite_ok v107 ([[v0]]) ([l0] : List (List (Nat))) hs (fun _ hs => ⟨hs.shows 0 rfl, by simp, ⟨⟨rfl, (g0 _ hs.tl.tl)⟩, trivial⟩⟩) _ h) (fun _ _ ⟨_, _, _, e⟩ => e) rfl rfl ?_
    clear h
    rintro _ _ ⟨y110, h, rfl, rfl⟩
    refine so_pick_t (v := (.v (.bool y110))) rfl c106 rfl ?_
    refine so_move (v := (.v (.bool y110))) rfl ?_
    replace h := ofT h; rcases h with ⟨c112, h⟩ | ⟨c112, h⟩
    · refine so_gyes rfl c112 ?_
      refine so_fieldAddr rfl F89.fd38_1 ?_
      refine so_gyes rfl c112 ?_
      refine sv_ld hs 1 rfl rfl rfl F89.ag26 ?_
      refine so_gyes rfl c112 ?_
      refine sv_callS (impl_isOver_ok a1 hs  _ h) (fun _ _ ⟨_, _, _, e⟩ => e) rfl rfl ?_
      clear h
      rintro _ _ ⟨y113, h, rfl, rfl⟩
      refine so_pick_t (v := (.v (.bool y113))) rfl c112 rfl ?_
      refine so_assign (v := (.v (.bool y113))) rfl ?_
      refine so_nil ?_
      exact by_ret rfl ⟨_, h, rfl, (Sep.del 0 (Sep.del 0 hs))⟩
    · refine so_gno rfl c112 ?_
      refine so_gno rfl c112 ?_
      refine so_gno rfl c112 ?_
      refine so_pick_f (v := (.v (.bool false))) rfl c112 rfl ?_
      refine so_assign (v := (.v (.bool false))) rfl ?_
      refine so_nil ?_
      exact by_ret rfl ⟨_, h, rfl, (Sep.del 0 (Sep.del 0 hs))⟩
  · refine so_gno rfl c106 ?_
    refine so_gno rfl c106 ?_
    refine so_gno rfl c106 ?_
    refine so_gno rfl c106 ?_
    refine so_pick_f (v := (.v (.bool false))) rfl c106 rfl ?_
    refine so_move (v := (.v (.bool false))) rfl ?_
    refine so_gno rfl rfl ?_
    refine so_gno rfl rfl ?_
    refine so_gno rfl rfl ?_
    refine so_pick_f (v := (.v (.bool false))) rfl rfl rfl ?_
    refine so_assign (v := (.v (.bool false))) rfl ?_
    refine so_nil ?_
    exact by_ret rfl ⟨_, h, rfl, (Sep.del 0 hs)⟩
theorem impl_ValidScheme_okS {fr : List Pc} {H : Heap} (v0 : AV) (l0 : List (Nat)) (a1 : Nat) (hs : Sep H fr) (g0 : ∀ H, Sep H fr → Shows H v0 1 (enc (eFlt .f32) l0)) (K : Bool → Prop) (h : impl_ValidScheme.wp l0 a1 K) : OkQ Try.prog 89 [(.g [v0, (.flt .f32 a1)])] H (fun r H2 => ∃ (y0 : Bool), K y0 ∧ r = (.v (.bool y0)) ∧ H = H2) := by
  obtain ⟨r, H2, h1, y0, hK, hr, hsep⟩ := impl_ValidScheme_ok (fr := came H) (H := H) v0 l0 a1 (came_sep H) (came_shows (g0 H hs)) K h
  have hk : H.n ≤ H2.n ∧ ∀ i, i < H.n → H2.f i = H.f i := hsep.1.2.1
  exact ⟨r, H, h1.forget hk.1 hk.2 (by subst hr; rfl), y0, hK, hr, rfl⟩
theorem F90.sz26 : tsz Try.prog 26 = some 1 := by kernel_rfl
theorem F90.ta24_24 : tapp Try.prog 24 24 = some (1, 4) := by kernel_rfl
theorem F90.te24 : telem Try.prog 24 = some 26 := by kernel_rfl
theorem F90.ze26 : tzero Try.prog 26 = some [(.flt .f32 (0 : Nat))] := by kernel_rfl
theorem impl_copyOf_ok {fr : List Pc} {H : Heap} (v0 : AV) (l0 : List (Nat)) (hs : Sep H (fr)) (g0 : ∀ H, Sep H fr → Shows H v0 1 (enc (eFlt .f32) l0)) (K : (List (Nat)) → Prop) (h : impl_copyOf.wp l0 K) : OkQ Try.prog 90 [(.v v0)] H (fun r H2 => ∃ (y0 : List (Nat)), K y0 ∧ ∃ (w0_ : AV), r = (.v w0_) ∧ Sep H2 (Pc.osl w0_ 1 (enc (eFlt .f32) y0) :: fr)) := by
  unfold impl_copyOf.wp at h
  refine of_body Try.f90 F.hm Try.func90 rfl Try.call90 (by kernel_rfl) (by simp) ?_
  refine fi_seq ?_
  refine fi_region ?_
  refine so_assign (v := (.v .nilsl)) rfl ?_
  refine so_nil ?_
  refine fi_seq ?_
  refine fi_region ?_
  refine sv_bslice hs (eFlt .f32) ([] : List (Nat)) [] F90.te24 F90.sz26 F90.ze26 rfl rfl rfl rfl (fun _ => rfl) rfl (by decide) nofun (fun v101 H102 nv101 hs => ?_)
  refine so_move (v := (.v v0)) rfl ?_
  obtain ⟨c106, h⟩ := h
  refine sv_app hs 0 rfl (g0 _ hs.tl) (fun _ => rfl) (by decide) F90.ta24_24 (by decide) c106 rfl rfl nofun (fun v104 H105 kv104 hs => ?_)
  have nv104 := kv104 nv101
  refine so_assign (v := (.v v104)) rfl ?_
  refine so_nil ?_
  exact by_ret rfl ⟨_, h, _, rfl, hs⟩
theorem F129.ag26 : tagg Try.prog 26 = some false := by kernel_rfl
theorem F129.sz26 : tsz Try.prog 26 = some 1 := by kernel_rfl
theorem F129.ta24_24 : tapp Try.prog 24 24 = some (1, 4) := by kernel_rfl
theorem F129.te24 : telem Try.prog 24 = some 26 := by kernel_rfl
theorem F129.ti24 : (telem Try.prog 24).isSome = true := by kernel_rfl
theorem F129.tl24 : (telem Try.prog 24).bind (tsz Try.prog) = some 1 := by kernel_rfl
theorem F129.ze26 : tzero Try.prog 26 = some [(.flt .f32 (0 : Nat))] := by kernel_rfl
theorem impl_split_float32_ok {fr : List Pc} {H : Heap} (v0 : AV) (l0 : List (Nat)) (hs : Sep H (fr)) (g0 : ∀ H, Sep H fr → Shows H v0 1 (enc (eFlt .f32) l0)) (K : (List (Nat)) → (List (Nat)) → Prop) (h : impl_split_float32.wp l0 K) : OkQ Try.prog 129 [(.v v0)] H (fun r H2 => ∃ (y0 : List (Nat)) (y1 : List (Nat)), K y0 y1 ∧ ∃ (w0_ : AV) (w1_ : AV), r = (.t [(.v w0_), (.v w1_)]) ∧ Sep H2 (Pc.osl w0_ 1 (enc (eFlt .f32) y0) :: Pc.osl w1_ 1 (enc (eFlt .f32) y1) :: fr)) := by
  unfold impl_split_float32.wp at h
  refine of_body Try.f129 F.hm Try.func129 rfl Try.call129 (by kernel_rfl) (by simp) ?_
  refine fi_seq ?_
  refine fi_region ?_
  refine so_assign (v := (.v .nilsl)) rfl ?_
  refine so_assign (v := (.v .nilsl)) rfl ?_
  refine so_nil ?_
  refine fi_seq ?_
  refine fi_region ?_
  refine sv_bslice hs (eFlt .f32) ([] : List (Nat)) [] F129.te24 F129.sz26 F129.ze26 rfl rfl rfl rfl (fun _ => rfl) rfl (by decide) nofun (fun v101 H102 nv101 hs => ?_)
  refine sv_bslice hs (eFlt .f32) ([] : List (Nat)) [] F129.te24 F129.sz26 F129.ze26 rfl rfl rfl rfl (fun _ => rfl) rfl (by decide) nofun (fun v104 H105 nv104 hs => ?_)
  refine so_assign (v := (.v v101)) rfl ?_
  refine so_assign (v := (.v v104)) rfl ?_
  refine so_nil ?_
  refine fi_seq ?_
  refine fi_seq ?_
  refine fi_region ?_
  refine so_move (v := (.v v0)) rfl ?_
  refine sv_len (g0 _ hs.tl.tl) (fun _ => rfl) (by decide) rfl F129.ti24 ?_
  refine so_move (v := (.v (.int .i64 (0 : Int)))) rfl ?_
  refine so_nil ?_
  refine fi_block ?_
  refine fi_loop ?_
  refine fi_at [(4, (.v v101)), (5, (.v v104)), (10, (.v v0)), (11, (.v (.int .i64 (l0.length : Int)))), (12, (.v (.int .i64 (0 : Int))))] ⟨rfl, rfl, rfl, rfl, rfl, trivial⟩ ?_
  refine h (fun (odds129 : List (Nat)) (evens131 : List (Nat)) (x133 : Int) => ∀ (s : Nat → TV) (H : Heap) (v130 : AV) (nv130 : v130 ≠ .nilsl) (v132 : AV) (nv132 : v132 ≠ .nilsl), Sep H (Pc.osl v130 1 (enc (eFlt .f32) odds129) :: Pc.osl v132 1 (enc (eFlt .f32) evens131) :: fr) → Fin _ _ (updL s [(4, (.v v132)), (5, (.v v130)), (10, (.v v0)), (11, (.v (.int .i64 (l0.length : Int)))), (12, (.v (.int .i64 x133)))]) H _) ?_ _ _ _ nv104 _ nv101 hs
  intro odds129 evens131 x133 h s149 H150 v130 nv130 v132 nv132 hs
  refine fi_inLoop ?_
  refine fi_seq ?_
  refine fi_region ?_
  refine so_bin rfl rfl ab_lss ?_
  refine so_nil ?_
  refine fi_seq ?_
  replace h := ofP h; rcases h with ⟨c134, h⟩ | ⟨c134, h⟩
  · refine fi_true rfl (decide_eq_true c134) ?_
    refine fi_skip ?_
    refine fi_seq ?_
    refine fi_block ?_
    refine fi_seq ?_
    refine fi_region ?_
    refine so_move (v := (.v (.int .i64 x133))) rfl ?_
    obtain ⟨c135, h⟩ := h
    refine sv_idx (g0 _ hs.tl.tl) c135 (fun _ => rfl) (by decide) rfl rfl F129.tl24 ?_
    refine sv_cell (g0 _ hs.tl.tl) c135 (0 : Nat) 0 (fun x => (AV.flt .f32 x)) (fun _ => rfl) (fun _ => rfl) rfl F129.ag26 ?_
    refine so_assign (v := (.v (.int .i64 x133))) rfl ?_
    refine so_assign (v := (.v (.flt .f32 (l0.getD (x133).toNat (0 : Nat))))) rfl ?_
    refine so_nil ?_
    refine fi_seq ?_
    refine fi_region ?_
    refine so_move (v := (.v (.int .i64 x133))) rfl ?_
    refine so_bin rfl rfl (ab_rem (by decide)) ?_
    refine so_bin rfl rfl ab_eql ?_
    refine so_nil ?_
    replace h := ofP h; rcases h with ⟨c136, h⟩ | ⟨c136, h⟩
    · refine fi_true rfl (decide_eq_true c136) ?_
      refine fi_region ?_
      refine so_move (v := (.v v132)) rfl ?_
      refine so_move (v := (.v (.flt .f32 (l0.getD (x133).toNat (0 : Nat))))) rfl ?_
      refine sv_bslice hs (eFlt .f32) ([(l0.getD (x133).toNat (0 : Nat))] : List (Nat)) [[(.flt .f32 (l0.getD (x133).toNat (0 : Nat)))]] F129.te24 F129.sz26 F129.ze26 rfl rfl rfl rfl (fun _ => rfl) rfl (by decide) nofun (fun v137 H138 nv137 hs => ?_)
      obtain ⟨c142, h⟩ := h
      refine sv_app hs 2 rfl (hs.shows 0 rfl) (fun _ => rfl) (by decide) F129.ta24_24 (by decide) c142 rfl rfl nofun (fun v140 H141 kv140 hs => ?_)
      replace hs := hs.del 0
      have nv140 := kv140 nv132
      refine so_assign (v := (.v v140)) rfl ?_
      refine so_nil ?_
      refine fi_inBlock ?_
      refine fi_region ?_
      refine so_bin rfl rfl ab_add ?_
      refine so_move (v := (.v (.int .i64 (IntKind.i64.wrap (x133 + (1 : Int)))))) rfl ?_
      refine so_nil ?_
      exact fi_at [(4, (.v v140)), (5, (.v v130)), (10, (.v v0)), (11, (.v (.int .i64 (l0.length : Int)))), (12, (.v (.int .i64 (IntKind.i64.wrap (x133 + (1 : Int))))))] ⟨rfl, rfl, rfl, rfl, rfl, trivial⟩ (h _ _ _ nv130 _ nv140 hs)
    · refine fi_false rfl (decide_eq_false c136) ?_
      refine fi_region ?_
      refine so_move (v := (.v v130)) rfl ?_
      refine so_move (v := (.v (.flt .f32 (l0.getD (x133).toNat (0 : Nat))))) rfl ?_
      refine sv_bslice hs (eFlt .f32) ([(l0.getD (x133).toNat (0 : Nat))] : List (Nat)) [[(.flt .f32 (l0.getD (x133).toNat (0 : Nat)))]] F129.te24 F129.sz26 F129.ze26 rfl rfl rfl rfl (fun _ => rfl) rfl (by decide) nofun (fun v143 H144 nv143 hs => ?_)
      obtain ⟨c148, h⟩ := h
      refine sv_app hs 1 rfl (hs.shows 0 rfl) (fun _ => rfl) (by decide) F129.ta24_24 (by decide) c148 rfl rfl nofun (fun v146 H147 kv146 hs => ?_)
      replace hs := hs.del 0
      have nv146 := kv146 nv130
      refine so_assign (v := (.v v146)) rfl ?_
      refine so_nil ?_
      refine fi_inBlock ?_
      refine fi_region ?_
      refine so_bin rfl rfl ab_add ?_
      refine so_move (v := (.v (.int .i64 (IntKind.i64.wrap (x133 + (1 : Int)))))) rfl ?_
      refine so_nil ?_
      exact fi_at [(4, (.v v132)), (5, (.v v146)), (10, (.v v0)), (11, (.v (.int .i64 (l0.length : Int)))), (12, (.v (.int .i64 (IntKind.i64.wrap (x133 + (1 : Int))))))] ⟨rfl, rfl, rfl, rfl, rfl, trivial⟩ (h _ _ _ nv146 _ nv132 hs)
  · refine fi_false rfl (decide_eq_false c134) ?_
    refine fi_exit rfl ?_
    refine fi_seq ?_
    refine fi_region ?_
    refine so_move (v := (.v v132)) rfl ?_
    refine so_move (v := (.v v130)) rfl ?_
    refine so_assign (v := (.v v132)) rfl ?_
    refine so_assign (v := (.v v130)) rfl ?_
    refine so_nil ?_
    exact by_ret rfl ⟨_, _, h, _, _, rfl, (Sep.front 1 hs rfl)⟩
theorem F150.ag26 : tagg Try.prog 26 = some false := by kernel_rfl
theorem F150.ag4 : tagg Try.prog 4 = some false := by kernel_rfl
theorem F150.sz26 : tsz Try.prog 26 = some 1 := by kernel_rfl
theorem impl_weigh_1_ok {fr : List Pc} {H : Heap} (v0 : AV) (l0 : List (Nat)) (a1 : Int) (a2 : Nat) (a3 : Nat) (i4 o4 : Nat) (a4 : Nat) (i5 o5 : Nat) (a5 : Bool) (hs : Sep H (Pc.osl v0 1 (enc (eFlt .f32) l0) :: fr)) (zb0 : 0 ≤ a1 ∧ a1 < (l0.length : Int)) (q4 : ∀ H, Sep H fr → PtAt H i4 o4 [(.flt .f32 a4)]) (q5 : ∀ H, Sep H fr → PtAt H i5 o5 [(.bool a5)]) (K : (List (Nat)) → Prop) (h : impl_weigh_1.wp l0 a1 a2 a3 a4 a5 K) : OkQ Try.prog 150 [(.v (.ptr v0.id0 (v0.of0 + (a1).toNat * 1))), (.v (.flt .f32 a2)), (.v (.flt .f32 a3)), (.v (.ptr i4 o4)), (.v (.ptr i5 o5))] H (fun r H2 => ∃ (y0 : List (Nat)), K y0 ∧ r = (.t []) ∧ Sep H2 (Pc.osl v0 1 (enc (eFlt .f32) y0) :: fr)) := by
  unfold impl_weigh_1.wp at h
  refine of_body Try.f150 F.hm Try.func150 rfl Try.call150 (by kernel_rfl) (by simp) ?_
  refine fi_seq ?_
  refine fi_region ?_
  refine su_ld (q4 _ hs.tl) 0 rfl rfl F150.ag26 ?_
  refine so_move (v := (.v (.flt .f32 a2))) rfl ?_
  refine so_move (v := (.v (.flt .f32 a3))) rfl ?_
  refine so_bin rfl rfl ab_fadd ?_
  refine so_bin rfl rfl ab_fmul ?_
  refine so_assign (v := (.v (.flt .f32 (fop .mul .f32 a4 (fop .add .f32 a2 a3))))) rfl ?_
  refine so_nil ?_
  refine fi_seq ?_
  refine fi_region ?_
  refine su_ld (q5 _ hs.tl) 0 rfl rfl F150.ag4 ?_
  refine so_nil ?_
  replace h := ofT h; rcases h with ⟨c102, h⟩ | ⟨c102, h⟩
  · refine fi_true rfl c102 ?_
    refine fi_region ?_
    refine so_move (v := (.v (.ptr v0.id0 (v0.of0 + (a1).toNat * 1)))) rfl ?_
    refine so_nilCheck rfl ?_
    refine sv_cell (hs.shows 0 rfl) zb0 (0 : Nat) 0 (fun x => (AV.flt .f32 x)) (fun _ => rfl) (fun _ => rfl) rfl F150.ag26 ?_
    refine so_move (v := (.v (.flt .f32 (fop .mul .f32 a4 (fop .add .f32 a2 a3))))) rfl ?_
    refine so_bin rfl rfl ab_fsub ?_
    refine so_nilCheck rfl ?_
    refine sv_set hs 0 rfl zb0 (fop .sub .f32 (l0.getD (a1).toNat (0 : Nat)) (fop .mul .f32 a4 (fop .add .f32 a2 a3))) (fun _ => rfl) (by decide) rfl rfl rfl rfl F150.sz26 nofun (fun H103 hs => ?_)
    refine so_nil ?_
    exact by_end rfl ⟨_, h, rfl, hs⟩
  · refine fi_false rfl c102 ?_
    refine fi_region ?_
    refine so_move (v := (.v (.ptr v0.id0 (v0.of0 + (a1).toNat * 1)))) rfl ?_
    refine so_nilCheck rfl ?_
    refine sv_cell (hs.shows 0 rfl) zb0 (0 : Nat) 0 (fun x => (AV.flt .f32 x)) (fun _ => rfl) (fun _ => rfl) rfl F150.ag26 ?_
    refine so_move (v := (.v (.flt .f32 (fop .mul .f32 a4 (fop .add .f32 a2 a3))))) rfl ?_
    refine so_bin rfl rfl ab_fadd ?_
    refine so_nilCheck rfl ?_
    refine sv_set hs 0 rfl zb0 (fop .add .f32 (l0.getD (a1).toNat (0 : Nat)) (fop .mul .f32 a4 (fop .add .f32 a2 a3))) (fun _ => rfl) (by decide) rfl rfl rfl rfl F150.sz26 nofun (fun H104 hs => ?_)
    refine so_nil ?_
    exact by_end rfl ⟨_, h, rfl, hs⟩
theorem F151.ag26 : tagg Try.prog 26 = some false := by kernel_rfl
theorem F151.ti24 : (telem Try.prog 24).isSome = true := by kernel_rfl
theorem F151.tl24 : (telem Try.prog 24).bind (tsz Try.prog) = some 1 := by kernel_rfl
theorem impl_besideOdd_float32_ok {fr : List Pc} {H : Heap} (v0 : AV) (l0 : List (Nat)) (a1 : Int) (hs : Sep H (fr)) (g0 : ∀ H, Sep H fr → Shows H v0 1 (enc (eFlt .f32) l0)) (K : Nat → Nat → Prop) (h : impl_besideOdd_float32.wp l0 a1 K) : OkQ Try.prog 151 [(.v v0), (.v (.int .i64 a1))] H (fun r H2 => ∃ (y0 : Nat) (y1 : Nat), K y0 y1 ∧ r = (.t [(.v (.flt .f32 y0)), (.v (.flt .f32 y1))]) ∧ H = H2) := by
  unfold impl_besideOdd_float32.wp at h
  refine of_body Try.f151 F.hm Try.func151 rfl Try.call151 (by kernel_rfl) (by simp) ?_
  refine fi_seq ?_
  refine fi_region ?_
  refine so_assign (v := (.v (.flt .f32 (cz .f32 0)))) rfl ?_
  refine so_assign (v := (.v (.flt .f32 (cz .f32 0)))) rfl ?_
  refine so_nil ?_
  refine fi_seq ?_
  refine fi_region ?_
  refine so_move (v := (.v v0)) rfl ?_
  refine so_move (v := (.v (.int .i64 a1))) rfl ?_
  obtain ⟨c101, h⟩ := h
  refine sv_idx (g0 _ hs) c101 (fun _ => rfl) (by decide) rfl rfl F151.tl24 ?_
  refine sv_cell (g0 _ hs) c101 (0 : Nat) 0 (fun x => (AV.flt .f32 x)) (fun _ => rfl) (fun _ => rfl) rfl F151.ag26 ?_
  refine so_move (v := (.v v0)) rfl ?_
  refine so_move (v := (.v (.int .i64 a1))) rfl ?_
  refine so_bin rfl rfl ab_add ?_
  refine so_move (v := (.v v0)) rfl ?_
  refine sv_len (g0 _ hs) (fun _ => rfl) (by decide) rfl F151.ti24 ?_
  refine so_bin rfl rfl ab_sub ?_
  refine sv_min rfl rfl ?_
  obtain ⟨c102, h⟩ := h
  refine sv_idx (g0 _ hs) c102 (fun _ => rfl) (by decide) rfl rfl F151.tl24 ?_
  refine sv_cell (g0 _ hs) c102 (0 : Nat) 0 (fun x => (AV.flt .f32 x)) (fun _ => rfl) (fun _ => rfl) rfl F151.ag26 ?_
  refine so_assign (v := (.v (.flt .f32 (l0.getD (a1).toNat (0 : Nat))))) rfl ?_
  refine so_assign (v := (.v (.flt .f32 (l0.getD ((mnI (IntKind.i64.wrap (a1 + (1 : Int))) (IntKind.i64.wrap ((l0.length : Int) - (1 : Int))))).toNat (0 : Nat))))) rfl ?_
  refine so_nil ?_
  exact by_ret rfl ⟨_, _, h, rfl, rfl⟩
theorem F152.ag26 : tagg Try.prog 26 = some false := by kernel_rfl
theorem F152.ti24 : (telem Try.prog 24).isSome = true := by kernel_rfl
theorem F152.tl24 : (telem Try.prog 24).bind (tsz Try.prog) = some 1 := by kernel_rfl
theorem impl_besideEven_float32_ok {fr : List Pc} {H : Heap} (v0 : AV) (l0 : List (Nat)) (a1 : Int) (hs : Sep H (fr)) (g0 : ∀ H, Sep H fr → Shows H v0 1 (enc (eFlt .f32) l0)) (K : Nat → Nat → Prop) (h : impl_besideEven_float32.wp l0 a1 K) : OkQ Try.prog 152 [(.v v0), (.v (.int .i64 a1))] H (fun r H2 => ∃ (y0 : Nat) (y1 : Nat), K y0 y1 ∧ r = (.t [(.v (.flt .f32 y0)), (.v (.flt .f32 y1))]) ∧ H = H2) := by
  unfold impl_besideEven_float32.wp at h
  refine of_body Try.f152 F.hm Try.func152 rfl Try.call152 (by kernel_rfl) (by simp) ?_
  refine fi_seq ?_
  refine fi_region ?_
  refine so_assign (v := (.v (.flt .f32 (cz .f32 0)))) rfl ?_
  refine so_assign (v := (.v (.flt .f32 (cz .f32 0)))) rfl ?_
  refine so_nil ?_
  refine fi_seq ?_
  refine fi_region ?_
  refine so_move (v := (.v v0)) rfl ?_
  refine so_move (v := (.v (.int .i64 a1))) rfl ?_
  refine so_bin rfl rfl ab_sub ?_
  refine sv_max rfl rfl ?_
  obtain ⟨c101, h⟩ := h
  refine sv_idx (g0 _ hs) c101 (fun _ => rfl) (by decide) rfl rfl F152.tl24 ?_
  refine sv_cell (g0 _ hs) c101 (0 : Nat) 0 (fun x => (AV.flt .f32 x)) (fun _ => rfl) (fun _ => rfl) rfl F152.ag26 ?_
  refine so_move (v := (.v v0)) rfl ?_
  refine so_move (v := (.v (.int .i64 a1))) rfl ?_
  refine so_move (v := (.v v0)) rfl ?_
  refine sv_len (g0 _ hs) (fun _ => rfl) (by decide) rfl F152.ti24 ?_
  refine so_bin rfl rfl ab_sub ?_
  refine sv_min rfl rfl ?_
  obtain ⟨c102, h⟩ := h
  refine sv_idx (g0 _ hs) c102 (fun _ => rfl) (by decide) rfl rfl F152.tl24 ?_
  refine sv_cell (g0 _ hs) c102 (0 : Nat) 0 (fun x => (AV.flt .f32 x)) (fun _ => rfl) (fun _ => rfl) rfl F152.ag26 ?_
  refine so_assign (v := (.v (.flt .f32 (l0.getD ((mxI (IntKind.i64.wrap (a1 - (1 : Int))) (0 : Int))).toNat (0 : Nat))))) rfl ?_
  refine so_assign (v := (.v (.flt .f32 (l0.getD ((mnI a1 (IntKind.i64.wrap ((l0.length : Int) - (1 : Int))))).toNat (0 : Nat))))) rfl ?_
  refine so_nil ?_
  exact by_ret rfl ⟨_, _, h, rfl, rfl⟩
theorem F130.inf26 : (Try.prog.info? 26).isSome = true := by kernel_rfl
theorem F130.inf4 : (Try.prog.info? 4).isSome = true := by kernel_rfl
theorem F130.ti24 : (telem Try.prog 24).isSome = true := by kernel_rfl
theorem F130.tl24 : (telem Try.prog 24).bind (tsz Try.prog) = some 1 := by kernel_rfl
theorem impl_weigh_ok {fr : List Pc} {H : Heap} (v0 : AV) (l0 : List (Nat)) (v1 : AV) (l1 : List (Nat)) (a2 : Int) (a3 : Nat) (a4 : Bool) (hs : Sep H (Pc.osl v0 1 (enc (eFlt .f32) l0) :: Pc.osl v1 1 (enc (eFlt .f32) l1) :: fr))  (K : (List (Nat)) → (List (Nat)) → Prop) (h : impl_weigh.wp l0 l1 a2 a3 a4 K) : OkQ Try.prog 130 [(.v v0), (.v v1), (.v (.int .i64 a2)), (.v (.flt .f32 a3)), (.v (.bool a4))] H (fun r H2 => ∃ (y0 : List (Nat)) (y1 : List (Nat)), K y0 y1 ∧ r = (.t []) ∧ Sep H2 (Pc.osl v0 1 (enc (eFlt .f32) y0) :: Pc.osl v1 1 (enc (eFlt .f32) y1) :: fr)) := by
  unfold impl_weigh.wp at h
  refine of_body Try.f130 F.hm Try.func130 rfl Try.call130 (by kernel_rfl) (by simp) ?_
  refine fi_seq ?_
  refine fi_region ?_
  refine sv_box hs rfl (c := [(.flt .f32 a3)]) rfl F130.inf26 (stc rfl stn) nofun (fun id103 H104 hs => ?_)
  refine sv_box hs rfl (c := [(.bool a4)]) rfl F130.inf4 (stc rfl stn) nofun (fun id106 H107 hs => ?_)
  refine so_nil ?_
  refine fi_seq ?_
  refine fi_region ?_
  refine so_makeFunc rfl ?_
  refine so_assign (v := (.v (.fn 150 [(id103, 0), (id106, 0)]))) rfl ?_
  refine so_nil ?_
  refine fi_seq ?_
  refine fi_seq ?_
  refine fi_region ?_
  refine so_move (v := (.v (.int .i64 a2))) rfl ?_
  refine so_bin rfl rfl (ab_rem (by decide)) ?_
  refine so_bin rfl rfl ab_eql ?_
  refine so_nil ?_
  replace h := ofP h; rcases h with ⟨c109, h⟩ | ⟨c109, h⟩
  · refine fi_true rfl (decide_eq_true c109) ?_
    refine fi_seq ?_
    refine fi_seq ?_
    refine fi_region ?_
    refine so_move (v := (.v v1)) rfl ?_
    refine sv_len (hs.shows 3 rfl) (fun _ => rfl) (by decide) rfl F130.ti24 ?_
    refine so_move (v := (.v (.int .i64 (0 : Int)))) rfl ?_
    refine so_nil ?_
    refine fi_block ?_
    refine fi_loop ?_
    refine fi_at [(0, (.v v0)), (1, (.v v1)), (10, (.v (.fn 150 [(id103, 0), (id106, 0)]))), (22, (.v (.int .i64 (l1.length : Int)))), (23, (.v (.int .i64 (0 : Int))))] ⟨rfl, rfl, rfl, rfl, rfl, trivial⟩ ?_
    refine h (fun (odds120 : List (Nat)) (x121 : Int) => ∀ (s : Nat → TV) (H : Heap), Sep H (Pc.box id106 [(.bool a4)] :: Pc.box id103 [(.flt .f32 a3)] :: Pc.osl v0 1 (enc (eFlt .f32) l0) :: Pc.osl v1 1 (enc (eFlt .f32) odds120) :: fr) → Fin _ _ (updL s [(0, (.v v0)), (1, (.v v1)), (10, (.v (.fn 150 [(id103, 0), (id106, 0)]))), (22, (.v (.int .i64 (l1.length : Int)))), (23, (.v (.int .i64 x121)))]) H _) ?_ _ _ hs
    intro odds120 x121 h s129 H130 hs
    refine fi_inLoop ?_
    refine fi_seq ?_
    refine fi_region ?_
    refine so_bin rfl rfl ab_lss ?_
    refine so_nil ?_
    refine fi_seq ?_
    replace h := ofP h; rcases h with ⟨c122, h⟩ | ⟨c122, h⟩
    · refine fi_true rfl (decide_eq_true c122) ?_
      refine fi_skip ?_
      refine fi_seq ?_
      refine fi_block ?_
      refine fi_seq ?_
      refine fi_region ?_
      refine so_move (v := (.v (.int .i64 x121))) rfl ?_
      refine so_assign (v := (.v (.int .i64 x121))) rfl ?_
      refine so_nil ?_
      refine fi_seq ?_
      refine fi_region ?_
      refine so_move (v := (.v v0)) rfl ?_
      refine so_move (v := (.v (.int .i64 x121))) rfl ?_
      refine sv_callS (impl_besideOdd_float32_ok v0 l0 x121 hs (fun _ hs => (hs.shows 2 rfl)) _ h) (fun _ _ ⟨_, _, _, _, e⟩ => e) rfl rfl ?_
      clear h
      rintro _ _ ⟨y123, y124, h, rfl, rfl⟩
      refine so_move (v := (.t [(.v (.flt .f32 y123)), (.v (.flt .f32 y124))])) rfl ?_
      refine so_extract rfl rfl rfl ?_
      refine so_extract rfl rfl rfl ?_
      refine so_assign (v := (.v (.flt .f32 y123))) rfl ?_
      refine so_assign (v := (.v (.flt .f32 y124))) rfl ?_
      refine so_nil ?_
      refine fi_region ?_
      refine so_move (v := (.v (.fn 150 [(id103, 0), (id106, 0)]))) rfl ?_
      refine so_move (v := (.v v1)) rfl ?_
      refine so_move (v := (.v (.int .i64 x121))) rfl ?_
      obtain ⟨c126, h⟩ := h
      refine sv_idx (hs.shows 3 rfl) c126 (fun _ => rfl) (by decide) rfl rfl F130.tl24 ?_
      refine so_move (v := (.v (.flt .f32 y123))) rfl ?_
      refine so_move (v := (.v (.flt .f32 y124))) rfl ?_
      replace hs := (Sep.front 3 hs rfl)
      refine sv_callc (impl_weigh_1_ok v1 odds120 x121 y123 y124 id103 0 a3 id106 0 a4 hs c126 (fun _ hs => (hs.ptat 1 rfl)) (fun _ hs => (hs.ptat 0 rfl)) _ h) rfl rfl nofun ?_
      clear h hs
      rintro _ H128 ⟨y127, h, rfl, hs⟩
      refine so_nil ?_
      refine fi_inBlock ?_
      refine fi_region ?_
      refine so_bin rfl rfl ab_add ?_
      refine so_move (v := (.v (.int .i64 (IntKind.i64.wrap (x121 + (1 : Int)))))) rfl ?_
      refine so_nil ?_
      exact fi_at [(0, (.v v0)), (1, (.v v1)), (10, (.v (.fn 150 [(id103, 0), (id106, 0)]))), (22, (.v (.int .i64 (l1.length : Int)))), (23, (.v (.int .i64 (IntKind.i64.wrap (x121 + (1 : Int))))))] ⟨rfl, rfl, rfl, rfl, rfl, trivial⟩ (h _ _  (Sep.front 3 (Sep.front 3 (Sep.front 3 (Sep.front 0 hs rfl) rfl) rfl) rfl))
    · refine fi_false rfl (decide_eq_false c122) ?_
      refine fi_exit rfl ?_
      exact by_ret rfl ⟨_, _, h, rfl, (Sep.front 1 (Sep.front 1 (Sep.del 0 (Sep.del 0 hs)) rfl) rfl)⟩
  · refine fi_false rfl (decide_eq_false c109) ?_
    refine fi_skip ?_
    refine fi_seq ?_
    refine fi_region ?_
    refine so_move (v := (.v v0)) rfl ?_
    refine sv_len (hs.shows 2 rfl) (fun _ => rfl) (by decide) rfl F130.ti24 ?_
    refine so_move (v := (.v (.int .i64 (0 : Int)))) rfl ?_
    refine so_nil ?_
    refine fi_block ?_
    refine fi_loop ?_
    refine fi_at [(0, (.v v0)), (1, (.v v1)), (10, (.v (.fn 150 [(id103, 0), (id106, 0)]))), (41, (.v (.int .i64 (l0.length : Int)))), (42, (.v (.int .i64 (0 : Int))))] ⟨rfl, rfl, rfl, rfl, rfl, trivial⟩ ?_
    refine h (fun (evens141 : List (Nat)) (x142 : Int) => ∀ (s : Nat → TV) (H : Heap), Sep H (Pc.box id106 [(.bool a4)] :: Pc.box id103 [(.flt .f32 a3)] :: Pc.osl v0 1 (enc (eFlt .f32) evens141) :: Pc.osl v1 1 (enc (eFlt .f32) l1) :: fr) → Fin _ _ (updL s [(0, (.v v0)), (1, (.v v1)), (10, (.v (.fn 150 [(id103, 0), (id106, 0)]))), (41, (.v (.int .i64 (l0.length : Int)))), (42, (.v (.int .i64 x142)))]) H _) ?_ _ _ hs
    intro evens141 x142 h s150 H151 hs
    refine fi_inLoop ?_
    refine fi_seq ?_
    refine fi_region ?_
    refine so_bin rfl rfl ab_lss ?_
    refine so_nil ?_
    refine fi_seq ?_
    replace h := ofP h; rcases h with ⟨c143, h⟩ | ⟨c143, h⟩
    · refine fi_true rfl (decide_eq_true c143) ?_
      refine fi_skip ?_
      refine fi_seq ?_
      refine fi_block ?_
      refine fi_seq ?_
      refine fi_region ?_
      refine so_move (v := (.v (.int .i64 x142))) rfl ?_
      refine so_assign (v := (.v (.int .i64 x142))) rfl ?_
      refine so_nil ?_
      refine fi_seq ?_
      refine fi_region ?_
      refine so_move (v := (.v v1)) rfl ?_
      refine so_move (v := (.v (.int .i64 x142))) rfl ?_
      refine sv_callS (impl_besideEven_float32_ok v1 l1 x142 hs (fun _ hs => (hs.shows 3 rfl)) _ h) (fun _ _ ⟨_, _, _, _, e⟩ => e) rfl rfl ?_
      clear h
      rintro _ _ ⟨y144, y145, h, rfl, rfl⟩
      refine so_move (v := (.t [(.v (.flt .f32 y144)), (.v (.flt .f32 y145))])) rfl ?_
      refine so_extract rfl rfl rfl ?_
      refine so_extract rfl rfl rfl ?_
      refine so_assign (v := (.v (.flt .f32 y144))) rfl ?_
      refine so_assign (v := (.v (.flt .f32 y145))) rfl ?_
      refine so_nil ?_
      refine fi_region ?_
      refine so_move (v := (.v (.fn 150 [(id103, 0), (id106, 0)]))) rfl ?_
      refine so_move (v := (.v v0)) rfl ?_
      refine so_move (v := (.v (.int .i64 x142))) rfl ?_
      obtain ⟨c147, h⟩ := h
      refine sv_idx (hs.shows 2 rfl) c147 (fun _ => rfl) (by decide) rfl rfl F130.tl24 ?_
      refine so_move (v := (.v (.flt .f32 y144))) rfl ?_
      refine so_move (v := (.v (.flt .f32 y145))) rfl ?_
      replace hs := (Sep.front 2 hs rfl)
      refine sv_callc (impl_weigh_1_ok v0 evens141 x142 y144 y145 id103 0 a3 id106 0 a4 hs c147 (fun _ hs => (hs.ptat 1 rfl)) (fun _ hs => (hs.ptat 0 rfl)) _ h) rfl rfl nofun ?_
      clear h hs
      rintro _ H149 ⟨y148, h, rfl, hs⟩
      refine so_nil ?_
      refine fi_inBlock ?_
      refine fi_region ?_
      refine so_bin rfl rfl ab_add ?_
      refine so_move (v := (.v (.int .i64 (IntKind.i64.wrap (x142 + (1 : Int)))))) rfl ?_
      refine so_nil ?_
      exact fi_at [(0, (.v v0)), (1, (.v v1)), (10, (.v (.fn 150 [(id103, 0), (id106, 0)]))), (41, (.v (.int .i64 (l0.length : Int)))), (42, (.v (.int .i64 (IntKind.i64.wrap (x142 + (1 : Int))))))] ⟨rfl, rfl, rfl, rfl, rfl, trivial⟩ (h _ _  (Sep.front 3 (Sep.front 3 (Sep.front 1 (Sep.front 3 hs rfl) rfl) rfl) rfl))
    · refine fi_false rfl (decide_eq_false c143) ?_
      refine fi_exit rfl ?_
      exact by_end rfl ⟨_, _, h, rfl, (Sep.front 1 (Sep.front 1 (Sep.del 0 (Sep.del 0 hs)) rfl) rfl)⟩
theorem F91.ag24 : tagg Try.prog 24 = some false := by kernel_rfl
theorem F91.ag26 : tagg Try.prog 26 = some false := by kernel_rfl
theorem F91.ag38 : tagg Try.prog 38 = some true := by kernel_rfl
theorem F91.fd38_0 : tfield Try.prog 38 0 = some (0, 1, false) := by kernel_rfl
theorem F91.fd38_1 : tfield Try.prog 38 1 = some (1, 1, false) := by kernel_rfl
theorem F91.inf38 : (Try.prog.info? 38).isSome = true := by kernel_rfl
theorem F91.sz24 : tsz Try.prog 24 = some 1 := by kernel_rfl
theorem F91.sz26 : tsz Try.prog 26 = some 1 := by kernel_rfl
theorem F91.sz38 : tsz Try.prog 38 = some 2 := by kernel_rfl
theorem F91.te72 : telem Try.prog 72 = some 24 := by kernel_rfl
theorem F91.ti24 : (telem Try.prog 24).isSome = true := by kernel_rfl
theorem F91.tl24 : (telem Try.prog 24).bind (tsz Try.prog) = some 1 := by kernel_rfl
theorem F91.ze24 : tzero Try.prog 24 = some [.nilsl] := by kernel_rfl
theorem impl_LiftOnce_ok {fr : List Pc} {H : Heap} (v0 : AV) (l0 : List (Nat)) (a1 : Nat) (v2 : AV) (l2 : List (Nat)) (hs : Sep H (fr)) (g0 : ∀ H, Sep H fr → Shows H v0 1 (enc (eFlt .f32) l0)) (g2 : ∀ H, Sep H fr → Shows H v2 1 (enc (eFlt .f32) l2)) (K : (List (Nat)) → (List (Nat)) → Bool → Prop) (h : impl_LiftOnce.wp l0 a1 l2 K) : OkQ Try.prog 91 [(.g [v0, (.flt .f32 a1)]), (.v v2)] H (fun r H2 => ∃ (y0 : List (Nat)) (y1 : List (Nat)) (y2 : Bool), K y0 y1 y2 ∧ ∃ (w0_ : AV) (w1_ : AV), r = (.t [(.v w0_), (.v w1_), (.v (.bool y2))]) ∧ Sep H2 (Pc.osl w0_ 1 (enc (eFlt .f32) y0) :: Pc.osl w1_ 1 (enc (eFlt .f32) y1) :: fr)) := by
  unfold impl_LiftOnce.wp at h
  refine of_body Try.f91 F.hm Try.func91 rfl Try.call91 (by kernel_rfl) (by simp) ?_
  refine fi_seq ?_
  refine fi_region ?_
  refine sv_box hs rfl (c := [v0, (.flt .f32 a1)]) rfl F91.inf38 (stc (g0 _ hs).stor (stc rfl stn)) nofun (fun id101 H102 hs => ?_)
  refine so_assign (v := (.v .nilsl)) rfl ?_
  refine so_assign (v := (.v .nilsl)) rfl ?_
  refine so_assign (v := (.v (.bool false))) rfl ?_
  refine so_nil ?_
  refine fi_seq ?_
  refine fi_seq ?_
  refine fi_region ?_
  refine sv_lds hs 0 rfl rfl (leb rfl) rfl F91.ag38 F91.sz38 ?_
  refine sv_callS (impl_ValidScheme_okS v0 l0 a1 hs (fun _ hs => (g0 _ hs.tl)) _ h) (fun _ _ ⟨_, _, _, e⟩ => e) rfl rfl ?_
  clear h
  rintro _ _ ⟨y104, h, rfl, rfl⟩
  refine so_un rfl au_not ?_
  refine so_move (v := (.v (.bool (!y104)))) rfl ?_
  replace h := ofT h; rcases h with ⟨c106, h⟩ | ⟨c106, h⟩
  · refine so_gyes rfl (not_f c106) ?_
    refine so_move (v := (.v v2)) rfl ?_
    refine so_gyes rfl (not_f c106) ?_
    refine sv_callS (impl_IsList_okS v2 l2 hs (fun _ hs => (g2 _ hs.tl)) _ h) (fun _ _ ⟨_, _, _, e⟩ => e) rfl rfl ?_
    clear h
    rintro _ _ ⟨y107, h, rfl, rfl⟩
    refine so_gyes rfl (not_f c106) ?_
    refine so_un rfl au_not ?_
    refine so_pick_f (v := (.v (.bool (!y107)))) rfl (not_f c106) rfl ?_
    refine so_nil ?_
    replace h := ofT h; rcases h with ⟨c109, h⟩ | ⟨c109, h⟩
    · refine fi_false rfl (not_f c109) ?_
      refine fi_skip ?_
      refine fi_seq ?_
      refine fi_region ?_
      refine so_move (v := (.v v2)) rfl ?_
      refine sv_call (impl_split_float32_ok v2 l2 hs (fun _ hs => (g2 _ hs.tl)) _ h) rfl rfl nofun ?_
      clear h hs
      rintro _ H116 ⟨y110, y113, h, v111, v114, rfl, hs⟩
      refine so_move (v := (.t [(.v v111), (.v v114)])) rfl ?_
      refine so_extract rfl rfl rfl ?_
      refine so_extract rfl rfl rfl ?_
      refine so_assign (v := (.v v111)) rfl ?_
      refine so_assign (v := (.v v114)) rfl ?_
      refine so_nil ?_
      refine fi_seq ?_
      refine fi_seq ?_
      refine fi_region ?_
      refine so_move (v := (.v v114)) rfl ?_
      refine sv_len (hs.shows 1 rfl) (fun _ => rfl) (by decide) rfl F91.ti24 ?_
      refine so_bin rfl rfl ab_eql ?_
      refine so_nil ?_
      replace h := ofP h; rcases h with ⟨c117, h⟩ | ⟨c117, h⟩
      · refine fi_true rfl (decide_eq_true c117) ?_
        refine fi_seq ?_
        refine fi_region ?_
        refine so_move (v := (.v v111)) rfl ?_
        refine so_move (v := (.v v114)) rfl ?_
        refine so_assign (v := (.v v111)) rfl ?_
        refine so_assign (v := (.v v114)) rfl ?_
        refine so_assign (v := (.v (.bool true))) rfl ?_
        refine so_nil ?_
        exact by_ret rfl ⟨_, _, _, h, _, _, rfl, (Sep.front 1 (Sep.front 1 (Sep.del 2 hs) rfl) rfl)⟩
      · refine fi_false rfl (decide_eq_false c117) ?_
        refine fi_skip ?_
        refine fi_seq ?_
        refine fi_seq ?_
        refine fi_region ?_
        refine so_fieldAddr rfl F91.fd38_0 ?_
        refine sv_ld hs 2 rfl rfl rfl F91.ag24 ?_
        refine sv_len (g0 _ hs.tl.tl.tl) (fun _ => rfl) (by decide) rfl F91.ti24 ?_
        refine so_move (v := (.v (.int .i64 (0 : Int)))) rfl ?_
        refine so_nil ?_
        refine fi_block ?_
        refine fi_loop ?_
        refine fi_at [(2, (.v (.ptr id101 0))), (7, (.v v111)), (8, (.v v114)), (32, (.v v0)), (33, (.v (.int .i64 (l0.length : Int)))), (34, (.v (.int .i64 (0 : Int))))] ⟨rfl, rfl, rfl, rfl, rfl, rfl, trivial⟩ ?_
        refine h (fun (evens189 : List (Nat)) (odds190 : List (Nat)) (x191 : Int) => ∀ (s : Nat → TV) (H : Heap), Sep H (Pc.osl v111 1 (enc (eFlt .f32) evens189) :: Pc.osl v114 1 (enc (eFlt .f32) odds190) :: Pc.box id101 [v0, (.flt .f32 a1)] :: fr) → Fin _ _ (updL s [(2, (.v (.ptr id101 0))), (7, (.v v111)), (8, (.v v114)), (32, (.v v0)), (33, (.v (.int .i64 (l0.length : Int)))), (34, (.v (.int .i64 x191)))]) H _) ?_ _ _ hs
        intro evens189 odds190 x191 h s260 H261 hs
        refine fi_inLoop ?_
        refine fi_seq ?_
        refine fi_region ?_
        refine so_bin rfl rfl ab_lss ?_
        refine so_nil ?_
        refine fi_seq ?_
        replace h := ofP h; rcases h with ⟨c192, h⟩ | ⟨c192, h⟩
        · refine fi_true rfl (decide_eq_true c192) ?_
          refine fi_skip ?_
          refine fi_seq ?_
          refine fi_block ?_
          refine fi_seq ?_
          refine fi_region ?_
          refine so_move (v := (.v (.int .i64 x191))) rfl ?_
          obtain ⟨c193, h⟩ := h
          refine sv_idx (g0 _ hs.tl.tl.tl) c193 (fun _ => rfl) (by decide) rfl rfl F91.tl24 ?_
          refine sv_cell (g0 _ hs.tl.tl.tl) c193 (0 : Nat) 0 (fun x => (AV.flt .f32 x)) (fun _ => rfl) (fun _ => rfl) rfl F91.ag26 ?_
          refine so_assign (v := (.v (.int .i64 x191))) rfl ?_
          refine so_assign (v := (.v (.flt .f32 (l0.getD (x191).toNat (0 : Nat))))) rfl ?_
          refine so_nil ?_
          refine fi_region ?_
          refine so_move (v := (.v v111)) rfl ?_
          refine so_move (v := (.v v114)) rfl ?_
          refine so_move (v := (.v (.int .i64 x191))) rfl ?_
          refine so_move (v := (.v (.flt .f32 (l0.getD (x191).toNat (0 : Nat))))) rfl ?_
          replace hs := (Sep.front 1 (Sep.front 1 hs rfl) rfl)
          refine sv_call (impl_weigh_ok v111 evens189 v114 odds190 x191 (l0.getD (x191).toNat (0 : Nat)) false hs  _ h) rfl rfl nofun ?_
          clear h hs
          rintro _ H196 ⟨y194, y195, h, rfl, hs⟩
          refine so_nil ?_
          refine fi_inBlock ?_
          refine fi_region ?_
          refine so_bin rfl rfl ab_add ?_
          refine so_move (v := (.v (.int .i64 (IntKind.i64.wrap (x191 + (1 : Int)))))) rfl ?_
          refine so_nil ?_
          exact fi_at [(2, (.v (.ptr id101 0))), (7, (.v v111)), (8, (.v v114)), (32, (.v v0)), (33, (.v (.int .i64 (l0.length : Int)))), (34, (.v (.int .i64 (IntKind.i64.wrap (x191 + (1 : Int))))))] ⟨rfl, rfl, rfl, rfl, rfl, rfl, trivial⟩ (h _ _  hs)
        · refine fi_false rfl (decide_eq_false c192) ?_
          refine fi_exit rfl ?_
          refine fi_seq ?_
          refine fi_seq ?_
          refine fi_region ?_
          refine so_move (v := (.v v111)) rfl ?_
          refine sv_len (hs.shows 0 rfl) (fun _ => rfl) (by decide) rfl F91.ti24 ?_
          refine so_move (v := (.v (.int .i64 (0 : Int)))) rfl ?_
          refine so_nil ?_
          refine fi_block ?_
          refine fi_loop ?_
          refine fi_at [(2, (.v (.ptr id101 0))), (7, (.v v111)), (8, (.v v114)), (46, (.v (.int .i64 (evens189.length : Int)))), (47, (.v (.int .i64 (0 : Int))))] ⟨rfl, rfl, rfl, rfl, rfl, trivial⟩ ?_
          refine h (fun (evens228 : List (Nat)) (x229 : Int) => ∀ (s : Nat → TV) (H : Heap), Sep H (Pc.osl v111 1 (enc (eFlt .f32) evens228) :: Pc.osl v114 1 (enc (eFlt .f32) odds190) :: Pc.box id101 [v0, (.flt .f32 a1)] :: fr) → Fin _ _ (updL s [(2, (.v (.ptr id101 0))), (7, (.v v111)), (8, (.v v114)), (46, (.v (.int .i64 (evens189.length : Int)))), (47, (.v (.int .i64 x229)))]) H _) ?_ _ _ hs
          intro evens228 x229 h s258 H259 hs
          refine fi_inLoop ?_
          refine fi_seq ?_
          refine fi_region ?_
          refine so_bin rfl rfl ab_lss ?_
          refine so_nil ?_
          refine fi_seq ?_
          replace h := ofP h; rcases h with ⟨c230, h⟩ | ⟨c230, h⟩
          · refine fi_true rfl (decide_eq_true c230) ?_
            refine fi_skip ?_
            refine fi_seq ?_
            refine fi_block ?_
            refine fi_seq ?_
            refine fi_region ?_
            refine so_move (v := (.v (.int .i64 x229))) rfl ?_
            refine so_assign (v := (.v (.int .i64 x229))) rfl ?_
            refine so_nil ?_
            refine fi_region ?_
            refine so_move (v := (.v v111)) rfl ?_
            refine so_move (v := (.v (.int .i64 x229))) rfl ?_
            obtain ⟨c231, h⟩ := h
            refine sv_idx (hs.shows 0 rfl) c231 (fun _ => rfl) (by decide) rfl rfl F91.tl24 ?_
            refine sv_cell (hs.shows 0 rfl) c231 (0 : Nat) 0 (fun x => (AV.flt .f32 x)) (fun _ => rfl) (fun _ => rfl) rfl F91.ag26 ?_
            refine so_fieldAddr rfl F91.fd38_1 ?_
            refine sv_ld hs 2 rfl rfl rfl F91.ag26 ?_
            refine so_bin rfl rfl ab_fmul ?_
            refine sv_idx (hs.shows 0 rfl) c231 (fun _ => rfl) (by decide) rfl rfl F91.tl24 ?_
            refine sv_set hs 0 rfl c231 (fop .mul .f32 (evens228.getD (x229).toNat (0 : Nat)) a1) (fun _ => rfl) (by decide) rfl rfl rfl rfl F91.sz26 (fun _ => by kernel_rfl) (fun H232 hs => ?_)
            refine so_nil ?_
            refine fi_inBlock ?_
            refine fi_region ?_
            refine so_bin rfl rfl ab_add ?_
            refine so_move (v := (.v (.int .i64 (IntKind.i64.wrap (x229 + (1 : Int)))))) rfl ?_
            refine so_nil ?_
            exact fi_at [(2, (.v (.ptr id101 0))), (7, (.v v111)), (8, (.v v114)), (46, (.v (.int .i64 (evens189.length : Int)))), (47, (.v (.int .i64 (IntKind.i64.wrap (x229 + (1 : Int))))))] ⟨rfl, rfl, rfl, rfl, rfl, trivial⟩ (h _ _  hs)
          · refine fi_false rfl (decide_eq_false c230) ?_
            refine fi_exit rfl ?_
            refine fi_seq ?_
            refine fi_seq ?_
            refine fi_region ?_
            refine so_move (v := (.v v114)) rfl ?_
            refine sv_len (hs.shows 1 rfl) (fun _ => rfl) (by decide) rfl F91.ti24 ?_
            refine so_move (v := (.v (.int .i64 (0 : Int)))) rfl ?_
            refine so_nil ?_
            refine fi_block ?_
            refine fi_loop ?_
            refine fi_at [(2, (.v (.ptr id101 0))), (7, (.v v111)), (8, (.v v114)), (60, (.v (.int .i64 (odds190.length : Int)))), (61, (.v (.int .i64 (0 : Int))))] ⟨rfl, rfl, rfl, rfl, rfl, trivial⟩ ?_
            refine h (fun (odds245 : List (Nat)) (x246 : Int) => ∀ (s : Nat → TV) (H : Heap), Sep H (Pc.osl v111 1 (enc (eFlt .f32) evens228) :: Pc.osl v114 1 (enc (eFlt .f32) odds245) :: Pc.box id101 [v0, (.flt .f32 a1)] :: fr) → Fin _ _ (updL s [(2, (.v (.ptr id101 0))), (7, (.v v111)), (8, (.v v114)), (60, (.v (.int .i64 (odds190.length : Int)))), (61, (.v (.int .i64 x246)))]) H _) ?_ _ _ hs
            intro odds245 x246 h s256 H257 hs
            refine fi_inLoop ?_
            refine fi_seq ?_
            refine fi_region ?_
            refine so_bin rfl rfl ab_lss ?_
            refine so_nil ?_
            refine fi_seq ?_
            replace h := ofP h; rcases h with ⟨c247, h⟩ | ⟨c247, h⟩
            · refine fi_true rfl (decide_eq_true c247) ?_
              refine fi_skip ?_
              refine fi_seq ?_
              refine fi_block ?_
              refine fi_seq ?_
              refine fi_region ?_
              refine so_move (v := (.v (.int .i64 x246))) rfl ?_
              refine so_assign (v := (.v (.int .i64 x246))) rfl ?_
              refine so_nil ?_
              refine fi_region ?_
              refine so_move (v := (.v v114)) rfl ?_
              refine so_move (v := (.v (.int .i64 x246))) rfl ?_
              obtain ⟨c248, h⟩ := h
              refine sv_idx (hs.shows 1 rfl) c248 (fun _ => rfl) (by decide) rfl rfl F91.tl24 ?_
              refine sv_cell (hs.shows 1 rfl) c248 (0 : Nat) 0 (fun x => (AV.flt .f32 x)) (fun _ => rfl) (fun _ => rfl) rfl F91.ag26 ?_
              refine so_fieldAddr rfl F91.fd38_1 ?_
              refine sv_ld hs 2 rfl rfl rfl F91.ag26 ?_
              refine so_bin rfl rfl ab_fquo ?_
              refine sv_idx (hs.shows 1 rfl) c248 (fun _ => rfl) (by decide) rfl rfl F91.tl24 ?_
              refine sv_set hs 1 rfl c248 (fop .quo .f32 (odds245.getD (x246).toNat (0 : Nat)) a1) (fun _ => rfl) (by decide) rfl rfl rfl rfl F91.sz26 (fun _ => by kernel_rfl) (fun H249 hs => ?_)
              refine so_nil ?_
              refine fi_inBlock ?_
              refine fi_region ?_
              refine so_bin rfl rfl ab_add ?_
              refine so_move (v := (.v (.int .i64 (IntKind.i64.wrap (x246 + (1 : Int)))))) rfl ?_
              refine so_nil ?_
              exact fi_at [(2, (.v (.ptr id101 0))), (7, (.v v111)), (8, (.v v114)), (60, (.v (.int .i64 (odds190.length : Int)))), (61, (.v (.int .i64 (IntKind.i64.wrap (x246 + (1 : Int))))))] ⟨rfl, rfl, rfl, rfl, rfl, trivial⟩ (h _ _  hs)
            · refine fi_false rfl (decide_eq_false c247) ?_
              refine fi_exit rfl ?_
              refine fi_seq ?_
              refine fi_seq ?_
              refine fi_region ?_
              refine so_move (v := (.v v111)) rfl ?_
              refine so_move (v := (.v v114)) rfl ?_
              refine sd_bslice hs [[v111], [v114]] F91.te72 F91.sz24 F91.ze24 rfl rfl rfl (by simp) (fac (stc (hs.shows 0 rfl).stor stn) (fac (stc (hs.shows 1 rfl).stor stn) fan)) (by decide) rfl nofun (fun v250 H251 _ hs => ?_)
              refine sv_callS (impl_areFinite_ok v250 ([[v111], [v114]]) ([evens228, odds245] : List (List (Nat))) hs (fun _ hs => ⟨hs.shows 0 rfl, by simp, ⟨⟨rfl, (hs.shows 1 rfl)⟩, ⟨⟨rfl, (hs.shows 2 rfl)⟩, trivial⟩⟩⟩) _ h) (fun _ _ ⟨_, _, _, e⟩ => e) rfl rfl ?_
              clear h
              rintro _ _ ⟨y253, h, rfl, rfl⟩
              refine so_un rfl au_not ?_
              refine so_nil ?_
              replace h := ofT h; rcases h with ⟨c255, h⟩ | ⟨c255, h⟩
              · refine fi_false rfl (not_f c255) ?_
                refine fi_skip ?_
                refine fi_seq ?_
                refine fi_region ?_
                refine so_move (v := (.v v111)) rfl ?_
                refine so_move (v := (.v v114)) rfl ?_
                refine so_assign (v := (.v v111)) rfl ?_
                refine so_assign (v := (.v v114)) rfl ?_
                refine so_assign (v := (.v (.bool true))) rfl ?_
                refine so_nil ?_
                exact by_ret rfl ⟨_, _, _, h, _, _, rfl, (Sep.front 1 (Sep.front 1 (Sep.del 2 (Sep.del 0 hs)) rfl) rfl)⟩
              · refine fi_true rfl (not_t c255) ?_
                refine fi_seq ?_
                refine fi_region ?_
                refine so_assign (v := (.v .nilsl)) rfl ?_
                refine so_assign (v := (.v .nilsl)) rfl ?_
                refine so_assign (v := (.v (.bool false))) rfl ?_
                refine so_nil ?_
                exact by_ret rfl ⟨_, _, _, h, _, _, rfl, (Sep.nil (Sep.nil (Sep.dropn 4 hs) 1) 1)⟩
    · refine fi_true rfl (not_t c109) ?_
      refine fi_seq ?_
      refine fi_region ?_
      refine so_assign (v := (.v .nilsl)) rfl ?_
      refine so_assign (v := (.v .nilsl)) rfl ?_
      refine so_assign (v := (.v (.bool false))) rfl ?_
      refine so_nil ?_
      exact by_ret rfl ⟨_, _, _, h, _, _, rfl, (Sep.nil (Sep.nil (Sep.del 0 hs) 1) 1)⟩
  · refine so_gno rfl (not_t c106) ?_
    refine so_gno rfl (not_t c106) ?_
    refine so_gno rfl (not_t c106) ?_
    refine so_pick_t (v := (.v (.bool true))) rfl (not_t c106) rfl ?_
    refine so_nil ?_
    refine fi_true rfl rfl ?_
    refine fi_seq ?_
    refine fi_region ?_
    refine so_assign (v := (.v .nilsl)) rfl ?_
    refine so_assign (v := (.v .nilsl)) rfl ?_
    refine so_assign (v := (.v (.bool false))) rfl ?_
    refine so_nil ?_
    exact by_ret rfl ⟨_, _, _, h, _, _, rfl, (Sep.nil (Sep.nil (Sep.del 0 hs) 1) 1)⟩
theorem F46.ag38 : tagg Try.prog 38 = some true := by kernel_rfl
theorem F46.inf38 : (Try.prog.info? 38).isSome = true := by kernel_rfl
theorem F46.sz24 : tsz Try.prog 24 = some 1 := by kernel_rfl
theorem F46.sz38 : tsz Try.prog 38 = some 2 := by kernel_rfl
theorem F46.ta72_72 : tapp Try.prog 72 72 = some (1, 24) := by kernel_rfl
theorem F46.te72 : telem Try.prog 72 = some 24 := by kernel_rfl
theorem F46.ti24 : (telem Try.prog 24).isSome = true := by kernel_rfl
theorem F46.ze24 : tzero Try.prog 24 = some [.nilsl] := by kernel_rfl
theorem impl_LiftDeep_ok {fr : List Pc} {H : Heap} (v0 : AV) (l0 : List (Nat)) (a1 : Nat) (v2 : AV) (l2 : List (Nat)) (a3 : Int) (hs : Sep H (fr)) (g0 : ∀ H, Sep H fr → Shows H v0 1 (enc (eFlt .f32) l0)) (g2 : ∀ H, Sep H fr → Shows H v2 1 (enc (eFlt .f32) l2)) (K : (List (List (Nat))) → Bool → Prop) (h : impl_LiftDeep.wp l0 a1 l2 a3 K) : OkQ Try.prog 46 [(.g [v0, (.flt .f32 a1)]), (.v v2), (.v (.int .i64 a3))] H (fun r H2 => ∃ (y0 : List (List (Nat))) (y1 : Bool), K y0 y1 ∧ ∃ (w0_ : AV) (wsw0_ : List (List AV)) (Sw0_ : Nat → Prop), r = (.t [(.v w0_), (.v (.bool y1))]) ∧ Sep H2 (dpc w0_ 1 R_LeFlt_f32_o IR_LeFlt_f32_o y0 wsw0_ Sw0_ :: fr)) := by
  unfold impl_LiftDeep.wp at h
  refine of_body Try.f46 F.hm Try.func46 rfl Try.call46 (by kernel_rfl) (by simp) ?_
  refine fi_seq ?_
  refine fi_region ?_
  refine sv_box hs rfl (c := [v0, (.flt .f32 a1)]) rfl F46.inf38 (stc (g0 _ hs).stor (stc rfl stn)) nofun (fun id101 H102 hs => ?_)
  refine so_assign (v := (.v .nilsl)) rfl ?_
  refine so_assign (v := (.v (.bool false))) rfl ?_
  refine so_nil ?_
  refine fi_seq ?_
  refine fi_seq ?_
  refine fi_region ?_
  refine sv_lds hs 0 rfl rfl (leb rfl) rfl F46.ag38 F46.sz38 ?_
  refine sv_callS (impl_ValidScheme_okS v0 l0 a1 hs (fun _ hs => (g0 _ hs.tl)) _ h) (fun _ _ ⟨_, _, _, e⟩ => e) rfl rfl ?_
  clear h
  rintro _ _ ⟨y104, h, rfl, rfl⟩
  refine so_un rfl au_not ?_
  refine so_move (v := (.v (.bool (!y104)))) rfl ?_
  replace h := ofT h; rcases h with ⟨c106, h⟩ | ⟨c106, h⟩
  · refine so_gyes rfl (not_f c106) ?_
    refine so_move (v := (.v v2)) rfl ?_
    refine so_gyes rfl (not_f c106) ?_
    refine sv_callS (impl_IsList_okS v2 l2 hs (fun _ hs => (g2 _ hs.tl)) _ h) (fun _ _ ⟨_, _, _, e⟩ => e) rfl rfl ?_
    clear h
    rintro _ _ ⟨y107, h, rfl, rfl⟩
    refine so_gyes rfl (not_f c106) ?_
    refine so_un rfl au_not ?_
    refine so_pick_f (v := (.v (.bool (!y107)))) rfl (not_f c106) rfl ?_
    refine so_move (v := (.v (.bool (!y107)))) rfl ?_
    replace h := ofT h; rcases h with ⟨c109, h⟩ | ⟨c109, h⟩
    · refine so_gyes rfl (not_f c109) ?_
      refine so_move (v := (.v (.int .i64 a3))) rfl ?_
      refine so_gyes rfl (not_f c109) ?_
      refine sv_callS (impl_within_ok a3 (1 : Int) (6 : Int) hs  _ h) (fun _ _ ⟨_, _, _, e⟩ => e) rfl rfl ?_
      clear h
      rintro _ _ ⟨y110, h, rfl, rfl⟩
      refine so_gyes rfl (not_f c109) ?_
      refine so_un rfl au_not ?_
      refine so_pick_f (v := (.v (.bool (!y110)))) rfl (not_f c109) rfl ?_
      refine so_nil ?_
      replace h := ofT h; rcases h with ⟨c112, h⟩ | ⟨c112, h⟩
      · refine fi_false rfl (not_f c112) ?_
        refine fi_skip ?_
        refine fi_seq ?_
        refine fi_region ?_
        refine sk_empty hs R_LeFlt_f32_o IR_LeFlt_f32_o F46.te72 F46.sz24 F46.ze24 rfl nofun (fun v113 ws114 S115 H116 _ hs => ?_)
        refine so_move (v := (.v v2)) rfl ?_
        refine sv_call (impl_copyOf_ok v2 l2 hs (fun _ hs => (g2 _ hs.tl.tl)) _ h) rfl rfl nofun ?_
        clear h hs
        rintro _ H121 ⟨y118, h, v119, rfl, hs⟩
        refine so_assign (v := (.v v113)) rfl ?_
        refine so_assign (v := (.v v119)) rfl ?_
        refine so_nil ?_
        refine fi_seq ?_
        refine fi_seq ?_
        refine fi_region ?_
        refine so_assign (v := (.v (.int .i64 (0 : Int)))) rfl ?_
        refine so_nil ?_
        refine fi_block ?_
        refine fi_loop ?_
        refine fi_at [(2, (.v (.int .i64 a3))), (3, (.v (.ptr id101 0))), (8, (.v v113)), (9, (.v v119)), (10, (.v (.int .i64 (0 : Int))))] ⟨rfl, rfl, rfl, rfl, rfl, trivial⟩ ?_
        refine h (fun (now166 : List (Nat)) (out168 : List (List (Nat))) (k172 : Int) => ∀ (s : Nat → TV) (H : Heap) (v167 : AV) (v169 : AV) (ws170 : List (List AV)) (S171 : Nat → Prop), Sep H (Pc.osl v167 1 (enc (eFlt .f32) now166) :: dpc v169 1 R_LeFlt_f32_o IR_LeFlt_f32_o out168 ws170 S171 :: Pc.box id101 [v0, (.flt .f32 a1)] :: fr) → Fin _ _ (updL s [(2, (.v (.int .i64 a3))), (3, (.v (.ptr id101 0))), (8, (.v v169)), (9, (.v v167)), (10, (.v (.int .i64 k172)))]) H _) ?_ _ _ _ _ _ _ hs
        intro now166 out168 k172 h s208 H209 v167 v169 ws170 S171 hs
        refine fi_inLoop ?_
        refine fi_seq ?_
        refine fi_seq ?_
        refine fi_region ?_
        refine so_move (v := (.v (.int .i64 k172))) rfl ?_
        refine so_move (v := (.v (.int .i64 a3))) rfl ?_
        refine so_bin rfl rfl ab_lss ?_
        refine so_move (v := (.v (.bool (decide (k172 < a3))))) rfl ?_
        replace h := ofP h; rcases h with ⟨c173, h⟩ | ⟨c173, h⟩
        · refine so_gyes rfl (decide_eq_true c173) ?_
          refine so_move (v := (.v v167)) rfl ?_
          refine so_gyes rfl (decide_eq_true c173) ?_
          refine sv_len (hs.shows 0 rfl) (fun _ => rfl) (by decide) rfl F46.ti24 ?_
          refine so_gyes rfl (decide_eq_true c173) ?_
          refine so_bin rfl rfl ab_gtr ?_
          refine so_pick_t (v := (.v (.bool (decide ((1 : Int) < (now166.length : Int)))))) rfl (decide_eq_true c173) rfl ?_
          refine so_nil ?_
          replace h := ofP h; rcases h with ⟨c174, h⟩ | ⟨c174, h⟩
          · refine fi_true rfl (decide_eq_true c174) ?_
            refine fi_skip ?_
            refine fi_seq ?_
            refine fi_block ?_
            refine fi_seq ?_
            refine fi_region ?_
            refine sv_lds hs 2 rfl rfl (leb rfl) rfl F46.ag38 F46.sz38 ?_
            refine so_move (v := (.v v167)) rfl ?_
            refine sv_call (impl_LiftOnce_ok v0 l0 a1 v167 now166 hs (fun _ hs => (g0 _ hs.tl.tl.tl)) (fun _ hs => (hs.shows 0 rfl)) _ h) rfl rfl nofun ?_
            clear h hs
            rintro _ H182 ⟨y175, y178, y181, h, v176, v179, rfl, hs⟩
            refine so_move (v := (.t [(.v v176), (.v v179), (.v (.bool y181))])) rfl ?_
            refine so_extract rfl rfl rfl ?_
            refine so_extract rfl rfl rfl ?_
            refine so_extract rfl rfl rfl ?_
            refine so_assign (v := (.v v176)) rfl ?_
            refine so_assign (v := (.v v179)) rfl ?_
            refine so_assign (v := (.v (.bool y181))) rfl ?_
            refine so_nil ?_
            refine fi_seq ?_
            refine fi_seq ?_
            refine fi_region ?_
            refine so_move (v := (.v (.bool y181))) rfl ?_
            refine so_un rfl au_not ?_
            refine so_nil ?_
            replace h := ofT h; rcases h with ⟨c183, h⟩ | ⟨c183, h⟩
            · refine fi_false rfl (not_f c183) ?_
              refine fi_skip ?_
              refine fi_seq ?_
              refine fi_region ?_
              refine so_move (v := (.v v169)) rfl ?_
              refine so_move (v := (.v v179)) rfl ?_
              refine sd_bslice hs [[v179]] F46.te72 F46.sz24 F46.ze24 rfl rfl rfl (by simp) (fac (stc (hs.shows 1 rfl).stor stn) fan) (by decide) rfl nofun (fun v184 H185 _ hs => ?_)
              obtain ⟨c187, h⟩ := h
              replace hs := Sep.front 2 hs rfl
              refine sk_app hs 3 rfl y178 [v179] (hs.tl.shows 0 rfl) (fun _ hh => ⟨rfl, hh⟩) rfl rfl (by decide) F46.ta72_72 (by decide) c187 rfl rfl nofun (fun v188 ws189 S190 H191 hs => ?_)
              replace hs := hs.del 0
              refine so_assign (v := (.v v188)) rfl ?_
              refine so_nil ?_
              refine fi_region ?_
              refine so_move (v := (.v v176)) rfl ?_
              refine so_assign (v := (.v v176)) rfl ?_
              refine so_nil ?_
              refine fi_inBlock ?_
              refine fi_region ?_
              refine so_move (v := (.v (.int .i64 k172))) rfl ?_
              refine so_bin rfl rfl ab_add ?_
              refine so_assign (v := (.v (.int .i64 (IntKind.i64.wrap (k172 + (1 : Int)))))) rfl ?_
              refine so_nil ?_
              exact fi_at [(2, (.v (.int .i64 a3))), (3, (.v (.ptr id101 0))), (8, (.v v188)), (9, (.v v176)), (10, (.v (.int .i64 (IntKind.i64.wrap (k172 + (1 : Int))))))] ⟨rfl, rfl, rfl, rfl, rfl, trivial⟩ (h _ _ _ _ _ _ (Sep.del 1 hs))
            · refine fi_true rfl (not_t c183) ?_
              refine fi_seq ?_
              refine fi_region ?_
              refine so_assign (v := (.v .nilsl)) rfl ?_
              refine so_assign (v := (.v (.bool false))) rfl ?_
              refine so_nil ?_
              exact by_ret rfl ⟨_, _, h, _, _, _, rfl, (Sep.dnil (Sep.dropn 5 hs) 1 R_LeFlt_f32_o IR_LeFlt_f32_o)⟩
          · refine fi_false rfl (decide_eq_false c174) ?_
            refine fi_exit rfl ?_
            refine fi_seq ?_
            refine fi_region ?_
            refine so_move (v := (.v v169)) rfl ?_
            refine so_move (v := (.v v167)) rfl ?_
            refine sd_bslice hs [[v167]] F46.te72 F46.sz24 F46.ze24 rfl rfl rfl (by simp) (fac (stc (hs.shows 0 rfl).stor stn) fan) (by decide) rfl nofun (fun v192 H193 _ hs => ?_)
            obtain ⟨c195, h⟩ := h
            replace hs := Sep.front 1 hs rfl
            refine sk_app hs 1 rfl now166 [v167] (hs.tl.shows 0 rfl) (fun _ hh => ⟨rfl, hh⟩) rfl rfl (by decide) F46.ta72_72 (by decide) c195 rfl rfl nofun (fun v196 ws197 S198 H199 hs => ?_)
            replace hs := hs.del 0
            refine so_assign (v := (.v v196)) rfl ?_
            refine so_assign (v := (.v (.bool true))) rfl ?_
            refine so_nil ?_
            exact by_ret rfl ⟨_, _, h, _, _, _, rfl, (Sep.del 1 hs)⟩
        · refine so_gno rfl (decide_eq_false c173) ?_
          refine so_gno rfl (decide_eq_false c173) ?_
          refine so_gno rfl (decide_eq_false c173) ?_
          refine so_pick_f (v := (.v (.bool false))) rfl (decide_eq_false c173) rfl ?_
          refine so_nil ?_
          refine fi_false rfl rfl ?_
          refine fi_exit rfl ?_
          refine fi_seq ?_
          refine fi_region ?_
          refine so_move (v := (.v v169)) rfl ?_
          refine so_move (v := (.v v167)) rfl ?_
          refine sd_bslice hs [[v167]] F46.te72 F46.sz24 F46.ze24 rfl rfl rfl (by simp) (fac (stc (hs.shows 0 rfl).stor stn) fan) (by decide) rfl nofun (fun v200 H201 _ hs => ?_)
          obtain ⟨c203, h⟩ := h
          replace hs := Sep.front 1 hs rfl
          refine sk_app hs 1 rfl now166 [v167] (hs.tl.shows 0 rfl) (fun _ hh => ⟨rfl, hh⟩) rfl rfl (by decide) F46.ta72_72 (by decide) c203 rfl rfl nofun (fun v204 ws205 S206 H207 hs => ?_)
          replace hs := hs.del 0
          refine so_assign (v := (.v v204)) rfl ?_
          refine so_assign (v := (.v (.bool true))) rfl ?_
          refine so_nil ?_
          exact by_ret rfl ⟨_, _, h, _, _, _, rfl, (Sep.del 1 hs)⟩
      · refine fi_true rfl (not_t c112) ?_
        refine fi_seq ?_
        refine fi_region ?_
        refine so_assign (v := (.v .nilsl)) rfl ?_
        refine so_assign (v := (.v (.bool false))) rfl ?_
        refine so_nil ?_
        exact by_ret rfl ⟨_, _, h, _, _, _, rfl, (Sep.dnil (Sep.del 0 hs) 1 R_LeFlt_f32_o IR_LeFlt_f32_o)⟩
    · refine so_gno rfl (not_t c109) ?_
      refine so_gno rfl (not_t c109) ?_
      refine so_gno rfl (not_t c109) ?_
      refine so_pick_t (v := (.v (.bool true))) rfl (not_t c109) rfl ?_
      refine so_nil ?_
      refine fi_true rfl rfl ?_
      refine fi_seq ?_
      refine fi_region ?_
      refine so_assign (v := (.v .nilsl)) rfl ?_
      refine so_assign (v := (.v (.bool false))) rfl ?_
      refine so_nil ?_
      exact by_ret rfl ⟨_, _, h, _, _, _, rfl, (Sep.dnil (Sep.del 0 hs) 1 R_LeFlt_f32_o IR_LeFlt_f32_o)⟩
  · refine so_gno rfl (not_t c106) ?_
    refine so_gno rfl (not_t c106) ?_
    refine so_gno rfl (not_t c106) ?_
    refine so_pick_t (v := (.v (.bool true))) rfl (not_t c106) rfl ?_
    refine so_move (v := (.v (.bool true))) rfl ?_
    refine so_gno rfl rfl ?_
    refine so_gno rfl rfl ?_
    refine so_gno rfl rfl ?_
    refine so_pick_t (v := (.v (.bool true))) rfl rfl rfl ?_
    refine so_nil ?_
    refine fi_true rfl rfl ?_
    refine fi_seq ?_
    refine fi_region ?_
    refine so_assign (v := (.v .nilsl)) rfl ?_
    refine so_assign (v := (.v (.bool false))) rfl ?_
    refine so_nil ?_
    exact by_ret rfl ⟨_, _, h, _, _, _, rfl, (Sep.dnil (Sep.del 0 hs) 1 R_LeFlt_f32_o IR_LeFlt_f32_o)⟩
theorem F131.ag3 : tagg Try.prog 3 = some false := by kernel_rfl
theorem F131.ti140 : (telem Try.prog 140).isSome = true := by kernel_rfl
theorem F131.tl140 : (telem Try.prog 140).bind (tsz Try.prog) = some 1 := by kernel_rfl
theorem impl_areSizes_ok {fr : List Pc} {H : Heap} (v0 : AV) (l0 : List (Int)) (hs : Sep H (fr)) (g0 : ∀ H, Sep H fr → Shows H v0 1 (enc (eInt .i64) l0)) (K : Bool → Prop) (h : impl_areSizes.wp l0 K) : OkQ Try.prog 131 [(.v v0)] H (fun r H2 => ∃ (y0 : Bool), K y0 ∧ r = (.v (.bool y0)) ∧ H = H2) := by
  unfold impl_areSizes.wp at h
  refine of_body Try.f131 F.hm Try.func131 rfl Try.call131 (by kernel_rfl) (by simp) ?_
  refine fi_seq ?_
  refine fi_region ?_
  refine so_assign (v := (.v (.bool false))) rfl ?_
  refine so_nil ?_
  refine fi_seq ?_
  refine fi_region ?_
  refine so_move (v := (.v v0)) rfl ?_
  refine sv_len (g0 _ hs) (fun _ => rfl) (by decide) rfl F131.ti140 ?_
  refine so_bin rfl rfl ab_sub ?_
  refine so_assign (v := (.v (.int .i64 (IntKind.i64.wrap ((l0.length : Int) - (1 : Int)))))) rfl ?_
  refine so_nil ?_
  refine fi_seq ?_
  refine fi_seq ?_
  refine fi_region ?_
  refine so_move (v := (.v (.int .i64 (IntKind.i64.wrap ((l0.length : Int) - (1 : Int)))))) rfl ?_
  refine sv_callS (impl_within_ok (IntKind.i64.wrap ((l0.length : Int) - (1 : Int))) (0 : Int) (6 : Int) hs  _ h) (fun _ _ ⟨_, _, _, e⟩ => e) rfl rfl ?_
  clear h
  rintro _ _ ⟨y101, h, rfl, rfl⟩
  refine so_un rfl au_not ?_
  refine so_move (v := (.v (.bool (!y101)))) rfl ?_
  replace h := ofT h; rcases h with ⟨c103, h⟩ | ⟨c103, h⟩
  · refine so_gyes rfl (not_f c103) ?_
    refine so_move (v := (.v v0)) rfl ?_
    refine so_gyes rfl (not_f c103) ?_
    refine so_move (v := (.v (.int .i64 (IntKind.i64.wrap ((l0.length : Int) - (1 : Int)))))) rfl ?_
    refine so_gyes rfl (not_f c103) ?_
    obtain ⟨c104, h⟩ := h
    refine sv_idx (g0 _ hs) c104 (fun _ => rfl) (by decide) rfl rfl F131.tl140 ?_
    refine so_gyes rfl (not_f c103) ?_
    refine sv_cell (g0 _ hs) c104 (0 : Int) 0 (fun x => (AV.int .i64 x)) (fun _ => rfl) (fun _ => rfl) rfl F131.ag3 ?_
    refine so_gyes rfl (not_f c103) ?_
    refine so_bin rfl rfl ab_lss ?_
    refine so_pick_f (v := (.v (.bool (decide ((l0.getD ((IntKind.i64.wrap ((l0.length : Int) - (1 : Int)))).toNat (0 : Int)) < (1 : Int)))))) rfl (not_f c103) rfl ?_
    refine so_move (v := (.v (.bool (decide ((l0.getD ((IntKind.i64.wrap ((l0.length : Int) - (1 : Int)))).toNat (0 : Int)) < (1 : Int)))))) rfl ?_
    replace h := ofP h; rcases h with ⟨c105, h⟩ | ⟨c105, h⟩
    · refine so_gno rfl (decide_eq_true c105) ?_
      refine so_gno rfl (decide_eq_true c105) ?_
      refine so_gno rfl (decide_eq_true c105) ?_
      refine so_gund rfl ?_
      refine so_gund rfl ?_
      refine so_gund rfl ?_
      refine so_gund rfl ?_
      refine so_gno rfl (decide_eq_true c105) ?_
      refine so_pick_t (v := (.v (.bool true))) rfl (decide_eq_true c105) rfl ?_
      refine so_nil ?_
      refine fi_true rfl rfl ?_
      refine fi_seq ?_
      refine fi_region ?_
      refine so_assign (v := (.v (.bool false))) rfl ?_
      refine so_nil ?_
      exact by_ret rfl ⟨_, h, rfl, rfl⟩
    · refine so_gyes rfl (decide_eq_false c105) ?_
      refine so_move (v := (.v (.int .i64 (IntKind.i64.wrap ((l0.length : Int) - (1 : Int)))))) rfl ?_
      refine so_gyes rfl (decide_eq_false c105) ?_
      refine so_bin rfl rfl ab_eql ?_
      refine so_gyes rfl (decide_eq_false c105) ?_
      refine so_move (v := (.v (.bool (decide ((IntKind.i64.wrap ((l0.length : Int) - (1 : Int))) = (0 : Int)))))) rfl ?_
      replace h := ofP h; rcases h with ⟨c106, h⟩ | ⟨c106, h⟩
      · refine so_gyes rfl (decide_eq_true c106) ?_
        refine so_move (v := (.v v0)) rfl ?_
        refine so_gyes rfl (decide_eq_true c106) ?_
        obtain ⟨c107, h⟩ := h
        refine sv_idx (g0 _ hs) c107 (fun _ => rfl) (by decide) rfl rfl F131.tl140 ?_
        refine so_gyes rfl (decide_eq_true c106) ?_
        refine sv_cell (g0 _ hs) c107 (0 : Int) 0 (fun x => (AV.int .i64 x)) (fun _ => rfl) (fun _ => rfl) rfl F131.ag3 ?_
        refine so_gyes rfl (decide_eq_true c106) ?_
        refine so_bin rfl rfl ab_neq ?_
        refine so_gyes rfl (decide_eq_false c105) ?_
        refine so_pick_t (v := (.v (.bool (!(decide ((l0.getD ((0 : Int)).toNat (0 : Int)) = (1 : Int))))))) rfl (decide_eq_true c106) rfl ?_
        refine so_pick_f (v := (.v (.bool (!(decide ((l0.getD ((0 : Int)).toNat (0 : Int)) = (1 : Int))))))) rfl (decide_eq_false c105) rfl ?_
        refine so_nil ?_
        replace h := ofP h; rcases h with ⟨c108, h⟩ | ⟨c108, h⟩
        · refine fi_false rfl (not_f (decide_eq_true c108)) ?_
          refine fi_skip ?_
          refine fi_seq ?_
          refine fi_region ?_
          refine so_move (v := (.v v0)) rfl ?_
          refine so_move (v := (.v (.int .i64 (IntKind.i64.wrap ((l0.length : Int) - (1 : Int)))))) rfl ?_
          refine sv_idx (g0 _ hs) c104 (fun _ => rfl) (by decide) rfl rfl F131.tl140 ?_
          refine sv_cell (g0 _ hs) c104 (0 : Int) 0 (fun x => (AV.int .i64 x)) (fun _ => rfl) (fun _ => rfl) rfl F131.ag3 ?_
          refine so_assign (v := (.v (.int .i64 (l0.getD ((IntKind.i64.wrap ((l0.length : Int) - (1 : Int)))).toNat (0 : Int))))) rfl ?_
          refine so_nil ?_
          refine fi_seq ?_
          refine fi_seq ?_
          refine fi_region ?_
          refine so_move (v := (.v (.int .i64 (IntKind.i64.wrap ((l0.length : Int) - (1 : Int)))))) rfl ?_
          refine so_bin rfl rfl ab_sub ?_
          refine so_assign (v := (.v (.int .i64 (IntKind.i64.wrap ((IntKind.i64.wrap ((l0.length : Int) - (1 : Int))) - (1 : Int)))))) rfl ?_
          refine so_nil ?_
          refine fi_block ?_
          refine fi_loop ?_
          refine fi_at [(0, (.v v0)), (4, (.v (.int .i64 (l0.getD ((IntKind.i64.wrap ((l0.length : Int) - (1 : Int)))).toNat (0 : Int))))), (5, (.v (.int .i64 (IntKind.i64.wrap ((IntKind.i64.wrap ((l0.length : Int) - (1 : Int))) - (1 : Int))))))] ⟨rfl, rfl, rfl, trivial⟩ ?_
          refine h (fun (n110 : Int) (i111 : Int) => ∀ (s : Nat → TV), Fin _ _ (updL s [(0, (.v v0)), (4, (.v (.int .i64 n110))), (5, (.v (.int .i64 i111)))]) _ _) ?_ _
          intro n110 i111 h s119
          refine fi_inLoop ?_
          refine fi_seq ?_
          refine fi_seq ?_
          refine fi_region ?_
          refine so_move (v := (.v (.int .i64 i111))) rfl ?_
          refine so_bin rfl rfl ab_geq ?_
          refine so_nil ?_
          replace h := ofP h; rcases h with ⟨c112, h⟩ | ⟨c112, h⟩
          · refine fi_true rfl (decide_eq_true c112) ?_
            refine fi_skip ?_
            refine fi_seq ?_
            refine fi_block ?_
            refine fi_seq ?_
            refine fi_seq ?_
            refine fi_region ?_
            refine so_move (v := (.v v0)) rfl ?_
            refine so_move (v := (.v (.int .i64 i111))) rfl ?_
            obtain ⟨c113, h⟩ := h
            refine sv_idx (g0 _ hs) c113 (fun _ => rfl) (by decide) rfl rfl F131.tl140 ?_
            refine sv_cell (g0 _ hs) c113 (0 : Int) 0 (fun x => (AV.int .i64 x)) (fun _ => rfl) (fun _ => rfl) rfl F131.ag3 ?_
            refine so_assign (v := (.v (.int .i64 (l0.getD (i111).toNat (0 : Int))))) rfl ?_
            refine so_nil ?_
            refine fi_seq ?_
            refine fi_region ?_
            refine so_move (v := (.v (.int .i64 (l0.getD (i111).toNat (0 : Int))))) rfl ?_
            refine so_bin rfl rfl ab_lss ?_
            refine so_move (v := (.v (.bool (decide ((l0.getD (i111).toNat (0 : Int)) < (1 : Int)))))) rfl ?_
            replace h := ofP h; rcases h with ⟨c114, h⟩ | ⟨c114, h⟩
            · refine so_gno rfl (decide_eq_true c114) ?_
              refine so_gno rfl (decide_eq_true c114) ?_
              refine so_gno rfl (decide_eq_true c114) ?_
              refine so_gno rfl (decide_eq_true c114) ?_
              refine so_gund rfl ?_
              refine so_gund rfl ?_
              refine so_gund rfl ?_
              refine so_gund rfl ?_
              refine so_gno rfl (decide_eq_true c114) ?_
              refine so_pick_t (v := (.v (.bool true))) rfl (decide_eq_true c114) rfl ?_
              refine so_nil ?_
              refine fi_true rfl rfl ?_
              refine fi_seq ?_
              refine fi_region ?_
              refine so_assign (v := (.v (.bool false))) rfl ?_
              refine so_nil ?_
              exact by_ret rfl ⟨_, h, rfl, rfl⟩
            · refine so_gyes rfl (decide_eq_false c114) ?_
              refine so_move (v := (.v (.int .i64 (l0.getD (i111).toNat (0 : Int))))) rfl ?_
              refine so_gyes rfl (decide_eq_false c114) ?_
              refine so_move (v := (.v (.int .i64 n110))) rfl ?_
              refine so_gyes rfl (decide_eq_false c114) ?_
              refine so_bin rfl rfl ab_neq ?_
              refine so_gyes rfl (decide_eq_false c114) ?_
              refine so_move (v := (.v (.bool (!(decide ((l0.getD (i111).toNat (0 : Int)) = n110)))))) rfl ?_
              replace h := ofP h; rcases h with ⟨c115, h⟩ | ⟨c115, h⟩
              · refine so_gno rfl (not_f (decide_eq_true c115)) ?_
                refine so_gno rfl (not_f (decide_eq_true c115)) ?_
                refine so_gno rfl (not_f (decide_eq_true c115)) ?_
                refine so_gno rfl (not_f (decide_eq_true c115)) ?_
                refine so_gyes rfl (decide_eq_false c114) ?_
                refine so_pick_f (v := (.v (.bool false))) rfl (not_f (decide_eq_true c115)) rfl ?_
                refine so_pick_f (v := (.v (.bool false))) rfl (decide_eq_false c114) rfl ?_
                refine so_nil ?_
                refine fi_false rfl rfl ?_
                refine fi_skip ?_
                refine fi_seq ?_
                refine fi_region ?_
                refine so_move (v := (.v (.int .i64 n110))) rfl ?_
                refine so_move (v := (.v v0)) rfl ?_
                refine so_move (v := (.v (.int .i64 i111))) rfl ?_
                refine sv_idx (g0 _ hs) c113 (fun _ => rfl) (by decide) rfl rfl F131.tl140 ?_
                refine sv_cell (g0 _ hs) c113 (0 : Int) 0 (fun x => (AV.int .i64 x)) (fun _ => rfl) (fun _ => rfl) rfl F131.ag3 ?_
                refine so_bin rfl rfl ab_add ?_
                refine so_assign (v := (.v (.int .i64 (IntKind.i64.wrap (n110 + (l0.getD (i111).toNat (0 : Int))))))) rfl ?_
                refine so_nil ?_
                refine fi_seq ?_
                refine fi_region ?_
                refine so_move (v := (.v (.int .i64 (IntKind.i64.wrap (n110 + (l0.getD (i111).toNat (0 : Int))))))) rfl ?_
                refine so_bin rfl rfl ab_gtr ?_
                refine so_nil ?_
                replace h := ofP h; rcases h with ⟨c116, h⟩ | ⟨c116, h⟩
                · refine fi_true rfl (decide_eq_true c116) ?_
                  refine fi_seq ?_
                  refine fi_region ?_
                  refine so_assign (v := (.v (.bool false))) rfl ?_
                  refine so_nil ?_
                  exact by_ret rfl ⟨_, h, rfl, rfl⟩
                · refine fi_false rfl (decide_eq_false c116) ?_
                  refine fi_skip ?_
                  refine fi_inBlock ?_
                  refine fi_region ?_
                  refine so_move (v := (.v (.int .i64 i111))) rfl ?_
                  refine so_bin rfl rfl ab_sub ?_
                  refine so_assign (v := (.v (.int .i64 (IntKind.i64.wrap (i111 - (1 : Int)))))) rfl ?_
                  refine so_nil ?_
                  exact fi_at [(0, (.v v0)), (4, (.v (.int .i64 (IntKind.i64.wrap (n110 + (l0.getD (i111).toNat (0 : Int))))))), (5, (.v (.int .i64 (IntKind.i64.wrap (i111 - (1 : Int))))))] ⟨rfl, rfl, rfl, trivial⟩ (h _)
              · refine so_gyes rfl (not_t (decide_eq_false c115)) ?_
                refine so_move (v := (.v (.int .i64 (l0.getD (i111).toNat (0 : Int))))) rfl ?_
                refine so_gyes rfl (not_t (decide_eq_false c115)) ?_
                refine so_move (v := (.v (.int .i64 n110))) rfl ?_
                refine so_gyes rfl (not_t (decide_eq_false c115)) ?_
                refine so_bin rfl rfl ab_sub ?_
                refine so_gyes rfl (not_t (decide_eq_false c115)) ?_
                refine so_bin rfl rfl ab_neq ?_
                refine so_gyes rfl (decide_eq_false c114) ?_
                refine so_pick_t (v := (.v (.bool (!(decide ((l0.getD (i111).toNat (0 : Int)) = (IntKind.i64.wrap (n110 - (1 : Int))))))))) rfl (not_t (decide_eq_false c115)) rfl ?_
                refine so_pick_f (v := (.v (.bool (!(decide ((l0.getD (i111).toNat (0 : Int)) = (IntKind.i64.wrap (n110 - (1 : Int))))))))) rfl (decide_eq_false c114) rfl ?_
                refine so_nil ?_
                replace h := ofP h; rcases h with ⟨c117, h⟩ | ⟨c117, h⟩
                · refine fi_false rfl (not_f (decide_eq_true c117)) ?_
                  refine fi_skip ?_
                  refine fi_seq ?_
                  refine fi_region ?_
                  refine so_move (v := (.v (.int .i64 n110))) rfl ?_
                  refine so_move (v := (.v v0)) rfl ?_
                  refine so_move (v := (.v (.int .i64 i111))) rfl ?_
                  refine sv_idx (g0 _ hs) c113 (fun _ => rfl) (by decide) rfl rfl F131.tl140 ?_
                  refine sv_cell (g0 _ hs) c113 (0 : Int) 0 (fun x => (AV.int .i64 x)) (fun _ => rfl) (fun _ => rfl) rfl F131.ag3 ?_
                  refine so_bin rfl rfl ab_add ?_
                  refine so_assign (v := (.v (.int .i64 (IntKind.i64.wrap (n110 + (l0.getD (i111).toNat (0 : Int))))))) rfl ?_
                  refine so_nil ?_
                  refine fi_seq ?_
                  refine fi_region ?_
                  refine so_move (v := (.v (.int .i64 (IntKind.i64.wrap (n110 + (l0.getD (i111).toNat (0 : Int))))))) rfl ?_
                  refine so_bin rfl rfl ab_gtr ?_
                  refine so_nil ?_
                  replace h := ofP h; rcases h with ⟨c118, h⟩ | ⟨c118, h⟩
                  · refine fi_true rfl (decide_eq_true c118) ?_
                    refine fi_seq ?_
                    refine fi_region ?_
                    refine so_assign (v := (.v (.bool false))) rfl ?_
                    refine so_nil ?_
                    exact by_ret rfl ⟨_, h, rfl, rfl⟩
                  · refine fi_false rfl (decide_eq_false c118) ?_
                    refine fi_skip ?_
                    refine fi_inBlock ?_
                    refine fi_region ?_
                    refine so_move (v := (.v (.int .i64 i111))) rfl ?_
                    refine so_bin rfl rfl ab_sub ?_
                    refine so_assign (v := (.v (.int .i64 (IntKind.i64.wrap (i111 - (1 : Int)))))) rfl ?_
                    refine so_nil ?_
                    exact fi_at [(0, (.v v0)), (4, (.v (.int .i64 (IntKind.i64.wrap (n110 + (l0.getD (i111).toNat (0 : Int))))))), (5, (.v (.int .i64 (IntKind.i64.wrap (i111 - (1 : Int))))))] ⟨rfl, rfl, rfl, trivial⟩ (h _)
                · refine fi_true rfl (not_t (decide_eq_false c117)) ?_
                  refine fi_seq ?_
                  refine fi_region ?_
                  refine so_assign (v := (.v (.bool false))) rfl ?_
                  refine so_nil ?_
                  exact by_ret rfl ⟨_, h, rfl, rfl⟩
          · refine fi_false rfl (decide_eq_false c112) ?_
            refine fi_exit rfl ?_
            refine fi_seq ?_
            refine fi_region ?_
            refine so_move (v := (.v (.int .i64 n110))) rfl ?_
            refine so_bin rfl rfl ab_leq ?_
            refine so_assign (v := (.v (.bool (decide (n110 ≤ (128 : Int)))))) rfl ?_
            refine so_nil ?_
            exact by_ret rfl ⟨_, h, rfl, rfl⟩
        · refine fi_true rfl (not_t (decide_eq_false c108)) ?_
          refine fi_seq ?_
          refine fi_region ?_
          refine so_assign (v := (.v (.bool false))) rfl ?_
          refine so_nil ?_
          exact by_ret rfl ⟨_, h, rfl, rfl⟩
      · refine so_gno rfl (decide_eq_false c106) ?_
        refine so_gno rfl (decide_eq_false c106) ?_
        refine so_gno rfl (decide_eq_false c106) ?_
        refine so_gno rfl (decide_eq_false c106) ?_
        refine so_gyes rfl (decide_eq_false c105) ?_
        refine so_pick_f (v := (.v (.bool false))) rfl (decide_eq_false c106) rfl ?_
        refine so_pick_f (v := (.v (.bool false))) rfl (decide_eq_false c105) rfl ?_
        refine so_nil ?_
        refine fi_false rfl rfl ?_
        refine fi_skip ?_
        refine fi_seq ?_
        refine fi_region ?_
        refine so_move (v := (.v v0)) rfl ?_
        refine so_move (v := (.v (.int .i64 (IntKind.i64.wrap ((l0.length : Int) - (1 : Int)))))) rfl ?_
        refine sv_idx (g0 _ hs) c104 (fun _ => rfl) (by decide) rfl rfl F131.tl140 ?_
        refine sv_cell (g0 _ hs) c104 (0 : Int) 0 (fun x => (AV.int .i64 x)) (fun _ => rfl) (fun _ => rfl) rfl F131.ag3 ?_
        refine so_assign (v := (.v (.int .i64 (l0.getD ((IntKind.i64.wrap ((l0.length : Int) - (1 : Int)))).toNat (0 : Int))))) rfl ?_
        refine so_nil ?_
        refine fi_seq ?_
        refine fi_seq ?_
        refine fi_region ?_
        refine so_move (v := (.v (.int .i64 (IntKind.i64.wrap ((l0.length : Int) - (1 : Int)))))) rfl ?_
        refine so_bin rfl rfl ab_sub ?_
        refine so_assign (v := (.v (.int .i64 (IntKind.i64.wrap ((IntKind.i64.wrap ((l0.length : Int) - (1 : Int))) - (1 : Int)))))) rfl ?_
        refine so_nil ?_
        refine fi_block ?_
        refine fi_loop ?_
        refine fi_at [(0, (.v v0)), (4, (.v (.int .i64 (l0.getD ((IntKind.i64.wrap ((l0.length : Int) - (1 : Int)))).toNat (0 : Int))))), (5, (.v (.int .i64 (IntKind.i64.wrap ((IntKind.i64.wrap ((l0.length : Int) - (1 : Int))) - (1 : Int))))))] ⟨rfl, rfl, rfl, trivial⟩ ?_
        refine h (fun (n122 : Int) (i123 : Int) => ∀ (s : Nat → TV), Fin _ _ (updL s [(0, (.v v0)), (4, (.v (.int .i64 n122))), (5, (.v (.int .i64 i123)))]) _ _) ?_ _
        intro n122 i123 h s131
        refine fi_inLoop ?_
        refine fi_seq ?_
        refine fi_seq ?_
        refine fi_region ?_
        refine so_move (v := (.v (.int .i64 i123))) rfl ?_
        refine so_bin rfl rfl ab_geq ?_
        refine so_nil ?_
        replace h := ofP h; rcases h with ⟨c124, h⟩ | ⟨c124, h⟩
        · refine fi_true rfl (decide_eq_true c124) ?_
          refine fi_skip ?_
          refine fi_seq ?_
          refine fi_block ?_
          refine fi_seq ?_
          refine fi_seq ?_
          refine fi_region ?_
          refine so_move (v := (.v v0)) rfl ?_
          refine so_move (v := (.v (.int .i64 i123))) rfl ?_
          obtain ⟨c125, h⟩ := h
          refine sv_idx (g0 _ hs) c125 (fun _ => rfl) (by decide) rfl rfl F131.tl140 ?_
          refine sv_cell (g0 _ hs) c125 (0 : Int) 0 (fun x => (AV.int .i64 x)) (fun _ => rfl) (fun _ => rfl) rfl F131.ag3 ?_
          refine so_assign (v := (.v (.int .i64 (l0.getD (i123).toNat (0 : Int))))) rfl ?_
          refine so_nil ?_
          refine fi_seq ?_
          refine fi_region ?_
          refine so_move (v := (.v (.int .i64 (l0.getD (i123).toNat (0 : Int))))) rfl ?_
          refine so_bin rfl rfl ab_lss ?_
          refine so_move (v := (.v (.bool (decide ((l0.getD (i123).toNat (0 : Int)) < (1 : Int)))))) rfl ?_
          replace h := ofP h; rcases h with ⟨c126, h⟩ | ⟨c126, h⟩
          · refine so_gno rfl (decide_eq_true c126) ?_
            refine so_gno rfl (decide_eq_true c126) ?_
            refine so_gno rfl (decide_eq_true c126) ?_
            refine so_gno rfl (decide_eq_true c126) ?_
            refine so_gund rfl ?_
            refine so_gund rfl ?_
            refine so_gund rfl ?_
            refine so_gund rfl ?_
            refine so_gno rfl (decide_eq_true c126) ?_
            refine so_pick_t (v := (.v (.bool true))) rfl (decide_eq_true c126) rfl ?_
            refine so_nil ?_
            refine fi_true rfl rfl ?_
            refine fi_seq ?_
            refine fi_region ?_
            refine so_assign (v := (.v (.bool false))) rfl ?_
            refine so_nil ?_
            exact by_ret rfl ⟨_, h, rfl, rfl⟩
          · refine so_gyes rfl (decide_eq_false c126) ?_
            refine so_move (v := (.v (.int .i64 (l0.getD (i123).toNat (0 : Int))))) rfl ?_
            refine so_gyes rfl (decide_eq_false c126) ?_
            refine so_move (v := (.v (.int .i64 n122))) rfl ?_
            refine so_gyes rfl (decide_eq_false c126) ?_
            refine so_bin rfl rfl ab_neq ?_
            refine so_gyes rfl (decide_eq_false c126) ?_
            refine so_move (v := (.v (.bool (!(decide ((l0.getD (i123).toNat (0 : Int)) = n122)))))) rfl ?_
            replace h := ofP h; rcases h with ⟨c127, h⟩ | ⟨c127, h⟩
            · refine so_gno rfl (not_f (decide_eq_true c127)) ?_
              refine so_gno rfl (not_f (decide_eq_true c127)) ?_
              refine so_gno rfl (not_f (decide_eq_true c127)) ?_
              refine so_gno rfl (not_f (decide_eq_true c127)) ?_
              refine so_gyes rfl (decide_eq_false c126) ?_
              refine so_pick_f (v := (.v (.bool false))) rfl (not_f (decide_eq_true c127)) rfl ?_
              refine so_pick_f (v := (.v (.bool false))) rfl (decide_eq_false c126) rfl ?_
              refine so_nil ?_
              refine fi_false rfl rfl ?_
              refine fi_skip ?_
              refine fi_seq ?_
              refine fi_region ?_
              refine so_move (v := (.v (.int .i64 n122))) rfl ?_
              refine so_move (v := (.v v0)) rfl ?_
              refine so_move (v := (.v (.int .i64 i123))) rfl ?_
              refine sv_idx (g0 _ hs) c125 (fun _ => rfl) (by decide) rfl rfl F131.tl140 ?_
              refine sv_cell (g0 _ hs) c125 (0 : Int) 0 (fun x => (AV.int .i64 x)) (fun _ => rfl) (fun _ => rfl) rfl F131.ag3 ?_
              refine so_bin rfl rfl ab_add ?_
              refine so_assign (v := (.v (.int .i64 (IntKind.i64.wrap (n122 + (l0.getD (i123).toNat (0 : Int))))))) rfl ?_
              refine so_nil ?_
              refine fi_seq ?_
              refine fi_region ?_
              refine so_move (v := (.v (.int .i64 (IntKind.i64.wrap (n122 + (l0.getD (i123).toNat (0 : Int))))))) rfl ?_
              refine so_bin rfl rfl ab_gtr ?_
              refine so_nil ?_
              replace h := ofP h; rcases h with ⟨c128, h⟩ | ⟨c128, h⟩
              · refine fi_true rfl (decide_eq_true c128) ?_
                refine fi_seq ?_
                refine fi_region ?_
                refine so_assign (v := (.v (.bool false))) rfl ?_
                refine so_nil ?_
                exact by_ret rfl ⟨_, h, rfl, rfl⟩
              · refine fi_false rfl (decide_eq_false c128) ?_
                refine fi_skip ?_
                refine fi_inBlock ?_
                refine fi_region ?_
                refine so_move (v := (.v (.int .i64 i123))) rfl ?_
                refine so_bin rfl rfl ab_sub ?_
                refine so_assign (v := (.v (.int .i64 (IntKind.i64.wrap (i123 - (1 : Int)))))) rfl ?_
                refine so_nil ?_
                exact fi_at [(0, (.v v0)), (4, (.v (.int .i64 (IntKind.i64.wrap (n122 + (l0.getD (i123).toNat (0 : Int))))))), (5, (.v (.int .i64 (IntKind.i64.wrap (i123 - (1 : Int))))))] ⟨rfl, rfl, rfl, trivial⟩ (h _)
            · refine so_gyes rfl (not_t (decide_eq_false c127)) ?_
              refine so_move (v := (.v (.int .i64 (l0.getD (i123).toNat (0 : Int))))) rfl ?_
              refine so_gyes rfl (not_t (decide_eq_false c127)) ?_
              refine so_move (v := (.v (.int .i64 n122))) rfl ?_
              refine so_gyes rfl (not_t (decide_eq_false c127)) ?_
              refine so_bin rfl rfl ab_sub ?_
              refine so_gyes rfl (not_t (decide_eq_false c127)) ?_
              refine so_bin rfl rfl ab_neq ?_
              refine so_gyes rfl (decide_eq_false c126) ?_
              refine so_pick_t (v := (.v (.bool (!(decide ((l0.getD (i123).toNat (0 : Int)) = (IntKind.i64.wrap (n122 - (1 : Int))))))))) rfl (not_t (decide_eq_false c127)) rfl ?_
              refine so_pick_f (v := (.v (.bool (!(decide ((l0.getD (i123).toNat (0 : Int)) = (IntKind.i64.wrap (n122 - (1 : Int))))))))) rfl (decide_eq_false c126) rfl ?_
              refine so_nil ?_
              replace h := ofP h; rcases h with ⟨c129, h⟩ | ⟨c129, h⟩
              · refine fi_false rfl (not_f (decide_eq_true c129)) ?_
                refine fi_skip ?_
                refine fi_seq ?_
                refine fi_region ?_
                refine so_move (v := (.v (.int .i64 n122))) rfl ?_
                refine so_move (v := (.v v0)) rfl ?_
                refine so_move (v := (.v (.int .i64 i123))) rfl ?_
                refine sv_idx (g0 _ hs) c125 (fun _ => rfl) (by decide) rfl rfl F131.tl140 ?_
                refine sv_cell (g0 _ hs) c125 (0 : Int) 0 (fun x => (AV.int .i64 x)) (fun _ => rfl) (fun _ => rfl) rfl F131.ag3 ?_
                refine so_bin rfl rfl ab_add ?_
                refine so_assign (v := (.v (.int .i64 (IntKind.i64.wrap (n122 + (l0.getD (i123).toNat (0 : Int))))))) rfl ?_
                refine so_nil ?_
                refine fi_seq ?_
                refine fi_region ?_
                refine so_move (v := (.v (.int .i64 (IntKind.i64.wrap (n122 + (l0.getD (i123).toNat (0 : Int))))))) rfl ?_
                refine so_bin rfl rfl ab_gtr ?_
                refine so_nil ?_
                replace h := ofP h; rcases h with ⟨c130, h⟩ | ⟨c130, h⟩
                · refine fi_true rfl (decide_eq_true c130) ?_
                  refine fi_seq ?_
                  refine fi_region ?_
                  refine so_assign (v := (.v (.bool false))) rfl ?_
                  refine so_nil ?_
                  exact by_ret rfl ⟨_, h, rfl, rfl⟩
                · refine fi_false rfl (decide_eq_false c130) ?_
                  refine fi_skip ?_
                  refine fi_inBlock ?_
                  refine fi_region ?_
                  refine so_move (v := (.v (.int .i64 i123))) rfl ?_
                  refine so_bin rfl rfl ab_sub ?_
                  refine so_assign (v := (.v (.int .i64 (IntKind.i64.wrap (i123 - (1 : Int)))))) rfl ?_
                  refine so_nil ?_
                  exact fi_at [(0, (.v v0)), (4, (.v (.int .i64 (IntKind.i64.wrap (n122 + (l0.getD (i123).toNat (0 : Int))))))), (5, (.v (.int .i64 (IntKind.i64.wrap (i123 - (1 : Int))))))] ⟨rfl, rfl, rfl, trivial⟩ (h _)
              · refine fi_true rfl (not_t (decide_eq_false c129)) ?_
                refine fi_seq ?_
                refine fi_region ?_
                refine so_assign (v := (.v (.bool false))) rfl ?_
                refine so_nil ?_
                exact by_ret rfl ⟨_, h, rfl, rfl⟩
        · refine fi_false rfl (decide_eq_false c124) ?_
          refine fi_exit rfl ?_
          refine fi_seq ?_
          refine fi_region ?_
          refine so_move (v := (.v (.int .i64 n122))) rfl ?_
          refine so_bin rfl rfl ab_leq ?_
          refine so_assign (v := (.v (.bool (decide (n122 ≤ (128 : Int)))))) rfl ?_
          refine so_nil ?_
          exact by_ret rfl ⟨_, h, rfl, rfl⟩
  · refine so_gno rfl (not_t c103) ?_
    refine so_gno rfl (not_t c103) ?_
    refine so_gno rfl (not_t c103) ?_
    refine so_gno rfl (not_t c103) ?_
    refine so_gno rfl (not_t c103) ?_
    refine so_pick_t (v := (.v (.bool true))) rfl (not_t c103) rfl ?_
    refine so_move (v := (.v (.bool true))) rfl ?_
    refine so_gno rfl rfl ?_
    refine so_gno rfl rfl ?_
    refine so_gno rfl rfl ?_
    refine so_gund rfl ?_
    refine so_gund rfl ?_
    refine so_gund rfl ?_
    refine so_gund rfl ?_
    refine so_gno rfl rfl ?_
    refine so_pick_t (v := (.v (.bool true))) rfl rfl rfl ?_
    refine so_nil ?_
    refine fi_true rfl rfl ?_
    refine fi_seq ?_
    refine fi_region ?_
    refine so_assign (v := (.v (.bool false))) rfl ?_
    refine so_nil ?_
    exact by_ret rfl ⟨_, h, rfl, rfl⟩
theorem F132.ag24 : tagg Try.prog 24 = some false := by kernel_rfl
theorem F132.sz3 : tsz Try.prog 3 = some 1 := by kernel_rfl
theorem F132.ta140_140 : tapp Try.prog 140 140 = some (1, 8) := by kernel_rfl
theorem F132.te140 : telem Try.prog 140 = some 3 := by kernel_rfl
theorem F132.ti24 : (telem Try.prog 24).isSome = true := by kernel_rfl
theorem F132.ti72 : (telem Try.prog 72).isSome = true := by kernel_rfl
theorem F132.tl72 : (telem Try.prog 72).bind (tsz Try.prog) = some 1 := by kernel_rfl
theorem F132.ze3 : tzero Try.prog 3 = some [(.int .i64 (0 : Int))] := by kernel_rfl
theorem impl_sizesOf_float32_ok {fr : List Pc} {H : Heap} (v0 : AV) (w0 : List (List AV)) (l0 : List (List (Nat))) (hs : Sep H (fr)) (g0 : ∀ H, Sep H fr → DSh H v0 1 R_LeFlt_f32_o l0 w0) (K : (List (Int)) → Prop) (h : impl_sizesOf_float32.wp l0 K) : OkQ Try.prog 132 [(.v v0)] H (fun r H2 => ∃ (y0 : List (Int)), K y0 ∧ ∃ (w0_ : AV), r = (.v w0_) ∧ Sep H2 (Pc.osl w0_ 1 (enc (eInt .i64) y0) :: fr)) := by
  unfold impl_sizesOf_float32.wp at h
  refine of_body Try.f132 F.hm Try.func132 rfl Try.call132 (by kernel_rfl) (by simp) ?_
  refine fi_seq ?_
  refine fi_region ?_
  refine so_assign (v := (.v .nilsl)) rfl ?_
  refine so_nil ?_
  refine fi_seq ?_
  refine fi_region ?_
  refine sv_bslice hs (eInt .i64) ([] : List (Int)) [] F132.te140 F132.sz3 F132.ze3 rfl rfl rfl rfl (fun _ => rfl) rfl (by decide) nofun (fun v101 H102 nv101 hs => ?_)
  refine so_assign (v := (.v v101)) rfl ?_
  refine so_nil ?_
  refine fi_seq ?_
  refine fi_seq ?_
  refine fi_region ?_
  refine so_move (v := (.v v0)) rfl ?_
  refine sd_len ((g0 _ hs.tl) : DSh _ _ 1 R_LeFlt_f32_o l0 w0) (by decide) rfl F132.ti72 ?_
  refine so_move (v := (.v (.int .i64 (0 : Int)))) rfl ?_
  refine so_nil ?_
  refine fi_block ?_
  refine fi_loop ?_
  refine fi_at [(3, (.v v101)), (7, (.v v0)), (8, (.v (.int .i64 (l0.length : Int)))), (9, (.v (.int .i64 (0 : Int))))] ⟨rfl, rfl, rfl, rfl, trivial⟩ ?_
  refine h (fun (out117 : List (Int)) (x119 : Int) => ∀ (s : Nat → TV) (H : Heap) (v118 : AV) (nv118 : v118 ≠ .nilsl), Sep H (Pc.osl v118 1 (enc (eInt .i64) out117) :: fr) → Fin _ _ (updL s [(3, (.v v118)), (7, (.v v0)), (8, (.v (.int .i64 (l0.length : Int)))), (9, (.v (.int .i64 x119)))]) H _) ?_ _ _ _ nv101 hs
  intro out117 x119 h s128 H129 v118 nv118 hs
  refine fi_inLoop ?_
  refine fi_seq ?_
  refine fi_region ?_
  refine so_bin rfl rfl ab_lss ?_
  refine so_nil ?_
  refine fi_seq ?_
  replace h := ofP h; rcases h with ⟨c120, h⟩ | ⟨c120, h⟩
  · refine fi_true rfl (decide_eq_true c120) ?_
    refine fi_skip ?_
    refine fi_seq ?_
    refine fi_block ?_
    refine fi_seq ?_
    refine fi_region ?_
    obtain ⟨c121, h⟩ := h
    refine sd_idx ((g0 _ hs.tl) : DSh _ _ 1 R_LeFlt_f32_o l0 w0) c121 ([] : List (Nat)) (by decide) rfl rfl F132.tl72 ?_
    refine su_ld ((((g0 _ hs.tl) : DSh _ _ 1 R_LeFlt_f32_o l0 w0)).at (by decide) c121 ([] : List (Nat))).2.2 0 (congrArg (fun c => c[0]?) ((((g0 _ hs.tl) : DSh _ _ 1 R_LeFlt_f32_o l0 w0)).at (by decide) c121 ([] : List (Nat))).2.1.1) rfl F132.ag24 ?_
    refine so_assign (v := (.v ((w0.getD (x119).toNat []).getD 0 .und))) rfl ?_
    refine so_nil ?_
    refine fi_region ?_
    refine so_move (v := (.v v118)) rfl ?_
    refine so_move (v := (.v ((w0.getD (x119).toNat []).getD 0 .und))) rfl ?_
    refine sv_len ((((g0 _ hs.tl) : DSh _ _ 1 R_LeFlt_f32_o l0 w0)).at (by decide) c121 ([] : List (Nat))).2.1.2 (fun _ => rfl) (by decide) rfl F132.ti24 ?_
    refine sv_bslice hs (eInt .i64) ([((l0.getD (x119).toNat ([] : List (Nat))).length : Int)] : List (Int)) [[(.int .i64 ((l0.getD (x119).toNat ([] : List (Nat))).length : Int))]] F132.te140 F132.sz3 F132.ze3 rfl rfl rfl rfl (fun _ => rfl) rfl (by decide) nofun (fun v122 H123 nv122 hs => ?_)
    obtain ⟨c127, h⟩ := h
    refine sv_app hs 1 rfl (hs.shows 0 rfl) (fun _ => rfl) (by decide) F132.ta140_140 (by decide) c127 rfl rfl nofun (fun v125 H126 kv125 hs => ?_)
    replace hs := hs.del 0
    have nv125 := kv125 nv118
    refine so_assign (v := (.v v125)) rfl ?_
    refine so_nil ?_
    refine fi_inBlock ?_
    refine fi_region ?_
    refine so_bin rfl rfl ab_add ?_
    refine so_move (v := (.v (.int .i64 (IntKind.i64.wrap (x119 + (1 : Int)))))) rfl ?_
    refine so_nil ?_
    exact fi_at [(3, (.v v125)), (7, (.v v0)), (8, (.v (.int .i64 (l0.length : Int)))), (9, (.v (.int .i64 (IntKind.i64.wrap (x119 + (1 : Int))))))] ⟨rfl, rfl, rfl, rfl, trivial⟩ (h _ _ _ nv125 hs)
  · refine fi_false rfl (decide_eq_false c120) ?_
    refine fi_exit rfl ?_
    refine fi_seq ?_
    refine fi_region ?_
    refine so_move (v := (.v v118)) rfl ?_
    refine so_assign (v := (.v v118)) rfl ?_
    refine so_nil ?_
    exact by_ret rfl ⟨_, h, _, rfl, hs⟩
theorem impl_AreBands_ok {fr : List Pc} {H : Heap} (v0 : AV) (w0 : List (List AV)) (l0 : List (List (Nat))) (hs : Sep H (fr)) (g0 : ∀ H, Sep H fr → DSh H v0 1 R_LeFlt_f32_o l0 w0) (K : Bool → Prop) (h : impl_AreBands.wp l0 K) : OkQ Try.prog 92 [(.v v0)] H (fun r H2 => ∃ (y0 : Bool), K y0 ∧ r = (.v (.bool y0)) ∧ Sep H2 (fr)) := by
  unfold impl_AreBands.wp at h
  refine of_body Try.f92 F.hm Try.func92 rfl Try.call92 (by kernel_rfl) (by simp) ?_
  refine fi_seq ?_
  refine fi_region ?_
  refine so_assign (v := (.v (.bool false))) rfl ?_
  refine so_nil ?_
  refine fi_seq ?_
  refine fi_region ?_
  refine so_move (v := (.v v0)) rfl ?_
  refine sv_call (impl_sizesOf_float32_ok v0 w0 l0 hs (fun _ hs => (g0 _ hs)) _ h) rfl rfl nofun ?_
  clear h hs
  rintro _ H104 ⟨y101, h, v102, rfl, hs⟩
  refine sv_callS (impl_areSizes_ok v102 y101 hs (fun _ hs => (hs.shows 0 rfl)) _ h) (fun _ _ ⟨_, _, _, e⟩ => e) rfl rfl ?_
  clear h
  rintro _ _ ⟨y105, h, rfl, rfl⟩
  refine so_move (v := (.v (.bool y105))) rfl ?_
  replace h := ofT h; rcases h with ⟨c107, h⟩ | ⟨c107, h⟩
  · refine so_gyes rfl c107 ?_
    refine so_move (v := (.v v0)) rfl ?_
    refine so_gyes rfl c107 ?_
    refine sv_callS (impl_areFinite_ok v0 w0 l0 hs (fun _ hs => (g0 _ hs.tl)) _ h) (fun _ _ ⟨_, _, _, e⟩ => e) rfl rfl ?_
    clear h
    rintro _ _ ⟨y108, h, rfl, rfl⟩
    refine so_pick_t (v := (.v (.bool y108))) rfl c107 rfl ?_
    refine so_assign (v := (.v (.bool y108))) rfl ?_
    refine so_nil ?_
    exact by_ret rfl ⟨_, h, rfl, (Sep.del 0 hs)⟩
  · refine so_gno rfl c107 ?_
    refine so_gno rfl c107 ?_
    refine so_pick_f (v := (.v (.bool false))) rfl c107 rfl ?_
    refine so_assign (v := (.v (.bool false))) rfl ?_
    refine so_nil ?_
    exact by_ret rfl ⟨_, h, rfl, (Sep.del 0 hs)⟩
theorem F47.ag24 : tagg Try.prog 24 = some false := by kernel_rfl
theorem F47.sz26 : tsz Try.prog 26 = some 1 := by kernel_rfl
theorem F47.ta24_24 : tapp Try.prog 24 24 = some (1, 4) := by kernel_rfl
theorem F47.te24 : telem Try.prog 24 = some 26 := by kernel_rfl
theorem F47.ti72 : (telem Try.prog 72).isSome = true := by kernel_rfl
theorem F47.tl72 : (telem Try.prog 72).bind (tsz Try.prog) = some 1 := by kernel_rfl
theorem F47.ze26 : tzero Try.prog 26 = some [(.flt .f32 (0 : Nat))] := by kernel_rfl
theorem impl_FlatBands_ok {fr : List Pc} {H : Heap} (v0 : AV) (w0 : List (List AV)) (l0 : List (List (Nat))) (hs : Sep H (fr)) (g0 : ∀ H, Sep H fr → DSh H v0 1 R_LeFlt_f32_o l0 w0) (K : (List (Nat)) → Bool → Prop) (h : impl_FlatBands.wp l0 K) : OkQ Try.prog 47 [(.v v0)] H (fun r H2 => ∃ (y0 : List (Nat)) (y1 : Bool), K y0 y1 ∧ ∃ (w0_ : AV), r = (.t [(.v w0_), (.v (.bool y1))]) ∧ Sep H2 (Pc.osl w0_ 1 (enc (eFlt .f32) y0) :: fr)) := by
  unfold impl_FlatBands.wp at h
  refine of_body Try.f47 F.hm Try.func47 rfl Try.call47 (by kernel_rfl) (by simp) ?_
  refine fi_seq ?_
  refine fi_region ?_
  refine so_assign (v := (.v .nilsl)) rfl ?_
  refine so_assign (v := (.v (.bool false))) rfl ?_
  refine so_nil ?_
  refine fi_seq ?_
  refine fi_seq ?_
  refine fi_region ?_
  refine so_move (v := (.v v0)) rfl ?_
  refine sv_call (impl_AreBands_ok v0 w0 l0 hs (fun _ hs => (g0 _ hs)) _ h) rfl rfl nofun ?_
  clear h hs
  rintro _ H102 ⟨y101, h, rfl, hs⟩
  refine so_un rfl au_not ?_
  refine so_nil ?_
  replace h := ofT h; rcases h with ⟨c103, h⟩ | ⟨c103, h⟩
  · refine fi_false rfl (not_f c103) ?_
    refine fi_skip ?_
    refine fi_seq ?_
    refine fi_region ?_
    refine sv_bslice hs (eFlt .f32) ([] : List (Nat)) [] F47.te24 F47.sz26 F47.ze26 rfl rfl rfl rfl (fun _ => rfl) rfl (by decide) nofun (fun v104 H105 nv104 hs => ?_)
    refine so_assign (v := (.v v104)) rfl ?_
    refine so_nil ?_
    refine fi_seq ?_
    refine fi_seq ?_
    refine fi_region ?_
    refine so_move (v := (.v v0)) rfl ?_
    refine sd_len ((g0 _ hs.tl) : DSh _ _ 1 R_LeFlt_f32_o l0 w0) (by decide) rfl F47.ti72 ?_
    refine so_bin rfl rfl ab_sub ?_
    refine so_assign (v := (.v (.int .i64 (IntKind.i64.wrap ((l0.length : Int) - (1 : Int)))))) rfl ?_
    refine so_nil ?_
    refine fi_block ?_
    refine fi_loop ?_
    refine fi_at [(0, (.v v0)), (4, (.v v104)), (5, (.v (.int .i64 (IntKind.i64.wrap ((l0.length : Int) - (1 : Int))))))] ⟨rfl, rfl, rfl, trivial⟩ ?_
    refine h (fun (out117 : List (Nat)) (i119 : Int) => ∀ (s : Nat → TV) (H : Heap) (v118 : AV) (nv118 : v118 ≠ .nilsl), Sep H (Pc.osl v118 1 (enc (eFlt .f32) out117) :: fr) → Fin _ _ (updL s [(0, (.v v0)), (4, (.v v118)), (5, (.v (.int .i64 i119)))]) H _) ?_ _ _ _ nv104 hs
    intro out117 i119 h s125 H126 v118 nv118 hs
    refine fi_inLoop ?_
    refine fi_seq ?_
    refine fi_seq ?_
    refine fi_region ?_
    refine so_move (v := (.v (.int .i64 i119))) rfl ?_
    refine so_bin rfl rfl ab_geq ?_
    refine so_nil ?_
    replace h := ofP h; rcases h with ⟨c120, h⟩ | ⟨c120, h⟩
    · refine fi_true rfl (decide_eq_true c120) ?_
      refine fi_skip ?_
      refine fi_seq ?_
      refine fi_block ?_
      refine fi_region ?_
      refine so_move (v := (.v v118)) rfl ?_
      refine so_move (v := (.v v0)) rfl ?_
      refine so_move (v := (.v (.int .i64 i119))) rfl ?_
      obtain ⟨c121, h⟩ := h
      refine sd_idx ((g0 _ hs.tl) : DSh _ _ 1 R_LeFlt_f32_o l0 w0) c121 ([] : List (Nat)) (by decide) rfl rfl F47.tl72 ?_
      refine su_ld ((((g0 _ hs.tl) : DSh _ _ 1 R_LeFlt_f32_o l0 w0)).at (by decide) c121 ([] : List (Nat))).2.2 0 (congrArg (fun c => c[0]?) ((((g0 _ hs.tl) : DSh _ _ 1 R_LeFlt_f32_o l0 w0)).at (by decide) c121 ([] : List (Nat))).2.1.1) rfl F47.ag24 ?_
      obtain ⟨c124, h⟩ := h
      refine sv_app hs 0 rfl ((((g0 _ hs.tl) : DSh _ _ 1 R_LeFlt_f32_o l0 w0)).at (by decide) c121 ([] : List (Nat))).2.1.2 (fun _ => rfl) (by decide) F47.ta24_24 (by decide) c124 rfl rfl nofun (fun v122 H123 kv122 hs => ?_)
      have nv122 := kv122 nv118
      refine so_assign (v := (.v v122)) rfl ?_
      refine so_nil ?_
      refine fi_inBlock ?_
      refine fi_region ?_
      refine so_move (v := (.v (.int .i64 i119))) rfl ?_
      refine so_bin rfl rfl ab_sub ?_
      refine so_assign (v := (.v (.int .i64 (IntKind.i64.wrap (i119 - (1 : Int)))))) rfl ?_
      refine so_nil ?_
      exact fi_at [(0, (.v v0)), (4, (.v v122)), (5, (.v (.int .i64 (IntKind.i64.wrap (i119 - (1 : Int))))))] ⟨rfl, rfl, rfl, trivial⟩ (h _ _ _ nv122 hs)
    · refine fi_false rfl (decide_eq_false c120) ?_
      refine fi_exit rfl ?_
      refine fi_seq ?_
      refine fi_region ?_
      refine so_move (v := (.v v118)) rfl ?_
      refine so_assign (v := (.v v118)) rfl ?_
      refine so_assign (v := (.v (.bool true))) rfl ?_
      refine so_nil ?_
      exact by_ret rfl ⟨_, _, h, _, rfl, hs⟩
  · refine fi_true rfl (not_t c103) ?_
    refine fi_seq ?_
    refine fi_region ?_
    refine so_assign (v := (.v .nilsl)) rfl ?_
    refine so_assign (v := (.v (.bool false))) rfl ?_
    refine so_nil ?_
    exact by_ret rfl ⟨_, _, h, _, rfl, (Sep.nil hs 1)⟩
theorem impl_far_ok {fr : List Pc} {H : Heap} (a0 : Int) (hs : Sep H (fr))  (K : Int → Prop) (h : impl_far.wp a0 K) : OkQ Try.prog 93 [(.v (.int .i64 a0))] H (fun r H2 => ∃ (y0 : Int), K y0 ∧ r = (.v (.int .i64 y0)) ∧ H = H2) := by
  unfold impl_far.wp at h
  refine of_body Try.f93 F.hm Try.func93 rfl Try.call93 (by kernel_rfl) (by simp) ?_
  refine fi_seq ?_
  refine fi_region ?_
  refine so_assign (v := (.v (.int .i64 (0 : Int)))) rfl ?_
  refine so_nil ?_
  refine fi_seq ?_
  refine fi_region ?_
  refine so_move (v := (.v (.int .i64 a0))) rfl ?_
  refine so_move (v := (.v (.int .i64 a0))) rfl ?_
  refine so_un rfl au_neg ?_
  refine sv_max rfl rfl ?_
  refine so_assign (v := (.v (.int .i64 (mxI a0 (IntKind.i64.wrap (0 - a0)))))) rfl ?_
  refine so_nil ?_
  exact by_ret rfl ⟨_, h, rfl, rfl⟩
theorem F94.it3 : tint Try.prog 3 = some .i64 := by kernel_rfl
theorem F94.it5 : tint Try.prog 5 = some .u8 := by kernel_rfl
theorem F94.sr9 : tstr Try.prog 9 = true := by kernel_rfl
theorem F94.us104 : (Try.prog.underlying 104).isSome = true := by kernel_rfl
theorem F94.us5 : (Try.prog.underlying 5).isSome = true := by kernel_rfl
theorem math_bits_Len64_ok {fr : List Pc} {H : Heap} (a0 : Int) (hs : Sep H (fr))  (K : Int → Prop) (h : math_bits_Len64.wp a0 K) : OkQ Try.prog 94 [(.v (.int .u64 a0))] H (fun r H2 => ∃ (y0 : Int), K y0 ∧ r = (.v (.int .i64 y0)) ∧ H = H2) := by
  unfold math_bits_Len64.wp at h
  refine of_body Try.f94 F.hm Try.func94 rfl Try.call94 (by kernel_rfl) (by simp) ?_
  refine fi_seq ?_
  refine fi_region ?_
  refine so_assign (v := (.v (.int .i64 (0 : Int)))) rfl ?_
  refine so_nil ?_
  refine fi_seq ?_
  refine fi_seq ?_
  refine fi_region ?_
  refine so_move (v := (.v (.int .u64 a0))) rfl ?_
  refine so_bin rfl rfl ab_geq ?_
  refine so_nil ?_
  replace h := ofP h; rcases h with ⟨c101, h⟩ | ⟨c101, h⟩
  · refine fi_true rfl (decide_eq_true c101) ?_
    refine fi_seq ?_
    refine fi_region ?_
    refine so_move (v := (.v (.int .u64 a0))) rfl ?_
    refine so_bin rfl rfl (ab_shr (by decide)) ?_
    refine so_assign (v := (.v (.int .u64 (Int.fdiv a0 (2 ^ (min ((32 : Int)).toNat IntKind.u64.bits)))))) rfl ?_
    refine so_nil ?_
    refine fi_region ?_
    refine so_assign (v := (.v (.int .i64 (32 : Int)))) rfl ?_
    refine so_nil ?_
    refine fi_seq ?_
    refine fi_seq ?_
    refine fi_region ?_
    refine so_move (v := (.v (.int .u64 (Int.fdiv a0 (2 ^ (min ((32 : Int)).toNat IntKind.u64.bits)))))) rfl ?_
    refine so_bin rfl rfl ab_geq ?_
    refine so_nil ?_
    replace h := ofP h; rcases h with ⟨c102, h⟩ | ⟨c102, h⟩
    · refine fi_true rfl (decide_eq_true c102) ?_
      refine fi_seq ?_
      refine fi_region ?_
      refine so_move (v := (.v (.int .u64 (Int.fdiv a0 (2 ^ (min ((32 : Int)).toNat IntKind.u64.bits)))))) rfl ?_
      refine so_bin rfl rfl (ab_shr (by decide)) ?_
      refine so_assign (v := (.v (.int .u64 (Int.fdiv (Int.fdiv a0 (2 ^ (min ((32 : Int)).toNat IntKind.u64.bits))) (2 ^ (min ((16 : Int)).toNat IntKind.u64.bits)))))) rfl ?_
      refine so_nil ?_
      refine fi_region ?_
      refine so_move (v := (.v (.int .i64 (32 : Int)))) rfl ?_
      refine so_bin rfl rfl ab_add ?_
      refine so_assign (v := (.v (.int .i64 (IntKind.i64.wrap ((32 : Int) + (16 : Int)))))) rfl ?_
      refine so_nil ?_
      refine fi_seq ?_
      refine fi_seq ?_
      refine fi_region ?_
      refine so_move (v := (.v (.int .u64 (Int.fdiv (Int.fdiv a0 (2 ^ (min ((32 : Int)).toNat IntKind.u64.bits))) (2 ^ (min ((16 : Int)).toNat IntKind.u64.bits)))))) rfl ?_
      refine so_bin rfl rfl ab_geq ?_
      refine so_nil ?_
      replace h := ofP h; rcases h with ⟨c103, h⟩ | ⟨c103, h⟩
      · refine fi_true rfl (decide_eq_true c103) ?_
        refine fi_seq ?_
        refine fi_region ?_
        refine so_move (v := (.v (.int .u64 (Int.fdiv (Int.fdiv a0 (2 ^ (min ((32 : Int)).toNat IntKind.u64.bits))) (2 ^ (min ((16 : Int)).toNat IntKind.u64.bits)))))) rfl ?_
        refine so_bin rfl rfl (ab_shr (by decide)) ?_
        refine so_assign (v := (.v (.int .u64 (Int.fdiv (Int.fdiv (Int.fdiv a0 (2 ^ (min ((32 : Int)).toNat IntKind.u64.bits))) (2 ^ (min ((16 : Int)).toNat IntKind.u64.bits))) (2 ^ (min ((8 : Int)).toNat IntKind.u64.bits)))))) rfl ?_
        refine so_nil ?_
        refine fi_region ?_
        refine so_move (v := (.v (.int .i64 (IntKind.i64.wrap ((32 : Int) + (16 : Int)))))) rfl ?_
        refine so_bin rfl rfl ab_add ?_
        refine so_assign (v := (.v (.int .i64 (IntKind.i64.wrap ((IntKind.i64.wrap ((32 : Int) + (16 : Int))) + (8 : Int)))))) rfl ?_
        refine so_nil ?_
        refine fi_seq ?_
        refine fi_region ?_
        refine so_move (v := (.v (.int .i64 (IntKind.i64.wrap ((IntKind.i64.wrap ((32 : Int) + (16 : Int))) + (8 : Int)))))) rfl ?_
        refine so_move (v := (.v (.int .u64 (Int.fdiv (Int.fdiv (Int.fdiv a0 (2 ^ (min ((32 : Int)).toNat IntKind.u64.bits))) (2 ^ (min ((16 : Int)).toNat IntKind.u64.bits))) (2 ^ (min ((8 : Int)).toNat IntKind.u64.bits)))))) rfl ?_
        refine sv_ii rfl F94.us104 F94.it5 ?_
        obtain ⟨c104, h⟩ := h
        refine so_index rfl rfl F94.sr9 c104 ?_
        refine sv_ii rfl F94.us5 F94.it3 ?_
        refine so_bin rfl rfl ab_add ?_
        refine so_assign (v := (.v (.int .i64 (IntKind.i64.wrap ((IntKind.i64.wrap ((IntKind.i64.wrap ((32 : Int) + (16 : Int))) + (8 : Int))) + (IntKind.i64.wrap (bt ([0, 1, 2, 2, 3, 3, 3, 3, 4, 4, 4, 4, 4, 4, 4, 4, 5, 5, 5, 5, 5, 5, 5, 5, 5, 5, 5, 5, 5, 5, 5, 5, 6, 6, 6, 6, 6, 6, 6, 6, 6, 6, 6, 6, 6, 6, 6, 6, 6, 6, 6, 6, 6, 6, 6, 6, 6, 6, 6, 6, 6, 6, 6, 6, 7, 7, 7, 7, 7, 7, 7, 7, 7, 7, 7, 7, 7, 7, 7, 7, 7, 7, 7, 7, 7, 7, 7, 7, 7, 7, 7, 7, 7, 7, 7, 7, 7, 7, 7, 7, 7, 7, 7, 7, 7, 7, 7, 7, 7, 7, 7, 7, 7, 7, 7, 7, 7, 7, 7, 7, 7, 7, 7, 7, 7, 7, 7, 7, 8, 8, 8, 8, 8, 8, 8, 8, 8, 8, 8, 8, 8, 8, 8, 8, 8, 8, 8, 8, 8, 8, 8, 8, 8, 8, 8, 8, 8, 8, 8, 8, 8, 8, 8, 8, 8, 8, 8, 8, 8, 8, 8, 8, 8, 8, 8, 8, 8, 8, 8, 8, 8, 8, 8, 8, 8, 8, 8, 8, 8, 8, 8, 8, 8, 8, 8, 8, 8, 8, 8, 8, 8, 8, 8, 8, 8, 8, 8, 8, 8, 8, 8, 8, 8, 8, 8, 8, 8, 8, 8, 8, 8, 8, 8, 8, 8, 8, 8, 8, 8, 8, 8, 8, 8, 8, 8, 8, 8, 8, 8, 8, 8, 8, 8, 8, 8, 8, 8, 8, 8, 8, 8, 8, 8, 8, 8, 8] : List UInt8) (IntKind.u8.wrap (Int.fdiv (Int.fdiv (Int.fdiv a0 (2 ^ (min ((32 : Int)).toNat IntKind.u64.bits))) (2 ^ (min ((16 : Int)).toNat IntKind.u64.bits))) (2 ^ (min ((8 : Int)).toNat IntKind.u64.bits))))))))))) rfl ?_
        refine so_nil ?_
        exact by_ret rfl ⟨_, h, rfl, rfl⟩
      · refine fi_false rfl (decide_eq_false c103) ?_
        refine fi_skip ?_
        refine fi_seq ?_
        refine fi_region ?_
        refine so_move (v := (.v (.int .i64 (IntKind.i64.wrap ((32 : Int) + (16 : Int)))))) rfl ?_
        refine so_move (v := (.v (.int .u64 (Int.fdiv (Int.fdiv a0 (2 ^ (min ((32 : Int)).toNat IntKind.u64.bits))) (2 ^ (min ((16 : Int)).toNat IntKind.u64.bits)))))) rfl ?_
        refine sv_ii rfl F94.us104 F94.it5 ?_
        obtain ⟨c105, h⟩ := h
        refine so_index rfl rfl F94.sr9 c105 ?_
        refine sv_ii rfl F94.us5 F94.it3 ?_
        refine so_bin rfl rfl ab_add ?_
        refine so_assign (v := (.v (.int .i64 (IntKind.i64.wrap ((IntKind.i64.wrap ((32 : Int) + (16 : Int))) + (IntKind.i64.wrap (bt ([0, 1, 2, 2, 3, 3, 3, 3, 4, 4, 4, 4, 4, 4, 4, 4, 5, 5, 5, 5, 5, 5, 5, 5, 5, 5, 5, 5, 5, 5, 5, 5, 6, 6, 6, 6, 6, 6, 6, 6, 6, 6, 6, 6, 6, 6, 6, 6, 6, 6, 6, 6, 6, 6, 6, 6, 6, 6, 6, 6, 6, 6, 6, 6, 7, 7, 7, 7, 7, 7, 7, 7, 7, 7, 7, 7, 7, 7, 7, 7, 7, 7, 7, 7, 7, 7, 7, 7, 7, 7, 7, 7, 7, 7, 7, 7, 7, 7, 7, 7, 7, 7, 7, 7, 7, 7, 7, 7, 7, 7, 7, 7, 7, 7, 7, 7, 7, 7, 7, 7, 7, 7, 7, 7, 7, 7, 7, 7, 8, 8, 8, 8, 8, 8, 8, 8, 8, 8, 8, 8, 8, 8, 8, 8, 8, 8, 8, 8, 8, 8, 8, 8, 8, 8, 8, 8, 8, 8, 8, 8, 8, 8, 8, 8, 8, 8, 8, 8, 8, 8, 8, 8, 8, 8, 8, 8, 8, 8, 8, 8, 8, 8, 8, 8, 8, 8, 8, 8, 8, 8, 8, 8, 8, 8, 8, 8, 8, 8, 8, 8, 8, 8, 8, 8, 8, 8, 8, 8, 8, 8, 8, 8, 8, 8, 8, 8, 8, 8, 8, 8, 8, 8, 8, 8, 8, 8, 8, 8, 8, 8, 8, 8, 8, 8, 8, 8, 8, 8, 8, 8, 8, 8, 8, 8, 8, 8, 8, 8, 8, 8, 8, 8, 8, 8, 8, 8] : List UInt8) (IntKind.u8.wrap (Int.fdiv (Int.fdiv a0 (2 ^ (min ((32 : Int)).toNat IntKind.u64.bits))) (2 ^ (min ((16 : Int)).toNat IntKind.u64.bits))))))))))) rfl ?_
        refine so_nil ?_
        exact by_ret rfl ⟨_, h, rfl, rfl⟩
    · refine fi_false rfl (decide_eq_false c102) ?_
      refine fi_skip ?_
      refine fi_seq ?_
      refine fi_seq ?_
      refine fi_region ?_
      refine so_move (v := (.v (.int .u64 (Int.fdiv a0 (2 ^ (min ((32 : Int)).toNat IntKind.u64.bits)))))) rfl ?_
      refine so_bin rfl rfl ab_geq ?_
      refine so_nil ?_
      replace h := ofP h; rcases h with ⟨c106, h⟩ | ⟨c106, h⟩
      · refine fi_true rfl (decide_eq_true c106) ?_
        refine fi_seq ?_
        refine fi_region ?_
        refine so_move (v := (.v (.int .u64 (Int.fdiv a0 (2 ^ (min ((32 : Int)).toNat IntKind.u64.bits)))))) rfl ?_
        refine so_bin rfl rfl (ab_shr (by decide)) ?_
        refine so_assign (v := (.v (.int .u64 (Int.fdiv (Int.fdiv a0 (2 ^ (min ((32 : Int)).toNat IntKind.u64.bits))) (2 ^ (min ((8 : Int)).toNat IntKind.u64.bits)))))) rfl ?_
        refine so_nil ?_
        refine fi_region ?_
        refine so_move (v := (.v (.int .i64 (32 : Int)))) rfl ?_
        refine so_bin rfl rfl ab_add ?_
        refine so_assign (v := (.v (.int .i64 (IntKind.i64.wrap ((32 : Int) + (8 : Int)))))) rfl ?_
        refine so_nil ?_
        refine fi_seq ?_
        refine fi_region ?_
        refine so_move (v := (.v (.int .i64 (IntKind.i64.wrap ((32 : Int) + (8 : Int)))))) rfl ?_
        refine so_move (v := (.v (.int .u64 (Int.fdiv (Int.fdiv a0 (2 ^ (min ((32 : Int)).toNat IntKind.u64.bits))) (2 ^ (min ((8 : Int)).toNat IntKind.u64.bits)))))) rfl ?_
        refine sv_ii rfl F94.us104 F94.it5 ?_
        obtain ⟨c107, h⟩ := h
        refine so_index rfl rfl F94.sr9 c107 ?_
        refine sv_ii rfl F94.us5 F94.it3 ?_
        refine so_bin rfl rfl ab_add ?_
        refine so_assign (v := (.v (.int .i64 (IntKind.i64.wrap ((IntKind.i64.wrap ((32 : Int) + (8 : Int))) + (IntKind.i64.wrap (bt ([0, 1, 2, 2, 3, 3, 3, 3, 4, 4, 4, 4, 4, 4, 4, 4, 5, 5, 5, 5, 5, 5, 5, 5, 5, 5, 5, 5, 5, 5, 5, 5, 6, 6, 6, 6, 6, 6, 6, 6, 6, 6, 6, 6, 6, 6, 6, 6, 6, 6, 6, 6, 6, 6, 6, 6, 6, 6, 6, 6, 6, 6, 6, 6, 7, 7, 7, 7, 7, 7, 7, 7, 7, 7, 7, 7, 7, 7, 7, 7, 7, 7, 7, 7, 7, 7, 7, 7, 7, 7, 7, 7, 7, 7, 7, 7, 7, 7, 7, 7, 7, 7, 7, 7, 7, 7, 7, 7, 7, 7, 7, 7, 7, 7, 7, 7, 7, 7, 7, 7, 7, 7, 7, 7, 7, 7, 7, 7, 8, 8, 8, 8, 8, 8, 8, 8, 8, 8, 8, 8, 8, 8, 8, 8, 8, 8, 8, 8, 8, 8, 8, 8, 8, 8, 8, 8, 8, 8, 8, 8, 8, 8, 8, 8, 8, 8, 8, 8, 8, 8, 8, 8, 8, 8, 8, 8, 8, 8, 8, 8, 8, 8, 8, 8, 8, 8, 8, 8, 8, 8, 8, 8, 8, 8, 8, 8, 8, 8, 8, 8, 8, 8, 8, 8, 8, 8, 8, 8, 8, 8, 8, 8, 8, 8, 8, 8, 8, 8, 8, 8, 8, 8, 8, 8, 8, 8, 8, 8, 8, 8, 8, 8, 8, 8, 8, 8, 8, 8, 8, 8, 8, 8, 8, 8, 8, 8, 8, 8, 8, 8, 8, 8, 8, 8, 8, 8] : List UInt8) (IntKind.u8.wrap (Int.fdiv (Int.fdiv a0 (2 ^ (min ((32 : Int)).toNat IntKind.u64.bits))) (2 ^ (min ((8 : Int)).toNat IntKind.u64.bits))))))))))) rfl ?_
        refine so_nil ?_
        exact by_ret rfl ⟨_, h, rfl, rfl⟩
      · refine fi_false rfl (decide_eq_false c106) ?_
        refine fi_skip ?_
        refine fi_seq ?_
        refine fi_region ?_
        refine so_move (v := (.v (.int .i64 (32 : Int)))) rfl ?_
        refine so_move (v := (.v (.int .u64 (Int.fdiv a0 (2 ^ (min ((32 : Int)).toNat IntKind.u64.bits)))))) rfl ?_
        refine sv_ii rfl F94.us104 F94.it5 ?_
        obtain ⟨c108, h⟩ := h
        refine so_index rfl rfl F94.sr9 c108 ?_
        refine sv_ii rfl F94.us5 F94.it3 ?_
        refine so_bin rfl rfl ab_add ?_
        refine so_assign (v := (.v (.int .i64 (IntKind.i64.wrap ((32 : Int) + (IntKind.i64.wrap (bt ([0, 1, 2, 2, 3, 3, 3, 3, 4, 4, 4, 4, 4, 4, 4, 4, 5, 5, 5, 5, 5, 5, 5, 5, 5, 5, 5, 5, 5, 5, 5, 5, 6, 6, 6, 6, 6, 6, 6, 6, 6, 6, 6, 6, 6, 6, 6, 6, 6, 6, 6, 6, 6, 6, 6, 6, 6, 6, 6, 6, 6, 6, 6, 6, 7, 7, 7, 7, 7, 7, 7, 7, 7, 7, 7, 7, 7, 7, 7, 7, 7, 7, 7, 7, 7, 7, 7, 7, 7, 7, 7, 7, 7, 7, 7, 7, 7, 7, 7, 7, 7, 7, 7, 7, 7, 7, 7, 7, 7, 7, 7, 7, 7, 7, 7, 7, 7, 7, 7, 7, 7, 7, 7, 7, 7, 7, 7, 7, 8, 8, 8, 8, 8, 8, 8, 8, 8, 8, 8, 8, 8, 8, 8, 8, 8, 8, 8, 8, 8, 8, 8, 8, 8, 8, 8, 8, 8, 8, 8, 8, 8, 8, 8, 8, 8, 8, 8, 8, 8, 8, 8, 8, 8, 8, 8, 8, 8, 8, 8, 8, 8, 8, 8, 8, 8, 8, 8, 8, 8, 8, 8, 8, 8, 8, 8, 8, 8, 8, 8, 8, 8, 8, 8, 8, 8, 8, 8, 8, 8, 8, 8, 8, 8, 8, 8, 8, 8, 8, 8, 8, 8, 8, 8, 8, 8, 8, 8, 8, 8, 8, 8, 8, 8, 8, 8, 8, 8, 8, 8, 8, 8, 8, 8, 8, 8, 8, 8, 8, 8, 8, 8, 8, 8, 8, 8, 8] : List UInt8) (IntKind.u8.wrap (Int.fdiv a0 (2 ^ (min ((32 : Int)).toNat IntKind.u64.bits))))))))))) rfl ?_
        refine so_nil ?_
        exact by_ret rfl ⟨_, h, rfl, rfl⟩
  · refine fi_false rfl (decide_eq_false c101) ?_
    refine fi_skip ?_
    refine fi_seq ?_
    refine fi_seq ?_
    refine fi_region ?_
    refine so_move (v := (.v (.int .u64 a0))) rfl ?_
    refine so_bin rfl rfl ab_geq ?_
    refine so_nil ?_
    replace h := ofP h; rcases h with ⟨c109, h⟩ | ⟨c109, h⟩
    · refine fi_true rfl (decide_eq_true c109) ?_
      refine fi_seq ?_
      refine fi_region ?_
      refine so_move (v := (.v (.int .u64 a0))) rfl ?_
      refine so_bin rfl rfl (ab_shr (by decide)) ?_
      refine so_assign (v := (.v (.int .u64 (Int.fdiv a0 (2 ^ (min ((16 : Int)).toNat IntKind.u64.bits)))))) rfl ?_
      refine so_nil ?_
      refine fi_region ?_
      refine so_move (v := (.v (.int .i64 (0 : Int)))) rfl ?_
      refine so_bin rfl rfl ab_add ?_
      refine so_assign (v := (.v (.int .i64 (IntKind.i64.wrap ((0 : Int) + (16 : Int)))))) rfl ?_
      refine so_nil ?_
      refine fi_seq ?_
      refine fi_seq ?_
      refine fi_region ?_
      refine so_move (v := (.v (.int .u64 (Int.fdiv a0 (2 ^ (min ((16 : Int)).toNat IntKind.u64.bits)))))) rfl ?_
      refine so_bin rfl rfl ab_geq ?_
      refine so_nil ?_
      replace h := ofP h; rcases h with ⟨c110, h⟩ | ⟨c110, h⟩
      · refine fi_true rfl (decide_eq_true c110) ?_
        refine fi_seq ?_
        refine fi_region ?_
        refine so_move (v := (.v (.int .u64 (Int.fdiv a0 (2 ^ (min ((16 : Int)).toNat IntKind.u64.bits)))))) rfl ?_
        refine so_bin rfl rfl (ab_shr (by decide)) ?_
        refine so_assign (v := (.v (.int .u64 (Int.fdiv (Int.fdiv a0 (2 ^ (min ((16 : Int)).toNat IntKind.u64.bits))) (2 ^ (min ((8 : Int)).toNat IntKind.u64.bits)))))) rfl ?_
        refine so_nil ?_
        refine fi_region ?_
        refine so_move (v := (.v (.int .i64 (IntKind.i64.wrap ((0 : Int) + (16 : Int)))))) rfl ?_
        refine so_bin rfl rfl ab_add ?_
        refine so_assign (v := (.v (.int .i64 (IntKind.i64.wrap ((IntKind.i64.wrap ((0 : Int) + (16 : Int))) + (8 : Int)))))) rfl ?_
        refine so_nil ?_
        refine fi_seq ?_
        refine fi_region ?_
        refine so_move (v := (.v (.int .i64 (IntKind.i64.wrap ((IntKind.i64.wrap ((0 : Int) + (16 : Int))) + (8 : Int)))))) rfl ?_
        refine so_move (v := (.v (.int .u64 (Int.fdiv (Int.fdiv a0 (2 ^ (min ((16 : Int)).toNat IntKind.u64.bits))) (2 ^ (min ((8 : Int)).toNat IntKind.u64.bits)))))) rfl ?_
        refine sv_ii rfl F94.us104 F94.it5 ?_
        obtain ⟨c111, h⟩ := h
        refine so_index rfl rfl F94.sr9 c111 ?_
        refine sv_ii rfl F94.us5 F94.it3 ?_
        refine so_bin rfl rfl ab_add ?_
        refine so_assign (v := (.v (.int .i64 (IntKind.i64.wrap ((IntKind.i64.wrap ((IntKind.i64.wrap ((0 : Int) + (16 : Int))) + (8 : Int))) + (IntKind.i64.wrap (bt ([0, 1, 2, 2, 3, 3, 3, 3, 4, 4, 4, 4, 4, 4, 4, 4, 5, 5, 5, 5, 5, 5, 5, 5, 5, 5, 5, 5, 5, 5, 5, 5, 6, 6, 6, 6, 6, 6, 6, 6, 6, 6, 6, 6, 6, 6, 6, 6, 6, 6, 6, 6, 6, 6, 6, 6, 6, 6, 6, 6, 6, 6, 6, 6, 7, 7, 7, 7, 7, 7, 7, 7, 7, 7, 7, 7, 7, 7, 7, 7, 7, 7, 7, 7, 7, 7, 7, 7, 7, 7, 7, 7, 7, 7, 7, 7, 7, 7, 7, 7, 7, 7, 7, 7, 7, 7, 7, 7, 7, 7, 7, 7, 7, 7, 7, 7, 7, 7, 7, 7, 7, 7, 7, 7, 7, 7, 7, 7, 8, 8, 8, 8, 8, 8, 8, 8, 8, 8, 8, 8, 8, 8, 8, 8, 8, 8, 8, 8, 8, 8, 8, 8, 8, 8, 8, 8, 8, 8, 8, 8, 8, 8, 8, 8, 8, 8, 8, 8, 8, 8, 8, 8, 8, 8, 8, 8, 8, 8, 8, 8, 8, 8, 8, 8, 8, 8, 8, 8, 8, 8, 8, 8, 8, 8, 8, 8, 8, 8, 8, 8, 8, 8, 8, 8, 8, 8, 8, 8, 8, 8, 8, 8, 8, 8, 8, 8, 8, 8, 8, 8, 8, 8, 8, 8, 8, 8, 8, 8, 8, 8, 8, 8, 8, 8, 8, 8, 8, 8, 8, 8, 8, 8, 8, 8, 8, 8, 8, 8, 8, 8, 8, 8, 8, 8, 8, 8] : List UInt8) (IntKind.u8.wrap (Int.fdiv (Int.fdiv a0 (2 ^ (min ((16 : Int)).toNat IntKind.u64.bits))) (2 ^ (min ((8 : Int)).toNat IntKind.u64.bits))))))))))) rfl ?_
        refine so_nil ?_
        exact by_ret rfl ⟨_, h, rfl, rfl⟩
      · refine fi_false rfl (decide_eq_false c110) ?_
        refine fi_skip ?_
        refine fi_seq ?_
        refine fi_region ?_
        refine so_move (v := (.v (.int .i64 (IntKind.i64.wrap ((0 : Int) + (16 : Int)))))) rfl ?_
        refine so_move (v := (.v (.int .u64 (Int.fdiv a0 (2 ^ (min ((16 : Int)).toNat IntKind.u64.bits)))))) rfl ?_
        refine sv_ii rfl F94.us104 F94.it5 ?_
        obtain ⟨c112, h⟩ := h
        refine so_index rfl rfl F94.sr9 c112 ?_
        refine sv_ii rfl F94.us5 F94.it3 ?_
        refine so_bin rfl rfl ab_add ?_
        refine so_assign (v := (.v (.int .i64 (IntKind.i64.wrap ((IntKind.i64.wrap ((0 : Int) + (16 : Int))) + (IntKind.i64.wrap (bt ([0, 1, 2, 2, 3, 3, 3, 3, 4, 4, 4, 4, 4, 4, 4, 4, 5, 5, 5, 5, 5, 5, 5, 5, 5, 5, 5, 5, 5, 5, 5, 5, 6, 6, 6, 6, 6, 6, 6, 6, 6, 6, 6, 6, 6, 6, 6, 6, 6, 6, 6, 6, 6, 6, 6, 6, 6, 6, 6, 6, 6, 6, 6, 6, 7, 7, 7, 7, 7, 7, 7, 7, 7, 7, 7, 7, 7, 7, 7, 7, 7, 7, 7, 7, 7, 7, 7, 7, 7, 7, 7, 7, 7, 7, 7, 7, 7, 7, 7, 7, 7, 7, 7, 7, 7, 7, 7, 7, 7, 7, 7, 7, 7, 7, 7, 7, 7, 7, 7, 7, 7, 7, 7, 7, 7, 7, 7, 7, 8, 8, 8, 8, 8, 8, 8, 8, 8, 8, 8, 8, 8, 8, 8, 8, 8, 8, 8, 8, 8, 8, 8, 8, 8, 8, 8, 8, 8, 8, 8, 8, 8, 8, 8, 8, 8, 8, 8, 8, 8, 8, 8, 8, 8, 8, 8, 8, 8, 8, 8, 8, 8, 8, 8, 8, 8, 8, 8, 8, 8, 8, 8, 8, 8, 8, 8, 8, 8, 8, 8, 8, 8, 8, 8, 8, 8, 8, 8, 8, 8, 8, 8, 8, 8, 8, 8, 8, 8, 8, 8, 8, 8, 8, 8, 8, 8, 8, 8, 8, 8, 8, 8, 8, 8, 8, 8, 8, 8, 8, 8, 8, 8, 8, 8, 8, 8, 8, 8, 8, 8, 8, 8, 8, 8, 8, 8, 8] : List UInt8) (IntKind.u8.wrap (Int.fdiv a0 (2 ^ (min ((16 : Int)).toNat IntKind.u64.bits))))))))))) rfl ?_
        refine so_nil ?_
        exact by_ret rfl ⟨_, h, rfl, rfl⟩
    · refine fi_false rfl (decide_eq_false c109) ?_
      refine fi_skip ?_
      refine fi_seq ?_
      refine fi_seq ?_
      refine fi_region ?_
      refine so_move (v := (.v (.int .u64 a0))) rfl ?_
      refine so_bin rfl rfl ab_geq ?_
      refine so_nil ?_
      replace h := ofP h; rcases h with ⟨c113, h⟩ | ⟨c113, h⟩
      · refine fi_true rfl (decide_eq_true c113) ?_
        refine fi_seq ?_
        refine fi_region ?_
        refine so_move (v := (.v (.int .u64 a0))) rfl ?_
        refine so_bin rfl rfl (ab_shr (by decide)) ?_
        refine so_assign (v := (.v (.int .u64 (Int.fdiv a0 (2 ^ (min ((8 : Int)).toNat IntKind.u64.bits)))))) rfl ?_
        refine so_nil ?_
        refine fi_region ?_
        refine so_move (v := (.v (.int .i64 (0 : Int)))) rfl ?_
        refine so_bin rfl rfl ab_add ?_
        refine so_assign (v := (.v (.int .i64 (IntKind.i64.wrap ((0 : Int) + (8 : Int)))))) rfl ?_
        refine so_nil ?_
        refine fi_seq ?_
        refine fi_region ?_
        refine so_move (v := (.v (.int .i64 (IntKind.i64.wrap ((0 : Int) + (8 : Int)))))) rfl ?_
        refine so_move (v := (.v (.int .u64 (Int.fdiv a0 (2 ^ (min ((8 : Int)).toNat IntKind.u64.bits)))))) rfl ?_
        refine sv_ii rfl F94.us104 F94.it5 ?_
        obtain ⟨c114, h⟩ := h
        refine so_index rfl rfl F94.sr9 c114 ?_
        refine sv_ii rfl F94.us5 F94.it3 ?_
        refine so_bin rfl rfl ab_add ?_
        refine so_assign (v := (.v (.int .i64 (IntKind.i64.wrap ((IntKind.i64.wrap ((0 : Int) + (8 : Int))) + (IntKind.i64.wrap (bt ([0, 1, 2, 2, 3, 3, 3, 3, 4, 4, 4, 4, 4, 4, 4, 4, 5, 5, 5, 5, 5, 5, 5, 5, 5, 5, 5, 5, 5, 5, 5, 5, 6, 6, 6, 6, 6, 6, 6, 6, 6, 6, 6, 6, 6, 6, 6, 6, 6, 6, 6, 6, 6, 6, 6, 6, 6, 6, 6, 6, 6, 6, 6, 6, 7, 7, 7, 7, 7, 7, 7, 7, 7, 7, 7, 7, 7, 7, 7, 7, 7, 7, 7, 7, 7, 7, 7, 7, 7, 7, 7, 7, 7, 7, 7, 7, 7, 7, 7, 7, 7, 7, 7, 7, 7, 7, 7, 7, 7, 7, 7, 7, 7, 7, 7, 7, 7, 7, 7, 7, 7, 7, 7, 7, 7, 7, 7, 7, 8, 8, 8, 8, 8, 8, 8, 8, 8, 8, 8, 8, 8, 8, 8, 8, 8, 8, 8, 8, 8, 8, 8, 8, 8, 8, 8, 8, 8, 8, 8, 8, 8, 8, 8, 8, 8, 8, 8, 8, 8, 8, 8, 8, 8, 8, 8, 8, 8, 8, 8, 8, 8, 8, 8, 8, 8, 8, 8, 8, 8, 8, 8, 8, 8, 8, 8, 8, 8, 8, 8, 8, 8, 8, 8, 8, 8, 8, 8, 8, 8, 8, 8, 8, 8, 8, 8, 8, 8, 8, 8, 8, 8, 8, 8, 8, 8, 8, 8, 8, 8, 8, 8, 8, 8, 8, 8, 8, 8, 8, 8, 8, 8, 8, 8, 8, 8, 8, 8, 8, 8, 8, 8, 8, 8, 8, 8, 8] : List UInt8) (IntKind.u8.wrap (Int.fdiv a0 (2 ^ (min ((8 : Int)).toNat IntKind.u64.bits))))))))))) rfl ?_
        refine so_nil ?_
        exact by_ret rfl ⟨_, h, rfl, rfl⟩
      · refine fi_false rfl (decide_eq_false c113) ?_
        refine fi_skip ?_
        refine fi_seq ?_
        refine fi_region ?_
        refine so_move (v := (.v (.int .i64 (0 : Int)))) rfl ?_
        refine so_move (v := (.v (.int .u64 a0))) rfl ?_
        refine sv_ii rfl F94.us104 F94.it5 ?_
        obtain ⟨c115, h⟩ := h
        refine so_index rfl rfl F94.sr9 c115 ?_
        refine sv_ii rfl F94.us5 F94.it3 ?_
        refine so_bin rfl rfl ab_add ?_
        refine so_assign (v := (.v (.int .i64 (IntKind.i64.wrap ((0 : Int) + (IntKind.i64.wrap (bt ([0, 1, 2, 2, 3, 3, 3, 3, 4, 4, 4, 4, 4, 4, 4, 4, 5, 5, 5, 5, 5, 5, 5, 5, 5, 5, 5, 5, 5, 5, 5, 5, 6, 6, 6, 6, 6, 6, 6, 6, 6, 6, 6, 6, 6, 6, 6, 6, 6, 6, 6, 6, 6, 6, 6, 6, 6, 6, 6, 6, 6, 6, 6, 6, 7, 7, 7, 7, 7, 7, 7, 7, 7, 7, 7, 7, 7, 7, 7, 7, 7, 7, 7, 7, 7, 7, 7, 7, 7, 7, 7, 7, 7, 7, 7, 7, 7, 7, 7, 7, 7, 7, 7, 7, 7, 7, 7, 7, 7, 7, 7, 7, 7, 7, 7, 7, 7, 7, 7, 7, 7, 7, 7, 7, 7, 7, 7, 7, 8, 8, 8, 8, 8, 8, 8, 8, 8, 8, 8, 8, 8, 8, 8, 8, 8, 8, 8, 8, 8, 8, 8, 8, 8, 8, 8, 8, 8, 8, 8, 8, 8, 8, 8, 8, 8, 8, 8, 8, 8, 8, 8, 8, 8, 8, 8, 8, 8, 8, 8, 8, 8, 8, 8, 8, 8, 8, 8, 8, 8, 8, 8, 8, 8, 8, 8, 8, 8, 8, 8, 8, 8, 8, 8, 8, 8, 8, 8, 8, 8, 8, 8, 8, 8, 8, 8, 8, 8, 8, 8, 8, 8, 8, 8, 8, 8, 8, 8, 8, 8, 8, 8, 8, 8, 8, 8, 8, 8, 8, 8, 8, 8, 8, 8, 8, 8, 8, 8, 8, 8, 8, 8, 8, 8, 8, 8, 8] : List UInt8) (IntKind.u8.wrap a0)))))))) rfl ?_
        refine so_nil ?_
        exact by_ret rfl ⟨_, h, rfl, rfl⟩
theorem F48.ag2 : tagg Try.prog 2 = some false := by kernel_rfl
theorem F48.it104 : tint Try.prog 104 = some .u64 := by kernel_rfl
theorem F48.ti28 : (telem Try.prog 28).isSome = true := by kernel_rfl
theorem F48.tl28 : (telem Try.prog 28).bind (tsz Try.prog) = some 1 := by kernel_rfl
theorem F48.us2 : (Try.prog.underlying 2).isSome = true := by kernel_rfl
theorem impl_planesFor_ok {fr : List Pc} {H : Heap} (v0 : AV) (l0 : List (Int)) (hs : Sep H (fr)) (g0 : ∀ H, Sep H fr → Shows H v0 1 (enc (eInt .i64) l0)) (K : Int → Prop) (h : impl_planesFor.wp l0 K) : OkQ Try.prog 48 [(.v v0)] H (fun r H2 => ∃ (y0 : Int), K y0 ∧ r = (.v (.int .i64 y0)) ∧ H = H2) := by
  unfold impl_planesFor.wp at h
  refine of_body Try.f48 F.hm Try.func48 rfl Try.call48 (by kernel_rfl) (by simp) ?_
  refine fi_seq ?_
  refine fi_region ?_
  refine so_assign (v := (.v (.int .i64 (0 : Int)))) rfl ?_
  refine so_nil ?_
  refine fi_seq ?_
  refine fi_region ?_
  refine so_assign (v := (.v (.int .i64 (0 : Int)))) rfl ?_
  refine so_nil ?_
  refine fi_seq ?_
  refine fi_seq ?_
  refine fi_region ?_
  refine so_move (v := (.v v0)) rfl ?_
  refine sv_len (g0 _ hs) (fun _ => rfl) (by decide) rfl F48.ti28 ?_
  refine so_move (v := (.v (.int .i64 (0 : Int)))) rfl ?_
  refine so_nil ?_
  refine fi_block ?_
  refine fi_loop ?_
  refine fi_at [(3, (.v (.int .i64 (0 : Int)))), (6, (.v v0)), (7, (.v (.int .i64 (l0.length : Int)))), (8, (.v (.int .i64 (0 : Int))))] ⟨rfl, rfl, rfl, rfl, trivial⟩ ?_
  refine h (fun (most102 : Int) (x103 : Int) => ∀ (s : Nat → TV), Fin _ _ (updL s [(3, (.v (.int .i64 most102))), (6, (.v v0)), (7, (.v (.int .i64 (l0.length : Int)))), (8, (.v (.int .i64 x103)))]) _ _) ?_ _
  intro most102 x103 h s110
  refine fi_inLoop ?_
  refine fi_seq ?_
  refine fi_region ?_
  refine so_bin rfl rfl ab_lss ?_
  refine so_nil ?_
  refine fi_seq ?_
  replace h := ofP h; rcases h with ⟨c104, h⟩ | ⟨c104, h⟩
  · refine fi_true rfl (decide_eq_true c104) ?_
    refine fi_skip ?_
    refine fi_seq ?_
    refine fi_block ?_
    refine fi_seq ?_
    refine fi_region ?_
    obtain ⟨c105, h⟩ := h
    refine sv_idx (g0 _ hs) c105 (fun _ => rfl) (by decide) rfl rfl F48.tl28 ?_
    refine sv_cell (g0 _ hs) c105 (0 : Int) 0 (fun x => (AV.int .i64 x)) (fun _ => rfl) (fun _ => rfl) rfl F48.ag2 ?_
    refine so_assign (v := (.v (.int .i64 (l0.getD (x103).toNat (0 : Int))))) rfl ?_
    refine so_nil ?_
    refine fi_region ?_
    refine so_move (v := (.v (.int .i64 most102))) rfl ?_
    refine so_move (v := (.v (.int .i64 (l0.getD (x103).toNat (0 : Int))))) rfl ?_
    refine sv_callS (impl_far_ok (l0.getD (x103).toNat (0 : Int)) hs  _ h) (fun _ _ ⟨_, _, _, e⟩ => e) rfl rfl ?_
    clear h
    rintro _ _ ⟨y106, h, rfl, rfl⟩
    refine sv_max rfl rfl ?_
    refine so_assign (v := (.v (.int .i64 (mxI most102 y106)))) rfl ?_
    refine so_nil ?_
    refine fi_inBlock ?_
    refine fi_region ?_
    refine so_bin rfl rfl ab_add ?_
    refine so_move (v := (.v (.int .i64 (IntKind.i64.wrap (x103 + (1 : Int)))))) rfl ?_
    refine so_nil ?_
    exact fi_at [(3, (.v (.int .i64 (mxI most102 y106)))), (6, (.v v0)), (7, (.v (.int .i64 (l0.length : Int)))), (8, (.v (.int .i64 (IntKind.i64.wrap (x103 + (1 : Int))))))] ⟨rfl, rfl, rfl, rfl, trivial⟩ (h _)
  · refine fi_false rfl (decide_eq_false c104) ?_
    refine fi_exit rfl ?_
    refine fi_seq ?_
    refine fi_region ?_
    refine so_move (v := (.v (.int .i64 most102))) rfl ?_
    refine sv_ii rfl F48.us2 F48.it104 ?_
    refine sv_callS (math_bits_Len64_ok (IntKind.u64.wrap most102) hs  _ h) (fun _ _ ⟨_, _, _, e⟩ => e) rfl rfl ?_
    clear h
    rintro _ _ ⟨y108, h, rfl, rfl⟩
    refine so_assign (v := (.v (.int .i64 y108))) rfl ?_
    refine so_nil ?_
    exact by_ret rfl ⟨_, h, rfl, rfl⟩
theorem impl_digit_ok {fr : List Pc} {H : Heap} (a0 : Int) (a1 : Int) (hs : Sep H (fr))  (K : Bool → Prop) (h : impl_digit.wp a0 a1 K) : OkQ Try.prog 133 [(.v (.int .i64 a0)), (.v (.int .i64 a1))] H (fun r H2 => ∃ (y0 : Bool), K y0 ∧ r = (.v (.bool y0)) ∧ H = H2) := by
  unfold impl_digit.wp at h
  refine of_body Try.f133 F.hm Try.func133 rfl Try.call133 (by kernel_rfl) (by simp) ?_
  refine fi_seq ?_
  refine fi_region ?_
  refine so_assign (v := (.v (.bool false))) rfl ?_
  refine so_nil ?_
  refine fi_seq ?_
  refine fi_region ?_
  refine so_move (v := (.v (.int .i64 a0))) rfl ?_
  refine sv_callS (impl_far_ok a0 hs  _ h) (fun _ _ ⟨_, _, _, e⟩ => e) rfl rfl ?_
  clear h
  rintro _ _ ⟨y101, h, rfl, rfl⟩
  refine so_move (v := (.v (.int .i64 a1))) rfl ?_
  obtain ⟨c103, h⟩ := h
  refine so_bin rfl rfl (ab_shr c103) ?_
  refine so_bin rfl rfl ab_and ?_
  refine so_bin rfl rfl ab_eql ?_
  refine so_assign (v := (.v (.bool (decide ((ibits .and .i64 (Int.fdiv y101 (2 ^ (min (a1).toNat IntKind.i64.bits))) (1 : Int)) = (1 : Int)))))) rfl ?_
  refine so_nil ?_
  exact by_ret rfl ⟨_, h, rfl, rfl⟩
theorem F95.ag2 : tagg Try.prog 2 = some false := by kernel_rfl
theorem F95.sz4 : tsz Try.prog 4 = some 1 := by kernel_rfl
theorem F95.ta49_49 : tapp Try.prog 49 49 = some (1, 1) := by kernel_rfl
theorem F95.te49 : telem Try.prog 49 = some 4 := by kernel_rfl
theorem F95.ti28 : (telem Try.prog 28).isSome = true := by kernel_rfl
theorem F95.tl28 : (telem Try.prog 28).bind (tsz Try.prog) = some 1 := by kernel_rfl
theorem F95.ze4 : tzero Try.prog 4 = some [(.bool false)] := by kernel_rfl
theorem impl_codeUntil_ok {fr : List Pc} {H : Heap} (v0 : AV) (l0 : List (Int)) (a1 : Int) (a2 : Int) (hs : Sep H (fr)) (g0 : ∀ H, Sep H fr → Shows H v0 1 (enc (eInt .i64) l0)) (K : (List (Bool)) → Prop) (h : impl_codeUntil.wp l0 a1 a2 K) : OkQ Try.prog 95 [(.v v0), (.v (.int .i64 a1)), (.v (.int .i64 a2))] H (fun r H2 => ∃ (y0 : List (Bool)), K y0 ∧ ∃ (w0_ : AV), r = (.v w0_) ∧ Sep H2 (Pc.osl w0_ 1 (enc eBool y0) :: fr)) := by
  unfold impl_codeUntil.wp at h
  refine of_body Try.f95 F.hm Try.func95 rfl Try.call95 (by kernel_rfl) (by simp) ?_
  refine fi_seq ?_
  refine fi_region ?_
  refine so_assign (v := (.v .nilsl)) rfl ?_
  refine so_nil ?_
  refine fi_seq ?_
  refine fi_region ?_
  refine sv_bslice hs eBool ([] : List (Bool)) [] F95.te49 F95.sz4 F95.ze4 rfl rfl rfl rfl (fun _ => rfl) rfl (by decide) nofun (fun v101 H102 nv101 hs => ?_)
  refine so_assign (v := (.v v101)) rfl ?_
  refine so_nil ?_
  refine fi_seq ?_
  refine fi_seq ?_
  refine fi_region ?_
  refine so_move (v := (.v (.int .i64 a1))) rfl ?_
  refine so_bin rfl rfl ab_sub ?_
  refine so_assign (v := (.v (.int .i64 (IntKind.i64.wrap (a1 - (1 : Int)))))) rfl ?_
  refine so_nil ?_
  refine fi_block ?_
  refine fi_loop ?_
  refine fi_at [(0, (.v v0)), (2, (.v (.int .i64 a2))), (7, (.v v101)), (8, (.v (.int .i64 (IntKind.i64.wrap (a1 - (1 : Int))))))] ⟨rfl, rfl, rfl, rfl, trivial⟩ ?_
  refine h (fun (out162 : List (Bool)) (plane164 : Int) => ∀ (s : Nat → TV) (H : Heap) (v163 : AV) (nv163 : v163 ≠ .nilsl), Sep H (Pc.osl v163 1 (enc eBool out162) :: fr) → Fin _ _ (updL s [(0, (.v v0)), (2, (.v (.int .i64 a2))), (7, (.v v163)), (8, (.v (.int .i64 plane164)))]) H _) ?_ _ _ _ nv101 hs
  intro out162 plane164 h s218 H219 v163 nv163 hs
  refine fi_inLoop ?_
  refine fi_seq ?_
  refine fi_seq ?_
  refine fi_region ?_
  refine so_move (v := (.v (.int .i64 plane164))) rfl ?_
  refine so_move (v := (.v (.int .i64 a2))) rfl ?_
  refine so_bin rfl rfl ab_geq ?_
  refine so_nil ?_
  replace h := ofP h; rcases h with ⟨c165, h⟩ | ⟨c165, h⟩
  · refine fi_true rfl (decide_eq_true c165) ?_
    refine fi_skip ?_
    refine fi_seq ?_
    refine fi_block ?_
    refine fi_seq ?_
    refine fi_region ?_
    refine so_move (v := (.v v0)) rfl ?_
    refine sv_len (g0 _ hs.tl) (fun _ => rfl) (by decide) rfl F95.ti28 ?_
    refine so_move (v := (.v (.int .i64 (0 : Int)))) rfl ?_
    refine so_nil ?_
    refine fi_block ?_
    refine fi_loop ?_
    refine fi_at [(0, (.v v0)), (2, (.v (.int .i64 a2))), (7, (.v v163)), (8, (.v (.int .i64 plane164))), (20, (.v v0)), (21, (.v (.int .i64 (l0.length : Int)))), (22, (.v (.int .i64 (0 : Int))))] ⟨rfl, rfl, rfl, rfl, rfl, rfl, rfl, trivial⟩ ?_
    refine h (fun (out192 : List (Bool)) (x194 : Int) => ∀ (s : Nat → TV) (H : Heap) (v193 : AV) (nv193 : v193 ≠ .nilsl), Sep H (Pc.osl v193 1 (enc eBool out192) :: fr) → Fin _ _ (updL s [(0, (.v v0)), (2, (.v (.int .i64 a2))), (7, (.v v193)), (8, (.v (.int .i64 plane164))), (20, (.v v0)), (21, (.v (.int .i64 (l0.length : Int)))), (22, (.v (.int .i64 x194)))]) H _) ?_ _ _ _ nv163 hs
    intro out192 x194 h s216 H217 v193 nv193 hs
    refine fi_inLoop ?_
    refine fi_seq ?_
    refine fi_region ?_
    refine so_bin rfl rfl ab_lss ?_
    refine so_nil ?_
    refine fi_seq ?_
    replace h := ofP h; rcases h with ⟨c195, h⟩ | ⟨c195, h⟩
    · refine fi_true rfl (decide_eq_true c195) ?_
      refine fi_skip ?_
      refine fi_seq ?_
      refine fi_block ?_
      refine fi_seq ?_
      refine fi_region ?_
      obtain ⟨c196, h⟩ := h
      refine sv_idx (g0 _ hs.tl) c196 (fun _ => rfl) (by decide) rfl rfl F95.tl28 ?_
      refine sv_cell (g0 _ hs.tl) c196 (0 : Int) 0 (fun x => (AV.int .i64 x)) (fun _ => rfl) (fun _ => rfl) rfl F95.ag2 ?_
      refine so_assign (v := (.v (.int .i64 (l0.getD (x194).toNat (0 : Int))))) rfl ?_
      refine so_nil ?_
      refine fi_seq ?_
      refine fi_region ?_
      refine so_move (v := (.v (.int .i64 (l0.getD (x194).toNat (0 : Int))))) rfl ?_
      refine so_move (v := (.v (.int .i64 plane164))) rfl ?_
      refine sv_callS (impl_digit_ok (l0.getD (x194).toNat (0 : Int)) plane164 hs  _ h) (fun _ _ ⟨_, _, _, e⟩ => e) rfl rfl ?_
      clear h
      rintro _ _ ⟨y197, h, rfl, rfl⟩
      refine so_assign (v := (.v (.bool y197))) rfl ?_
      refine so_nil ?_
      refine fi_seq ?_
      refine fi_region ?_
      refine so_move (v := (.v v193)) rfl ?_
      refine so_move (v := (.v (.bool y197))) rfl ?_
      refine sv_bslice hs eBool ([y197] : List (Bool)) [[(.bool y197)]] F95.te49 F95.sz4 F95.ze4 rfl rfl rfl rfl (fun _ => rfl) rfl (by decide) nofun (fun v199 H200 nv199 hs => ?_)
      obtain ⟨c204, h⟩ := h
      refine sv_app hs 1 rfl (hs.shows 0 rfl) (fun _ => rfl) (by decide) F95.ta49_49 (by decide) c204 rfl rfl nofun (fun v202 H203 kv202 hs => ?_)
      replace hs := hs.del 0
      have nv202 := kv202 nv193
      refine so_assign (v := (.v v202)) rfl ?_
      refine so_nil ?_
      refine fi_seq ?_
      refine fi_region ?_
      refine so_move (v := (.v (.bool y197))) rfl ?_
      refine so_move (v := (.v (.bool y197))) rfl ?_
      replace h := ofT h; rcases h with ⟨c205, h⟩ | ⟨c205, h⟩
      · refine so_gyes rfl c205 ?_
        refine so_move (v := (.v (.int .i64 (l0.getD (x194).toNat (0 : Int))))) rfl ?_
        refine so_gyes rfl c205 ?_
        refine sv_callS (impl_far_ok (l0.getD (x194).toNat (0 : Int)) hs  _ h) (fun _ _ ⟨_, _, _, e⟩ => e) rfl rfl ?_
        clear h
        rintro _ _ ⟨y206, h, rfl, rfl⟩
        refine so_gyes rfl c205 ?_
        refine so_move (v := (.v (.int .i64 plane164))) rfl ?_
        refine so_gyes rfl c205 ?_
        refine so_bin rfl rfl ab_add ?_
        refine so_gyes rfl c205 ?_
        obtain ⟨c208, h⟩ := h
        refine so_bin rfl rfl (ab_shr c208) ?_
        refine so_gyes rfl c205 ?_
        refine so_bin rfl rfl ab_eql ?_
        refine so_pick_t (v := (.v (.bool (decide ((Int.fdiv y206 (2 ^ (min ((IntKind.i64.wrap (plane164 + (1 : Int)))).toNat IntKind.i64.bits))) = (0 : Int)))))) rfl c205 rfl ?_
        refine so_nil ?_
        replace h := ofP h; rcases h with ⟨c209, h⟩ | ⟨c209, h⟩
        · refine fi_true rfl (decide_eq_true c209) ?_
          refine fi_region ?_
          refine so_move (v := (.v v202)) rfl ?_
          refine so_move (v := (.v (.int .i64 (l0.getD (x194).toNat (0 : Int))))) rfl ?_
          refine so_bin rfl rfl ab_lss ?_
          refine sv_bslice hs eBool ([(decide ((l0.getD (x194).toNat (0 : Int)) < (0 : Int)))] : List (Bool)) [[(.bool (decide ((l0.getD (x194).toNat (0 : Int)) < (0 : Int))))]] F95.te49 F95.sz4 F95.ze4 rfl rfl rfl rfl (fun _ => rfl) rfl (by decide) nofun (fun v210 H211 nv210 hs => ?_)
          obtain ⟨c215, h⟩ := h
          refine sv_app hs 1 rfl (hs.shows 0 rfl) (fun _ => rfl) (by decide) F95.ta49_49 (by decide) c215 rfl rfl nofun (fun v213 H214 kv213 hs => ?_)
          replace hs := hs.del 0
          have nv213 := kv213 nv202
          refine so_assign (v := (.v v213)) rfl ?_
          refine so_nil ?_
          refine fi_inBlock ?_
          refine fi_region ?_
          refine so_bin rfl rfl ab_add ?_
          refine so_move (v := (.v (.int .i64 (IntKind.i64.wrap (x194 + (1 : Int)))))) rfl ?_
          refine so_nil ?_
          exact fi_at [(0, (.v v0)), (2, (.v (.int .i64 a2))), (7, (.v v213)), (8, (.v (.int .i64 plane164))), (20, (.v v0)), (21, (.v (.int .i64 (l0.length : Int)))), (22, (.v (.int .i64 (IntKind.i64.wrap (x194 + (1 : Int))))))] ⟨rfl, rfl, rfl, rfl, rfl, rfl, rfl, trivial⟩ (h _ _ _ nv213 hs)
        · refine fi_false rfl (decide_eq_false c209) ?_
          refine fi_skip ?_
          refine fi_inBlock ?_
          refine fi_region ?_
          refine so_bin rfl rfl ab_add ?_
          refine so_move (v := (.v (.int .i64 (IntKind.i64.wrap (x194 + (1 : Int)))))) rfl ?_
          refine so_nil ?_
          exact fi_at [(0, (.v v0)), (2, (.v (.int .i64 a2))), (7, (.v v202)), (8, (.v (.int .i64 plane164))), (20, (.v v0)), (21, (.v (.int .i64 (l0.length : Int)))), (22, (.v (.int .i64 (IntKind.i64.wrap (x194 + (1 : Int))))))] ⟨rfl, rfl, rfl, rfl, rfl, rfl, rfl, trivial⟩ (h _ _ _ nv202 hs)
      · refine so_gno rfl c205 ?_
        refine so_gno rfl c205 ?_
        refine so_gno rfl c205 ?_
        refine so_gno rfl c205 ?_
        refine so_gno rfl c205 ?_
        refine so_gno rfl c205 ?_
        refine so_pick_f (v := (.v (.bool false))) rfl c205 rfl ?_
        refine so_nil ?_
        refine fi_false rfl rfl ?_
        refine fi_skip ?_
        refine fi_inBlock ?_
        refine fi_region ?_
        refine so_bin rfl rfl ab_add ?_
        refine so_move (v := (.v (.int .i64 (IntKind.i64.wrap (x194 + (1 : Int)))))) rfl ?_
        refine so_nil ?_
        exact fi_at [(0, (.v v0)), (2, (.v (.int .i64 a2))), (7, (.v v202)), (8, (.v (.int .i64 plane164))), (20, (.v v0)), (21, (.v (.int .i64 (l0.length : Int)))), (22, (.v (.int .i64 (IntKind.i64.wrap (x194 + (1 : Int))))))] ⟨rfl, rfl, rfl, rfl, rfl, rfl, rfl, trivial⟩ (h _ _ _ nv202 hs)
    · refine fi_false rfl (decide_eq_false c195) ?_
      refine fi_exit rfl ?_
      refine fi_inBlock ?_
      refine fi_region ?_
      refine so_move (v := (.v (.int .i64 plane164))) rfl ?_
      refine so_bin rfl rfl ab_sub ?_
      refine so_assign (v := (.v (.int .i64 (IntKind.i64.wrap (plane164 - (1 : Int)))))) rfl ?_
      refine so_nil ?_
      exact fi_at [(0, (.v v0)), (2, (.v (.int .i64 a2))), (7, (.v v193)), (8, (.v (.int .i64 (IntKind.i64.wrap (plane164 - (1 : Int))))))] ⟨rfl, rfl, rfl, rfl, trivial⟩ (h _ _ _ nv193 hs)
  · refine fi_false rfl (decide_eq_false c165) ?_
    refine fi_exit rfl ?_
    refine fi_seq ?_
    refine fi_region ?_
    refine so_move (v := (.v v163)) rfl ?_
    refine so_assign (v := (.v v163)) rfl ?_
    refine so_nil ?_
    exact by_ret rfl ⟨_, h, _, rfl, hs⟩
theorem F49.ti49 : (telem Try.prog 49).isSome = true := by kernel_rfl
theorem impl_BitsUntil_ok {fr : List Pc} {H : Heap} (v0 : AV) (l0 : List (Int)) (a1 : Int) (hs : Sep H (fr)) (g0 : ∀ H, Sep H fr → Shows H v0 1 (enc (eInt .i64) l0)) (K : Int → Bool → Prop) (h : impl_BitsUntil.wp l0 a1 K) : OkQ Try.prog 49 [(.v v0), (.v (.int .i64 a1))] H (fun r H2 => ∃ (y0 : Int) (y1 : Bool), K y0 y1 ∧ r = (.t [(.v (.int .i64 y0)), (.v (.bool y1))]) ∧ Sep H2 (fr)) := by
  unfold impl_BitsUntil.wp at h
  refine of_body Try.f49 F.hm Try.func49 rfl Try.call49 (by kernel_rfl) (by simp) ?_
  refine fi_seq ?_
  refine fi_region ?_
  refine so_assign (v := (.v (.int .i64 (0 : Int)))) rfl ?_
  refine so_assign (v := (.v (.bool false))) rfl ?_
  refine so_nil ?_
  refine fi_seq ?_
  refine fi_seq ?_
  refine fi_region ?_
  refine so_move (v := (.v v0)) rfl ?_
  refine sv_callS (impl_AreIntegers_ok v0 l0 hs (fun _ hs => (g0 _ hs)) _ h) (fun _ _ ⟨_, _, _, e⟩ => e) rfl rfl ?_
  clear h
  rintro _ _ ⟨y101, h, rfl, rfl⟩
  refine so_un rfl au_not ?_
  refine so_move (v := (.v (.bool (!y101)))) rfl ?_
  replace h := ofT h; rcases h with ⟨c103, h⟩ | ⟨c103, h⟩
  · refine so_gyes rfl (not_f c103) ?_
    refine so_move (v := (.v (.int .i64 a1))) rfl ?_
    refine so_gyes rfl (not_f c103) ?_
    refine sv_callS (impl_within_ok a1 (0 : Int) (24 : Int) hs  _ h) (fun _ _ ⟨_, _, _, e⟩ => e) rfl rfl ?_
    clear h
    rintro _ _ ⟨y104, h, rfl, rfl⟩
    refine so_gyes rfl (not_f c103) ?_
    refine so_un rfl au_not ?_
    refine so_pick_f (v := (.v (.bool (!y104)))) rfl (not_f c103) rfl ?_
    refine so_nil ?_
    replace h := ofT h; rcases h with ⟨c106, h⟩ | ⟨c106, h⟩
    · refine fi_false rfl (not_f c106) ?_
      refine fi_skip ?_
      refine fi_seq ?_
      refine fi_region ?_
      refine so_move (v := (.v v0)) rfl ?_
      refine so_move (v := (.v v0)) rfl ?_
      refine sv_callS (impl_planesFor_ok v0 l0 hs (fun _ hs => (g0 _ hs)) _ h) (fun _ _ ⟨_, _, _, e⟩ => e) rfl rfl ?_
      clear h
      rintro _ _ ⟨y107, h, rfl, rfl⟩
      refine so_move (v := (.v (.int .i64 a1))) rfl ?_
      refine sv_call (impl_codeUntil_ok v0 l0 y107 a1 hs (fun _ hs => (g0 _ hs)) _ h) rfl rfl nofun ?_
      clear h hs
      rintro _ H112 ⟨y109, h, v110, rfl, hs⟩
      refine sv_len (hs.shows 0 rfl) (fun _ => rfl) (by decide) rfl F49.ti49 ?_
      refine so_assign (v := (.v (.int .i64 (y109.length : Int)))) rfl ?_
      refine so_assign (v := (.v (.bool true))) rfl ?_
      refine so_nil ?_
      exact by_ret rfl ⟨_, _, h, rfl, (Sep.del 0 hs)⟩
    · refine fi_true rfl (not_t c106) ?_
      refine fi_seq ?_
      refine fi_region ?_
      refine so_assign (v := (.v (.int .i64 (0 : Int)))) rfl ?_
      refine so_assign (v := (.v (.bool false))) rfl ?_
      refine so_nil ?_
      exact by_ret rfl ⟨_, _, h, rfl, hs⟩
  · refine so_gno rfl (not_t c103) ?_
    refine so_gno rfl (not_t c103) ?_
    refine so_gno rfl (not_t c103) ?_
    refine so_pick_t (v := (.v (.bool true))) rfl (not_t c103) rfl ?_
    refine so_nil ?_
    refine fi_true rfl rfl ?_
    refine fi_seq ?_
    refine fi_region ?_
    refine so_assign (v := (.v (.int .i64 (0 : Int)))) rfl ?_
    refine so_assign (v := (.v (.bool false))) rfl ?_
    refine so_nil ?_
    exact by_ret rfl ⟨_, _, h, rfl, hs⟩
theorem impl_BitsUntil_okS {fr : List Pc} {H : Heap} (v0 : AV) (l0 : List (Int)) (a1 : Int) (hs : Sep H fr) (g0 : ∀ H, Sep H fr → Shows H v0 1 (enc (eInt .i64) l0)) (K : Int → Bool → Prop) (h : impl_BitsUntil.wp l0 a1 K) : OkQ Try.prog 49 [(.v v0), (.v (.int .i64 a1))] H (fun r H2 => ∃ (y0 : Int) (y1 : Bool), K y0 y1 ∧ r = (.t [(.v (.int .i64 y0)), (.v (.bool y1))]) ∧ H = H2) := by
  obtain ⟨r, H2, h1, y0, y1, hK, hr, hsep⟩ := impl_BitsUntil_ok (fr := came H) (H := H) v0 l0 a1 (came_sep H) (came_shows (g0 H hs)) K h
  have hk : H.n ≤ H2.n ∧ ∀ i, i < H.n → H2.f i = H.f i := hsep.1.2.1
  exact ⟨r, H, h1.forget hk.1 hk.2 (by subst hr; rfl), y0, y1, hK, hr, rfl⟩
theorem F149.xb149 : Try.f149.body = none := rfl
theorem F149.xe149 : Extern.find Try.f149 = some Extern.MathSqrt.sqrt := by rfl
theorem F149.xf149 : (Extern.findNext Try.f149).isNone = true := by kernel_rfl
theorem F149.xn149 : (Try.f149.name == "runtime.NumGoroutine") = false := by kernel_rfl
theorem math_sqrt_ok {fr : List Pc} {H : Heap} (x : Nat) (hs : Sep H fr) (K : Nat → Prop) (h : math_sqrt.wp x K) : OkQ Try.prog 149 [(.v (.flt .f64 x))] H (fun r H2 => ∃ y0 : Nat, K y0 ∧ r = (.v (.flt .f64 y0)) ∧ H = H2) := ⟨_, _, sqrt_ok Try.func149 F149.xn149 F149.xb149 F149.xf149 F149.xe149 x, _, h, rfl, rfl⟩
theorem math_Sqrt_ok {fr : List Pc} {H : Heap} (a0 : Nat) (hs : Sep H (fr))  (K : Nat → Prop) (h : math_Sqrt.wp a0 K) : OkQ Try.prog 128 [(.v (.flt .f64 a0))] H (fun r H2 => ∃ (y0 : Nat), K y0 ∧ r = (.v (.flt .f64 y0)) ∧ H = H2) := by
  unfold math_Sqrt.wp at h
  refine of_body Try.f128 F.hm Try.func128 rfl Try.call128 (by kernel_rfl) (by simp) ?_
  refine fi_seq ?_
  refine fi_region ?_
  refine so_assign (v := (.v (.flt .f64 (cz .f64 0)))) rfl ?_
  refine so_nil ?_
  refine fi_seq ?_
  refine fi_region ?_
  refine so_move (v := (.v (.flt .f64 a0))) rfl ?_
  refine sv_callS (math_sqrt_ok a0 hs  _ h) (fun _ _ ⟨_, _, _, e⟩ => e) rfl rfl ?_
  clear h
  rintro _ _ ⟨y101, h, rfl, rfl⟩
  refine so_assign (v := (.v (.flt .f64 y101))) rfl ?_
  refine so_nil ?_
  exact by_ret rfl ⟨_, h, rfl, rfl⟩
theorem F100.fl26 : tflt Try.prog 26 = some .f32 := by kernel_rfl
theorem F100.fl33 : tflt Try.prog 33 = some .f64 := by kernel_rfl
theorem F100.in26 : tint Try.prog 26 = none := by kernel_rfl
theorem F100.in33 : tint Try.prog 33 = none := by kernel_rfl
theorem F100.us26 : (Try.prog.underlying 26).isSome = true := by kernel_rfl
theorem F100.us33 : (Try.prog.underlying 33).isSome = true := by kernel_rfl
theorem impl_RootNumber_ok {fr : List Pc} {H : Heap} (a0 : Nat) (hs : Sep H (fr))  (K : Nat → Prop) (h : impl_RootNumber.wp a0 K) : OkQ Try.prog 100 [(.v (.flt .f32 a0))] H (fun r H2 => ∃ (y0 : Nat), K y0 ∧ r = (.v (.flt .f32 y0)) ∧ H = H2) := by
  unfold impl_RootNumber.wp at h
  refine of_body Try.f100 F.hm Try.func100 rfl Try.call100 (by kernel_rfl) (by simp) ?_
  refine fi_seq ?_
  refine fi_region ?_
  refine so_assign (v := (.v (.flt .f32 (cz .f32 0)))) rfl ?_
  refine so_nil ?_
  refine fi_seq ?_
  refine fi_region ?_
  refine so_move (v := (.v (.flt .f32 a0))) rfl ?_
  refine sv_ffw rfl F100.us26 F100.in33 F100.fl33 ?_
  refine sv_callS (math_Sqrt_ok (widen a0) hs  _ h) (fun _ _ ⟨_, _, _, e⟩ => e) rfl rfl ?_
  clear h
  rintro _ _ ⟨y101, h, rfl, rfl⟩
  obtain ⟨c103, h⟩ := h
  refine sv_ffn c103 rfl F100.us33 F100.in26 F100.fl26 ?_
  refine so_assign (v := (.v (.flt .f32 (narrow y101)))) rfl ?_
  refine so_nil ?_
  exact by_ret rfl ⟨_, h, rfl, rfl⟩
theorem impl_above_ok {fr : List Pc} {H : Heap} (a0 : Int) (a1 : Int) (hs : Sep H (fr))  (K : Int → Prop) (h : impl_above.wp a0 a1 K) : OkQ Try.prog 96 [(.v (.int .i64 a0)), (.v (.int .i64 a1))] H (fun r H2 => ∃ (y0 : Int), K y0 ∧ r = (.v (.int .i64 y0)) ∧ H = H2) := by
  unfold impl_above.wp at h
  refine of_body Try.f96 F.hm Try.func96 rfl Try.call96 (by kernel_rfl) (by simp) ?_
  refine fi_seq ?_
  refine fi_region ?_
  refine so_assign (v := (.v (.int .i64 (0 : Int)))) rfl ?_
  refine so_nil ?_
  refine fi_seq ?_
  refine fi_seq ?_
  refine fi_region ?_
  refine so_move (v := (.v (.int .i64 a0))) rfl ?_
  refine so_bin rfl rfl ab_lss ?_
  refine so_nil ?_
  replace h := ofP h; rcases h with ⟨c101, h⟩ | ⟨c101, h⟩
  · refine fi_true rfl (decide_eq_true c101) ?_
    refine fi_seq ?_
    refine fi_region ?_
    refine so_move (v := (.v (.int .i64 a0))) rfl ?_
    refine so_un rfl au_neg ?_
    refine so_move (v := (.v (.int .i64 a1))) rfl ?_
    obtain ⟨c102, h⟩ := h
    refine so_bin rfl rfl (ab_shr c102) ?_
    refine so_move (v := (.v (.int .i64 a1))) rfl ?_
    refine so_bin rfl rfl (ab_shl c102) ?_
    refine so_un rfl au_neg ?_
    refine so_assign (v := (.v (.int .i64 (IntKind.i64.wrap (0 - (IntKind.i64.wrap ((Int.fdiv (IntKind.i64.wrap (0 - a0)) (2 ^ (min (a1).toNat IntKind.i64.bits))) * (2 ^ (min (a1).toNat IntKind.i64.bits))))))))) rfl ?_
    refine so_nil ?_
    exact by_ret rfl ⟨_, h, rfl, rfl⟩
  · refine fi_false rfl (decide_eq_false c101) ?_
    refine fi_skip ?_
    refine fi_seq ?_
    refine fi_region ?_
    refine so_move (v := (.v (.int .i64 a0))) rfl ?_
    refine so_move (v := (.v (.int .i64 a1))) rfl ?_
    obtain ⟨c103, h⟩ := h
    refine so_bin rfl rfl (ab_shr c103) ?_
    refine so_move (v := (.v (.int .i64 a1))) rfl ?_
    refine so_bin rfl rfl (ab_shl c103) ?_
    refine so_assign (v := (.v (.int .i64 (IntKind.i64.wrap ((Int.fdiv a0 (2 ^ (min (a1).toNat IntKind.i64.bits))) * (2 ^ (min (a1).toNat IntKind.i64.bits))))))) rfl ?_
    refine so_nil ?_
    exact by_ret rfl ⟨_, h, rfl, rfl⟩
theorem F134.sz2 : tsz Try.prog 2 = some 1 := by kernel_rfl
theorem F134.ta28_28 : tapp Try.prog 28 28 = some (1, 8) := by kernel_rfl
theorem F134.te28 : telem Try.prog 28 = some 2 := by kernel_rfl
theorem F134.ze2 : tzero Try.prog 2 = some [(.int .i64 (0 : Int))] := by kernel_rfl
theorem impl_BandSizes_ok {fr : List Pc} {H : Heap} (a0 : Int) (a1 : Int) (hs : Sep H (fr))  (K : (List (Int)) → Bool → Prop) (h : impl_BandSizes.wp a0 a1 K) : OkQ Try.prog 134 [(.v (.int .i64 a0)), (.v (.int .i64 a1))] H (fun r H2 => ∃ (y0 : List (Int)) (y1 : Bool), K y0 y1 ∧ ∃ (w0_ : AV), r = (.t [(.v w0_), (.v (.bool y1))]) ∧ Sep H2 (Pc.osl w0_ 1 (enc (eInt .i64) y0) :: fr)) := by
  unfold impl_BandSizes.wp at h
  refine of_body Try.f134 F.hm Try.func134 rfl Try.call134 (by kernel_rfl) (by simp) ?_
  refine fi_seq ?_
  refine fi_region ?_
  refine so_assign (v := (.v .nilsl)) rfl ?_
  refine so_assign (v := (.v (.bool false))) rfl ?_
  refine so_nil ?_
  refine fi_seq ?_
  refine fi_seq ?_
  refine fi_region ?_
  refine so_move (v := (.v (.int .i64 a0))) rfl ?_
  refine sv_callS (impl_within_ok a0 (1 : Int) (128 : Int) hs  _ h) (fun _ _ ⟨_, _, _, e⟩ => e) rfl rfl ?_
  clear h
  rintro _ _ ⟨y101, h, rfl, rfl⟩
  refine so_un rfl au_not ?_
  refine so_move (v := (.v (.bool (!y101)))) rfl ?_
  replace h := ofT h; rcases h with ⟨c103, h⟩ | ⟨c103, h⟩
  · refine so_gyes rfl (not_f c103) ?_
    refine so_move (v := (.v (.int .i64 a1))) rfl ?_
    refine so_gyes rfl (not_f c103) ?_
    refine sv_callS (impl_within_ok a1 (1 : Int) (6 : Int) hs  _ h) (fun _ _ ⟨_, _, _, e⟩ => e) rfl rfl ?_
    clear h
    rintro _ _ ⟨y104, h, rfl, rfl⟩
    refine so_gyes rfl (not_f c103) ?_
    refine so_un rfl au_not ?_
    refine so_pick_f (v := (.v (.bool (!y104)))) rfl (not_f c103) rfl ?_
    refine so_nil ?_
    replace h := ofT h; rcases h with ⟨c106, h⟩ | ⟨c106, h⟩
    · refine fi_false rfl (not_f c106) ?_
      refine fi_skip ?_
      refine fi_seq ?_
      refine fi_region ?_
      refine sv_bslice hs (eInt .i64) ([] : List (Int)) [] F134.te28 F134.sz2 F134.ze2 rfl rfl rfl rfl (fun _ => rfl) rfl (by decide) nofun (fun v107 H108 nv107 hs => ?_)
      refine so_assign (v := (.v v107)) rfl ?_
      refine so_nil ?_
      refine fi_seq ?_
      refine fi_seq ?_
      refine fi_region ?_
      refine so_assign (v := (.v (.int .i64 (0 : Int)))) rfl ?_
      refine so_nil ?_
      refine fi_block ?_
      refine fi_loop ?_
      refine fi_at [(0, (.v (.int .i64 a0))), (1, (.v (.int .i64 a1))), (6, (.v v107)), (7, (.v (.int .i64 (0 : Int))))] ⟨rfl, rfl, rfl, rfl, trivial⟩ ?_
      refine h (fun (out136 : List (Int)) (n138 : Int) (k139 : Int) => ∀ (s : Nat → TV) (H : Heap) (v137 : AV) (nv137 : v137 ≠ .nilsl), Sep H (Pc.osl v137 1 (enc (eInt .i64) out136) :: fr) → Fin _ _ (updL s [(0, (.v (.int .i64 n138))), (1, (.v (.int .i64 a1))), (6, (.v v137)), (7, (.v (.int .i64 k139)))]) H _) ?_ _ _ _ nv107 hs
      intro out136 n138 k139 h s160 H161 v137 nv137 hs
      refine fi_inLoop ?_
      refine fi_seq ?_
      refine fi_seq ?_
      refine fi_region ?_
      refine so_move (v := (.v (.int .i64 k139))) rfl ?_
      refine so_move (v := (.v (.int .i64 a1))) rfl ?_
      refine so_bin rfl rfl ab_lss ?_
      refine so_move (v := (.v (.bool (decide (k139 < a1))))) rfl ?_
      replace h := ofP h; rcases h with ⟨c140, h⟩ | ⟨c140, h⟩
      · refine so_gyes rfl (decide_eq_true c140) ?_
        refine so_move (v := (.v (.int .i64 n138))) rfl ?_
        refine so_gyes rfl (decide_eq_true c140) ?_
        refine so_bin rfl rfl ab_gtr ?_
        refine so_pick_t (v := (.v (.bool (decide ((1 : Int) < n138))))) rfl (decide_eq_true c140) rfl ?_
        refine so_nil ?_
        replace h := ofP h; rcases h with ⟨c141, h⟩ | ⟨c141, h⟩
        · refine fi_true rfl (decide_eq_true c141) ?_
          refine fi_skip ?_
          refine fi_seq ?_
          refine fi_block ?_
          refine fi_seq ?_
          refine fi_region ?_
          refine so_move (v := (.v v137)) rfl ?_
          refine so_move (v := (.v (.int .i64 n138))) rfl ?_
          refine so_bin rfl rfl (ab_quo (by decide)) ?_
          refine sv_bslice hs (eInt .i64) ([(IntKind.i64.wrap (Int.tdiv n138 (2 : Int)))] : List (Int)) [[(.int .i64 (IntKind.i64.wrap (Int.tdiv n138 (2 : Int))))]] F134.te28 F134.sz2 F134.ze2 rfl rfl rfl rfl (fun _ => rfl) rfl (by decide) nofun (fun v142 H143 nv142 hs => ?_)
          obtain ⟨c147, h⟩ := h
          refine sv_app hs 1 rfl (hs.shows 0 rfl) (fun _ => rfl) (by decide) F134.ta28_28 (by decide) c147 rfl rfl nofun (fun v145 H146 kv145 hs => ?_)
          replace hs := hs.del 0
          have nv145 := kv145 nv137
          refine so_assign (v := (.v v145)) rfl ?_
          refine so_nil ?_
          refine fi_region ?_
          refine so_move (v := (.v (.int .i64 n138))) rfl ?_
          refine so_move (v := (.v (.int .i64 n138))) rfl ?_
          refine so_bin rfl rfl (ab_quo (by decide)) ?_
          refine so_bin rfl rfl ab_sub ?_
          refine so_assign (v := (.v (.int .i64 (IntKind.i64.wrap (n138 - (IntKind.i64.wrap (Int.tdiv n138 (2 : Int)))))))) rfl ?_
          refine so_nil ?_
          refine fi_inBlock ?_
          refine fi_region ?_
          refine so_move (v := (.v (.int .i64 k139))) rfl ?_
          refine so_bin rfl rfl ab_add ?_
          refine so_assign (v := (.v (.int .i64 (IntKind.i64.wrap (k139 + (1 : Int)))))) rfl ?_
          refine so_nil ?_
          exact fi_at [(0, (.v (.int .i64 (IntKind.i64.wrap (n138 - (IntKind.i64.wrap (Int.tdiv n138 (2 : Int)))))))), (1, (.v (.int .i64 a1))), (6, (.v v145)), (7, (.v (.int .i64 (IntKind.i64.wrap (k139 + (1 : Int))))))] ⟨rfl, rfl, rfl, rfl, trivial⟩ (h _ _ _ nv145 hs)
        · refine fi_false rfl (decide_eq_false c141) ?_
          refine fi_exit rfl ?_
          refine fi_seq ?_
          refine fi_region ?_
          refine so_move (v := (.v v137)) rfl ?_
          refine so_move (v := (.v (.int .i64 n138))) rfl ?_
          refine sv_bslice hs (eInt .i64) ([n138] : List (Int)) [[(.int .i64 n138)]] F134.te28 F134.sz2 F134.ze2 rfl rfl rfl rfl (fun _ => rfl) rfl (by decide) nofun (fun v148 H149 nv148 hs => ?_)
          obtain ⟨c153, h⟩ := h
          refine sv_app hs 1 rfl (hs.shows 0 rfl) (fun _ => rfl) (by decide) F134.ta28_28 (by decide) c153 rfl rfl nofun (fun v151 H152 kv151 hs => ?_)
          replace hs := hs.del 0
          have nv151 := kv151 nv137
          refine so_assign (v := (.v v151)) rfl ?_
          refine so_assign (v := (.v (.bool true))) rfl ?_
          refine so_nil ?_
          exact by_ret rfl ⟨_, _, h, _, rfl, hs⟩
      · refine so_gno rfl (decide_eq_false c140) ?_
        refine so_gno rfl (decide_eq_false c140) ?_
        refine so_pick_f (v := (.v (.bool false))) rfl (decide_eq_false c140) rfl ?_
        refine so_nil ?_
        refine fi_false rfl rfl ?_
        refine fi_exit rfl ?_
        refine fi_seq ?_
        refine fi_region ?_
        refine so_move (v := (.v v137)) rfl ?_
        refine so_move (v := (.v (.int .i64 n138))) rfl ?_
        refine sv_bslice hs (eInt .i64) ([n138] : List (Int)) [[(.int .i64 n138)]] F134.te28 F134.sz2 F134.ze2 rfl rfl rfl rfl (fun _ => rfl) rfl (by decide) nofun (fun v154 H155 nv154 hs => ?_)
        obtain ⟨c159, h⟩ := h
        refine sv_app hs 1 rfl (hs.shows 0 rfl) (fun _ => rfl) (by decide) F134.ta28_28 (by decide) c159 rfl rfl nofun (fun v157 H158 kv157 hs => ?_)
        replace hs := hs.del 0
        have nv157 := kv157 nv137
        refine so_assign (v := (.v v157)) rfl ?_
        refine so_assign (v := (.v (.bool true))) rfl ?_
        refine so_nil ?_
        exact by_ret rfl ⟨_, _, h, _, rfl, hs⟩
    · refine fi_true rfl (not_t c106) ?_
      refine fi_seq ?_
      refine fi_region ?_
      refine so_assign (v := (.v .nilsl)) rfl ?_
      refine so_assign (v := (.v (.bool false))) rfl ?_
      refine so_nil ?_
      exact by_ret rfl ⟨_, _, h, _, rfl, (Sep.nil hs 1)⟩
  · refine so_gno rfl (not_t c103) ?_
    refine so_gno rfl (not_t c103) ?_
    refine so_gno rfl (not_t c103) ?_
    refine so_pick_t (v := (.v (.bool true))) rfl (not_t c103) rfl ?_
    refine so_nil ?_
    refine fi_true rfl rfl ?_
    refine fi_seq ?_
    refine fi_region ?_
    refine so_assign (v := (.v .nilsl)) rfl ?_
    refine so_assign (v := (.v (.bool false))) rfl ?_
    refine so_nil ?_
    exact by_ret rfl ⟨_, _, h, _, rfl, (Sep.nil hs 1)⟩
theorem F97.ag2 : tagg Try.prog 2 = some false := by kernel_rfl
theorem F97.by24 : tbytes Try.prog 24 = some 24 := by kernel_rfl
theorem F97.sz24 : tsz Try.prog 24 = some 1 := by kernel_rfl
theorem F97.te72 : telem Try.prog 72 = some 24 := by kernel_rfl
theorem F97.ti24 : (telem Try.prog 24).isSome = true := by kernel_rfl
theorem F97.ti28 : (telem Try.prog 28).isSome = true := by kernel_rfl
theorem F97.tl24 : (telem Try.prog 24).bind (tsz Try.prog) = some 1 := by kernel_rfl
theorem F97.tl28 : (telem Try.prog 28).bind (tsz Try.prog) = some 1 := by kernel_rfl
theorem F97.tl72 : (telem Try.prog 72).bind (tsz Try.prog) = some 1 := by kernel_rfl
theorem F97.ze24 : tzero Try.prog 24 = some [.nilsl] := by kernel_rfl
theorem impl_CutFlat_ok {fr : List Pc} {H : Heap} (v0 : AV) (l0 : List (Nat)) (a1 : Int) (hs : Sep H (fr)) (g0 : ∀ H, Sep H fr → Shows H v0 1 (enc (eFlt .f32) l0)) (K : (List (List (Nat))) → Bool → Prop) (h : impl_CutFlat.wp l0 a1 K) : OkQ Try.prog 97 [(.v v0), (.v (.int .i64 a1))] H (fun r H2 => ∃ (y0 : List (List (Nat))) (y1 : Bool), K y0 y1 ∧ ∃ (w0_ : AV) (wsw0_ : List (List AV)) (Sw0_ : Nat → Prop), r = (.t [(.v w0_), (.v (.bool y1))]) ∧ Sep H2 (dpc w0_ 1 R_LeFlt_f32_o IR_LeFlt_f32_o y0 wsw0_ Sw0_ :: fr)) := by
  unfold impl_CutFlat.wp at h
  refine of_body Try.f97 F.hm Try.func97 rfl Try.call97 (by kernel_rfl) (by simp) ?_
  refine fi_seq ?_
  refine fi_region ?_
  refine so_assign (v := (.v .nilsl)) rfl ?_
  refine so_assign (v := (.v (.bool false))) rfl ?_
  refine so_nil ?_
  refine fi_seq ?_
  refine fi_region ?_
  refine so_move (v := (.v v0)) rfl ?_
  refine sv_len (g0 _ hs) (fun _ => rfl) (by decide) rfl F97.ti24 ?_
  refine so_move (v := (.v (.int .i64 a1))) rfl ?_
  refine sv_call (impl_BandSizes_ok (l0.length : Int) a1 hs  _ h) rfl rfl nofun ?_
  clear h hs
  rintro _ H105 ⟨y101, y104, h, v102, rfl, hs⟩
  refine so_move (v := (.t [(.v v102), (.v (.bool y104))])) rfl ?_
  refine so_extract rfl rfl rfl ?_
  refine so_extract rfl rfl rfl ?_
  refine so_assign (v := (.v v102)) rfl ?_
  refine so_assign (v := (.v (.bool y104))) rfl ?_
  refine so_nil ?_
  refine fi_seq ?_
  refine fi_seq ?_
  refine fi_region ?_
  refine so_move (v := (.v (.bool y104))) rfl ?_
  refine so_un rfl au_not ?_
  refine so_move (v := (.v (.bool (!y104)))) rfl ?_
  replace h := ofT h; rcases h with ⟨c106, h⟩ | ⟨c106, h⟩
  · refine so_gyes rfl (not_f c106) ?_
    refine so_move (v := (.v v0)) rfl ?_
    refine so_gyes rfl (not_f c106) ?_
    refine sv_callS (impl_IsList_okS v0 l0 hs (fun _ hs => (g0 _ hs.tl)) _ h) (fun _ _ ⟨_, _, _, e⟩ => e) rfl rfl ?_
    clear h
    rintro _ _ ⟨y107, h, rfl, rfl⟩
    refine so_gyes rfl (not_f c106) ?_
    refine so_un rfl au_not ?_
    refine so_pick_f (v := (.v (.bool (!y107)))) rfl (not_f c106) rfl ?_
    refine so_nil ?_
    replace h := ofT h; rcases h with ⟨c109, h⟩ | ⟨c109, h⟩
    · refine fi_false rfl (not_f c109) ?_
      refine fi_skip ?_
      refine fi_seq ?_
      refine fi_region ?_
      refine so_move (v := (.v v102)) rfl ?_
      refine sv_len (hs.shows 0 rfl) (fun _ => rfl) (by decide) rfl F97.ti28 ?_
      obtain ⟨c110, h⟩ := h
      refine sk_make hs ([] : List (Nat)) [.nilsl] R_LeFlt_f32_o IR_LeFlt_f32_o c110 (fun _ => ⟨rfl, .inl ⟨rfl, rfl⟩⟩) ⟨_, rfl⟩ rfl rfl F97.te72 F97.sz24 F97.by24 F97.ze24 rfl rfl nofun (fun v111 ws113 S114 H112 _ hs => ?_)
      refine so_assign (v := (.v v111)) rfl ?_
      refine so_nil ?_
      refine fi_seq ?_
      refine fi_region ?_
      refine so_assign (v := (.v (.int .i64 (0 : Int)))) rfl ?_
      refine so_nil ?_
      refine fi_seq ?_
      refine fi_seq ?_
      refine fi_region ?_
      refine so_move (v := (.v v102)) rfl ?_
      refine sv_len (hs.shows 1 rfl) (fun _ => rfl) (by decide) rfl F97.ti28 ?_
      refine so_bin rfl rfl ab_sub ?_
      refine so_assign (v := (.v (.int .i64 (IntKind.i64.wrap ((y101.length : Int) - (1 : Int)))))) rfl ?_
      refine so_nil ?_
      refine fi_block ?_
      refine fi_loop ?_
      refine fi_at [(0, (.v v0)), (6, (.v v102)), (8, (.v v111)), (9, (.v (.int .i64 (0 : Int)))), (10, (.v (.int .i64 (IntKind.i64.wrap ((y101.length : Int) - (1 : Int))))))] ⟨rfl, rfl, rfl, rfl, rfl, trivial⟩ ?_
      refine h (fun (out131 : List (List (Nat))) (atq134 : Int) (i135 : Int) => ∀ (s : Nat → TV) (H : Heap) (ws132 : List (List AV)) (S133 : Nat → Prop), Sep H (dpc v111 1 R_LeFlt_f32_o IR_LeFlt_f32_o out131 ws132 S133 :: Pc.osl v102 1 (enc (eInt .i64) y101) :: fr) → Fin _ _ (updL s [(0, (.v v0)), (6, (.v v102)), (8, (.v v111)), (9, (.v (.int .i64 atq134))), (10, (.v (.int .i64 i135)))]) H _) ?_ _ _ _ _ hs
      intro out131 atq134 i135 h s147 H148 ws132 S133 hs
      refine fi_inLoop ?_
      refine fi_seq ?_
      refine fi_seq ?_
      refine fi_region ?_
      refine so_move (v := (.v (.int .i64 i135))) rfl ?_
      refine so_bin rfl rfl ab_geq ?_
      refine so_nil ?_
      replace h := ofP h; rcases h with ⟨c136, h⟩ | ⟨c136, h⟩
      · refine fi_true rfl (decide_eq_true c136) ?_
        refine fi_skip ?_
        refine fi_seq ?_
        refine fi_block ?_
        refine fi_seq ?_
        refine fi_region ?_
        refine so_move (v := (.v v111)) rfl ?_
        refine so_move (v := (.v (.int .i64 i135))) rfl ?_
        refine so_move (v := (.v v0)) rfl ?_
        refine so_move (v := (.v (.int .i64 atq134))) rfl ?_
        refine so_move (v := (.v (.int .i64 atq134))) rfl ?_
        refine so_move (v := (.v v102)) rfl ?_
        refine so_move (v := (.v (.int .i64 i135))) rfl ?_
        obtain ⟨c137, h⟩ := h
        refine sv_idx (hs.shows 1 rfl) c137 (fun _ => rfl) (by decide) rfl rfl F97.tl28 ?_
        refine sv_cell (hs.shows 1 rfl) c137 (0 : Int) 0 (fun x => (AV.int .i64 x)) (fun _ => rfl) (fun _ => rfl) rfl F97.ag2 ?_
        refine so_bin rfl rfl ab_add ?_
        obtain ⟨c138, h⟩ := h
        refine sv_slice (g0 _ hs.tl.tl) c138 (fun _ => rfl) (by decide) rfl rfl rfl rfl rfl F97.tl24 ?_
        refine sv_call (impl_copyOf_ok (v0.cut 1 (atq134).toNat ((IntKind.i64.wrap (atq134 + (y101.getD (i135).toNat (0 : Int))))).toNat) ((l0.drop (atq134).toNat).take (((IntKind.i64.wrap (atq134 + (y101.getD (i135).toNat (0 : Int))))).toNat - (atq134).toNat)) hs (fun _ hs => (Shows.cut (e := (eFlt .f32)) (n := 1) (fun _ => rfl) (g0 _ hs.tl.tl) (by decide) (cutok c138))) _ h) rfl rfl nofun ?_
        clear h hs
        rintro _ H142 ⟨y139, h, v140, rfl, hs⟩
        obtain ⟨c143, h⟩ := h
        refine sd_idx ((hs.dshows 1 rfl) : DSh _ _ 1 R_LeFlt_f32_o out131 ws132) c143 ([] : List (Nat)) (by decide) rfl rfl F97.tl72 ?_
        have so_ : ([v140] : List AV).all AV.stor = true := (stc (hs.shows 0 rfl).stor stn)
        refine sk_set hs 0 rfl c143 y139 [v140] (fun _ hh => ⟨rfl, hh⟩) rfl rfl (by decide) so_ rfl rfl rfl F97.sz24 nofun (fun ws145 S146 H144 hs => ?_)
        refine so_nil ?_
        refine fi_region ?_
        refine so_move (v := (.v (.int .i64 atq134))) rfl ?_
        refine so_move (v := (.v v102)) rfl ?_
        refine so_move (v := (.v (.int .i64 i135))) rfl ?_
        refine sv_idx (hs.shows 1 rfl) c137 (fun _ => rfl) (by decide) rfl rfl F97.tl28 ?_
        refine sv_cell (hs.shows 1 rfl) c137 (0 : Int) 0 (fun x => (AV.int .i64 x)) (fun _ => rfl) (fun _ => rfl) rfl F97.ag2 ?_
        refine so_bin rfl rfl ab_add ?_
        refine so_assign (v := (.v (.int .i64 (IntKind.i64.wrap (atq134 + (y101.getD (i135).toNat (0 : Int))))))) rfl ?_
        refine so_nil ?_
        refine fi_inBlock ?_
        refine fi_region ?_
        refine so_move (v := (.v (.int .i64 i135))) rfl ?_
        refine so_bin rfl rfl ab_sub ?_
        refine so_assign (v := (.v (.int .i64 (IntKind.i64.wrap (i135 - (1 : Int)))))) rfl ?_
        refine so_nil ?_
        exact fi_at [(0, (.v v0)), (6, (.v v102)), (8, (.v v111)), (9, (.v (.int .i64 (IntKind.i64.wrap (atq134 + (y101.getD (i135).toNat (0 : Int))))))), (10, (.v (.int .i64 (IntKind.i64.wrap (i135 - (1 : Int))))))] ⟨rfl, rfl, rfl, rfl, rfl, trivial⟩ (h _ _ _ _ hs)
      · refine fi_false rfl (decide_eq_false c136) ?_
        refine fi_exit rfl ?_
        refine fi_seq ?_
        refine fi_region ?_
        refine so_move (v := (.v v111)) rfl ?_
        refine so_assign (v := (.v v111)) rfl ?_
        refine so_assign (v := (.v (.bool true))) rfl ?_
        refine so_nil ?_
        exact by_ret rfl ⟨_, _, h, _, _, _, rfl, (Sep.del 1 hs)⟩
    · refine fi_true rfl (not_t c109) ?_
      refine fi_seq ?_
      refine fi_region ?_
      refine so_assign (v := (.v .nilsl)) rfl ?_
      refine so_assign (v := (.v (.bool false))) rfl ?_
      refine so_nil ?_
      exact by_ret rfl ⟨_, _, h, _, _, _, rfl, (Sep.dnil (Sep.del 0 hs) 1 R_LeFlt_f32_o IR_LeFlt_f32_o)⟩
  · refine so_gno rfl (not_t c106) ?_
    refine so_gno rfl (not_t c106) ?_
    refine so_gno rfl (not_t c106) ?_
    refine so_pick_t (v := (.v (.bool true))) rfl (not_t c106) rfl ?_
    refine so_nil ?_
    refine fi_true rfl rfl ?_
    refine fi_seq ?_
    refine fi_region ?_
    refine so_assign (v := (.v .nilsl)) rfl ?_
    refine so_assign (v := (.v (.bool false))) rfl ?_
    refine so_nil ?_
    exact by_ret rfl ⟨_, _, h, _, _, _, rfl, (Sep.dnil (Sep.del 0 hs) 1 R_LeFlt_f32_o IR_LeFlt_f32_o)⟩
theorem F153.ag26 : tagg Try.prog 26 = some false := by kernel_rfl
theorem F153.sz26 : tsz Try.prog 26 = some 1 := by kernel_rfl
theorem F153.ta24_24 : tapp Try.prog 24 24 = some (1, 4) := by kernel_rfl
theorem F153.te24 : telem Try.prog 24 = some 26 := by kernel_rfl
theorem F153.ti24 : (telem Try.prog 24).isSome = true := by kernel_rfl
theorem F153.tl24 : (telem Try.prog 24).bind (tsz Try.prog) = some 1 := by kernel_rfl
theorem F153.ze26 : tzero Try.prog 26 = some [(.flt .f32 (0 : Nat))] := by kernel_rfl
theorem impl_woven_float32_ok {fr : List Pc} {H : Heap} (v0 : AV) (l0 : List (Nat)) (v1 : AV) (l1 : List (Nat)) (hs : Sep H (fr)) (g0 : ∀ H, Sep H fr → Shows H v0 1 (enc (eFlt .f32) l0)) (g1 : ∀ H, Sep H fr → Shows H v1 1 (enc (eFlt .f32) l1)) (K : (List (Nat)) → Prop) (h : impl_woven_float32.wp l0 l1 K) : OkQ Try.prog 153 [(.v v0), (.v v1)] H (fun r H2 => ∃ (y0 : List (Nat)), K y0 ∧ ∃ (w0_ : AV), r = (.v w0_) ∧ Sep H2 (Pc.osl w0_ 1 (enc (eFlt .f32) y0) :: fr)) := by
  unfold impl_woven_float32.wp at h
  refine of_body Try.f153 F.hm Try.func153 rfl Try.call153 (by kernel_rfl) (by simp) ?_
  refine fi_seq ?_
  refine fi_region ?_
  refine so_assign (v := (.v .nilsl)) rfl ?_
  refine so_nil ?_
  refine fi_seq ?_
  refine fi_region ?_
  refine sv_bslice hs (eFlt .f32) ([] : List (Nat)) [] F153.te24 F153.sz26 F153.ze26 rfl rfl rfl rfl (fun _ => rfl) rfl (by decide) nofun (fun v101 H102 nv101 hs => ?_)
  refine so_assign (v := (.v v101)) rfl ?_
  refine so_nil ?_
  refine fi_seq ?_
  refine fi_seq ?_
  refine fi_region ?_
  refine so_move (v := (.v v0)) rfl ?_
  refine sv_len (g0 _ hs.tl) (fun _ => rfl) (by decide) rfl F153.ti24 ?_
  refine so_move (v := (.v (.int .i64 (0 : Int)))) rfl ?_
  refine so_nil ?_
  refine fi_block ?_
  refine fi_loop ?_
  refine fi_at [(1, (.v v1)), (5, (.v v101)), (9, (.v v0)), (10, (.v (.int .i64 (l0.length : Int)))), (11, (.v (.int .i64 (0 : Int))))] ⟨rfl, rfl, rfl, rfl, rfl, trivial⟩ ?_
  refine h (fun (out125 : List (Nat)) (x127 : Int) => ∀ (s : Nat → TV) (H : Heap) (v126 : AV) (nv126 : v126 ≠ .nilsl), Sep H (Pc.osl v126 1 (enc (eFlt .f32) out125) :: fr) → Fin _ _ (updL s [(1, (.v v1)), (5, (.v v126)), (9, (.v v0)), (10, (.v (.int .i64 (l0.length : Int)))), (11, (.v (.int .i64 x127)))]) H _) ?_ _ _ _ nv101 hs
  intro out125 x127 h s144 H145 v126 nv126 hs
  refine fi_inLoop ?_
  refine fi_seq ?_
  refine fi_region ?_
  refine so_bin rfl rfl ab_lss ?_
  refine so_nil ?_
  refine fi_seq ?_
  replace h := ofP h; rcases h with ⟨c128, h⟩ | ⟨c128, h⟩
  · refine fi_true rfl (decide_eq_true c128) ?_
    refine fi_skip ?_
    refine fi_seq ?_
    refine fi_block ?_
    refine fi_seq ?_
    refine fi_region ?_
    refine so_move (v := (.v (.int .i64 x127))) rfl ?_
    obtain ⟨c129, h⟩ := h
    refine sv_idx (g0 _ hs.tl) c129 (fun _ => rfl) (by decide) rfl rfl F153.tl24 ?_
    refine sv_cell (g0 _ hs.tl) c129 (0 : Nat) 0 (fun x => (AV.flt .f32 x)) (fun _ => rfl) (fun _ => rfl) rfl F153.ag26 ?_
    refine so_assign (v := (.v (.int .i64 x127))) rfl ?_
    refine so_assign (v := (.v (.flt .f32 (l0.getD (x127).toNat (0 : Nat))))) rfl ?_
    refine so_nil ?_
    refine fi_seq ?_
    refine fi_region ?_
    refine so_move (v := (.v v126)) rfl ?_
    refine so_move (v := (.v (.flt .f32 (l0.getD (x127).toNat (0 : Nat))))) rfl ?_
    refine sv_bslice hs (eFlt .f32) ([(l0.getD (x127).toNat (0 : Nat))] : List (Nat)) [[(.flt .f32 (l0.getD (x127).toNat (0 : Nat)))]] F153.te24 F153.sz26 F153.ze26 rfl rfl rfl rfl (fun _ => rfl) rfl (by decide) nofun (fun v130 H131 nv130 hs => ?_)
    obtain ⟨c135, h⟩ := h
    refine sv_app hs 1 rfl (hs.shows 0 rfl) (fun _ => rfl) (by decide) F153.ta24_24 (by decide) c135 rfl rfl nofun (fun v133 H134 kv133 hs => ?_)
    replace hs := hs.del 0
    have nv133 := kv133 nv126
    refine so_assign (v := (.v v133)) rfl ?_
    refine so_nil ?_
    refine fi_seq ?_
    refine fi_region ?_
    refine so_move (v := (.v (.int .i64 x127))) rfl ?_
    refine so_move (v := (.v v1)) rfl ?_
    refine sv_len (g1 _ hs.tl) (fun _ => rfl) (by decide) rfl F153.ti24 ?_
    refine so_bin rfl rfl ab_lss ?_
    refine so_nil ?_
    replace h := ofP h; rcases h with ⟨c136, h⟩ | ⟨c136, h⟩
    · refine fi_true rfl (decide_eq_true c136) ?_
      refine fi_region ?_
      refine so_move (v := (.v v133)) rfl ?_
      refine so_move (v := (.v v1)) rfl ?_
      refine so_move (v := (.v (.int .i64 x127))) rfl ?_
      obtain ⟨c137, h⟩ := h
      refine sv_idx (g1 _ hs.tl) c137 (fun _ => rfl) (by decide) rfl rfl F153.tl24 ?_
      refine sv_cell (g1 _ hs.tl) c137 (0 : Nat) 0 (fun x => (AV.flt .f32 x)) (fun _ => rfl) (fun _ => rfl) rfl F153.ag26 ?_
      refine sv_bslice hs (eFlt .f32) ([(l1.getD (x127).toNat (0 : Nat))] : List (Nat)) [[(.flt .f32 (l1.getD (x127).toNat (0 : Nat)))]] F153.te24 F153.sz26 F153.ze26 rfl rfl rfl rfl (fun _ => rfl) rfl (by decide) nofun (fun v138 H139 nv138 hs => ?_)
      obtain ⟨c143, h⟩ := h
      refine sv_app hs 1 rfl (hs.shows 0 rfl) (fun _ => rfl) (by decide) F153.ta24_24 (by decide) c143 rfl rfl nofun (fun v141 H142 kv141 hs => ?_)
      replace hs := hs.del 0
      have nv141 := kv141 nv133
      refine so_assign (v := (.v v141)) rfl ?_
      refine so_nil ?_
      refine fi_inBlock ?_
      refine fi_region ?_
      refine so_bin rfl rfl ab_add ?_
      refine so_move (v := (.v (.int .i64 (IntKind.i64.wrap (x127 + (1 : Int)))))) rfl ?_
      refine so_nil ?_
      exact fi_at [(1, (.v v1)), (5, (.v v141)), (9, (.v v0)), (10, (.v (.int .i64 (l0.length : Int)))), (11, (.v (.int .i64 (IntKind.i64.wrap (x127 + (1 : Int))))))] ⟨rfl, rfl, rfl, rfl, rfl, trivial⟩ (h _ _ _ nv141 hs)
    · refine fi_false rfl (decide_eq_false c136) ?_
      refine fi_skip ?_
      refine fi_inBlock ?_
      refine fi_region ?_
      refine so_bin rfl rfl ab_add ?_
      refine so_move (v := (.v (.int .i64 (IntKind.i64.wrap (x127 + (1 : Int)))))) rfl ?_
      refine so_nil ?_
      exact fi_at [(1, (.v v1)), (5, (.v v133)), (9, (.v v0)), (10, (.v (.int .i64 (l0.length : Int)))), (11, (.v (.int .i64 (IntKind.i64.wrap (x127 + (1 : Int))))))] ⟨rfl, rfl, rfl, rfl, rfl, trivial⟩ (h _ _ _ nv133 hs)
  · refine fi_false rfl (decide_eq_false c128) ?_
    refine fi_exit rfl ?_
    refine fi_seq ?_
    refine fi_region ?_
    refine so_move (v := (.v v126)) rfl ?_
    refine so_assign (v := (.v v126)) rfl ?_
    refine so_nil ?_
    exact by_ret rfl ⟨_, h, _, rfl, hs⟩
theorem F135.ag24 : tagg Try.prog 24 = some false := by kernel_rfl
theorem F135.ag26 : tagg Try.prog 26 = some false := by kernel_rfl
theorem F135.ag38 : tagg Try.prog 38 = some true := by kernel_rfl
theorem F135.fd38_0 : tfield Try.prog 38 0 = some (0, 1, false) := by kernel_rfl
theorem F135.fd38_1 : tfield Try.prog 38 1 = some (1, 1, false) := by kernel_rfl
theorem F135.inf38 : (Try.prog.info? 38).isSome = true := by kernel_rfl
theorem F135.sz24 : tsz Try.prog 24 = some 1 := by kernel_rfl
theorem F135.sz26 : tsz Try.prog 26 = some 1 := by kernel_rfl
theorem F135.sz38 : tsz Try.prog 38 = some 2 := by kernel_rfl
theorem F135.te72 : telem Try.prog 72 = some 24 := by kernel_rfl
theorem F135.ti24 : (telem Try.prog 24).isSome = true := by kernel_rfl
theorem F135.tl24 : (telem Try.prog 24).bind (tsz Try.prog) = some 1 := by kernel_rfl
theorem F135.ze24 : tzero Try.prog 24 = some [.nilsl] := by kernel_rfl
theorem impl_DropOnce_ok {fr : List Pc} {H : Heap} (v0 : AV) (l0 : List (Nat)) (a1 : Nat) (v2 : AV) (l2 : List (Nat)) (v3 : AV) (l3 : List (Nat)) (hs : Sep H (fr)) (g0 : ∀ H, Sep H fr → Shows H v0 1 (enc (eFlt .f32) l0)) (g2 : ∀ H, Sep H fr → Shows H v2 1 (enc (eFlt .f32) l2)) (g3 : ∀ H, Sep H fr → Shows H v3 1 (enc (eFlt .f32) l3)) (K : (List (Nat)) → Bool → Prop) (h : impl_DropOnce.wp l0 a1 l2 l3 K) : OkQ Try.prog 135 [(.g [v0, (.flt .f32 a1)]), (.v v2), (.v v3)] H (fun r H2 => ∃ (y0 : List (Nat)) (y1 : Bool), K y0 y1 ∧ ∃ (w0_ : AV), r = (.t [(.v w0_), (.v (.bool y1))]) ∧ Sep H2 (Pc.osl w0_ 1 (enc (eFlt .f32) y0) :: fr)) := by
  unfold impl_DropOnce.wp at h
  refine of_body Try.f135 F.hm Try.func135 rfl Try.call135 (by kernel_rfl) (by simp) ?_
  refine fi_seq ?_
  refine fi_region ?_
  refine sv_box hs rfl (c := [v0, (.flt .f32 a1)]) rfl F135.inf38 (stc (g0 _ hs).stor (stc rfl stn)) nofun (fun id101 H102 hs => ?_)
  refine so_assign (v := (.v .nilsl)) rfl ?_
  refine so_assign (v := (.v (.bool false))) rfl ?_
  refine so_nil ?_
  refine fi_seq ?_
  refine fi_region ?_
  refine so_move (v := (.v v2)) rfl ?_
  refine sv_len (g2 _ hs.tl) (fun _ => rfl) (by decide) rfl F135.ti24 ?_
  refine so_assign (v := (.v (.int .i64 (l2.length : Int)))) rfl ?_
  refine so_nil ?_
  refine fi_seq ?_
  refine fi_seq ?_
  refine fi_region ?_
  refine sv_lds hs 0 rfl rfl (leb rfl) rfl F135.ag38 F135.sz38 ?_
  refine sv_callS (impl_ValidScheme_okS v0 l0 a1 hs (fun _ hs => (g0 _ hs.tl)) _ h) (fun _ _ ⟨_, _, _, e⟩ => e) rfl rfl ?_
  clear h
  rintro _ _ ⟨y104, h, rfl, rfl⟩
  refine so_un rfl au_not ?_
  refine so_move (v := (.v (.bool (!y104)))) rfl ?_
  replace h := ofT h; rcases h with ⟨c106, h⟩ | ⟨c106, h⟩
  · refine so_gyes rfl (not_f c106) ?_
    refine so_move (v := (.v (.int .i64 (l2.length : Int)))) rfl ?_
    refine so_gyes rfl (not_f c106) ?_
    refine so_bin rfl rfl ab_lss ?_
    refine so_pick_f (v := (.v (.bool (decide ((l2.length : Int) < (1 : Int)))))) rfl (not_f c106) rfl ?_
    refine so_move (v := (.v (.bool (decide ((l2.length : Int) < (1 : Int)))))) rfl ?_
    replace h := ofP h; rcases h with ⟨c107, h⟩ | ⟨c107, h⟩
    · refine so_gno rfl (decide_eq_true c107) ?_
      refine so_gno rfl (decide_eq_true c107) ?_
      refine so_gno rfl (decide_eq_true c107) ?_
      refine so_gno rfl (decide_eq_true c107) ?_
      refine so_gno rfl (decide_eq_true c107) ?_
      refine so_gund rfl ?_
      refine so_gund rfl ?_
      refine so_gund rfl ?_
      refine so_gund rfl ?_
      refine so_gund rfl ?_
      refine so_gno rfl (decide_eq_true c107) ?_
      refine so_pick_t (v := (.v (.bool true))) rfl (decide_eq_true c107) rfl ?_
      refine so_move (v := (.v (.bool true))) rfl ?_
      refine so_gno rfl rfl ?_
      refine so_gno rfl rfl ?_
      refine so_gno rfl rfl ?_
      refine so_gno rfl rfl ?_
      refine so_gno rfl rfl ?_
      refine so_pick_t (v := (.v (.bool true))) rfl rfl rfl ?_
      refine so_move (v := (.v (.bool true))) rfl ?_
      refine so_gno rfl rfl ?_
      refine so_gno rfl rfl ?_
      refine so_gno rfl rfl ?_
      refine so_gno rfl rfl ?_
      refine so_gno rfl rfl ?_
      refine so_pick_t (v := (.v (.bool true))) rfl rfl rfl ?_
      refine so_nil ?_
      refine fi_true rfl rfl ?_
      refine fi_seq ?_
      refine fi_region ?_
      refine so_assign (v := (.v .nilsl)) rfl ?_
      refine so_assign (v := (.v (.bool false))) rfl ?_
      refine so_nil ?_
      exact by_ret rfl ⟨_, _, h, _, rfl, (Sep.nil (Sep.del 0 hs) 1)⟩
    · refine so_gyes rfl (decide_eq_false c107) ?_
      refine so_move (v := (.v v3)) rfl ?_
      refine so_gyes rfl (decide_eq_false c107) ?_
      refine sv_len (g3 _ hs.tl) (fun _ => rfl) (by decide) rfl F135.ti24 ?_
      refine so_gyes rfl (decide_eq_false c107) ?_
      refine so_move (v := (.v (.int .i64 (l2.length : Int)))) rfl ?_
      refine so_gyes rfl (decide_eq_false c107) ?_
      refine so_bin rfl rfl ab_neq ?_
      refine so_gyes rfl (decide_eq_false c107) ?_
      refine so_move (v := (.v (.bool (!(decide ((l3.length : Int) = (l2.length : Int))))))) rfl ?_
      replace h := ofP h; rcases h with ⟨c108, h⟩ | ⟨c108, h⟩
      · refine so_gno rfl (not_f (decide_eq_true c108)) ?_
        refine so_gno rfl (not_f (decide_eq_true c108)) ?_
        refine so_gno rfl (not_f (decide_eq_true c108)) ?_
        refine so_gno rfl (not_f (decide_eq_true c108)) ?_
        refine so_gno rfl (not_f (decide_eq_true c108)) ?_
        refine so_gyes rfl (decide_eq_false c107) ?_
        refine so_pick_f (v := (.v (.bool false))) rfl (not_f (decide_eq_true c108)) rfl ?_
        refine so_pick_f (v := (.v (.bool false))) rfl (decide_eq_false c107) rfl ?_
        refine so_move (v := (.v (.bool false))) rfl ?_
        refine so_gyes rfl rfl ?_
        refine so_move (v := (.v (.int .i64 (l2.length : Int)))) rfl ?_
        refine so_gyes rfl rfl ?_
        refine so_move (v := (.v v3)) rfl ?_
        refine so_gyes rfl rfl ?_
        refine sv_len (g3 _ hs.tl) (fun _ => rfl) (by decide) rfl F135.ti24 ?_
        refine so_gyes rfl rfl ?_
        refine so_bin rfl rfl ab_add ?_
        refine so_gyes rfl rfl ?_
        refine so_bin rfl rfl ab_gtr ?_
        refine so_pick_f (v := (.v (.bool (decide ((128 : Int) < (IntKind.i64.wrap ((l2.length : Int) + (l3.length : Int)))))))) rfl rfl rfl ?_
        refine so_move (v := (.v (.bool (decide ((128 : Int) < (IntKind.i64.wrap ((l2.length : Int) + (l3.length : Int)))))))) rfl ?_
        replace h := ofP h; rcases h with ⟨c109, h⟩ | ⟨c109, h⟩
        · refine so_gno rfl (decide_eq_true c109) ?_
          refine so_gno rfl (decide_eq_true c109) ?_
          refine so_gno rfl (decide_eq_true c109) ?_
          refine so_gno rfl (decide_eq_true c109) ?_
          refine so_gno rfl (decide_eq_true c109) ?_
          refine so_pick_t (v := (.v (.bool true))) rfl (decide_eq_true c109) rfl ?_
          refine so_nil ?_
          refine fi_true rfl rfl ?_
          refine fi_seq ?_
          refine fi_region ?_
          refine so_assign (v := (.v .nilsl)) rfl ?_
          refine so_assign (v := (.v (.bool false))) rfl ?_
          refine so_nil ?_
          exact by_ret rfl ⟨_, _, h, _, rfl, (Sep.nil (Sep.del 0 hs) 1)⟩
        · refine so_gyes rfl (decide_eq_false c109) ?_
          refine so_move (v := (.v v2)) rfl ?_
          refine so_gyes rfl (decide_eq_false c109) ?_
          refine so_move (v := (.v v3)) rfl ?_
          refine so_gyes rfl (decide_eq_false c109) ?_
          refine sd_bslice hs [[v2], [v3]] F135.te72 F135.sz24 F135.ze24 rfl rfl rfl (by simp) (fac (stc (g2 _ hs.tl).stor stn) (fac (stc (g3 _ hs.tl).stor stn) fan)) (by decide) rfl nofun (fun v110 H111 _ hs => ?_)
          refine so_gyes rfl (decide_eq_false c109) ?_
          refine sv_callS (impl_areFinite_ok v110 ([[v2], [v3]]) ([l2, l3] : List (List (Nat))) hs (fun _ hs => ⟨hs.shows 0 rfl, by simp, ⟨⟨rfl, (g2 _ hs.tl.tl)⟩, ⟨⟨rfl, (g3 _ hs.tl.tl)⟩, trivial⟩⟩⟩) _ h) (fun _ _ ⟨_, _, _, e⟩ => e) rfl rfl ?_
          clear h
          rintro _ _ ⟨y113, h, rfl, rfl⟩
          refine so_gyes rfl (decide_eq_false c109) ?_
          refine so_un rfl au_not ?_
          refine so_pick_f (v := (.v (.bool (!y113)))) rfl (decide_eq_false c109) rfl ?_
          refine so_nil ?_
          replace h := ofT h; rcases h with ⟨c115, h⟩ | ⟨c115, h⟩
          · refine fi_false rfl (not_f c115) ?_
            refine fi_skip ?_
            refine fi_seq ?_
            refine fi_region ?_
            refine so_move (v := (.v v2)) rfl ?_
            refine sv_call (impl_copyOf_ok v2 l2 hs (fun _ hs => (g2 _ hs.tl.tl)) _ h) rfl rfl nofun ?_
            clear h hs
            rintro _ H119 ⟨y116, h, v117, rfl, hs⟩
            refine so_move (v := (.v v3)) rfl ?_
            refine sv_call (impl_copyOf_ok v3 l3 hs (fun _ hs => (g3 _ hs.tl.tl.tl)) _ h) rfl rfl nofun ?_
            clear h hs
            rintro _ H123 ⟨y120, h, v121, rfl, hs⟩
            refine so_assign (v := (.v v117)) rfl ?_
            refine so_assign (v := (.v v121)) rfl ?_
            refine so_nil ?_
            refine fi_seq ?_
            refine fi_seq ?_
            refine fi_region ?_
            refine so_move (v := (.v v121)) rfl ?_
            refine sv_len (hs.shows 0 rfl) (fun _ => rfl) (by decide) rfl F135.ti24 ?_
            refine so_bin rfl rfl ab_eql ?_
            refine so_nil ?_
            replace h := ofP h; rcases h with ⟨c124, h⟩ | ⟨c124, h⟩
            · refine fi_true rfl (decide_eq_true c124) ?_
              refine fi_seq ?_
              refine fi_region ?_
              refine so_move (v := (.v v117)) rfl ?_
              refine so_assign (v := (.v v117)) rfl ?_
              refine so_assign (v := (.v (.bool true))) rfl ?_
              refine so_nil ?_
              exact by_ret rfl ⟨_, _, h, _, rfl, (Sep.del 1 (Sep.del 1 (Sep.del 0 hs)))⟩
            · refine fi_false rfl (decide_eq_false c124) ?_
              refine fi_skip ?_
              refine fi_seq ?_
              refine fi_seq ?_
              refine fi_region ?_
              refine so_move (v := (.v v117)) rfl ?_
              refine sv_len (hs.shows 1 rfl) (fun _ => rfl) (by decide) rfl F135.ti24 ?_
              refine so_move (v := (.v (.int .i64 (0 : Int)))) rfl ?_
              refine so_nil ?_
              refine fi_block ?_
              refine fi_loop ?_
              replace hs := hs.del 2
              refine fi_at [(3, (.v (.ptr id101 0))), (9, (.v v117)), (10, (.v v121)), (59, (.v (.int .i64 (y116.length : Int)))), (60, (.v (.int .i64 (0 : Int))))] ⟨rfl, rfl, rfl, rfl, rfl, trivial⟩ ?_
              refine h (fun (evens212 : List (Nat)) (x213 : Int) => ∀ (s : Nat → TV) (H : Heap), Sep H (Pc.osl v121 1 (enc (eFlt .f32) y120) :: Pc.osl v117 1 (enc (eFlt .f32) evens212) :: Pc.box id101 [v0, (.flt .f32 a1)] :: fr) → Fin _ _ (updL s [(3, (.v (.ptr id101 0))), (9, (.v v117)), (10, (.v v121)), (59, (.v (.int .i64 (y116.length : Int)))), (60, (.v (.int .i64 x213)))]) H _) ?_ _ _ hs
              intro evens212 x213 h s298 H299 hs
              refine fi_inLoop ?_
              refine fi_seq ?_
              refine fi_region ?_
              refine so_bin rfl rfl ab_lss ?_
              refine so_nil ?_
              refine fi_seq ?_
              replace h := ofP h; rcases h with ⟨c214, h⟩ | ⟨c214, h⟩
              · refine fi_true rfl (decide_eq_true c214) ?_
                refine fi_skip ?_
                refine fi_seq ?_
                refine fi_block ?_
                refine fi_seq ?_
                refine fi_region ?_
                refine so_move (v := (.v (.int .i64 x213))) rfl ?_
                refine so_assign (v := (.v (.int .i64 x213))) rfl ?_
                refine so_nil ?_
                refine fi_region ?_
                refine so_move (v := (.v v117)) rfl ?_
                refine so_move (v := (.v (.int .i64 x213))) rfl ?_
                obtain ⟨c215, h⟩ := h
                refine sv_idx (hs.shows 1 rfl) c215 (fun _ => rfl) (by decide) rfl rfl F135.tl24 ?_
                refine sv_cell (hs.shows 1 rfl) c215 (0 : Nat) 0 (fun x => (AV.flt .f32 x)) (fun _ => rfl) (fun _ => rfl) rfl F135.ag26 ?_
                refine so_fieldAddr rfl F135.fd38_1 ?_
                refine sv_ld hs 2 rfl rfl rfl F135.ag26 ?_
                refine so_bin rfl rfl ab_fquo ?_
                refine sv_idx (hs.shows 1 rfl) c215 (fun _ => rfl) (by decide) rfl rfl F135.tl24 ?_
                refine sv_set hs 1 rfl c215 (fop .quo .f32 (evens212.getD (x213).toNat (0 : Nat)) a1) (fun _ => rfl) (by decide) rfl rfl rfl rfl F135.sz26 (fun _ => by kernel_rfl) (fun H216 hs => ?_)
                refine so_nil ?_
                refine fi_inBlock ?_
                refine fi_region ?_
                refine so_bin rfl rfl ab_add ?_
                refine so_move (v := (.v (.int .i64 (IntKind.i64.wrap (x213 + (1 : Int)))))) rfl ?_
                refine so_nil ?_
                exact fi_at [(3, (.v (.ptr id101 0))), (9, (.v v117)), (10, (.v v121)), (59, (.v (.int .i64 (y116.length : Int)))), (60, (.v (.int .i64 (IntKind.i64.wrap (x213 + (1 : Int))))))] ⟨rfl, rfl, rfl, rfl, rfl, trivial⟩ (h _ _  hs)
              · refine fi_false rfl (decide_eq_false c214) ?_
                refine fi_exit rfl ?_
                refine fi_seq ?_
                refine fi_seq ?_
                refine fi_region ?_
                refine so_move (v := (.v v121)) rfl ?_
                refine sv_len (hs.shows 0 rfl) (fun _ => rfl) (by decide) rfl F135.ti24 ?_
                refine so_move (v := (.v (.int .i64 (0 : Int)))) rfl ?_
                refine so_nil ?_
                refine fi_block ?_
                refine fi_loop ?_
                refine fi_at [(3, (.v (.ptr id101 0))), (9, (.v v117)), (10, (.v v121)), (73, (.v (.int .i64 (y120.length : Int)))), (74, (.v (.int .i64 (0 : Int))))] ⟨rfl, rfl, rfl, rfl, rfl, trivial⟩ ?_
                refine h (fun (odds257 : List (Nat)) (x258 : Int) => ∀ (s : Nat → TV) (H : Heap), Sep H (Pc.osl v121 1 (enc (eFlt .f32) odds257) :: Pc.osl v117 1 (enc (eFlt .f32) evens212) :: Pc.box id101 [v0, (.flt .f32 a1)] :: fr) → Fin _ _ (updL s [(3, (.v (.ptr id101 0))), (9, (.v v117)), (10, (.v v121)), (73, (.v (.int .i64 (y120.length : Int)))), (74, (.v (.int .i64 x258)))]) H _) ?_ _ _ hs
                intro odds257 x258 h s296 H297 hs
                refine fi_inLoop ?_
                refine fi_seq ?_
                refine fi_region ?_
                refine so_bin rfl rfl ab_lss ?_
                refine so_nil ?_
                refine fi_seq ?_
                replace h := ofP h; rcases h with ⟨c259, h⟩ | ⟨c259, h⟩
                · refine fi_true rfl (decide_eq_true c259) ?_
                  refine fi_skip ?_
                  refine fi_seq ?_
                  refine fi_block ?_
                  refine fi_seq ?_
                  refine fi_region ?_
                  refine so_move (v := (.v (.int .i64 x258))) rfl ?_
                  refine so_assign (v := (.v (.int .i64 x258))) rfl ?_
                  refine so_nil ?_
                  refine fi_region ?_
                  refine so_move (v := (.v v121)) rfl ?_
                  refine so_move (v := (.v (.int .i64 x258))) rfl ?_
                  obtain ⟨c260, h⟩ := h
                  refine sv_idx (hs.shows 0 rfl) c260 (fun _ => rfl) (by decide) rfl rfl F135.tl24 ?_
                  refine sv_cell (hs.shows 0 rfl) c260 (0 : Nat) 0 (fun x => (AV.flt .f32 x)) (fun _ => rfl) (fun _ => rfl) rfl F135.ag26 ?_
                  refine so_fieldAddr rfl F135.fd38_1 ?_
                  refine sv_ld hs 2 rfl rfl rfl F135.ag26 ?_
                  refine so_bin rfl rfl ab_fmul ?_
                  refine sv_idx (hs.shows 0 rfl) c260 (fun _ => rfl) (by decide) rfl rfl F135.tl24 ?_
                  refine sv_set hs 0 rfl c260 (fop .mul .f32 (odds257.getD (x258).toNat (0 : Nat)) a1) (fun _ => rfl) (by decide) rfl rfl rfl rfl F135.sz26 (fun _ => by kernel_rfl) (fun H261 hs => ?_)
                  refine so_nil ?_
                  refine fi_inBlock ?_
                  refine fi_region ?_
                  refine so_bin rfl rfl ab_add ?_
                  refine so_move (v := (.v (.int .i64 (IntKind.i64.wrap (x258 + (1 : Int)))))) rfl ?_
                  refine so_nil ?_
                  exact fi_at [(3, (.v (.ptr id101 0))), (9, (.v v117)), (10, (.v v121)), (73, (.v (.int .i64 (y120.length : Int)))), (74, (.v (.int .i64 (IntKind.i64.wrap (x258 + (1 : Int))))))] ⟨rfl, rfl, rfl, rfl, rfl, trivial⟩ (h _ _  hs)
                · refine fi_false rfl (decide_eq_false c259) ?_
                  refine fi_exit rfl ?_
                  refine fi_seq ?_
                  refine fi_seq ?_
                  refine fi_region ?_
                  refine so_fieldAddr rfl F135.fd38_0 ?_
                  refine sv_ld hs 2 rfl rfl rfl F135.ag24 ?_
                  refine sv_len (g0 _ hs.tl.tl.tl) (fun _ => rfl) (by decide) rfl F135.ti24 ?_
                  refine so_bin rfl rfl ab_sub ?_
                  refine so_assign (v := (.v (.int .i64 (IntKind.i64.wrap ((l0.length : Int) - (1 : Int)))))) rfl ?_
                  refine so_nil ?_
                  refine fi_block ?_
                  refine fi_loop ?_
                  refine fi_at [(3, (.v (.ptr id101 0))), (9, (.v v117)), (10, (.v v121)), (13, (.v (.int .i64 (IntKind.i64.wrap ((l0.length : Int) - (1 : Int))))))] ⟨rfl, rfl, rfl, rfl, trivial⟩ ?_
                  refine h (fun (odds278 : List (Nat)) (evens279 : List (Nat)) (i280 : Int) => ∀ (s : Nat → TV) (H : Heap), Sep H (Pc.osl v121 1 (enc (eFlt .f32) odds278) :: Pc.osl v117 1 (enc (eFlt .f32) evens279) :: Pc.box id101 [v0, (.flt .f32 a1)] :: fr) → Fin _ _ (updL s [(3, (.v (.ptr id101 0))), (9, (.v v117)), (10, (.v v121)), (13, (.v (.int .i64 i280)))]) H _) ?_ _ _ hs
                  intro odds278 evens279 i280 h s294 H295 hs
                  refine fi_inLoop ?_
                  refine fi_seq ?_
                  refine fi_seq ?_
                  refine fi_region ?_
                  refine so_move (v := (.v (.int .i64 i280))) rfl ?_
                  refine so_bin rfl rfl ab_geq ?_
                  refine so_nil ?_
                  replace h := ofP h; rcases h with ⟨c281, h⟩ | ⟨c281, h⟩
                  · refine fi_true rfl (decide_eq_true c281) ?_
                    refine fi_skip ?_
                    refine fi_seq ?_
                    refine fi_block ?_
                    refine fi_region ?_
                    refine so_move (v := (.v v117)) rfl ?_
                    refine so_move (v := (.v v121)) rfl ?_
                    refine so_move (v := (.v (.int .i64 i280))) rfl ?_
                    refine so_fieldAddr rfl F135.fd38_0 ?_
                    refine sv_ld hs 2 rfl rfl rfl F135.ag24 ?_
                    refine so_move (v := (.v (.int .i64 i280))) rfl ?_
                    obtain ⟨c282, h⟩ := h
                    refine sv_idx (g0 _ hs.tl.tl.tl) c282 (fun _ => rfl) (by decide) rfl rfl F135.tl24 ?_
                    refine sv_cell (g0 _ hs.tl.tl.tl) c282 (0 : Nat) 0 (fun x => (AV.flt .f32 x)) (fun _ => rfl) (fun _ => rfl) rfl F135.ag26 ?_
                    replace hs := (Sep.front 1 hs rfl)
                    refine sv_call (impl_weigh_ok v117 evens279 v121 odds278 i280 (l0.getD (i280).toNat (0 : Nat)) true hs  _ h) rfl rfl nofun ?_
                    clear h hs
                    rintro _ H285 ⟨y283, y284, h, rfl, hs⟩
                    refine so_nil ?_
                    refine fi_inBlock ?_
                    refine fi_region ?_
                    refine so_move (v := (.v (.int .i64 i280))) rfl ?_
                    refine so_bin rfl rfl ab_sub ?_
                    refine so_assign (v := (.v (.int .i64 (IntKind.i64.wrap (i280 - (1 : Int)))))) rfl ?_
                    refine so_nil ?_
                    exact fi_at [(3, (.v (.ptr id101 0))), (9, (.v v117)), (10, (.v v121)), (13, (.v (.int .i64 (IntKind.i64.wrap (i280 - (1 : Int))))))] ⟨rfl, rfl, rfl, rfl, trivial⟩ (h _ _  (Sep.front 2 (Sep.front 1 (Sep.front 2 hs rfl) rfl) rfl))
                  · refine fi_false rfl (decide_eq_false c281) ?_
                    refine fi_exit rfl ?_
                    refine fi_seq ?_
                    refine fi_region ?_
                    refine so_move (v := (.v v117)) rfl ?_
                    refine so_move (v := (.v v121)) rfl ?_
                    refine sv_call (impl_woven_float32_ok v117 evens279 v121 odds278 hs (fun _ hs => (hs.shows 1 rfl)) (fun _ hs => (hs.shows 0 rfl)) _ h) rfl rfl nofun ?_
                    clear h hs
                    rintro _ H289 ⟨y286, h, v287, rfl, hs⟩
                    refine sv_call (impl_finiteList_ok v287 y286 hs (fun _ hs => (hs.shows 0 rfl)) _ h) rfl rfl nofun ?_
                    clear h hs
                    rintro _ H292 ⟨y290, y291, h, rfl, hs⟩
                    replace h := ofT h; rcases h with ⟨c293, h⟩ | ⟨c293, h⟩
                    · subst c293
                      refine so_extract rfl rfl rfl ?_
                      refine so_extract rfl rfl rfl ?_
                      refine so_assign (v := (.v v287)) rfl ?_
                      refine so_assign (v := (.v (.bool y291))) rfl ?_
                      refine so_nil ?_
                      exact by_ret rfl ⟨_, _, h, _, rfl, (Sep.del 1 (Sep.del 1 (Sep.del 1 hs)))⟩
                    · subst c293
                      refine so_extract rfl rfl rfl ?_
                      refine so_extract rfl rfl rfl ?_
                      refine so_assign (v := (.v .nilsl)) rfl ?_
                      refine so_assign (v := (.v (.bool y291))) rfl ?_
                      refine so_nil ?_
                      exact by_ret rfl ⟨_, _, h, _, rfl, (Sep.nil (Sep.dropn 4 hs) 1)⟩
          · refine fi_true rfl (not_t c115) ?_
            refine fi_seq ?_
            refine fi_region ?_
            refine so_assign (v := (.v .nilsl)) rfl ?_
            refine so_assign (v := (.v (.bool false))) rfl ?_
            refine so_nil ?_
            exact by_ret rfl ⟨_, _, h, _, rfl, (Sep.nil (Sep.del 0 (Sep.del 0 hs)) 1)⟩
      · refine so_gyes rfl (not_t (decide_eq_false c108)) ?_
        refine so_move (v := (.v v3)) rfl ?_
        refine so_gyes rfl (not_t (decide_eq_false c108)) ?_
        refine sv_len (g3 _ hs.tl) (fun _ => rfl) (by decide) rfl F135.ti24 ?_
        refine so_gyes rfl (not_t (decide_eq_false c108)) ?_
        refine so_move (v := (.v (.int .i64 (l2.length : Int)))) rfl ?_
        refine so_gyes rfl (not_t (decide_eq_false c108)) ?_
        refine so_bin rfl rfl ab_sub ?_
        refine so_gyes rfl (not_t (decide_eq_false c108)) ?_
        refine so_bin rfl rfl ab_neq ?_
        refine so_gyes rfl (decide_eq_false c107) ?_
        refine so_pick_t (v := (.v (.bool (!(decide ((l3.length : Int) = (IntKind.i64.wrap ((l2.length : Int) - (1 : Int))))))))) rfl (not_t (decide_eq_false c108)) rfl ?_
        refine so_pick_f (v := (.v (.bool (!(decide ((l3.length : Int) = (IntKind.i64.wrap ((l2.length : Int) - (1 : Int))))))))) rfl (decide_eq_false c107) rfl ?_
        refine so_move (v := (.v (.bool (!(decide ((l3.length : Int) = (IntKind.i64.wrap ((l2.length : Int) - (1 : Int))))))))) rfl ?_
        replace h := ofP h; rcases h with ⟨c300, h⟩ | ⟨c300, h⟩
        · refine so_gyes rfl (not_f (decide_eq_true c300)) ?_
          refine so_move (v := (.v (.int .i64 (l2.length : Int)))) rfl ?_
          refine so_gyes rfl (not_f (decide_eq_true c300)) ?_
          refine so_move (v := (.v v3)) rfl ?_
          refine so_gyes rfl (not_f (decide_eq_true c300)) ?_
          refine sv_len (g3 _ hs.tl) (fun _ => rfl) (by decide) rfl F135.ti24 ?_
          refine so_gyes rfl (not_f (decide_eq_true c300)) ?_
          refine so_bin rfl rfl ab_add ?_
          refine so_gyes rfl (not_f (decide_eq_true c300)) ?_
          refine so_bin rfl rfl ab_gtr ?_
          refine so_pick_f (v := (.v (.bool (decide ((128 : Int) < (IntKind.i64.wrap ((l2.length : Int) + (l3.length : Int)))))))) rfl (not_f (decide_eq_true c300)) rfl ?_
          refine so_move (v := (.v (.bool (decide ((128 : Int) < (IntKind.i64.wrap ((l2.length : Int) + (l3.length : Int)))))))) rfl ?_
          replace h := ofP h; rcases h with ⟨c301, h⟩ | ⟨c301, h⟩
          · refine so_gno rfl (decide_eq_true c301) ?_
            refine so_gno rfl (decide_eq_true c301) ?_
            refine so_gno rfl (decide_eq_true c301) ?_
            refine so_gno rfl (decide_eq_true c301) ?_
            refine so_gno rfl (decide_eq_true c301) ?_
            refine so_pick_t (v := (.v (.bool true))) rfl (decide_eq_true c301) rfl ?_
            refine so_nil ?_
            refine fi_true rfl rfl ?_
            refine fi_seq ?_
            refine fi_region ?_
            refine so_assign (v := (.v .nilsl)) rfl ?_
            refine so_assign (v := (.v (.bool false))) rfl ?_
            refine so_nil ?_
            exact by_ret rfl ⟨_, _, h, _, rfl, (Sep.nil (Sep.del 0 hs) 1)⟩
          · refine so_gyes rfl (decide_eq_false c301) ?_
            refine so_move (v := (.v v2)) rfl ?_
            refine so_gyes rfl (decide_eq_false c301) ?_
            refine so_move (v := (.v v3)) rfl ?_
            refine so_gyes rfl (decide_eq_false c301) ?_
            refine sd_bslice hs [[v2], [v3]] F135.te72 F135.sz24 F135.ze24 rfl rfl rfl (by simp) (fac (stc (g2 _ hs.tl).stor stn) (fac (stc (g3 _ hs.tl).stor stn) fan)) (by decide) rfl nofun (fun v302 H303 _ hs => ?_)
            refine so_gyes rfl (decide_eq_false c301) ?_
            refine sv_callS (impl_areFinite_ok v302 ([[v2], [v3]]) ([l2, l3] : List (List (Nat))) hs (fun _ hs => ⟨hs.shows 0 rfl, by simp, ⟨⟨rfl, (g2 _ hs.tl.tl)⟩, ⟨⟨rfl, (g3 _ hs.tl.tl)⟩, trivial⟩⟩⟩) _ h) (fun _ _ ⟨_, _, _, e⟩ => e) rfl rfl ?_
            clear h
            rintro _ _ ⟨y305, h, rfl, rfl⟩
            refine so_gyes rfl (decide_eq_false c301) ?_
            refine so_un rfl au_not ?_
            refine so_pick_f (v := (.v (.bool (!y305)))) rfl (decide_eq_false c301) rfl ?_
            refine so_nil ?_
            replace h := ofT h; rcases h with ⟨c307, h⟩ | ⟨c307, h⟩
            · refine fi_false rfl (not_f c307) ?_
              refine fi_skip ?_
              refine fi_seq ?_
              refine fi_region ?_
              refine so_move (v := (.v v2)) rfl ?_
              refine sv_call (impl_copyOf_ok v2 l2 hs (fun _ hs => (g2 _ hs.tl.tl)) _ h) rfl rfl nofun ?_
              clear h hs
              rintro _ H311 ⟨y308, h, v309, rfl, hs⟩
              refine so_move (v := (.v v3)) rfl ?_
              refine sv_call (impl_copyOf_ok v3 l3 hs (fun _ hs => (g3 _ hs.tl.tl.tl)) _ h) rfl rfl nofun ?_
              clear h hs
              rintro _ H315 ⟨y312, h, v313, rfl, hs⟩
              refine so_assign (v := (.v v309)) rfl ?_
              refine so_assign (v := (.v v313)) rfl ?_
              refine so_nil ?_
              refine fi_seq ?_
              refine fi_seq ?_
              refine fi_region ?_
              refine so_move (v := (.v v313)) rfl ?_
              refine sv_len (hs.shows 0 rfl) (fun _ => rfl) (by decide) rfl F135.ti24 ?_
              refine so_bin rfl rfl ab_eql ?_
              refine so_nil ?_
              replace h := ofP h; rcases h with ⟨c316, h⟩ | ⟨c316, h⟩
              · refine fi_true rfl (decide_eq_true c316) ?_
                refine fi_seq ?_
                refine fi_region ?_
                refine so_move (v := (.v v309)) rfl ?_
                refine so_assign (v := (.v v309)) rfl ?_
                refine so_assign (v := (.v (.bool true))) rfl ?_
                refine so_nil ?_
                exact by_ret rfl ⟨_, _, h, _, rfl, (Sep.del 1 (Sep.del 1 (Sep.del 0 hs)))⟩
              · refine fi_false rfl (decide_eq_false c316) ?_
                refine fi_skip ?_
                refine fi_seq ?_
                refine fi_seq ?_
                refine fi_region ?_
                refine so_move (v := (.v v309)) rfl ?_
                refine sv_len (hs.shows 1 rfl) (fun _ => rfl) (by decide) rfl F135.ti24 ?_
                refine so_move (v := (.v (.int .i64 (0 : Int)))) rfl ?_
                refine so_nil ?_
                refine fi_block ?_
                refine fi_loop ?_
                replace hs := hs.del 2
                refine fi_at [(3, (.v (.ptr id101 0))), (9, (.v v309)), (10, (.v v313)), (59, (.v (.int .i64 (y308.length : Int)))), (60, (.v (.int .i64 (0 : Int))))] ⟨rfl, rfl, rfl, rfl, rfl, trivial⟩ ?_
                refine h (fun (evens404 : List (Nat)) (x405 : Int) => ∀ (s : Nat → TV) (H : Heap), Sep H (Pc.osl v313 1 (enc (eFlt .f32) y312) :: Pc.osl v309 1 (enc (eFlt .f32) evens404) :: Pc.box id101 [v0, (.flt .f32 a1)] :: fr) → Fin _ _ (updL s [(3, (.v (.ptr id101 0))), (9, (.v v309)), (10, (.v v313)), (59, (.v (.int .i64 (y308.length : Int)))), (60, (.v (.int .i64 x405)))]) H _) ?_ _ _ hs
                intro evens404 x405 h s490 H491 hs
                refine fi_inLoop ?_
                refine fi_seq ?_
                refine fi_region ?_
                refine so_bin rfl rfl ab_lss ?_
                refine so_nil ?_
                refine fi_seq ?_
                replace h := ofP h; rcases h with ⟨c406, h⟩ | ⟨c406, h⟩
                · refine fi_true rfl (decide_eq_true c406) ?_
                  refine fi_skip ?_
                  refine fi_seq ?_
                  refine fi_block ?_
                  refine fi_seq ?_
                  refine fi_region ?_
                  refine so_move (v := (.v (.int .i64 x405))) rfl ?_
                  refine so_assign (v := (.v (.int .i64 x405))) rfl ?_
                  refine so_nil ?_
                  refine fi_region ?_
                  refine so_move (v := (.v v309)) rfl ?_
                  refine so_move (v := (.v (.int .i64 x405))) rfl ?_
                  obtain ⟨c407, h⟩ := h
                  refine sv_idx (hs.shows 1 rfl) c407 (fun _ => rfl) (by decide) rfl rfl F135.tl24 ?_
                  refine sv_cell (hs.shows 1 rfl) c407 (0 : Nat) 0 (fun x => (AV.flt .f32 x)) (fun _ => rfl) (fun _ => rfl) rfl F135.ag26 ?_
                  refine so_fieldAddr rfl F135.fd38_1 ?_
                  refine sv_ld hs 2 rfl rfl rfl F135.ag26 ?_
                  refine so_bin rfl rfl ab_fquo ?_
                  refine sv_idx (hs.shows 1 rfl) c407 (fun _ => rfl) (by decide) rfl rfl F135.tl24 ?_
                  refine sv_set hs 1 rfl c407 (fop .quo .f32 (evens404.getD (x405).toNat (0 : Nat)) a1) (fun _ => rfl) (by decide) rfl rfl rfl rfl F135.sz26 (fun _ => by kernel_rfl) (fun H408 hs => ?_)
                  refine so_nil ?_
                  refine fi_inBlock ?_
                  refine fi_region ?_
                  refine so_bin rfl rfl ab_add ?_
                  refine so_move (v := (.v (.int .i64 (IntKind.i64.wrap (x405 + (1 : Int)))))) rfl ?_
                  refine so_nil ?_
                  exact fi_at [(3, (.v (.ptr id101 0))), (9, (.v v309)), (10, (.v v313)), (59, (.v (.int .i64 (y308.length : Int)))), (60, (.v (.int .i64 (IntKind.i64.wrap (x405 + (1 : Int))))))] ⟨rfl, rfl, rfl, rfl, rfl, trivial⟩ (h _ _  hs)
                · refine fi_false rfl (decide_eq_false c406) ?_
                  refine fi_exit rfl ?_
                  refine fi_seq ?_
                  refine fi_seq ?_
                  refine fi_region ?_
                  refine so_move (v := (.v v313)) rfl ?_
                  refine sv_len (hs.shows 0 rfl) (fun _ => rfl) (by decide) rfl F135.ti24 ?_
                  refine so_move (v := (.v (.int .i64 (0 : Int)))) rfl ?_
                  refine so_nil ?_
                  refine fi_block ?_
                  refine fi_loop ?_
                  refine fi_at [(3, (.v (.ptr id101 0))), (9, (.v v309)), (10, (.v v313)), (73, (.v (.int .i64 (y312.length : Int)))), (74, (.v (.int .i64 (0 : Int))))] ⟨rfl, rfl, rfl, rfl, rfl, trivial⟩ ?_
                  refine h (fun (odds449 : List (Nat)) (x450 : Int) => ∀ (s : Nat → TV) (H : Heap), Sep H (Pc.osl v313 1 (enc (eFlt .f32) odds449) :: Pc.osl v309 1 (enc (eFlt .f32) evens404) :: Pc.box id101 [v0, (.flt .f32 a1)] :: fr) → Fin _ _ (updL s [(3, (.v (.ptr id101 0))), (9, (.v v309)), (10, (.v v313)), (73, (.v (.int .i64 (y312.length : Int)))), (74, (.v (.int .i64 x450)))]) H _) ?_ _ _ hs
                  intro odds449 x450 h s488 H489 hs
                  refine fi_inLoop ?_
                  refine fi_seq ?_
                  refine fi_region ?_
                  refine so_bin rfl rfl ab_lss ?_
                  refine so_nil ?_
                  refine fi_seq ?_
                  replace h := ofP h; rcases h with ⟨c451, h⟩ | ⟨c451, h⟩
                  · refine fi_true rfl (decide_eq_true c451) ?_
                    refine fi_skip ?_
                    refine fi_seq ?_
                    refine fi_block ?_
                    refine fi_seq ?_
                    refine fi_region ?_
                    refine so_move (v := (.v (.int .i64 x450))) rfl ?_
                    refine so_assign (v := (.v (.int .i64 x450))) rfl ?_
                    refine so_nil ?_
                    refine fi_region ?_
                    refine so_move (v := (.v v313)) rfl ?_
                    refine so_move (v := (.v (.int .i64 x450))) rfl ?_
                    obtain ⟨c452, h⟩ := h
                    refine sv_idx (hs.shows 0 rfl) c452 (fun _ => rfl) (by decide) rfl rfl F135.tl24 ?_
                    refine sv_cell (hs.shows 0 rfl) c452 (0 : Nat) 0 (fun x => (AV.flt .f32 x)) (fun _ => rfl) (fun _ => rfl) rfl F135.ag26 ?_
                    refine so_fieldAddr rfl F135.fd38_1 ?_
                    refine sv_ld hs 2 rfl rfl rfl F135.ag26 ?_
                    refine so_bin rfl rfl ab_fmul ?_
                    refine sv_idx (hs.shows 0 rfl) c452 (fun _ => rfl) (by decide) rfl rfl F135.tl24 ?_
                    refine sv_set hs 0 rfl c452 (fop .mul .f32 (odds449.getD (x450).toNat (0 : Nat)) a1) (fun _ => rfl) (by decide) rfl rfl rfl rfl F135.sz26 (fun _ => by kernel_rfl) (fun H453 hs => ?_)
                    refine so_nil ?_
                    refine fi_inBlock ?_
                    refine fi_region ?_
                    refine so_bin rfl rfl ab_add ?_
                    refine so_move (v := (.v (.int .i64 (IntKind.i64.wrap (x450 + (1 : Int)))))) rfl ?_
                    refine so_nil ?_
                    exact fi_at [(3, (.v (.ptr id101 0))), (9, (.v v309)), (10, (.v v313)), (73, (.v (.int .i64 (y312.length : Int)))), (74, (.v (.int .i64 (IntKind.i64.wrap (x450 + (1 : Int))))))] ⟨rfl, rfl, rfl, rfl, rfl, trivial⟩ (h _ _  hs)
                  · refine fi_false rfl (decide_eq_false c451) ?_
                    refine fi_exit rfl ?_
                    refine fi_seq ?_
                    refine fi_seq ?_
                    refine fi_region ?_
                    refine so_fieldAddr rfl F135.fd38_0 ?_
                    refine sv_ld hs 2 rfl rfl rfl F135.ag24 ?_
                    refine sv_len (g0 _ hs.tl.tl.tl) (fun _ => rfl) (by decide) rfl F135.ti24 ?_
                    refine so_bin rfl rfl ab_sub ?_
                    refine so_assign (v := (.v (.int .i64 (IntKind.i64.wrap ((l0.length : Int) - (1 : Int)))))) rfl ?_
                    refine so_nil ?_
                    refine fi_block ?_
                    refine fi_loop ?_
                    refine fi_at [(3, (.v (.ptr id101 0))), (9, (.v v309)), (10, (.v v313)), (13, (.v (.int .i64 (IntKind.i64.wrap ((l0.length : Int) - (1 : Int))))))] ⟨rfl, rfl, rfl, rfl, trivial⟩ ?_
                    refine h (fun (odds470 : List (Nat)) (evens471 : List (Nat)) (i472 : Int) => ∀ (s : Nat → TV) (H : Heap), Sep H (Pc.osl v313 1 (enc (eFlt .f32) odds470) :: Pc.osl v309 1 (enc (eFlt .f32) evens471) :: Pc.box id101 [v0, (.flt .f32 a1)] :: fr) → Fin _ _ (updL s [(3, (.v (.ptr id101 0))), (9, (.v v309)), (10, (.v v313)), (13, (.v (.int .i64 i472)))]) H _) ?_ _ _ hs
                    intro odds470 evens471 i472 h s486 H487 hs
                    refine fi_inLoop ?_
                    refine fi_seq ?_
                    refine fi_seq ?_
                    refine fi_region ?_
                    refine so_move (v := (.v (.int .i64 i472))) rfl ?_
                    refine so_bin rfl rfl ab_geq ?_
                    refine so_nil ?_
                    replace h := ofP h; rcases h with ⟨c473, h⟩ | ⟨c473, h⟩
                    · refine fi_true rfl (decide_eq_true c473) ?_
                      refine fi_skip ?_
                      refine fi_seq ?_
                      refine fi_block ?_
                      refine fi_region ?_
                      refine so_move (v := (.v v309)) rfl ?_
                      refine so_move (v := (.v v313)) rfl ?_
                      refine so_move (v := (.v (.int .i64 i472))) rfl ?_
                      refine so_fieldAddr rfl F135.fd38_0 ?_
                      refine sv_ld hs 2 rfl rfl rfl F135.ag24 ?_
                      refine so_move (v := (.v (.int .i64 i472))) rfl ?_
                      obtain ⟨c474, h⟩ := h
                      refine sv_idx (g0 _ hs.tl.tl.tl) c474 (fun _ => rfl) (by decide) rfl rfl F135.tl24 ?_
                      refine sv_cell (g0 _ hs.tl.tl.tl) c474 (0 : Nat) 0 (fun x => (AV.flt .f32 x)) (fun _ => rfl) (fun _ => rfl) rfl F135.ag26 ?_
                      replace hs := (Sep.front 1 hs rfl)
                      refine sv_call (impl_weigh_ok v309 evens471 v313 odds470 i472 (l0.getD (i472).toNat (0 : Nat)) true hs  _ h) rfl rfl nofun ?_
                      clear h hs
                      rintro _ H477 ⟨y475, y476, h, rfl, hs⟩
                      refine so_nil ?_
                      refine fi_inBlock ?_
                      refine fi_region ?_
                      refine so_move (v := (.v (.int .i64 i472))) rfl ?_
                      refine so_bin rfl rfl ab_sub ?_
                      refine so_assign (v := (.v (.int .i64 (IntKind.i64.wrap (i472 - (1 : Int)))))) rfl ?_
                      refine so_nil ?_
                      exact fi_at [(3, (.v (.ptr id101 0))), (9, (.v v309)), (10, (.v v313)), (13, (.v (.int .i64 (IntKind.i64.wrap (i472 - (1 : Int))))))] ⟨rfl, rfl, rfl, rfl, trivial⟩ (h _ _  (Sep.front 2 (Sep.front 1 (Sep.front 2 hs rfl) rfl) rfl))
                    · refine fi_false rfl (decide_eq_false c473) ?_
                      refine fi_exit rfl ?_
                      refine fi_seq ?_
                      refine fi_region ?_
                      refine so_move (v := (.v v309)) rfl ?_
                      refine so_move (v := (.v v313)) rfl ?_
                      refine sv_call (impl_woven_float32_ok v309 evens471 v313 odds470 hs (fun _ hs => (hs.shows 1 rfl)) (fun _ hs => (hs.shows 0 rfl)) _ h) rfl rfl nofun ?_
                      clear h hs
                      rintro _ H481 ⟨y478, h, v479, rfl, hs⟩
                      refine sv_call (impl_finiteList_ok v479 y478 hs (fun _ hs => (hs.shows 0 rfl)) _ h) rfl rfl nofun ?_
                      clear h hs
                      rintro _ H484 ⟨y482, y483, h, rfl, hs⟩
                      replace h := ofT h; rcases h with ⟨c485, h⟩ | ⟨c485, h⟩
                      · subst c485
                        refine so_extract rfl rfl rfl ?_
                        refine so_extract rfl rfl rfl ?_
                        refine so_assign (v := (.v v479)) rfl ?_
                        refine so_assign (v := (.v (.bool y483))) rfl ?_
                        refine so_nil ?_
                        exact by_ret rfl ⟨_, _, h, _, rfl, (Sep.del 1 (Sep.del 1 (Sep.del 1 hs)))⟩
                      · subst c485
                        refine so_extract rfl rfl rfl ?_
                        refine so_extract rfl rfl rfl ?_
                        refine so_assign (v := (.v .nilsl)) rfl ?_
                        refine so_assign (v := (.v (.bool y483))) rfl ?_
                        refine so_nil ?_
                        exact by_ret rfl ⟨_, _, h, _, rfl, (Sep.nil (Sep.dropn 4 hs) 1)⟩
            · refine fi_true rfl (not_t c307) ?_
              refine fi_seq ?_
              refine fi_region ?_
              refine so_assign (v := (.v .nilsl)) rfl ?_
              refine so_assign (v := (.v (.bool false))) rfl ?_
              refine so_nil ?_
              exact by_ret rfl ⟨_, _, h, _, rfl, (Sep.nil (Sep.del 0 (Sep.del 0 hs)) 1)⟩
        · refine so_gno rfl (not_t (decide_eq_false c300)) ?_
          refine so_gno rfl (not_t (decide_eq_false c300)) ?_
          refine so_gno rfl (not_t (decide_eq_false c300)) ?_
          refine so_gno rfl (not_t (decide_eq_false c300)) ?_
          refine so_gno rfl (not_t (decide_eq_false c300)) ?_
          refine so_pick_t (v := (.v (.bool true))) rfl (not_t (decide_eq_false c300)) rfl ?_
          refine so_move (v := (.v (.bool true))) rfl ?_
          refine so_gno rfl rfl ?_
          refine so_gno rfl rfl ?_
          refine so_gno rfl rfl ?_
          refine so_gno rfl rfl ?_
          refine so_gno rfl rfl ?_
          refine so_pick_t (v := (.v (.bool true))) rfl rfl rfl ?_
          refine so_nil ?_
          refine fi_true rfl rfl ?_
          refine fi_seq ?_
          refine fi_region ?_
          refine so_assign (v := (.v .nilsl)) rfl ?_
          refine so_assign (v := (.v (.bool false))) rfl ?_
          refine so_nil ?_
          exact by_ret rfl ⟨_, _, h, _, rfl, (Sep.nil (Sep.del 0 hs) 1)⟩
  · refine so_gno rfl (not_t c106) ?_
    refine so_gno rfl (not_t c106) ?_
    refine so_pick_t (v := (.v (.bool true))) rfl (not_t c106) rfl ?_
    refine so_move (v := (.v (.bool true))) rfl ?_
    refine so_gno rfl rfl ?_
    refine so_gno rfl rfl ?_
    refine so_gno rfl rfl ?_
    refine so_gno rfl rfl ?_
    refine so_gno rfl rfl ?_
    refine so_gund rfl ?_
    refine so_gund rfl ?_
    refine so_gund rfl ?_
    refine so_gund rfl ?_
    refine so_gund rfl ?_
    refine so_gno rfl rfl ?_
    refine so_pick_t (v := (.v (.bool true))) rfl rfl rfl ?_
    refine so_move (v := (.v (.bool true))) rfl ?_
    refine so_gno rfl rfl ?_
    refine so_gno rfl rfl ?_
    refine so_gno rfl rfl ?_
    refine so_gno rfl rfl ?_
    refine so_gno rfl rfl ?_
    refine so_pick_t (v := (.v (.bool true))) rfl rfl rfl ?_
    refine so_move (v := (.v (.bool true))) rfl ?_
    refine so_gno rfl rfl ?_
    refine so_gno rfl rfl ?_
    refine so_gno rfl rfl ?_
    refine so_gno rfl rfl ?_
    refine so_gno rfl rfl ?_
    refine so_pick_t (v := (.v (.bool true))) rfl rfl rfl ?_
    refine so_nil ?_
    refine fi_true rfl rfl ?_
    refine fi_seq ?_
    refine fi_region ?_
    refine so_assign (v := (.v .nilsl)) rfl ?_
    refine so_assign (v := (.v (.bool false))) rfl ?_
    refine so_nil ?_
    exact by_ret rfl ⟨_, _, h, _, rfl, (Sep.nil (Sep.del 0 hs) 1)⟩
theorem F98.ag24 : tagg Try.prog 24 = some false := by kernel_rfl
theorem F98.ag38 : tagg Try.prog 38 = some true := by kernel_rfl
theorem F98.inf38 : (Try.prog.info? 38).isSome = true := by kernel_rfl
theorem F98.sz38 : tsz Try.prog 38 = some 2 := by kernel_rfl
theorem F98.ti72 : (telem Try.prog 72).isSome = true := by kernel_rfl
theorem F98.tl72 : (telem Try.prog 72).bind (tsz Try.prog) = some 1 := by kernel_rfl
theorem impl_DropDeep_ok {fr : List Pc} {H : Heap} (v0 : AV) (l0 : List (Nat)) (a1 : Nat) (v2 : AV) (w2 : List (List AV)) (l2 : List (List (Nat))) (hs : Sep H (fr)) (g0 : ∀ H, Sep H fr → Shows H v0 1 (enc (eFlt .f32) l0)) (g2 : ∀ H, Sep H fr → DSh H v2 1 R_LeFlt_f32_o l2 w2) (K : (List (Nat)) → Bool → Prop) (h : impl_DropDeep.wp l0 a1 l2 K) : OkQ Try.prog 98 [(.g [v0, (.flt .f32 a1)]), (.v v2)] H (fun r H2 => ∃ (y0 : List (Nat)) (y1 : Bool), K y0 y1 ∧ ∃ (w0_ : AV), r = (.t [(.v w0_), (.v (.bool y1))]) ∧ Sep H2 (Pc.osl w0_ 1 (enc (eFlt .f32) y0) :: fr)) := by
  unfold impl_DropDeep.wp at h
  refine of_body Try.f98 F.hm Try.func98 rfl Try.call98 (by kernel_rfl) (by simp) ?_
  refine fi_seq ?_
  refine fi_region ?_
  refine sv_box hs rfl (c := [v0, (.flt .f32 a1)]) rfl F98.inf38 (stc (g0 _ hs).stor (stc rfl stn)) nofun (fun id101 H102 hs => ?_)
  refine so_assign (v := (.v .nilsl)) rfl ?_
  refine so_assign (v := (.v (.bool false))) rfl ?_
  refine so_nil ?_
  refine fi_seq ?_
  refine fi_seq ?_
  refine fi_region ?_
  refine sv_lds hs 0 rfl rfl (leb rfl) rfl F98.ag38 F98.sz38 ?_
  refine sv_callS (impl_ValidScheme_okS v0 l0 a1 hs (fun _ hs => (g0 _ hs.tl)) _ h) (fun _ _ ⟨_, _, _, e⟩ => e) rfl rfl ?_
  clear h
  rintro _ _ ⟨y104, h, rfl, rfl⟩
  refine so_un rfl au_not ?_
  refine so_move (v := (.v (.bool (!y104)))) rfl ?_
  replace h := ofT h; rcases h with ⟨c106, h⟩ | ⟨c106, h⟩
  · refine so_gyes rfl (not_f c106) ?_
    refine so_move (v := (.v v2)) rfl ?_
    refine so_gyes rfl (not_f c106) ?_
    refine sv_call (impl_AreBands_ok v2 w2 l2 hs (fun _ hs => (g2 _ hs.tl)) _ h) rfl rfl nofun ?_
    clear h hs
    rintro _ H108 ⟨y107, h, rfl, hs⟩
    refine so_gyes rfl (not_f c106) ?_
    refine so_un rfl au_not ?_
    refine so_pick_f (v := (.v (.bool (!y107)))) rfl (not_f c106) rfl ?_
    refine so_nil ?_
    replace h := ofT h; rcases h with ⟨c109, h⟩ | ⟨c109, h⟩
    · refine fi_false rfl (not_f c109) ?_
      refine fi_skip ?_
      refine fi_seq ?_
      refine fi_region ?_
      refine so_move (v := (.v v2)) rfl ?_
      refine so_move (v := (.v v2)) rfl ?_
      refine sd_len ((g2 _ hs.tl) : DSh _ _ 1 R_LeFlt_f32_o l2 w2) (by decide) rfl F98.ti72 ?_
      refine so_bin rfl rfl ab_sub ?_
      obtain ⟨c110, h⟩ := h
      refine sd_idx ((g2 _ hs.tl) : DSh _ _ 1 R_LeFlt_f32_o l2 w2) c110 ([] : List (Nat)) (by decide) rfl rfl F98.tl72 ?_
      refine su_ld ((((g2 _ hs.tl) : DSh _ _ 1 R_LeFlt_f32_o l2 w2)).at (by decide) c110 ([] : List (Nat))).2.2 0 (congrArg (fun c => c[0]?) ((((g2 _ hs.tl) : DSh _ _ 1 R_LeFlt_f32_o l2 w2)).at (by decide) c110 ([] : List (Nat))).2.1.1) rfl F98.ag24 ?_
      refine sv_call (impl_copyOf_ok ((w2.getD ((IntKind.i64.wrap ((l2.length : Int) - (1 : Int)))).toNat []).getD 0 .und) (l2.getD ((IntKind.i64.wrap ((l2.length : Int) - (1 : Int)))).toNat ([] : List (Nat))) hs (fun _ hs => ((((g2 _ hs.tl) : DSh _ _ 1 R_LeFlt_f32_o l2 w2)).at (by decide) c110 ([] : List (Nat))).2.1.2) _ h) rfl rfl nofun ?_
      clear h hs
      rintro _ H114 ⟨y111, h, v112, rfl, hs⟩
      refine so_assign (v := (.v v112)) rfl ?_
      refine so_nil ?_
      refine fi_seq ?_
      refine fi_seq ?_
      refine fi_region ?_
      refine so_move (v := (.v v2)) rfl ?_
      refine sd_len ((g2 _ hs.tl.tl) : DSh _ _ 1 R_LeFlt_f32_o l2 w2) (by decide) rfl F98.ti72 ?_
      refine so_bin rfl rfl ab_sub ?_
      refine so_assign (v := (.v (.int .i64 (IntKind.i64.wrap ((l2.length : Int) - (2 : Int)))))) rfl ?_
      refine so_nil ?_
      refine fi_block ?_
      refine fi_loop ?_
      refine fi_at [(1, (.v v2)), (2, (.v (.ptr id101 0))), (6, (.v v112)), (7, (.v (.int .i64 (IntKind.i64.wrap ((l2.length : Int) - (2 : Int))))))] ⟨rfl, rfl, rfl, rfl, trivial⟩ ?_
      refine h (fun (now116 : List (Nat)) (i118 : Int) => ∀ (s : Nat → TV) (H : Heap) (v117 : AV), Sep H (Pc.osl v117 1 (enc (eFlt .f32) now116) :: Pc.box id101 [v0, (.flt .f32 a1)] :: fr) → Fin _ _ (updL s [(1, (.v v2)), (2, (.v (.ptr id101 0))), (6, (.v v117)), (7, (.v (.int .i64 i118)))]) H _) ?_ _ _ _ hs
      intro now116 i118 h s127 H128 v117 hs
      refine fi_inLoop ?_
      refine fi_seq ?_
      refine fi_seq ?_
      refine fi_region ?_
      refine so_move (v := (.v (.int .i64 i118))) rfl ?_
      refine so_bin rfl rfl ab_geq ?_
      refine so_nil ?_
      replace h := ofP h; rcases h with ⟨c119, h⟩ | ⟨c119, h⟩
      · refine fi_true rfl (decide_eq_true c119) ?_
        refine fi_skip ?_
        refine fi_seq ?_
        refine fi_block ?_
        refine fi_seq ?_
        refine fi_region ?_
        refine sv_lds hs 1 rfl rfl (leb rfl) rfl F98.ag38 F98.sz38 ?_
        refine so_move (v := (.v v117)) rfl ?_
        refine so_move (v := (.v v2)) rfl ?_
        refine so_move (v := (.v (.int .i64 i118))) rfl ?_
        obtain ⟨c120, h⟩ := h
        refine sd_idx ((g2 _ hs.tl.tl) : DSh _ _ 1 R_LeFlt_f32_o l2 w2) c120 ([] : List (Nat)) (by decide) rfl rfl F98.tl72 ?_
        refine su_ld ((((g2 _ hs.tl.tl) : DSh _ _ 1 R_LeFlt_f32_o l2 w2)).at (by decide) c120 ([] : List (Nat))).2.2 0 (congrArg (fun c => c[0]?) ((((g2 _ hs.tl.tl) : DSh _ _ 1 R_LeFlt_f32_o l2 w2)).at (by decide) c120 ([] : List (Nat))).2.1.1) rfl F98.ag24 ?_
        refine sv_call (impl_DropOnce_ok v0 l0 a1 v117 now116 ((w2.getD (i118).toNat []).getD 0 .und) (l2.getD (i118).toNat ([] : List (Nat))) hs (fun _ hs => (g0 _ hs.tl.tl)) (fun _ hs => (hs.shows 0 rfl)) (fun _ hs => ((((g2 _ hs.tl.tl) : DSh _ _ 1 R_LeFlt_f32_o l2 w2)).at (by decide) c120 ([] : List (Nat))).2.1.2) _ h) rfl rfl (fun _ => by kernel_rfl) ?_
        clear h hs
        rintro _ H125 ⟨y121, y124, h, v122, rfl, hs⟩
        refine so_move (v := (.t [(.v v122), (.v (.bool y124))])) rfl ?_
        refine so_extract rfl rfl rfl ?_
        refine so_extract rfl rfl rfl ?_
        refine so_assign (v := (.v v122)) rfl ?_
        refine so_assign (v := (.v (.bool y124))) rfl ?_
        refine so_nil ?_
        refine fi_seq ?_
        refine fi_seq ?_
        refine fi_region ?_
        refine so_move (v := (.v (.bool y124))) rfl ?_
        refine so_un rfl au_not ?_
        refine so_nil ?_
        replace h := ofT h; rcases h with ⟨c126, h⟩ | ⟨c126, h⟩
        · refine fi_false rfl (not_f c126) ?_
          refine fi_skip ?_
          refine fi_region ?_
          refine so_move (v := (.v v122)) rfl ?_
          refine so_assign (v := (.v v122)) rfl ?_
          refine so_nil ?_
          refine fi_inBlock ?_
          refine fi_region ?_
          refine so_move (v := (.v (.int .i64 i118))) rfl ?_
          refine so_bin rfl rfl ab_sub ?_
          refine so_assign (v := (.v (.int .i64 (IntKind.i64.wrap (i118 - (1 : Int)))))) rfl ?_
          refine so_nil ?_
          exact fi_at [(1, (.v v2)), (2, (.v (.ptr id101 0))), (6, (.v v122)), (7, (.v (.int .i64 (IntKind.i64.wrap (i118 - (1 : Int))))))] ⟨rfl, rfl, rfl, rfl, trivial⟩ (h _ _ _ (Sep.del 1 hs))
        · refine fi_true rfl (not_t c126) ?_
          refine fi_seq ?_
          refine fi_region ?_
          refine so_assign (v := (.v .nilsl)) rfl ?_
          refine so_assign (v := (.v (.bool false))) rfl ?_
          refine so_nil ?_
          exact by_ret rfl ⟨_, _, h, _, rfl, (Sep.nil (Sep.del 0 (Sep.del 0 (Sep.del 0 hs))) 1)⟩
      · refine fi_false rfl (decide_eq_false c119) ?_
        refine fi_exit rfl ?_
        refine fi_seq ?_
        refine fi_region ?_
        refine so_move (v := (.v v117)) rfl ?_
        refine so_assign (v := (.v v117)) rfl ?_
        refine so_assign (v := (.v (.bool true))) rfl ?_
        refine so_nil ?_
        exact by_ret rfl ⟨_, _, h, _, rfl, (Sep.del 1 hs)⟩
    · refine fi_true rfl (not_t c109) ?_
      refine fi_seq ?_
      refine fi_region ?_
      refine so_assign (v := (.v .nilsl)) rfl ?_
      refine so_assign (v := (.v (.bool false))) rfl ?_
      refine so_nil ?_
      exact by_ret rfl ⟨_, _, h, _, rfl, (Sep.nil (Sep.del 0 hs) 1)⟩
  · refine so_gno rfl (not_t c106) ?_
    refine so_gno rfl (not_t c106) ?_
    refine so_gno rfl (not_t c106) ?_
    refine so_pick_t (v := (.v (.bool true))) rfl (not_t c106) rfl ?_
    refine so_nil ?_
    refine fi_true rfl rfl ?_
    refine fi_seq ?_
    refine fi_region ?_
    refine so_assign (v := (.v .nilsl)) rfl ?_
    refine so_assign (v := (.v (.bool false))) rfl ?_
    refine so_nil ?_
    exact by_ret rfl ⟨_, _, h, _, rfl, (Sep.nil (Sep.del 0 hs) 1)⟩
end Go.Proofs.Ytfhlhgnipmgfdaa.G
