/-
  The model ends so. Printed by a program of the session; nothing here is trusted.
-/
import Derived.Test.YtpeijfnfffogeaaProg
import Derived.KernelRfl
import Derived.Test.YtpeijfnfffogeaaMExactNewDeskWa
namespace Go.Proofs.Ytpeijfnfffogeaa.F
open Go Go.Ab Go.Proofs
set_option maxRecDepth 100000
set_option linter.unusedVariables false
set_option linter.unusedSimpArgs false
set_option maxHeartbeats 1000000
theorem hm : Try.prog.follows .mixedOrders = true := by kernel_rfl
end Go.Proofs.Ytpeijfnfffogeaa.F

namespace Go.Proofs.Ytpeijfnfffogeaa.G
open Go Go.Ab Go.Proofs Go.Proofs.Ytpeijfnfffogeaa
set_option maxRecDepth 100000
set_option linter.unusedVariables false
set_option linter.unusedSimpArgs false
set_option maxHeartbeats 1000000
attribute [local irreducible] wops wopf Go.Ab.Fin
theorem F17.tb4 : tbool Try.prog 4 = true := by kernel_rfl
theorem laws_sameFloat_ok {fr : List Pc} {H : Heap} (a0 : Nat) (a1 : Nat) (hs : Sep H (fr))  (K : Bool → Prop) (h : laws_sameFloat.wp a0 a1 K) : OkQ Try.prog 17 [(.v (.flt .f64 a0)), (.v (.flt .f64 a1))] H (fun r H2 => ∃ (y0 : Bool), K y0 ∧ r = (.v (.bool y0)) ∧ H = H2) := by
  unfold laws_sameFloat.wp at h
  refine of_body Try.f17 F.hm Try.func17 rfl Try.call17 (by kernel_rfl) (by simp) ?_
  refine fi_seq ?_
  refine fi_region ?_
  refine so_assign (v := (.v (.bool false))) rfl ?_
  refine so_nil ?_
  refine fi_seq ?_
  refine fi_seq ?_
  refine fi_region ?_
  refine so_move (v := (.v (.flt .f64 a0))) rfl ?_
  refine so_move (v := (.v (.flt .f64 a0))) rfl ?_
  refine so_bin rfl rfl ab_fneq ?_
  refine so_move (v := (.v (.bool (fcmp .neq .f64 a0 a0)))) rfl ?_
  replace h := ofT h; rcases h with ⟨c101, h⟩ | ⟨c101, h⟩
  · refine so_gno rfl c101 ?_
    refine so_gno rfl c101 ?_
    refine so_gno rfl c101 ?_
    refine so_pick_t (v := (.v (.bool true))) rfl c101 rfl ?_
    refine so_nil ?_
    refine fi_true rfl rfl ?_
    refine fi_seq ?_
    refine fi_region ?_
    refine so_move (v := (.v (.flt .f64 a0))) rfl ?_
    refine so_move (v := (.v (.flt .f64 a0))) rfl ?_
    refine so_bin rfl rfl ab_fneq ?_
    refine so_move (v := (.v (.bool (fcmp .neq .f64 a0 a0)))) rfl ?_
    refine so_gyes rfl c101 ?_
    refine so_move (v := (.v (.flt .f64 a1))) rfl ?_
    refine so_gyes rfl c101 ?_
    refine so_move (v := (.v (.flt .f64 a1))) rfl ?_
    refine so_gyes rfl c101 ?_
    refine so_bin rfl rfl ab_fneq ?_
    refine so_pick_t (v := (.v (.bool (fcmp .neq .f64 a1 a1)))) rfl c101 rfl ?_
    refine so_assign (v := (.v (.bool (fcmp .neq .f64 a1 a1)))) rfl ?_
    refine so_nil ?_
    exact by_ret rfl ⟨_, h, rfl, rfl⟩
  · refine so_gyes rfl c101 ?_
    refine so_move (v := (.v (.flt .f64 a1))) rfl ?_
    refine so_gyes rfl c101 ?_
    refine so_move (v := (.v (.flt .f64 a1))) rfl ?_
    refine so_gyes rfl c101 ?_
    refine so_bin rfl rfl ab_fneq ?_
    refine so_pick_f (v := (.v (.bool (fcmp .neq .f64 a1 a1)))) rfl c101 rfl ?_
    refine so_nil ?_
    replace h := ofT h; rcases h with ⟨c102, h⟩ | ⟨c102, h⟩
    · refine fi_true rfl c102 ?_
      refine fi_seq ?_
      refine fi_region ?_
      refine so_move (v := (.v (.flt .f64 a0))) rfl ?_
      refine so_move (v := (.v (.flt .f64 a0))) rfl ?_
      refine so_bin rfl rfl ab_fneq ?_
      refine so_move (v := (.v (.bool (fcmp .neq .f64 a0 a0)))) rfl ?_
      refine so_gno rfl c101 ?_
      refine so_gno rfl c101 ?_
      refine so_gno rfl c101 ?_
      refine so_pick_f (v := (.v (.bool false))) rfl c101 rfl ?_
      refine so_assign (v := (.v (.bool false))) rfl ?_
      refine so_nil ?_
      exact by_ret rfl ⟨_, h, rfl, rfl⟩
    · refine fi_false rfl c102 ?_
      refine fi_skip ?_
      refine fi_seq ?_
      refine fi_seq ?_
      refine fi_region ?_
      refine so_move (v := (.v (.flt .f64 a0))) rfl ?_
      refine so_bin rfl rfl ab_feql ?_
      refine so_move (v := (.v (.bool (fcmp .eql .f64 a0 (cz .f64 0))))) rfl ?_
      replace h := ofT h; rcases h with ⟨c103, h⟩ | ⟨c103, h⟩
      · refine so_gyes rfl c103 ?_
        refine so_move (v := (.v (.flt .f64 a1))) rfl ?_
        refine so_gyes rfl c103 ?_
        refine so_bin rfl rfl ab_feql ?_
        refine so_pick_t (v := (.v (.bool (fcmp .eql .f64 a1 (cz .f64 0))))) rfl c103 rfl ?_
        refine so_nil ?_
        replace h := ofT h; rcases h with ⟨c104, h⟩ | ⟨c104, h⟩
        · refine fi_true rfl c104 ?_
          refine fi_seq ?_
          refine fi_region ?_
          refine so_move (v := (.v (.flt .f64 a0))) rfl ?_
          refine so_bin rfl rfl ab_fquo ?_
          refine so_bin rfl rfl ab_fgtr ?_
          refine so_move (v := (.v (.flt .f64 a1))) rfl ?_
          refine so_bin rfl rfl ab_fquo ?_
          refine so_bin rfl rfl ab_fgtr ?_
          refine so_bin rfl rfl (ab_beql F17.tb4) ?_
          refine so_assign (v := (.v (.bool ((fcmp .gtr .f64 (fop .quo .f64 (cz .f64 4607182418800017408) a0) (cz .f64 0)) == (fcmp .gtr .f64 (fop .quo .f64 (cz .f64 4607182418800017408) a1) (cz .f64 0)))))) rfl ?_
          refine so_nil ?_
          exact by_ret rfl ⟨_, h, rfl, rfl⟩
        · refine fi_false rfl c104 ?_
          refine fi_skip ?_
          refine fi_seq ?_
          refine fi_region ?_
          refine so_move (v := (.v (.flt .f64 a0))) rfl ?_
          refine so_move (v := (.v (.flt .f64 a1))) rfl ?_
          refine so_bin rfl rfl ab_feql ?_
          refine so_assign (v := (.v (.bool (fcmp .eql .f64 a0 a1)))) rfl ?_
          refine so_nil ?_
          exact by_ret rfl ⟨_, h, rfl, rfl⟩
      · refine so_gno rfl c103 ?_
        refine so_gno rfl c103 ?_
        refine so_pick_f (v := (.v (.bool false))) rfl c103 rfl ?_
        refine so_nil ?_
        refine fi_false rfl rfl ?_
        refine fi_skip ?_
        refine fi_seq ?_
        refine fi_region ?_
        refine so_move (v := (.v (.flt .f64 a0))) rfl ?_
        refine so_move (v := (.v (.flt .f64 a1))) rfl ?_
        refine so_bin rfl rfl ab_feql ?_
        refine so_assign (v := (.v (.bool (fcmp .eql .f64 a0 a1)))) rfl ?_
        refine so_nil ?_
        exact by_ret rfl ⟨_, h, rfl, rfl⟩

end Go.Proofs.Ytpeijfnfffogeaa.G

namespace Go.Proofs.Ytpeijfnfffogeaa.G
open Go Go.Ab Go.Proofs Go.Proofs.Ytpeijfnfffogeaa
set_option maxRecDepth 100000
set_option linter.unusedVariables false
set_option linter.unusedSimpArgs false
set_option maxHeartbeats 1000000
attribute [local irreducible] wops wopf Go.Ab.Fin
theorem F47.ag25 : tagg Try.prog 25 = some false := by kernel_rfl
theorem F47.fl32 : tflt Try.prog 32 = some .f64 := by kernel_rfl
theorem F47.in32 : tint Try.prog 32 = none := by kernel_rfl
theorem F47.ti37 : (telem Try.prog 37).isSome = true := by kernel_rfl
theorem F47.tl37 : (telem Try.prog 37).bind (tsz Try.prog) = some 1 := by kernel_rfl
theorem F47.us25 : (Try.prog.underlying 25).isSome = true := by kernel_rfl
theorem laws_eqFloat32S_ok {fr : List Pc} {H : Heap} (v0 : AV) (l0 : List (Nat)) (v1 : AV) (l1 : List (Nat)) (hs : Sep H (fr)) (g0 : ∀ H, Sep H fr → Shows H v0 1 (enc (eFlt .f32) l0)) (g1 : ∀ H, Sep H fr → Shows H v1 1 (enc (eFlt .f32) l1)) (K : Bool → Prop) (h : laws_eqFloat32S.wp l0 l1 K) : OkQ Try.prog 47 [(.v v0), (.v v1)] H (fun r H2 => ∃ (y0 : Bool), K y0 ∧ r = (.v (.bool y0)) ∧ H = H2) := by
  unfold laws_eqFloat32S.wp at h
  refine of_body Try.f47 F.hm Try.func47 rfl Try.call47 (by kernel_rfl) (by simp) ?_
  refine fi_seq ?_
  refine fi_region ?_
  refine so_assign (v := (.v (.bool false))) rfl ?_
  refine so_nil ?_
  refine fi_seq ?_
  refine fi_seq ?_
  refine fi_region ?_
  refine so_move (v := (.v v0)) rfl ?_
  refine sv_len (g0 _ hs) (fun _ => rfl) (by decide) rfl F47.ti37 ?_
  refine so_move (v := (.v v1)) rfl ?_
  refine sv_len (g1 _ hs) (fun _ => rfl) (by decide) rfl F47.ti37 ?_
  refine so_bin rfl rfl ab_neq ?_
  refine so_nil ?_
  replace h := ofP h; rcases h with ⟨c101, h⟩ | ⟨c101, h⟩
  · refine fi_false rfl (not_f (decide_eq_true c101)) ?_
    refine fi_skip ?_
    refine fi_seq ?_
    refine fi_seq ?_
    refine fi_region ?_
    refine so_assign (v := (.v (.int .i64 (0 : Int)))) rfl ?_
    refine so_nil ?_
    refine fi_block ?_
    refine fi_loop ?_
    refine fi_at [(0, (.v v0)), (1, (.v v1)), (5, (.v (.int .i64 (0 : Int))))] ⟨rfl, rfl, rfl, trivial⟩ ?_
    refine h (fun (i103 : Int) => ∀ (s : Nat → TV), Fin _ _ (updL s [(0, (.v v0)), (1, (.v v1)), (5, (.v (.int .i64 i103)))]) _ _) ?_ _
    intro i103 h s110
    refine fi_inLoop ?_
    refine fi_seq ?_
    refine fi_seq ?_
    refine fi_region ?_
    refine so_move (v := (.v (.int .i64 i103))) rfl ?_
    refine so_move (v := (.v v0)) rfl ?_
    refine sv_len (g0 _ hs) (fun _ => rfl) (by decide) rfl F47.ti37 ?_
    refine so_bin rfl rfl ab_lss ?_
    refine so_nil ?_
    replace h := ofP h; rcases h with ⟨c104, h⟩ | ⟨c104, h⟩
    · refine fi_true rfl (decide_eq_true c104) ?_
      refine fi_skip ?_
      refine fi_seq ?_
      refine fi_block ?_
      refine fi_seq ?_
      refine fi_region ?_
      refine so_move (v := (.v v0)) rfl ?_
      refine so_move (v := (.v (.int .i64 i103))) rfl ?_
      obtain ⟨c105, h⟩ := h
      refine sv_idx (g0 _ hs) c105 (fun _ => rfl) (by decide) rfl rfl F47.tl37 ?_
      refine sv_cell (g0 _ hs) c105 (0 : Nat) 0 (fun x => (AV.flt .f32 x)) (fun _ => rfl) (fun _ => rfl) rfl F47.ag25 ?_
      refine sv_ffw rfl F47.us25 F47.in32 F47.fl32 ?_
      refine so_move (v := (.v v1)) rfl ?_
      refine so_move (v := (.v (.int .i64 i103))) rfl ?_
      obtain ⟨c106, h⟩ := h
      refine sv_idx (g1 _ hs) c106 (fun _ => rfl) (by decide) rfl rfl F47.tl37 ?_
      refine sv_cell (g1 _ hs) c106 (0 : Nat) 0 (fun x => (AV.flt .f32 x)) (fun _ => rfl) (fun _ => rfl) rfl F47.ag25 ?_
      refine sv_ffw rfl F47.us25 F47.in32 F47.fl32 ?_
      refine sv_callS (laws_sameFloat_ok (widen (l0.getD (i103).toNat (0 : Nat))) (widen (l1.getD (i103).toNat (0 : Nat))) hs  _ h) (fun _ _ ⟨_, _, _, e⟩ => e) rfl rfl ?_
      clear h
      rintro _ _ ⟨y107, h, rfl, rfl⟩
      refine so_un rfl au_not ?_
      refine so_nil ?_
      replace h := ofT h; rcases h with ⟨c109, h⟩ | ⟨c109, h⟩
      · refine fi_false rfl (not_f c109) ?_
        refine fi_skip ?_
        refine fi_inBlock ?_
        refine fi_region ?_
        refine so_move (v := (.v (.int .i64 i103))) rfl ?_
        refine so_bin rfl rfl ab_add ?_
        refine so_assign (v := (.v (.int .i64 (IntKind.i64.wrap (i103 + (1 : Int)))))) rfl ?_
        refine so_nil ?_
        exact fi_at [(0, (.v v0)), (1, (.v v1)), (5, (.v (.int .i64 (IntKind.i64.wrap (i103 + (1 : Int))))))] ⟨rfl, rfl, rfl, trivial⟩ (h _)
      · refine fi_true rfl (not_t c109) ?_
        refine fi_seq ?_
        refine fi_region ?_
        refine so_assign (v := (.v (.bool false))) rfl ?_
        refine so_nil ?_
        exact by_ret rfl ⟨_, h, rfl, rfl⟩
    · refine fi_false rfl (decide_eq_false c104) ?_
      refine fi_exit rfl ?_
      refine fi_seq ?_
      refine fi_region ?_
      refine so_assign (v := (.v (.bool true))) rfl ?_
      refine so_nil ?_
      exact by_ret rfl ⟨_, h, rfl, rfl⟩
  · refine fi_true rfl (not_t (decide_eq_false c101)) ?_
    refine fi_seq ?_
    refine fi_region ?_
    refine so_assign (v := (.v (.bool false))) rfl ?_
    refine so_nil ?_
    exact by_ret rfl ⟨_, h, rfl, rfl⟩

end Go.Proofs.Ytpeijfnfffogeaa.G

namespace Go.Proofs.Ytpeijfnfffogeaa.G
open Go Go.Ab Go.Proofs Go.Proofs.Ytpeijfnfffogeaa
set_option maxRecDepth 100000
set_option linter.unusedVariables false
set_option linter.unusedSimpArgs false
set_option maxHeartbeats 1000000
attribute [local irreducible] wops wopf Go.Ab.Fin
theorem F58.ag25 : tagg Try.prog 25 = some false := by kernel_rfl
theorem F58.ag37 : tagg Try.prog 37 = some false := by kernel_rfl
theorem F58.fd49_0 : tfield Try.prog 49 0 = some (0, 1, false) := by kernel_rfl
theorem F58.fd49_1 : tfield Try.prog 49 1 = some (1, 1, false) := by kernel_rfl
theorem F58.fl32 : tflt Try.prog 32 = some .f64 := by kernel_rfl
theorem F58.in32 : tint Try.prog 32 = none := by kernel_rfl
theorem F58.inf49 : (Try.prog.info? 49).isSome = true := by kernel_rfl
theorem F58.us25 : (Try.prog.underlying 25).isSome = true := by kernel_rfl
theorem laws_eqScheme_ok {fr : List Pc} {H : Heap} (v0 : AV) (l0 : List (Nat)) (a1 : Nat) (v2 : AV) (l2 : List (Nat)) (a3 : Nat) (hs : Sep H (fr)) (g0 : ∀ H, Sep H fr → Shows H v0 1 (enc (eFlt .f32) l0)) (g2 : ∀ H, Sep H fr → Shows H v2 1 (enc (eFlt .f32) l2)) (K : Bool → Prop) (h : laws_eqScheme.wp l0 a1 l2 a3 K) : OkQ Try.prog 58 [(.g [v0, (.flt .f32 a1)]), (.g [v2, (.flt .f32 a3)])] H (fun r H2 => ∃ (y0 : Bool), K y0 ∧ r = (.v (.bool y0)) ∧ Sep H2 (fr)) := by
  unfold laws_eqScheme.wp at h
  refine of_body Try.f58 F.hm Try.func58 rfl Try.call58 (by kernel_rfl) (by simp) ?_
  refine fi_seq ?_
  refine fi_region ?_
  refine sv_box hs rfl (c := [v0, (.flt .f32 a1)]) rfl F58.inf49 (stc (g0 _ hs).stor (stc rfl stn)) nofun (fun id101 H102 hs => ?_)
  refine sv_box hs rfl (c := [v2, (.flt .f32 a3)]) rfl F58.inf49 (stc (g2 _ hs.tl).stor (stc rfl stn)) nofun (fun id104 H105 hs => ?_)
  refine so_assign (v := (.v (.bool false))) rfl ?_
  refine so_nil ?_
  refine fi_seq ?_
  refine fi_seq ?_
  refine fi_region ?_
  refine so_fieldAddr rfl F58.fd49_0 ?_
  refine sv_ld hs 1 rfl rfl rfl F58.ag37 ?_
  refine so_fieldAddr rfl F58.fd49_0 ?_
  refine sv_ld hs 0 rfl rfl rfl F58.ag37 ?_
  refine sv_callS (laws_eqFloat32S_ok v0 l0 v2 l2 hs (fun _ hs => (g0 _ hs.tl.tl)) (fun _ hs => (g2 _ hs.tl.tl)) _ h) (fun _ _ ⟨_, _, _, e⟩ => e) rfl rfl ?_
  clear h
  rintro _ _ ⟨y107, h, rfl, rfl⟩
  refine so_un rfl au_not ?_
  refine so_nil ?_
  replace h := ofT h; rcases h with ⟨c109, h⟩ | ⟨c109, h⟩
  · refine fi_false rfl (not_f c109) ?_
    refine fi_skip ?_
    refine fi_seq ?_
    refine fi_seq ?_
    refine fi_region ?_
    refine so_fieldAddr rfl F58.fd49_1 ?_
    refine sv_ld hs 1 rfl rfl rfl F58.ag25 ?_
    refine sv_ffw rfl F58.us25 F58.in32 F58.fl32 ?_
    refine so_fieldAddr rfl F58.fd49_1 ?_
    refine sv_ld hs 0 rfl rfl rfl F58.ag25 ?_
    refine sv_ffw rfl F58.us25 F58.in32 F58.fl32 ?_
    refine sv_callS (laws_sameFloat_ok (widen a1) (widen a3) hs  _ h) (fun _ _ ⟨_, _, _, e⟩ => e) rfl rfl ?_
    clear h
    rintro _ _ ⟨y110, h, rfl, rfl⟩
    refine so_un rfl au_not ?_
    refine so_nil ?_
    replace h := ofT h; rcases h with ⟨c112, h⟩ | ⟨c112, h⟩
    · refine fi_false rfl (not_f c112) ?_
      refine fi_skip ?_
      refine fi_seq ?_
      refine fi_region ?_
      refine so_assign (v := (.v (.bool true))) rfl ?_
      refine so_nil ?_
      exact by_ret rfl ⟨_, h, rfl, (Sep.del 0 (Sep.del 0 hs))⟩
    · refine fi_true rfl (not_t c112) ?_
      refine fi_seq ?_
      refine fi_region ?_
      refine so_assign (v := (.v (.bool false))) rfl ?_
      refine so_nil ?_
      exact by_ret rfl ⟨_, h, rfl, (Sep.del 0 (Sep.del 0 hs))⟩
  · refine fi_true rfl (not_t c109) ?_
    refine fi_seq ?_
    refine fi_region ?_
    refine so_assign (v := (.v (.bool false))) rfl ?_
    refine so_nil ?_
    exact by_ret rfl ⟨_, h, rfl, (Sep.del 0 (Sep.del 0 hs))⟩

end Go.Proofs.Ytpeijfnfffogeaa.G

namespace Go.Proofs.Ytpeijfnfffogeaa.G
open Go Go.Ab Go.Proofs Go.Proofs.Ytpeijfnfffogeaa
set_option maxRecDepth 100000
set_option linter.unusedVariables false
set_option linter.unusedSimpArgs false
set_option maxHeartbeats 1000000
attribute [local irreducible] wops wopf Go.Ab.Fin
theorem F96.ag2 : tagg Try.prog 2 = some false := by kernel_rfl
theorem F96.ag37 : tagg Try.prog 37 = some false := by kernel_rfl
theorem F96.fd50_0 : tfield Try.prog 50 0 = some (0, 1, false) := by kernel_rfl
theorem F96.fd50_1 : tfield Try.prog 50 1 = some (1, 1, false) := by kernel_rfl
theorem F96.fd50_2 : tfield Try.prog 50 2 = some (2, 1, false) := by kernel_rfl
theorem F96.inf50 : (Try.prog.info? 50).isSome = true := by kernel_rfl
theorem laws_eqPicture_ok {fr : List Pc} {H : Heap} (a0 : Int) (a1 : Int) (v2 : AV) (l2 : List (Nat)) (a3 : Int) (a4 : Int) (v5 : AV) (l5 : List (Nat)) (hs : Sep H (fr)) (g2 : ∀ H, Sep H fr → Shows H v2 1 (enc (eFlt .f32) l2)) (g5 : ∀ H, Sep H fr → Shows H v5 1 (enc (eFlt .f32) l5)) (K : Bool → Prop) (h : laws_eqPicture.wp a0 a1 l2 a3 a4 l5 K) : OkQ Try.prog 96 [(.g [(.int .i64 a0), (.int .i64 a1), v2]), (.g [(.int .i64 a3), (.int .i64 a4), v5])] H (fun r H2 => ∃ (y0 : Bool), K y0 ∧ r = (.v (.bool y0)) ∧ Sep H2 (fr)) := by
  unfold laws_eqPicture.wp at h
  refine of_body Try.f96 F.hm Try.func96 rfl Try.call96 (by kernel_rfl) (by simp) ?_
  refine fi_seq ?_
  refine fi_region ?_
  refine sv_box hs rfl (c := [(.int .i64 a0), (.int .i64 a1), v2]) rfl F96.inf50 (stc rfl (stc rfl (stc (g2 _ hs).stor stn))) nofun (fun id101 H102 hs => ?_)
  refine sv_box hs rfl (c := [(.int .i64 a3), (.int .i64 a4), v5]) rfl F96.inf50 (stc rfl (stc rfl (stc (g5 _ hs.tl).stor stn))) nofun (fun id104 H105 hs => ?_)
  refine so_assign (v := (.v (.bool false))) rfl ?_
  refine so_nil ?_
  refine fi_seq ?_
  refine fi_seq ?_
  refine fi_region ?_
  refine so_fieldAddr rfl F96.fd50_0 ?_
  refine sv_ld hs 1 rfl rfl rfl F96.ag2 ?_
  refine so_fieldAddr rfl F96.fd50_0 ?_
  refine sv_ld hs 0 rfl rfl rfl F96.ag2 ?_
  refine so_bin rfl rfl ab_neq ?_
  refine so_nil ?_
  replace h := ofP h; rcases h with ⟨c107, h⟩ | ⟨c107, h⟩
  · refine fi_false rfl (not_f (decide_eq_true c107)) ?_
    refine fi_skip ?_
    refine fi_seq ?_
    refine fi_seq ?_
    refine fi_region ?_
    refine so_fieldAddr rfl F96.fd50_1 ?_
    refine sv_ld hs 1 rfl rfl rfl F96.ag2 ?_
    refine so_fieldAddr rfl F96.fd50_1 ?_
    refine sv_ld hs 0 rfl rfl rfl F96.ag2 ?_
    refine so_bin rfl rfl ab_neq ?_
    refine so_nil ?_
    replace h := ofP h; rcases h with ⟨c108, h⟩ | ⟨c108, h⟩
    · refine fi_false rfl (not_f (decide_eq_true c108)) ?_
      refine fi_skip ?_
      refine fi_seq ?_
      refine fi_seq ?_
      refine fi_region ?_
      refine so_fieldAddr rfl F96.fd50_2 ?_
      refine sv_ld hs 1 rfl rfl rfl F96.ag37 ?_
      refine so_fieldAddr rfl F96.fd50_2 ?_
      refine sv_ld hs 0 rfl rfl rfl F96.ag37 ?_
      refine sv_callS (laws_eqFloat32S_ok v2 l2 v5 l5 hs (fun _ hs => (g2 _ hs.tl.tl)) (fun _ hs => (g5 _ hs.tl.tl)) _ h) (fun _ _ ⟨_, _, _, e⟩ => e) rfl rfl ?_
      clear h
      rintro _ _ ⟨y109, h, rfl, rfl⟩
      refine so_un rfl au_not ?_
      refine so_nil ?_
      replace h := ofT h; rcases h with ⟨c111, h⟩ | ⟨c111, h⟩
      · refine fi_false rfl (not_f c111) ?_
        refine fi_skip ?_
        refine fi_seq ?_
        refine fi_region ?_
        refine so_assign (v := (.v (.bool true))) rfl ?_
        refine so_nil ?_
        exact by_ret rfl ⟨_, h, rfl, (Sep.del 0 (Sep.del 0 hs))⟩
      · refine fi_true rfl (not_t c111) ?_
        refine fi_seq ?_
        refine fi_region ?_
        refine so_assign (v := (.v (.bool false))) rfl ?_
        refine so_nil ?_
        exact by_ret rfl ⟨_, h, rfl, (Sep.del 0 (Sep.del 0 hs))⟩
    · refine fi_true rfl (not_t (decide_eq_false c108)) ?_
      refine fi_seq ?_
      refine fi_region ?_
      refine so_assign (v := (.v (.bool false))) rfl ?_
      refine so_nil ?_
      exact by_ret rfl ⟨_, h, rfl, (Sep.del 0 (Sep.del 0 hs))⟩
  · refine fi_true rfl (not_t (decide_eq_false c107)) ?_
    refine fi_seq ?_
    refine fi_region ?_
    refine so_assign (v := (.v (.bool false))) rfl ?_
    refine so_nil ?_
    exact by_ret rfl ⟨_, h, rfl, (Sep.del 0 (Sep.del 0 hs))⟩

end Go.Proofs.Ytpeijfnfffogeaa.G

namespace Go.Proofs.Ytpeijfnfffogeaa.G
open Go Go.Ab Go.Proofs Go.Proofs.Ytpeijfnfffogeaa
set_option maxRecDepth 100000
set_option linter.unusedVariables false
set_option linter.unusedSimpArgs false
set_option maxHeartbeats 1000000
attribute [local irreducible] wops wopf Go.Ab.Fin
theorem F48.ag4 : tagg Try.prog 4 = some false := by kernel_rfl
theorem F48.tb4 : tbool Try.prog 4 = true := by kernel_rfl
theorem F48.ti42 : (telem Try.prog 42).isSome = true := by kernel_rfl
theorem F48.tl42 : (telem Try.prog 42).bind (tsz Try.prog) = some 1 := by kernel_rfl
theorem laws_eqBoolS_ok {fr : List Pc} {H : Heap} (v0 : AV) (l0 : List (Bool)) (v1 : AV) (l1 : List (Bool)) (hs : Sep H (fr)) (g0 : ∀ H, Sep H fr → Shows H v0 1 (enc eBool l0)) (g1 : ∀ H, Sep H fr → Shows H v1 1 (enc eBool l1)) (K : Bool → Prop) (h : laws_eqBoolS.wp l0 l1 K) : OkQ Try.prog 48 [(.v v0), (.v v1)] H (fun r H2 => ∃ (y0 : Bool), K y0 ∧ r = (.v (.bool y0)) ∧ H = H2) := by
  unfold laws_eqBoolS.wp at h
  refine of_body Try.f48 F.hm Try.func48 rfl Try.call48 (by kernel_rfl) (by simp) ?_
  refine fi_seq ?_
  refine fi_region ?_
  refine so_assign (v := (.v (.bool false))) rfl ?_
  refine so_nil ?_
  refine fi_seq ?_
  refine fi_seq ?_
  refine fi_region ?_
  refine so_move (v := (.v v0)) rfl ?_
  refine sv_len (g0 _ hs) (fun _ => rfl) (by decide) rfl F48.ti42 ?_
  refine so_move (v := (.v v1)) rfl ?_
  refine sv_len (g1 _ hs) (fun _ => rfl) (by decide) rfl F48.ti42 ?_
  refine so_bin rfl rfl ab_neq ?_
  refine so_nil ?_
  replace h := ofP h; rcases h with ⟨c101, h⟩ | ⟨c101, h⟩
  · refine fi_false rfl (not_f (decide_eq_true c101)) ?_
    refine fi_skip ?_
    refine fi_seq ?_
    refine fi_seq ?_
    refine fi_region ?_
    refine so_assign (v := (.v (.int .i64 (0 : Int)))) rfl ?_
    refine so_nil ?_
    refine fi_block ?_
    refine fi_loop ?_
    refine fi_at [(0, (.v v0)), (1, (.v v1)), (5, (.v (.int .i64 (0 : Int))))] ⟨rfl, rfl, rfl, trivial⟩ ?_
    refine h (fun (i103 : Int) => ∀ (s : Nat → TV), Fin _ _ (updL s [(0, (.v v0)), (1, (.v v1)), (5, (.v (.int .i64 i103)))]) _ _) ?_ _
    intro i103 h s108
    refine fi_inLoop ?_
    refine fi_seq ?_
    refine fi_seq ?_
    refine fi_region ?_
    refine so_move (v := (.v (.int .i64 i103))) rfl ?_
    refine so_move (v := (.v v0)) rfl ?_
    refine sv_len (g0 _ hs) (fun _ => rfl) (by decide) rfl F48.ti42 ?_
    refine so_bin rfl rfl ab_lss ?_
    refine so_nil ?_
    replace h := ofP h; rcases h with ⟨c104, h⟩ | ⟨c104, h⟩
    · refine fi_true rfl (decide_eq_true c104) ?_
      refine fi_skip ?_
      refine fi_seq ?_
      refine fi_block ?_
      refine fi_seq ?_
      refine fi_region ?_
      refine so_move (v := (.v v0)) rfl ?_
      refine so_move (v := (.v (.int .i64 i103))) rfl ?_
      obtain ⟨c105, h⟩ := h
      refine sv_idx (g0 _ hs) c105 (fun _ => rfl) (by decide) rfl rfl F48.tl42 ?_
      refine sv_cell (g0 _ hs) c105 false 0 (fun x => (AV.bool x)) (fun _ => rfl) (fun _ => rfl) rfl F48.ag4 ?_
      refine so_move (v := (.v v1)) rfl ?_
      refine so_move (v := (.v (.int .i64 i103))) rfl ?_
      obtain ⟨c106, h⟩ := h
      refine sv_idx (g1 _ hs) c106 (fun _ => rfl) (by decide) rfl rfl F48.tl42 ?_
      refine sv_cell (g1 _ hs) c106 false 0 (fun x => (AV.bool x)) (fun _ => rfl) (fun _ => rfl) rfl F48.ag4 ?_
      refine so_bin rfl rfl (ab_bneq F48.tb4) ?_
      refine so_nil ?_
      replace h := ofT h; rcases h with ⟨c107, h⟩ | ⟨c107, h⟩
      · refine fi_false rfl (not_f c107) ?_
        refine fi_skip ?_
        refine fi_inBlock ?_
        refine fi_region ?_
        refine so_move (v := (.v (.int .i64 i103))) rfl ?_
        refine so_bin rfl rfl ab_add ?_
        refine so_assign (v := (.v (.int .i64 (IntKind.i64.wrap (i103 + (1 : Int)))))) rfl ?_
        refine so_nil ?_
        exact fi_at [(0, (.v v0)), (1, (.v v1)), (5, (.v (.int .i64 (IntKind.i64.wrap (i103 + (1 : Int))))))] ⟨rfl, rfl, rfl, trivial⟩ (h _)
      · refine fi_true rfl (not_t c107) ?_
        refine fi_seq ?_
        refine fi_region ?_
        refine so_assign (v := (.v (.bool false))) rfl ?_
        refine so_nil ?_
        exact by_ret rfl ⟨_, h, rfl, rfl⟩
    · refine fi_false rfl (decide_eq_false c104) ?_
      refine fi_exit rfl ?_
      refine fi_seq ?_
      refine fi_region ?_
      refine so_assign (v := (.v (.bool true))) rfl ?_
      refine so_nil ?_
      exact by_ret rfl ⟨_, h, rfl, rfl⟩
  · refine fi_true rfl (not_t (decide_eq_false c101)) ?_
    refine fi_seq ?_
    refine fi_region ?_
    refine so_assign (v := (.v (.bool false))) rfl ?_
    refine so_nil ?_
    exact by_ret rfl ⟨_, h, rfl, rfl⟩

end Go.Proofs.Ytpeijfnfffogeaa.G

namespace Go.Proofs.Ytpeijfnfffogeaa.G
open Go Go.Ab Go.Proofs Go.Proofs.Ytpeijfnfffogeaa
set_option maxRecDepth 100000
set_option linter.unusedVariables false
set_option linter.unusedSimpArgs false
set_option maxHeartbeats 1000000
attribute [local irreducible] wops wopf Go.Ab.Fin
theorem F97.ag2 : tagg Try.prog 2 = some false := by kernel_rfl
theorem F97.ag42 : tagg Try.prog 42 = some false := by kernel_rfl
theorem F97.fd51_0 : tfield Try.prog 51 0 = some (0, 1, false) := by kernel_rfl
theorem F97.fd51_1 : tfield Try.prog 51 1 = some (1, 1, false) := by kernel_rfl
theorem F97.fd51_2 : tfield Try.prog 51 2 = some (2, 1, false) := by kernel_rfl
theorem F97.inf51 : (Try.prog.info? 51).isSome = true := by kernel_rfl
theorem laws_eqCoded_ok {fr : List Pc} {H : Heap} (a0 : Int) (a1 : Int) (v2 : AV) (l2 : List (Bool)) (a3 : Int) (a4 : Int) (v5 : AV) (l5 : List (Bool)) (hs : Sep H (fr)) (g2 : ∀ H, Sep H fr → Shows H v2 1 (enc eBool l2)) (g5 : ∀ H, Sep H fr → Shows H v5 1 (enc eBool l5)) (K : Bool → Prop) (h : laws_eqCoded.wp a0 a1 l2 a3 a4 l5 K) : OkQ Try.prog 97 [(.g [(.int .i64 a0), (.int .i64 a1), v2]), (.g [(.int .i64 a3), (.int .i64 a4), v5])] H (fun r H2 => ∃ (y0 : Bool), K y0 ∧ r = (.v (.bool y0)) ∧ Sep H2 (fr)) := by
  unfold laws_eqCoded.wp at h
  refine of_body Try.f97 F.hm Try.func97 rfl Try.call97 (by kernel_rfl) (by simp) ?_
  refine fi_seq ?_
  refine fi_region ?_
  refine sv_box hs rfl (c := [(.int .i64 a0), (.int .i64 a1), v2]) rfl F97.inf51 (stc rfl (stc rfl (stc (g2 _ hs).stor stn))) nofun (fun id101 H102 hs => ?_)
  refine sv_box hs rfl (c := [(.int .i64 a3), (.int .i64 a4), v5]) rfl F97.inf51 (stc rfl (stc rfl (stc (g5 _ hs.tl).stor stn))) nofun (fun id104 H105 hs => ?_)
  refine so_assign (v := (.v (.bool false))) rfl ?_
  refine so_nil ?_
  refine fi_seq ?_
  refine fi_seq ?_
  refine fi_region ?_
  refine so_fieldAddr rfl F97.fd51_0 ?_
  refine sv_ld hs 1 rfl rfl rfl F97.ag2 ?_
  refine so_fieldAddr rfl F97.fd51_0 ?_
  refine sv_ld hs 0 rfl rfl rfl F97.ag2 ?_
  refine so_bin rfl rfl ab_neq ?_
  refine so_nil ?_
  replace h := ofP h; rcases h with ⟨c107, h⟩ | ⟨c107, h⟩
  · refine fi_false rfl (not_f (decide_eq_true c107)) ?_
    refine fi_skip ?_
    refine fi_seq ?_
    refine fi_seq ?_
    refine fi_region ?_
    refine so_fieldAddr rfl F97.fd51_1 ?_
    refine sv_ld hs 1 rfl rfl rfl F97.ag2 ?_
    refine so_fieldAddr rfl F97.fd51_1 ?_
    refine sv_ld hs 0 rfl rfl rfl F97.ag2 ?_
    refine so_bin rfl rfl ab_neq ?_
    refine so_nil ?_
    replace h := ofP h; rcases h with ⟨c108, h⟩ | ⟨c108, h⟩
    · refine fi_false rfl (not_f (decide_eq_true c108)) ?_
      refine fi_skip ?_
      refine fi_seq ?_
      refine fi_seq ?_
      refine fi_region ?_
      refine so_fieldAddr rfl F97.fd51_2 ?_
      refine sv_ld hs 1 rfl rfl rfl F97.ag42 ?_
      refine so_fieldAddr rfl F97.fd51_2 ?_
      refine sv_ld hs 0 rfl rfl rfl F97.ag42 ?_
      refine sv_callS (laws_eqBoolS_ok v2 l2 v5 l5 hs (fun _ hs => (g2 _ hs.tl.tl)) (fun _ hs => (g5 _ hs.tl.tl)) _ h) (fun _ _ ⟨_, _, _, e⟩ => e) rfl rfl ?_
      clear h
      rintro _ _ ⟨y109, h, rfl, rfl⟩
      refine so_un rfl au_not ?_
      refine so_nil ?_
      replace h := ofT h; rcases h with ⟨c111, h⟩ | ⟨c111, h⟩
      · refine fi_false rfl (not_f c111) ?_
        refine fi_skip ?_
        refine fi_seq ?_
        refine fi_region ?_
        refine so_assign (v := (.v (.bool true))) rfl ?_
        refine so_nil ?_
        exact by_ret rfl ⟨_, h, rfl, (Sep.del 0 (Sep.del 0 hs))⟩
      · refine fi_true rfl (not_t c111) ?_
        refine fi_seq ?_
        refine fi_region ?_
        refine so_assign (v := (.v (.bool false))) rfl ?_
        refine so_nil ?_
        exact by_ret rfl ⟨_, h, rfl, (Sep.del 0 (Sep.del 0 hs))⟩
    · refine fi_true rfl (not_t (decide_eq_false c108)) ?_
      refine fi_seq ?_
      refine fi_region ?_
      refine so_assign (v := (.v (.bool false))) rfl ?_
      refine so_nil ?_
      exact by_ret rfl ⟨_, h, rfl, (Sep.del 0 (Sep.del 0 hs))⟩
  · refine fi_true rfl (not_t (decide_eq_false c107)) ?_
    refine fi_seq ?_
    refine fi_region ?_
    refine so_assign (v := (.v (.bool false))) rfl ?_
    refine so_nil ?_
    exact by_ret rfl ⟨_, h, rfl, (Sep.del 0 (Sep.del 0 hs))⟩

end Go.Proofs.Ytpeijfnfffogeaa.G

namespace Go.Proofs.Ytpeijfnfffogeaa.G
open Go Go.Ab Go.Proofs Go.Proofs.Ytpeijfnfffogeaa
set_option maxRecDepth 100000
set_option linter.unusedVariables false
set_option linter.unusedSimpArgs false
set_option maxHeartbeats 1000000
attribute [local irreducible] wops wopf Go.Ab.Fin
theorem F26.ag37 : tagg Try.prog 37 = some false := by kernel_rfl
theorem F26.ag49 : tagg Try.prog 49 = some true := by kernel_rfl
theorem F26.ag50 : tagg Try.prog 50 = some true := by kernel_rfl
theorem F26.ag51 : tagg Try.prog 51 = some true := by kernel_rfl
theorem F26.fd53_0 : tfield Try.prog 53 0 = some (0, 1, false) := by kernel_rfl
theorem F26.fd53_1 : tfield Try.prog 53 1 = some (1, 2, true) := by kernel_rfl
theorem F26.fd53_2 : tfield Try.prog 53 2 = some (3, 3, true) := by kernel_rfl
theorem F26.fd53_3 : tfield Try.prog 53 3 = some (6, 3, true) := by kernel_rfl
theorem F26.inf53 : (Try.prog.info? 53).isSome = true := by kernel_rfl
theorem F26.sz49 : tsz Try.prog 49 = some 2 := by kernel_rfl
theorem F26.sz50 : tsz Try.prog 50 = some 3 := by kernel_rfl
theorem F26.sz51 : tsz Try.prog 51 = some 3 := by kernel_rfl
theorem laws_eqDesk_ok {fr : List Pc} {H : Heap} (v0 : AV) (l0 : List (Nat)) (v1 : AV) (l1 : List (Nat)) (a2 : Nat) (a3 : Int) (a4 : Int) (v5 : AV) (l5 : List (Nat)) (a6 : Int) (a7 : Int) (v8 : AV) (l8 : List (Bool)) (v9 : AV) (l9 : List (Nat)) (v10 : AV) (l10 : List (Nat)) (a11 : Nat) (a12 : Int) (a13 : Int) (v14 : AV) (l14 : List (Nat)) (a15 : Int) (a16 : Int) (v17 : AV) (l17 : List (Bool)) (hs : Sep H (fr)) (g0 : ∀ H, Sep H fr → Shows H v0 1 (enc (eFlt .f32) l0)) (g1 : ∀ H, Sep H fr → Shows H v1 1 (enc (eFlt .f32) l1)) (g5 : ∀ H, Sep H fr → Shows H v5 1 (enc (eFlt .f32) l5)) (g8 : ∀ H, Sep H fr → Shows H v8 1 (enc eBool l8)) (g9 : ∀ H, Sep H fr → Shows H v9 1 (enc (eFlt .f32) l9)) (g10 : ∀ H, Sep H fr → Shows H v10 1 (enc (eFlt .f32) l10)) (g14 : ∀ H, Sep H fr → Shows H v14 1 (enc (eFlt .f32) l14)) (g17 : ∀ H, Sep H fr → Shows H v17 1 (enc eBool l17)) (K : Bool → Prop) (h : laws_eqDesk.wp l0 l1 a2 a3 a4 l5 a6 a7 l8 l9 l10 a11 a12 a13 l14 a15 a16 l17 K) : OkQ Try.prog 26 [(.g [v0, v1, (.flt .f32 a2), (.int .i64 a3), (.int .i64 a4), v5, (.int .i64 a6), (.int .i64 a7), v8]), (.g [v9, v10, (.flt .f32 a11), (.int .i64 a12), (.int .i64 a13), v14, (.int .i64 a15), (.int .i64 a16), v17])] H (fun r H2 => ∃ (y0 : Bool), K y0 ∧ r = (.v (.bool y0)) ∧ Sep H2 (fr)) := by
  unfold laws_eqDesk.wp at h
  refine of_body Try.f26 F.hm Try.func26 rfl Try.call26 (by kernel_rfl) (by simp) ?_
  refine fi_seq ?_
  refine fi_region ?_
  refine sv_box hs rfl (c := [v0, v1, (.flt .f32 a2), (.int .i64 a3), (.int .i64 a4), v5, (.int .i64 a6), (.int .i64 a7), v8]) rfl F26.inf53 (stc (g0 _ hs).stor (stc (g1 _ hs).stor (stc rfl (stc rfl (stc rfl (stc (g5 _ hs).stor (stc rfl (stc rfl (stc (g8 _ hs).stor stn))))))))) nofun (fun id101 H102 hs => ?_)
  refine sv_box hs rfl (c := [v9, v10, (.flt .f32 a11), (.int .i64 a12), (.int .i64 a13), v14, (.int .i64 a15), (.int .i64 a16), v17]) rfl F26.inf53 (stc (g9 _ hs.tl).stor (stc (g10 _ hs.tl).stor (stc rfl (stc rfl (stc rfl (stc (g14 _ hs.tl).stor (stc rfl (stc rfl (stc (g17 _ hs.tl).stor stn))))))))) nofun (fun id104 H105 hs => ?_)
  refine so_assign (v := (.v (.bool false))) rfl ?_
  refine so_nil ?_
  refine fi_seq ?_
  refine fi_seq ?_
  refine fi_region ?_
  refine so_fieldAddr rfl F26.fd53_0 ?_
  refine sv_ld hs 1 rfl rfl rfl F26.ag37 ?_
  refine so_fieldAddr rfl F26.fd53_0 ?_
  refine sv_ld hs 0 rfl rfl rfl F26.ag37 ?_
  refine sv_callS (laws_eqFloat32S_ok v0 l0 v9 l9 hs (fun _ hs => (g0 _ hs.tl.tl)) (fun _ hs => (g9 _ hs.tl.tl)) _ h) (fun _ _ ⟨_, _, _, e⟩ => e) rfl rfl ?_
  clear h
  rintro _ _ ⟨y107, h, rfl, rfl⟩
  refine so_un rfl au_not ?_
  refine so_nil ?_
  replace h := ofT h; rcases h with ⟨c109, h⟩ | ⟨c109, h⟩
  · refine fi_false rfl (not_f c109) ?_
    refine fi_skip ?_
    refine fi_seq ?_
    refine fi_seq ?_
    refine fi_region ?_
    refine so_fieldAddr rfl F26.fd53_1 ?_
    refine sv_lds hs 1 rfl rfl (leb rfl) rfl F26.ag49 F26.sz49 ?_
    refine so_fieldAddr rfl F26.fd53_1 ?_
    refine sv_lds hs 0 rfl rfl (leb rfl) rfl F26.ag49 F26.sz49 ?_
    refine sv_call (laws_eqScheme_ok v1 l1 a2 v10 l10 a11 hs (fun _ hs => (g1 _ hs.tl.tl)) (fun _ hs => (g10 _ hs.tl.tl)) _ h) rfl rfl nofun ?_
    clear h hs
    rintro _ H111 ⟨y110, h, rfl, hs⟩
    refine so_un rfl au_not ?_
    refine so_nil ?_
    replace h := ofT h; rcases h with ⟨c112, h⟩ | ⟨c112, h⟩
    · refine fi_false rfl (not_f c112) ?_
      refine fi_skip ?_
      refine fi_seq ?_
      refine fi_seq ?_
      refine fi_region ?_
      refine so_fieldAddr rfl F26.fd53_2 ?_
      refine sv_lds hs 1 rfl rfl (leb rfl) rfl F26.ag50 F26.sz50 ?_
      refine so_fieldAddr rfl F26.fd53_2 ?_
      refine sv_lds hs 0 rfl rfl (leb rfl) rfl F26.ag50 F26.sz50 ?_
      refine sv_call (laws_eqPicture_ok a3 a4 v5 l5 a12 a13 v14 l14 hs (fun _ hs => (g5 _ hs.tl.tl)) (fun _ hs => (g14 _ hs.tl.tl)) _ h) rfl rfl nofun ?_
      clear h hs
      rintro _ H114 ⟨y113, h, rfl, hs⟩
      refine so_un rfl au_not ?_
      refine so_nil ?_
      replace h := ofT h; rcases h with ⟨c115, h⟩ | ⟨c115, h⟩
      · refine fi_false rfl (not_f c115) ?_
        refine fi_skip ?_
        refine fi_seq ?_
        refine fi_seq ?_
        refine fi_region ?_
        refine so_fieldAddr rfl F26.fd53_3 ?_
        refine sv_lds hs 1 rfl rfl (leb rfl) rfl F26.ag51 F26.sz51 ?_
        refine so_fieldAddr rfl F26.fd53_3 ?_
        refine sv_lds hs 0 rfl rfl (leb rfl) rfl F26.ag51 F26.sz51 ?_
        refine sv_call (laws_eqCoded_ok a6 a7 v8 l8 a15 a16 v17 l17 hs (fun _ hs => (g8 _ hs.tl.tl)) (fun _ hs => (g17 _ hs.tl.tl)) _ h) rfl rfl nofun ?_
        clear h hs
        rintro _ H117 ⟨y116, h, rfl, hs⟩
        refine so_un rfl au_not ?_
        refine so_nil ?_
        replace h := ofT h; rcases h with ⟨c118, h⟩ | ⟨c118, h⟩
        · refine fi_false rfl (not_f c118) ?_
          refine fi_skip ?_
          refine fi_seq ?_
          refine fi_region ?_
          refine so_assign (v := (.v (.bool true))) rfl ?_
          refine so_nil ?_
          exact by_ret rfl ⟨_, h, rfl, (Sep.del 0 (Sep.del 0 hs))⟩
        · refine fi_true rfl (not_t c118) ?_
          refine fi_seq ?_
          refine fi_region ?_
          refine so_assign (v := (.v (.bool false))) rfl ?_
          refine so_nil ?_
          exact by_ret rfl ⟨_, h, rfl, (Sep.del 0 (Sep.del 0 hs))⟩
      · refine fi_true rfl (not_t c115) ?_
        refine fi_seq ?_
        refine fi_region ?_
        refine so_assign (v := (.v (.bool false))) rfl ?_
        refine so_nil ?_
        exact by_ret rfl ⟨_, h, rfl, (Sep.del 0 (Sep.del 0 hs))⟩
    · refine fi_true rfl (not_t c112) ?_
      refine fi_seq ?_
      refine fi_region ?_
      refine so_assign (v := (.v (.bool false))) rfl ?_
      refine so_nil ?_
      exact by_ret rfl ⟨_, h, rfl, (Sep.del 0 (Sep.del 0 hs))⟩
  · refine fi_true rfl (not_t c109) ?_
    refine fi_seq ?_
    refine fi_region ?_
    refine so_assign (v := (.v (.bool false))) rfl ?_
    refine so_nil ?_
    exact by_ret rfl ⟨_, h, rfl, (Sep.del 0 (Sep.del 0 hs))⟩

end Go.Proofs.Ytpeijfnfffogeaa.G

namespace Go.Proofs.Ytpeijfnfffogeaa.G
open Go Go.Ab Go.Proofs Go.Proofs.Ytpeijfnfffogeaa
set_option maxRecDepth 100000
set_option linter.unusedVariables false
set_option linter.unusedSimpArgs false
set_option maxHeartbeats 1000000
attribute [local irreducible] wops wopf Go.Ab.Fin
theorem F100.ag49 : tagg Try.prog 49 = some true := by kernel_rfl
theorem F100.bp49 : bplan Try.prog 49 = some ([.nilsl, (.flt .f32 (0 : Nat))], [(0, 1), (1, 1)]) := by kernel_rfl
theorem F100.sz25 : tsz Try.prog 25 = some 1 := by kernel_rfl
theorem F100.sz49 : tsz Try.prog 49 = some 2 := by kernel_rfl
theorem F100.te37 : telem Try.prog 37 = some 25 := by kernel_rfl
theorem F100.ze25 : tzero Try.prog 25 = some [(.flt .f32 (0 : Nat))] := by kernel_rfl
theorem F100.ze49 : tzero Try.prog 49 = some [.nilsl, (.flt .f32 (0 : Nat))] := by kernel_rfl
theorem spec_LinesScheme_ok {fr : List Pc} {H : Heap}  (hs : Sep H (fr))  (K : (List (Nat)) → Nat → Prop) (h : spec_LinesScheme.wp  K) : OkQ Try.prog 100 [] H (fun r H2 => ∃ (y0 : List (Nat)) (y1 : Nat), K y0 y1 ∧ ∃ (w0_ : AV), r = (.g [w0_, (.flt .f32 y1)]) ∧ Sep H2 (Pc.osl w0_ 1 (enc (eFlt .f32) y0) :: fr)) := by
  unfold spec_LinesScheme.wp at h
  refine of_body Try.f100 F.hm Try.func100 rfl Try.call100 (by kernel_rfl) (by simp) ?_
  refine fi_seq ?_
  refine fi_region ?_
  refine sv_alloc hs F100.ze49 rfl nofun (fun id101 H102 hs => ?_)
  refine so_nil ?_
  refine fi_seq ?_
  refine fi_region ?_
  refine sv_bslice hs (eFlt .f32) ([(cz .f32 3204448256), (cz .f32 1048576000)] : List (Nat)) [[(.flt .f32 (cz .f32 3204448256))], [(.flt .f32 (cz .f32 1048576000))]] F100.te37 F100.sz25 F100.ze25 rfl rfl rfl rfl (fun _ => rfl) rfl (by decide) nofun (fun v104 H105 nv104 hs => ?_)
  refine so_build F100.bp49 (cps := [(0, [v104]), (1, [(.flt .f32 (cz .f32 1065353216))])]) rfl (fac (stc (hs.shows 0 rfl).stor stn) (fac (stc rfl stn) fan)) rfl ?_
  refine sv_st hs 1 rfl rfl rfl (c := [v104, (.flt .f32 (cz .f32 1065353216))]) rfl F100.sz49 rfl (stc (hs.shows 0 rfl).stor (stc rfl stn)) (leb rfl) (cs' := [v104, (.flt .f32 (cz .f32 1065353216))]) rfl nofun (fun H107 hs => ?_)
  refine so_nil ?_
  exact by_ret (res_mk (ar_cells rfl F100.ag49 F100.sz49 (hs.lds 1 rfl (leb rfl) rfl) ar_nil) rfl) ⟨_, _, h, _, rfl, (Sep.del 1 hs)⟩

end Go.Proofs.Ytpeijfnfffogeaa.G

namespace Go.Proofs.Ytpeijfnfffogeaa.G
open Go Go.Ab Go.Proofs Go.Proofs.Ytpeijfnfffogeaa
set_option maxRecDepth 100000
set_option linter.unusedVariables false
set_option linter.unusedSimpArgs false
set_option maxHeartbeats 1000000
attribute [local irreducible] wops wopf Go.Ab.Fin
theorem F101.ag37 : tagg Try.prog 37 = some false := by kernel_rfl
theorem F101.ag50 : tagg Try.prog 50 = some true := by kernel_rfl
theorem F101.bp50 : bplan Try.prog 50 = some ([(.int .i64 (0 : Int)), (.int .i64 (0 : Int)), .nilsl], [(0, 1), (1, 1), (2, 1)]) := by kernel_rfl
theorem F101.fd50_2 : tfield Try.prog 50 2 = some (2, 1, false) := by kernel_rfl
theorem F101.sz25 : tsz Try.prog 25 = some 1 := by kernel_rfl
theorem F101.sz37 : tsz Try.prog 37 = some 1 := by kernel_rfl
theorem F101.sz50 : tsz Try.prog 50 = some 3 := by kernel_rfl
theorem F101.ta37_37 : tapp Try.prog 37 37 = some (1, 4) := by kernel_rfl
theorem F101.te37 : telem Try.prog 37 = some 25 := by kernel_rfl
theorem F101.ze25 : tzero Try.prog 25 = some [(.flt .f32 (0 : Nat))] := by kernel_rfl
theorem F101.ze50 : tzero Try.prog 50 = some [(.int .i64 (0 : Int)), (.int .i64 (0 : Int)), .nilsl] := by kernel_rfl
theorem spec_l04Step_ok {fr : List Pc} {H : Heap} (a0 : Int) (a1 : Int) (a2 : Int) (a3 : Nat) (a4 : Nat) (hs : Sep H (fr))  (K : Int → Int → (List (Nat)) → Prop) (h : spec_l04Step.wp a0 a1 a2 a3 a4 K) : OkQ Try.prog 101 [(.v (.int .i64 a0)), (.v (.int .i64 a1)), (.v (.int .i64 a2)), (.v (.flt .f32 a3)), (.v (.flt .f32 a4))] H (fun r H2 => ∃ (y0 : Int) (y1 : Int) (y2 : List (Nat)), K y0 y1 y2 ∧ ∃ (w0_ : AV), r = (.g [(.int .i64 y0), (.int .i64 y1), w0_]) ∧ Sep H2 (Pc.osl w0_ 1 (enc (eFlt .f32) y2) :: fr)) := by
  unfold spec_l04Step.wp at h
  refine of_body Try.f101 F.hm Try.func101 rfl Try.call101 (by kernel_rfl) (by simp) ?_
  refine fi_seq ?_
  refine fi_region ?_
  refine sv_alloc hs F101.ze50 rfl nofun (fun id101 H102 hs => ?_)
  refine so_nil ?_
  refine fi_seq ?_
  refine fi_region ?_
  refine so_move (v := (.v (.int .i64 a0))) rfl ?_
  refine so_move (v := (.v (.int .i64 a1))) rfl ?_
  refine sv_bslice hs (eFlt .f32) ([] : List (Nat)) [] F101.te37 F101.sz25 F101.ze25 rfl rfl rfl rfl (fun _ => rfl) rfl (by decide) nofun (fun v104 H105 nv104 hs => ?_)
  refine so_build F101.bp50 (cps := [(0, [(.int .i64 a0)]), (1, [(.int .i64 a1)]), (2, [v104])]) rfl (fac (stc rfl stn) (fac (stc rfl stn) (fac (stc (hs.shows 0 rfl).stor stn) fan))) rfl ?_
  refine sv_alloc hs F101.ze50 rfl nofun (fun id107 H108 hs => ?_)
  refine sv_st hs 0 rfl rfl rfl (c := [(.int .i64 a0), (.int .i64 a1), v104]) rfl F101.sz50 rfl (stc rfl (stc rfl (stc (hs.shows 1 rfl).stor stn))) (leb rfl) (cs' := [(.int .i64 a0), (.int .i64 a1), v104]) rfl nofun (fun H110 hs => ?_)
  refine so_nil ?_
  refine fi_seq ?_
  refine fi_seq ?_
  refine fi_region ?_
  refine so_assign (v := (.v (.int .i64 (0 : Int)))) rfl ?_
  refine so_nil ?_
  refine fi_block ?_
  refine fi_loop ?_
  refine fi_at [(0, (.v (.int .i64 a0))), (1, (.v (.int .i64 a1))), (2, (.v (.int .i64 a2))), (3, (.v (.flt .f32 a3))), (4, (.v (.flt .f32 a4))), (10, (.v (.ptr id101 0))), (11, (.v (.ptr id107 0))), (12, (.v (.int .i64 (0 : Int))))] ⟨rfl, rfl, rfl, rfl, rfl, rfl, rfl, rfl, trivial⟩ ?_
  refine h (fun (l132 : List (Nat)) (b134 : Int) (b135 : Int) (i136 : Int) => ∀ (s : Nat → TV) (H : Heap) (v133 : AV) (nv133 : v133 ≠ .nilsl), Sep H (Pc.box id107 [(.int .i64 b134), (.int .i64 b135), v133] :: Pc.osl v133 1 (enc (eFlt .f32) l132) :: Pc.box id101 [(.int .i64 (0 : Int)), (.int .i64 (0 : Int)), .nilsl] :: fr) → Fin _ _ (updL s [(0, (.v (.int .i64 a0))), (1, (.v (.int .i64 a1))), (2, (.v (.int .i64 a2))), (3, (.v (.flt .f32 a3))), (4, (.v (.flt .f32 a4))), (10, (.v (.ptr id101 0))), (11, (.v (.ptr id107 0))), (12, (.v (.int .i64 i136)))]) H _) ?_ _ _ _ nv104 hs
  intro l132 b134 b135 i136 h s155 H156 v133 nv133 hs
  refine fi_inLoop ?_
  refine fi_seq ?_
  refine fi_seq ?_
  refine fi_region ?_
  refine so_move (v := (.v (.int .i64 i136))) rfl ?_
  refine so_move (v := (.v (.int .i64 a0))) rfl ?_
  refine so_move (v := (.v (.int .i64 a1))) rfl ?_
  refine so_bin rfl rfl ab_mul ?_
  refine so_bin rfl rfl ab_lss ?_
  refine so_nil ?_
  replace h := ofP h; rcases h with ⟨c137, h⟩ | ⟨c137, h⟩
  · refine fi_true rfl (decide_eq_true c137) ?_
    refine fi_skip ?_
    refine fi_seq ?_
    refine fi_block ?_
    refine fi_seq ?_
    refine fi_region ?_
    refine so_move (v := (.v (.int .i64 i136))) rfl ?_
    refine so_move (v := (.v (.int .i64 a0))) rfl ?_
    obtain ⟨c138, h⟩ := h
    refine so_bin rfl rfl (ab_rem c138) ?_
    refine so_move (v := (.v (.int .i64 a2))) rfl ?_
    refine so_bin rfl rfl ab_lss ?_
    refine so_nil ?_
    replace h := ofP h; rcases h with ⟨c139, h⟩ | ⟨c139, h⟩
    · refine fi_true rfl (decide_eq_true c139) ?_
      refine fi_region ?_
      refine so_fieldAddr rfl F101.fd50_2 ?_
      refine sv_ld hs 0 rfl rfl rfl F101.ag37 ?_
      refine so_move (v := (.v (.flt .f32 a3))) rfl ?_
      refine sv_bslice hs (eFlt .f32) ([a3] : List (Nat)) [[(.flt .f32 a3)]] F101.te37 F101.sz25 F101.ze25 rfl rfl rfl rfl (fun _ => rfl) rfl (by decide) nofun (fun v140 H141 nv140 hs => ?_)
      obtain ⟨c145, h⟩ := h
      refine sv_app hs 2 rfl (hs.shows 0 rfl) (fun _ => rfl) (by decide) F101.ta37_37 (by decide) c145 rfl rfl nofun (fun v143 H144 kv143 hs => ?_)
      replace hs := hs.del 0
      have nv143 := kv143 nv133
      refine so_fieldAddr rfl F101.fd50_2 ?_
      refine sv_st hs 0 rfl rfl rfl (c := [v143]) rfl F101.sz37 rfl (stc (hs.shows 1 rfl).stor stn) (leb rfl) (cs' := [(.int .i64 b134), (.int .i64 b135), v143]) rfl nofun (fun H146 hs => ?_)
      refine so_nil ?_
      refine fi_inBlock ?_
      refine fi_region ?_
      refine so_move (v := (.v (.int .i64 i136))) rfl ?_
      refine so_bin rfl rfl ab_add ?_
      refine so_assign (v := (.v (.int .i64 (IntKind.i64.wrap (i136 + (1 : Int)))))) rfl ?_
      refine so_nil ?_
      exact fi_at [(0, (.v (.int .i64 a0))), (1, (.v (.int .i64 a1))), (2, (.v (.int .i64 a2))), (3, (.v (.flt .f32 a3))), (4, (.v (.flt .f32 a4))), (10, (.v (.ptr id101 0))), (11, (.v (.ptr id107 0))), (12, (.v (.int .i64 (IntKind.i64.wrap (i136 + (1 : Int))))))] ⟨rfl, rfl, rfl, rfl, rfl, rfl, rfl, rfl, trivial⟩ (h _ _ _ nv143 hs)
    · refine fi_false rfl (decide_eq_false c139) ?_
      refine fi_region ?_
      refine so_fieldAddr rfl F101.fd50_2 ?_
      refine sv_ld hs 0 rfl rfl rfl F101.ag37 ?_
      refine so_move (v := (.v (.flt .f32 a4))) rfl ?_
      refine sv_bslice hs (eFlt .f32) ([a4] : List (Nat)) [[(.flt .f32 a4)]] F101.te37 F101.sz25 F101.ze25 rfl rfl rfl rfl (fun _ => rfl) rfl (by decide) nofun (fun v147 H148 nv147 hs => ?_)
      obtain ⟨c152, h⟩ := h
      refine sv_app hs 2 rfl (hs.shows 0 rfl) (fun _ => rfl) (by decide) F101.ta37_37 (by decide) c152 rfl rfl nofun (fun v150 H151 kv150 hs => ?_)
      replace hs := hs.del 0
      have nv150 := kv150 nv133
      refine so_fieldAddr rfl F101.fd50_2 ?_
      refine sv_st hs 0 rfl rfl rfl (c := [v150]) rfl F101.sz37 rfl (stc (hs.shows 1 rfl).stor stn) (leb rfl) (cs' := [(.int .i64 b134), (.int .i64 b135), v150]) rfl nofun (fun H153 hs => ?_)
      refine so_nil ?_
      refine fi_inBlock ?_
      refine fi_region ?_
      refine so_move (v := (.v (.int .i64 i136))) rfl ?_
      refine so_bin rfl rfl ab_add ?_
      refine so_assign (v := (.v (.int .i64 (IntKind.i64.wrap (i136 + (1 : Int)))))) rfl ?_
      refine so_nil ?_
      exact fi_at [(0, (.v (.int .i64 a0))), (1, (.v (.int .i64 a1))), (2, (.v (.int .i64 a2))), (3, (.v (.flt .f32 a3))), (4, (.v (.flt .f32 a4))), (10, (.v (.ptr id101 0))), (11, (.v (.ptr id107 0))), (12, (.v (.int .i64 (IntKind.i64.wrap (i136 + (1 : Int))))))] ⟨rfl, rfl, rfl, rfl, rfl, rfl, rfl, rfl, trivial⟩ (h _ _ _ nv150 hs)
  · refine fi_false rfl (decide_eq_false c137) ?_
    refine fi_exit rfl ?_
    refine fi_seq ?_
    refine fi_region ?_
    refine sv_lds hs 0 rfl rfl (leb rfl) rfl F101.ag50 F101.sz50 ?_
    refine sv_st hs 2 rfl rfl rfl (c := [(.int .i64 b134), (.int .i64 b135), v133]) rfl F101.sz50 rfl (stc rfl (stc rfl (stc (hs.shows 1 rfl).stor stn))) (leb rfl) (cs' := [(.int .i64 b134), (.int .i64 b135), v133]) rfl nofun (fun H154 hs => ?_)
    refine so_nil ?_
    exact by_ret (res_mk (ar_cells rfl F101.ag50 F101.sz50 (hs.lds 2 rfl (leb rfl) rfl) ar_nil) rfl) ⟨_, _, _, h, _, rfl, (Sep.del 1 (Sep.del 0 hs))⟩

end Go.Proofs.Ytpeijfnfffogeaa.G

namespace Go.Proofs.Ytpeijfnfffogeaa.G
open Go Go.Ab Go.Proofs Go.Proofs.Ytpeijfnfffogeaa
set_option maxRecDepth 100000
set_option linter.unusedVariables false
set_option linter.unusedSimpArgs false
set_option maxHeartbeats 1000000
attribute [local irreducible] wops wopf Go.Ab.Fin
theorem spec_l06Abs_ok {fr : List Pc} {H : Heap} (a0 : Int) (hs : Sep H (fr))  (K : Int → Prop) (h : spec_l06Abs.wp a0 K) : OkQ Try.prog 178 [(.v (.int .i64 a0))] H (fun r H2 => ∃ (y0 : Int), K y0 ∧ r = (.v (.int .i64 y0)) ∧ H = H2) := by
  unfold spec_l06Abs.wp at h
  refine of_body Try.f178 F.hm Try.func178 rfl Try.call178 (by kernel_rfl) (by simp) ?_
  refine fi_seq ?_
  refine fi_region ?_
  refine so_assign (v := (.v (.int .i64 (0 : Int)))) rfl ?_
  refine so_nil ?_
  refine fi_seq ?_
  refine fi_seq ?_
  refine fi_region ?_
  refine so_move (v := (.v (.int .i64 a0))) rfl ?_
  refine so_bin rfl rfl ab_lss ?_
  refine so_nil ?_
  replace h := ofP h; rcases h with ⟨c101, h⟩ | ⟨c101, h⟩
  · refine fi_true rfl (decide_eq_true c101) ?_
    refine fi_seq ?_
    refine fi_region ?_
    refine so_move (v := (.v (.int .i64 a0))) rfl ?_
    refine so_un rfl au_neg ?_
    refine so_assign (v := (.v (.int .i64 (IntKind.i64.wrap (0 - a0))))) rfl ?_
    refine so_nil ?_
    exact by_ret rfl ⟨_, h, rfl, rfl⟩
  · refine fi_false rfl (decide_eq_false c101) ?_
    refine fi_skip ?_
    refine fi_seq ?_
    refine fi_region ?_
    refine so_move (v := (.v (.int .i64 a0))) rfl ?_
    refine so_assign (v := (.v (.int .i64 a0))) rfl ?_
    refine so_nil ?_
    exact by_ret rfl ⟨_, h, rfl, rfl⟩

end Go.Proofs.Ytpeijfnfffogeaa.G

namespace Go.Proofs.Ytpeijfnfffogeaa.G
open Go Go.Ab Go.Proofs Go.Proofs.Ytpeijfnfffogeaa
set_option maxRecDepth 100000
set_option linter.unusedVariables false
set_option linter.unusedSimpArgs false
set_option maxHeartbeats 1000000
attribute [local irreducible] wops wopf Go.Ab.Fin
theorem F132.ag2 : tagg Try.prog 2 = some false := by kernel_rfl
theorem F132.it204 : tint Try.prog 204 = some .u64 := by kernel_rfl
theorem F132.ti24 : (telem Try.prog 24).isSome = true := by kernel_rfl
theorem F132.tl24 : (telem Try.prog 24).bind (tsz Try.prog) = some 1 := by kernel_rfl
theorem F132.us2 : (Try.prog.underlying 2).isSome = true := by kernel_rfl
theorem spec_l06Planes_ok {fr : List Pc} {H : Heap} (v0 : AV) (l0 : List (Int)) (hs : Sep H (fr)) (g0 : ∀ H, Sep H fr → Shows H v0 1 (enc (eInt .i64) l0)) (K : Int → Prop) (h : spec_l06Planes.wp l0 K) : OkQ Try.prog 132 [(.v v0)] H (fun r H2 => ∃ (y0 : Int), K y0 ∧ r = (.v (.int .i64 y0)) ∧ H = H2) := by
  unfold spec_l06Planes.wp at h
  refine of_body Try.f132 F.hm Try.func132 rfl Try.call132 (by kernel_rfl) (by simp) ?_
  refine fi_seq ?_
  refine fi_region ?_
  refine so_assign (v := (.v (.int .i64 (0 : Int)))) rfl ?_
  refine so_nil ?_
  refine fi_seq ?_
  refine fi_region ?_
  refine so_assign (v := (.v (.int .i64 (0 : Int)))) rfl ?_
  refine so_nil ?_
  refine fi_seq ?_
  refine fi_seq ?_
  refine fi_region ?_
  refine so_assign (v := (.v (.int .i64 (0 : Int)))) rfl ?_
  refine so_nil ?_
  refine fi_block ?_
  refine fi_loop ?_
  refine fi_at [(0, (.v v0)), (3, (.v (.int .i64 (0 : Int)))), (4, (.v (.int .i64 (0 : Int))))] ⟨rfl, rfl, rfl, trivial⟩ ?_
  refine h (fun (n102 : Int) (i103 : Int) => ∀ (s : Nat → TV), Fin _ _ (updL s [(0, (.v v0)), (3, (.v (.int .i64 n102))), (4, (.v (.int .i64 i103)))]) _ _) ?_ _
  intro n102 i103 h s114
  refine fi_inLoop ?_
  refine fi_seq ?_
  refine fi_seq ?_
  refine fi_region ?_
  refine so_move (v := (.v (.int .i64 i103))) rfl ?_
  refine so_move (v := (.v v0)) rfl ?_
  refine sv_len (g0 _ hs) (fun _ => rfl) (by decide) rfl F132.ti24 ?_
  refine so_bin rfl rfl ab_lss ?_
  refine so_nil ?_
  replace h := ofP h; rcases h with ⟨c104, h⟩ | ⟨c104, h⟩
  · refine fi_true rfl (decide_eq_true c104) ?_
    refine fi_skip ?_
    refine fi_seq ?_
    refine fi_block ?_
    refine fi_block ?_
    refine fi_loop ?_
    refine fi_at [(0, (.v v0)), (3, (.v (.int .i64 n102))), (4, (.v (.int .i64 i103)))] ⟨rfl, rfl, rfl, trivial⟩ ?_
    refine h (fun (n106 : Int) => ∀ (s : Nat → TV), Fin _ _ (updL s [(0, (.v v0)), (3, (.v (.int .i64 n106))), (4, (.v (.int .i64 i103)))]) _ _) ?_ _
    intro n106 h s112
    refine fi_inLoop ?_
    refine fi_seq ?_
    refine fi_seq ?_
    refine fi_region ?_
    refine so_move (v := (.v v0)) rfl ?_
    refine so_move (v := (.v (.int .i64 i103))) rfl ?_
    obtain ⟨c107, h⟩ := h
    refine sv_idx (g0 _ hs) c107 (fun _ => rfl) (by decide) rfl rfl F132.tl24 ?_
    refine sv_cell (g0 _ hs) c107 (0 : Int) 0 (fun x => (AV.int .i64 x)) (fun _ => rfl) (fun _ => rfl) rfl F132.ag2 ?_
    refine sv_callS (spec_l06Abs_ok (l0.getD (i103).toNat (0 : Int)) hs  _ h) (fun _ _ ⟨_, _, _, e⟩ => e) rfl rfl ?_
    clear h
    rintro _ _ ⟨y108, h, rfl, rfl⟩
    refine so_move (v := (.v (.int .i64 n106))) rfl ?_
    refine sv_ii rfl F132.us2 F132.it204 ?_
    obtain ⟨c110, h⟩ := h
    refine so_bin rfl rfl (ab_shr c110) ?_
    refine so_bin rfl rfl ab_neq ?_
    refine so_nil ?_
    replace h := ofP h; rcases h with ⟨c111, h⟩ | ⟨c111, h⟩
    · refine fi_false rfl (not_f (decide_eq_true c111)) ?_
      refine fi_exit rfl ?_
      refine fi_inBlock ?_
      refine fi_region ?_
      refine so_move (v := (.v (.int .i64 i103))) rfl ?_
      refine so_bin rfl rfl ab_add ?_
      refine so_assign (v := (.v (.int .i64 (IntKind.i64.wrap (i103 + (1 : Int)))))) rfl ?_
      refine so_nil ?_
      exact fi_at [(0, (.v v0)), (3, (.v (.int .i64 n106))), (4, (.v (.int .i64 (IntKind.i64.wrap (i103 + (1 : Int))))))] ⟨rfl, rfl, rfl, trivial⟩ (h _)
    · refine fi_true rfl (not_t (decide_eq_false c111)) ?_
      refine fi_skip ?_
      refine fi_block ?_
      refine fi_region ?_
      refine so_move (v := (.v (.int .i64 n106))) rfl ?_
      refine so_bin rfl rfl ab_add ?_
      refine so_assign (v := (.v (.int .i64 (IntKind.i64.wrap (n106 + (1 : Int)))))) rfl ?_
      refine so_nil ?_
      refine fi_inBlock ?_
      exact fi_at [(0, (.v v0)), (3, (.v (.int .i64 (IntKind.i64.wrap (n106 + (1 : Int)))))), (4, (.v (.int .i64 i103)))] ⟨rfl, rfl, rfl, trivial⟩ (h _)
  · refine fi_false rfl (decide_eq_false c104) ?_
    refine fi_exit rfl ?_
    refine fi_seq ?_
    refine fi_region ?_
    refine so_move (v := (.v (.int .i64 n102))) rfl ?_
    refine so_assign (v := (.v (.int .i64 n102))) rfl ?_
    refine so_nil ?_
    exact by_ret rfl ⟨_, h, rfl, rfl⟩

end Go.Proofs.Ytpeijfnfffogeaa.G

namespace Go.Proofs.Ytpeijfnfffogeaa.G
open Go Go.Ab Go.Proofs Go.Proofs.Ytpeijfnfffogeaa
set_option maxRecDepth 100000
set_option linter.unusedVariables false
set_option linter.unusedSimpArgs false
set_option maxHeartbeats 1000000
attribute [local irreducible] wops wopf Go.Ab.Fin
theorem F177.it204 : tint Try.prog 204 = some .u64 := by kernel_rfl
theorem F177.us2 : (Try.prog.underlying 2).isSome = true := by kernel_rfl
theorem spec_l06Digit_ok {fr : List Pc} {H : Heap} (a0 : Int) (a1 : Int) (hs : Sep H (fr))  (K : Bool → Prop) (h : spec_l06Digit.wp a0 a1 K) : OkQ Try.prog 177 [(.v (.int .i64 a0)), (.v (.int .i64 a1))] H (fun r H2 => ∃ (y0 : Bool), K y0 ∧ r = (.v (.bool y0)) ∧ H = H2) := by
  unfold spec_l06Digit.wp at h
  refine of_body Try.f177 F.hm Try.func177 rfl Try.call177 (by kernel_rfl) (by simp) ?_
  refine fi_seq ?_
  refine fi_region ?_
  refine so_assign (v := (.v (.bool false))) rfl ?_
  refine so_nil ?_
  refine fi_seq ?_
  refine fi_region ?_
  refine so_move (v := (.v (.int .i64 a0))) rfl ?_
  refine sv_callS (spec_l06Abs_ok a0 hs  _ h) (fun _ _ ⟨_, _, _, e⟩ => e) rfl rfl ?_
  clear h
  rintro _ _ ⟨y101, h, rfl, rfl⟩
  refine so_move (v := (.v (.int .i64 a1))) rfl ?_
  refine sv_ii rfl F177.us2 F177.it204 ?_
  obtain ⟨c103, h⟩ := h
  refine so_bin rfl rfl (ab_shr c103) ?_
  refine so_bin rfl rfl ab_and ?_
  refine so_bin rfl rfl ab_eql ?_
  refine so_assign (v := (.v (.bool (decide ((ibits .and .i64 (Int.fdiv y101 (2 ^ (min ((IntKind.u64.wrap a1)).toNat IntKind.i64.bits))) (1 : Int)) = (1 : Int)))))) rfl ?_
  refine so_nil ?_
  exact by_ret rfl ⟨_, h, rfl, rfl⟩

end Go.Proofs.Ytpeijfnfffogeaa.G

namespace Go.Proofs.Ytpeijfnfffogeaa.G
open Go Go.Ab Go.Proofs Go.Proofs.Ytpeijfnfffogeaa
set_option maxRecDepth 100000
set_option linter.unusedVariables false
set_option linter.unusedSimpArgs false
set_option maxHeartbeats 1000000
attribute [local irreducible] wops wopf Go.Ab.Fin
theorem F102.ag2 : tagg Try.prog 2 = some false := by kernel_rfl
theorem F102.ag42 : tagg Try.prog 42 = some false := by kernel_rfl
theorem F102.ag51 : tagg Try.prog 51 = some true := by kernel_rfl
theorem F102.bp51 : bplan Try.prog 51 = some ([(.int .i64 (0 : Int)), (.int .i64 (0 : Int)), .nilsl], [(0, 1), (1, 1), (2, 1)]) := by kernel_rfl
theorem F102.fd51_1 : tfield Try.prog 51 1 = some (1, 1, false) := by kernel_rfl
theorem F102.fd51_2 : tfield Try.prog 51 2 = some (2, 1, false) := by kernel_rfl
theorem F102.it204 : tint Try.prog 204 = some .u64 := by kernel_rfl
theorem F102.sz4 : tsz Try.prog 4 = some 1 := by kernel_rfl
theorem F102.sz42 : tsz Try.prog 42 = some 1 := by kernel_rfl
theorem F102.sz51 : tsz Try.prog 51 = some 3 := by kernel_rfl
theorem F102.ta42_42 : tapp Try.prog 42 42 = some (1, 1) := by kernel_rfl
theorem F102.te42 : telem Try.prog 42 = some 4 := by kernel_rfl
theorem F102.ti24 : (telem Try.prog 24).isSome = true := by kernel_rfl
theorem F102.tl24 : (telem Try.prog 24).bind (tsz Try.prog) = some 1 := by kernel_rfl
theorem F102.us2 : (Try.prog.underlying 2).isSome = true := by kernel_rfl
theorem F102.ze4 : tzero Try.prog 4 = some [(.bool false)] := by kernel_rfl
theorem F102.ze51 : tzero Try.prog 51 = some [(.int .i64 (0 : Int)), (.int .i64 (0 : Int)), .nilsl] := by kernel_rfl
theorem spec_l06Code_ok {fr : List Pc} {H : Heap} (v0 : AV) (l0 : List (Int)) (a1 : Int) (hs : Sep H (fr)) (g0 : ∀ H, Sep H fr → Shows H v0 1 (enc (eInt .i64) l0)) (K : Int → Int → (List (Bool)) → Prop) (h : spec_l06Code.wp l0 a1 K) : OkQ Try.prog 102 [(.v v0), (.v (.int .i64 a1))] H (fun r H2 => ∃ (y0 : Int) (y1 : Int) (y2 : List (Bool)), K y0 y1 y2 ∧ ∃ (w0_ : AV), r = (.g [(.int .i64 y0), (.int .i64 y1), w0_]) ∧ Sep H2 (Pc.osl w0_ 1 (enc eBool y2) :: fr)) := by
  unfold spec_l06Code.wp at h
  refine of_body Try.f102 F.hm Try.func102 rfl Try.call102 (by kernel_rfl) (by simp) ?_
  refine fi_seq ?_
  refine fi_region ?_
  refine sv_alloc hs F102.ze51 rfl nofun (fun id101 H102 hs => ?_)
  refine so_nil ?_
  refine fi_seq ?_
  refine fi_region ?_
  refine so_move (v := (.v v0)) rfl ?_
  refine sv_len (g0 _ hs.tl) (fun _ => rfl) (by decide) rfl F102.ti24 ?_
  refine so_move (v := (.v v0)) rfl ?_
  refine sv_callS (spec_l06Planes_ok v0 l0 hs (fun _ hs => (g0 _ hs.tl)) _ h) (fun _ _ ⟨_, _, _, e⟩ => e) rfl rfl ?_
  clear h
  rintro _ _ ⟨y104, h, rfl, rfl⟩
  refine sv_bslice hs eBool ([] : List (Bool)) [] F102.te42 F102.sz4 F102.ze4 rfl rfl rfl rfl (fun _ => rfl) rfl (by decide) nofun (fun v106 H107 nv106 hs => ?_)
  refine so_build F102.bp51 (cps := [(0, [(.int .i64 (l0.length : Int))]), (1, [(.int .i64 y104)]), (2, [v106])]) rfl (fac (stc rfl stn) (fac (stc rfl stn) (fac (stc (hs.shows 0 rfl).stor stn) fan))) rfl ?_
  refine sv_alloc hs F102.ze51 rfl nofun (fun id109 H110 hs => ?_)
  refine sv_st hs 0 rfl rfl rfl (c := [(.int .i64 (l0.length : Int)), (.int .i64 y104), v106]) rfl F102.sz51 rfl (stc rfl (stc rfl (stc (hs.shows 1 rfl).stor stn))) (leb rfl) (cs' := [(.int .i64 (l0.length : Int)), (.int .i64 y104), v106]) rfl nofun (fun H112 hs => ?_)
  refine so_nil ?_
  refine fi_seq ?_
  refine fi_seq ?_
  refine fi_region ?_
  refine so_fieldAddr rfl F102.fd51_1 ?_
  refine sv_ld hs 0 rfl rfl rfl F102.ag2 ?_
  refine so_bin rfl rfl ab_sub ?_
  refine so_assign (v := (.v (.int .i64 (IntKind.i64.wrap (y104 - (1 : Int)))))) rfl ?_
  refine so_nil ?_
  refine fi_block ?_
  refine fi_loop ?_
  refine fi_at [(0, (.v v0)), (1, (.v (.int .i64 a1))), (4, (.v (.ptr id101 0))), (5, (.v (.ptr id109 0))), (6, (.v (.int .i64 (IntKind.i64.wrap (y104 - (1 : Int))))))] ⟨rfl, rfl, rfl, rfl, rfl, trivial⟩ ?_
  refine h (fun (l174 : List (Bool)) (b176 : Int) (b177 : Int) (k178 : Int) => ∀ (s : Nat → TV) (H : Heap) (v175 : AV) (nv175 : v175 ≠ .nilsl), Sep H (Pc.box id109 [(.int .i64 b176), (.int .i64 b177), v175] :: Pc.osl v175 1 (enc eBool l174) :: Pc.box id101 [(.int .i64 (0 : Int)), (.int .i64 (0 : Int)), .nilsl] :: fr) → Fin _ _ (updL s [(0, (.v v0)), (1, (.v (.int .i64 a1))), (4, (.v (.ptr id101 0))), (5, (.v (.ptr id109 0))), (6, (.v (.int .i64 k178)))]) H _) ?_ _ _ _ nv106 hs
  intro l174 b176 b177 k178 h s239 H240 v175 nv175 hs
  refine fi_inLoop ?_
  refine fi_seq ?_
  refine fi_seq ?_
  refine fi_region ?_
  refine so_move (v := (.v (.int .i64 k178))) rfl ?_
  refine so_move (v := (.v (.int .i64 a1))) rfl ?_
  refine so_bin rfl rfl ab_geq ?_
  refine so_nil ?_
  replace h := ofP h; rcases h with ⟨c179, h⟩ | ⟨c179, h⟩
  · refine fi_true rfl (decide_eq_true c179) ?_
    refine fi_skip ?_
    refine fi_seq ?_
    refine fi_block ?_
    refine fi_seq ?_
    refine fi_region ?_
    refine so_assign (v := (.v (.int .i64 (0 : Int)))) rfl ?_
    refine so_nil ?_
    refine fi_block ?_
    refine fi_loop ?_
    refine fi_at [(0, (.v v0)), (1, (.v (.int .i64 a1))), (4, (.v (.ptr id101 0))), (5, (.v (.ptr id109 0))), (6, (.v (.int .i64 k178))), (7, (.v (.int .i64 (0 : Int))))] ⟨rfl, rfl, rfl, rfl, rfl, rfl, trivial⟩ ?_
    refine h (fun (l208 : List (Bool)) (b210 : Int) (b211 : Int) (i212 : Int) => ∀ (s : Nat → TV) (H : Heap) (v209 : AV) (nv209 : v209 ≠ .nilsl), Sep H (Pc.box id109 [(.int .i64 b210), (.int .i64 b211), v209] :: Pc.osl v209 1 (enc eBool l208) :: Pc.box id101 [(.int .i64 (0 : Int)), (.int .i64 (0 : Int)), .nilsl] :: fr) → Fin _ _ (updL s [(0, (.v v0)), (1, (.v (.int .i64 a1))), (4, (.v (.ptr id101 0))), (5, (.v (.ptr id109 0))), (6, (.v (.int .i64 k178))), (7, (.v (.int .i64 i212)))]) H _) ?_ _ _ _ nv175 hs
    intro l208 b210 b211 i212 h s236 H237 v209 nv209 hs
    refine fi_inLoop ?_
    refine fi_seq ?_
    refine fi_seq ?_
    refine fi_region ?_
    refine so_move (v := (.v (.int .i64 i212))) rfl ?_
    refine so_move (v := (.v v0)) rfl ?_
    refine sv_len (g0 _ hs.tl.tl.tl) (fun _ => rfl) (by decide) rfl F102.ti24 ?_
    refine so_bin rfl rfl ab_lss ?_
    refine so_nil ?_
    replace h := ofP h; rcases h with ⟨c213, h⟩ | ⟨c213, h⟩
    · refine fi_true rfl (decide_eq_true c213) ?_
      refine fi_skip ?_
      refine fi_seq ?_
      refine fi_block ?_
      refine fi_seq ?_
      refine fi_region ?_
      refine so_move (v := (.v v0)) rfl ?_
      refine so_move (v := (.v (.int .i64 i212))) rfl ?_
      obtain ⟨c214, h⟩ := h
      refine sv_idx (g0 _ hs.tl.tl.tl) c214 (fun _ => rfl) (by decide) rfl rfl F102.tl24 ?_
      refine sv_cell (g0 _ hs.tl.tl.tl) c214 (0 : Int) 0 (fun x => (AV.int .i64 x)) (fun _ => rfl) (fun _ => rfl) rfl F102.ag2 ?_
      refine so_move (v := (.v (.int .i64 k178))) rfl ?_
      refine sv_callS (spec_l06Digit_ok (l0.getD (i212).toNat (0 : Int)) k178 hs  _ h) (fun _ _ ⟨_, _, _, e⟩ => e) rfl rfl ?_
      clear h
      rintro _ _ ⟨y215, h, rfl, rfl⟩
      refine so_assign (v := (.v (.bool y215))) rfl ?_
      refine so_nil ?_
      refine fi_seq ?_
      refine fi_region ?_
      refine so_fieldAddr rfl F102.fd51_2 ?_
      refine sv_ld hs 0 rfl rfl rfl F102.ag42 ?_
      refine so_move (v := (.v (.bool y215))) rfl ?_
      refine sv_bslice hs eBool ([y215] : List (Bool)) [[(.bool y215)]] F102.te42 F102.sz4 F102.ze4 rfl rfl rfl rfl (fun _ => rfl) rfl (by decide) nofun (fun v217 H218 nv217 hs => ?_)
      obtain ⟨c222, h⟩ := h
      refine sv_app hs 2 rfl (hs.shows 0 rfl) (fun _ => rfl) (by decide) F102.ta42_42 (by decide) c222 rfl rfl nofun (fun v220 H221 kv220 hs => ?_)
      replace hs := hs.del 0
      have nv220 := kv220 nv209
      refine so_fieldAddr rfl F102.fd51_2 ?_
      refine sv_st hs 0 rfl rfl rfl (c := [v220]) rfl F102.sz42 rfl (stc (hs.shows 1 rfl).stor stn) (leb rfl) (cs' := [(.int .i64 b210), (.int .i64 b211), v220]) rfl nofun (fun H223 hs => ?_)
      refine so_nil ?_
      refine fi_seq ?_
      refine fi_region ?_
      refine so_move (v := (.v (.bool y215))) rfl ?_
      refine so_move (v := (.v (.bool y215))) rfl ?_
      replace h := ofT h; rcases h with ⟨c224, h⟩ | ⟨c224, h⟩
      · refine so_gyes rfl c224 ?_
        refine so_move (v := (.v v0)) rfl ?_
        refine so_gyes rfl c224 ?_
        refine so_move (v := (.v (.int .i64 i212))) rfl ?_
        refine so_gyes rfl c224 ?_
        refine sv_idx (g0 _ hs.tl.tl.tl) c214 (fun _ => rfl) (by decide) rfl rfl F102.tl24 ?_
        refine so_gyes rfl c224 ?_
        refine sv_cell (g0 _ hs.tl.tl.tl) c214 (0 : Int) 0 (fun x => (AV.int .i64 x)) (fun _ => rfl) (fun _ => rfl) rfl F102.ag2 ?_
        refine so_gyes rfl c224 ?_
        refine sv_callS (spec_l06Abs_ok (l0.getD (i212).toNat (0 : Int)) hs  _ h) (fun _ _ ⟨_, _, _, e⟩ => e) rfl rfl ?_
        clear h
        rintro _ _ ⟨y225, h, rfl, rfl⟩
        refine so_gyes rfl c224 ?_
        refine so_move (v := (.v (.int .i64 k178))) rfl ?_
        refine so_gyes rfl c224 ?_
        refine so_bin rfl rfl ab_add ?_
        refine so_gyes rfl c224 ?_
        refine sv_ii rfl F102.us2 F102.it204 ?_
        refine so_gyes rfl c224 ?_
        obtain ⟨c227, h⟩ := h
        refine so_bin rfl rfl (ab_shr c227) ?_
        refine so_gyes rfl c224 ?_
        refine so_bin rfl rfl ab_eql ?_
        refine so_pick_t (v := (.v (.bool (decide ((Int.fdiv y225 (2 ^ (min ((IntKind.u64.wrap (IntKind.i64.wrap (k178 + (1 : Int))))).toNat IntKind.i64.bits))) = (0 : Int)))))) rfl c224 rfl ?_
        refine so_nil ?_
        replace h := ofP h; rcases h with ⟨c228, h⟩ | ⟨c228, h⟩
        · refine fi_true rfl (decide_eq_true c228) ?_
          refine fi_free [1] ?_
          refine wf_pure rfl (by kernel_rfl) ?_
          refine so_fieldAddr rfl F102.fd51_2 ?_
          refine so_end ?_
          refine wf_free (.v v220) rfl (by kernel_rfl) (stepr (i := 0) rfl (by refine sv_ld hs 0 rfl rfl rfl F102.ag42 ?_; exact so_end ⟨rfl, rfl⟩)) fan ?_
          refine wf_pure rfl (by kernel_rfl) ?_
          refine so_move (v := (.v v0)) rfl ?_
          refine so_end ?_
          refine wf_pure rfl (by kernel_rfl) ?_
          refine so_move (v := (.v (.int .i64 i212))) rfl ?_
          refine so_end ?_
          refine wf_same (by decide +kernel) (by kernel_rfl) ?_
          refine sv_idx (g0 _ hs.tl.tl.tl) c214 (fun _ => rfl) (by decide) rfl rfl F102.tl24 ?_
          refine so_end ⟨rfl, ?_⟩
          refine wf_same (by decide +kernel) (by kernel_rfl) ?_
          refine sv_cell (g0 _ hs.tl.tl.tl) c214 (0 : Int) 0 (fun x => (AV.int .i64 x)) (fun _ => rfl) (fun _ => rfl) rfl F102.ag2 ?_
          refine so_end ⟨rfl, ?_⟩
          refine wf_pure rfl (by kernel_rfl) ?_
          refine so_bin rfl rfl ab_lss ?_
          refine so_end ?_
          have hs0_ := hs
          refine wf_chg (by kernel_rfl) ?_
          refine sv_bslice hs eBool ([(decide ((l0.getD (i212).toNat (0 : Int)) < (0 : Int)))] : List (Bool)) [[(.bool (decide ((l0.getD (i212).toNat (0 : Int)) < (0 : Int))))]] F102.te42 F102.sz4 F102.ze4 rfl rfl rfl rfl (fun _ => rfl) rfl (by decide) nofun (fun v229 H230 nv229 hs => ?_)
          refine so_end ⟨(fac (.inr (stepr (i := 0) rfl (by refine sv_ld hs 1 rfl rfl rfl F102.ag42 ?_; exact so_end ⟨rfl, rfl⟩))) fan), ?_⟩
          have hs1_ := hs
          refine wf_chg (by kernel_rfl) ?_
          obtain ⟨c234, h⟩ := h
          refine sv_app hs 2 rfl (hs.shows 0 rfl) (fun _ => rfl) (by decide) F102.ta42_42 (by decide) c234 rfl rfl nofun (fun v232 H233 kv232 hs => ?_)
          replace hs := hs.del 0
          have nv232 := kv232 nv220
          refine so_end ⟨(fac (.inl ⟨8, by kernel_rfl⟩) fan), ?_⟩
          refine wf_pure rfl (by kernel_rfl) ?_
          refine so_fieldAddr rfl F102.fd51_2 ?_
          refine so_end ?_
          have hs2_ := hs
          refine wf_chg (by kernel_rfl) ?_
          refine sv_st hs 0 rfl rfl rfl (c := [v232]) rfl F102.sz42 rfl (stc (hs.shows 1 rfl).stor stn) (leb rfl) (cs' := [(.int .i64 b210), (.int .i64 b211), v232]) rfl nofun (fun H235 hs => ?_)
          refine so_end ⟨(fac (.inl ⟨8, by kernel_rfl⟩) fan), ?_⟩
          refine wf_nil ?_
          refine fi_inBlock ?_
          refine fi_region ?_
          refine so_move (v := (.v (.int .i64 i212))) rfl ?_
          refine so_bin rfl rfl ab_add ?_
          refine so_assign (v := (.v (.int .i64 (IntKind.i64.wrap (i212 + (1 : Int)))))) rfl ?_
          refine so_nil ?_
          exact fi_at [(0, (.v v0)), (1, (.v (.int .i64 a1))), (4, (.v (.ptr id101 0))), (5, (.v (.ptr id109 0))), (6, (.v (.int .i64 k178))), (7, (.v (.int .i64 (IntKind.i64.wrap (i212 + (1 : Int))))))] ⟨rfl, rfl, rfl, rfl, rfl, rfl, trivial⟩ (h _ _ _ nv232 hs)
        · refine fi_false rfl (decide_eq_false c228) ?_
          refine fi_skip ?_
          refine fi_inBlock ?_
          refine fi_region ?_
          refine so_move (v := (.v (.int .i64 i212))) rfl ?_
          refine so_bin rfl rfl ab_add ?_
          refine so_assign (v := (.v (.int .i64 (IntKind.i64.wrap (i212 + (1 : Int)))))) rfl ?_
          refine so_nil ?_
          exact fi_at [(0, (.v v0)), (1, (.v (.int .i64 a1))), (4, (.v (.ptr id101 0))), (5, (.v (.ptr id109 0))), (6, (.v (.int .i64 k178))), (7, (.v (.int .i64 (IntKind.i64.wrap (i212 + (1 : Int))))))] ⟨rfl, rfl, rfl, rfl, rfl, rfl, trivial⟩ (h _ _ _ nv220 hs)
      · refine so_gno rfl c224 ?_
        refine so_gno rfl c224 ?_
        refine so_gno rfl c224 ?_
        refine so_gno rfl c224 ?_
        refine so_gno rfl c224 ?_
        refine so_gno rfl c224 ?_
        refine so_gno rfl c224 ?_
        refine so_gno rfl c224 ?_
        refine so_gno rfl c224 ?_
        refine so_gno rfl c224 ?_
        refine so_pick_f (v := (.v (.bool false))) rfl c224 rfl ?_
        refine so_nil ?_
        refine fi_false rfl rfl ?_
        refine fi_skip ?_
        refine fi_inBlock ?_
        refine fi_region ?_
        refine so_move (v := (.v (.int .i64 i212))) rfl ?_
        refine so_bin rfl rfl ab_add ?_
        refine so_assign (v := (.v (.int .i64 (IntKind.i64.wrap (i212 + (1 : Int)))))) rfl ?_
        refine so_nil ?_
        exact fi_at [(0, (.v v0)), (1, (.v (.int .i64 a1))), (4, (.v (.ptr id101 0))), (5, (.v (.ptr id109 0))), (6, (.v (.int .i64 k178))), (7, (.v (.int .i64 (IntKind.i64.wrap (i212 + (1 : Int))))))] ⟨rfl, rfl, rfl, rfl, rfl, rfl, trivial⟩ (h _ _ _ nv220 hs)
    · refine fi_false rfl (decide_eq_false c213) ?_
      refine fi_exit rfl ?_
      refine fi_inBlock ?_
      refine fi_region ?_
      refine so_move (v := (.v (.int .i64 k178))) rfl ?_
      refine so_bin rfl rfl ab_sub ?_
      refine so_assign (v := (.v (.int .i64 (IntKind.i64.wrap (k178 - (1 : Int)))))) rfl ?_
      refine so_nil ?_
      exact fi_at [(0, (.v v0)), (1, (.v (.int .i64 a1))), (4, (.v (.ptr id101 0))), (5, (.v (.ptr id109 0))), (6, (.v (.int .i64 (IntKind.i64.wrap (k178 - (1 : Int))))))] ⟨rfl, rfl, rfl, rfl, rfl, trivial⟩ (h _ _ _ nv209 hs)
  · refine fi_false rfl (decide_eq_false c179) ?_
    refine fi_exit rfl ?_
    refine fi_seq ?_
    refine fi_region ?_
    refine sv_lds hs 0 rfl rfl (leb rfl) rfl F102.ag51 F102.sz51 ?_
    refine sv_st hs 2 rfl rfl rfl (c := [(.int .i64 b176), (.int .i64 b177), v175]) rfl F102.sz51 rfl (stc rfl (stc rfl (stc (hs.shows 1 rfl).stor stn))) (leb rfl) (cs' := [(.int .i64 b176), (.int .i64 b177), v175]) rfl nofun (fun H238 hs => ?_)
    refine so_nil ?_
    exact by_ret (res_mk (ar_cells rfl F102.ag51 F102.sz51 (hs.lds 2 rfl (leb rfl) rfl) ar_nil) rfl) ⟨_, _, _, h, _, rfl, (Sep.del 1 (Sep.del 0 hs))⟩

end Go.Proofs.Ytpeijfnfffogeaa.G

namespace Go.Proofs.Ytpeijfnfffogeaa.G
open Go Go.Ab Go.Proofs Go.Proofs.Ytpeijfnfffogeaa
set_option maxRecDepth 100000
set_option linter.unusedVariables false
set_option linter.unusedSimpArgs false
set_option maxHeartbeats 1000000
attribute [local irreducible] wops wopf Go.Ab.Fin
theorem F32.ag53 : tagg Try.prog 53 = some true := by kernel_rfl
theorem F32.bp53 : bplan Try.prog 53 = some ([.nilsl, .nilsl, (.flt .f32 (0 : Nat)), (.int .i64 (0 : Int)), (.int .i64 (0 : Int)), .nilsl, (.int .i64 (0 : Int)), (.int .i64 (0 : Int)), .nilsl], [(0, 1), (1, 2), (3, 3), (6, 3)]) := by kernel_rfl
theorem F32.fd53_2 : tfield Try.prog 53 2 = some (3, 3, true) := by kernel_rfl
theorem F32.fd53_3 : tfield Try.prog 53 3 = some (6, 3, true) := by kernel_rfl
theorem F32.sz2 : tsz Try.prog 2 = some 1 := by kernel_rfl
theorem F32.sz25 : tsz Try.prog 25 = some 1 := by kernel_rfl
theorem F32.sz50 : tsz Try.prog 50 = some 3 := by kernel_rfl
theorem F32.sz51 : tsz Try.prog 51 = some 3 := by kernel_rfl
theorem F32.sz53 : tsz Try.prog 53 = some 9 := by kernel_rfl
theorem F32.te24 : telem Try.prog 24 = some 2 := by kernel_rfl
theorem F32.te37 : telem Try.prog 37 = some 25 := by kernel_rfl
theorem F32.ze2 : tzero Try.prog 2 = some [(.int .i64 (0 : Int))] := by kernel_rfl
theorem F32.ze25 : tzero Try.prog 25 = some [(.flt .f32 (0 : Nat))] := by kernel_rfl
theorem F32.ze53 : tzero Try.prog 53 = some [.nilsl, .nilsl, (.flt .f32 (0 : Nat)), (.int .i64 (0 : Int)), (.int .i64 (0 : Int)), .nilsl, (.int .i64 (0 : Int)), (.int .i64 (0 : Int)), .nilsl] := by kernel_rfl
theorem spec_NewDesk_ok {fr : List Pc} {H : Heap}  (hs : Sep H (fr))  (K : (List (Nat)) → (List (Nat)) → Nat → Int → Int → (List (Nat)) → Int → Int → (List (Bool)) → Prop) (h : spec_NewDesk.wp  K) : OkQ Try.prog 32 [] H (fun r H2 => ∃ (y0 : List (Nat)) (y1 : List (Nat)) (y2 : Nat) (y3 : Int) (y4 : Int) (y5 : List (Nat)) (y6 : Int) (y7 : Int) (y8 : List (Bool)), K y0 y1 y2 y3 y4 y5 y6 y7 y8 ∧ ∃ (w0_ : AV) (w1_ : AV) (w2_ : AV) (w3_ : AV), r = (.g [w0_, w1_, (.flt .f32 y2), (.int .i64 y3), (.int .i64 y4), w2_, (.int .i64 y6), (.int .i64 y7), w3_]) ∧ Sep H2 (Pc.osl w0_ 1 (enc (eFlt .f32) y0) :: Pc.osl w1_ 1 (enc (eFlt .f32) y1) :: Pc.osl w2_ 1 (enc (eFlt .f32) y5) :: Pc.osl w3_ 1 (enc eBool y8) :: fr)) := by
  unfold spec_NewDesk.wp at h
  refine of_body Try.f32 F.hm Try.func32 rfl Try.call32 (by kernel_rfl) (by simp) ?_
  refine fi_seq ?_
  refine fi_region ?_
  refine sv_alloc hs F32.ze53 rfl nofun (fun id101 H102 hs => ?_)
  refine so_nil ?_
  refine fi_seq ?_
  refine fi_region ?_
  refine sv_bslice hs (eFlt .f32) ([(cz .f32 1065353216), (cz .f32 1077936128), (cz .f32 1073741824)] : List (Nat)) [[(.flt .f32 (cz .f32 1065353216))], [(.flt .f32 (cz .f32 1077936128))], [(.flt .f32 (cz .f32 1073741824))]] F32.te37 F32.sz25 F32.ze25 rfl rfl rfl rfl (fun _ => rfl) rfl (by decide) nofun (fun v104 H105 nv104 hs => ?_)
  refine sv_call (spec_LinesScheme_ok  hs  _ h) rfl rfl nofun ?_
  clear h hs
  rintro _ H111 ⟨y107, y110, h, v108, rfl, hs⟩
  refine so_build F32.bp53 (cps := [(0, [v104]), (1, [v108, (.flt .f32 y110)])]) rfl (fac (stc (hs.shows 1 rfl).stor stn) (fac (stc (hs.shows 0 rfl).stor (stc rfl stn)) fan)) rfl ?_
  refine sv_alloc hs F32.ze53 rfl nofun (fun id112 H113 hs => ?_)
  refine sv_st hs 0 rfl rfl rfl (c := [v104, v108, (.flt .f32 y110), (.int .i64 (0 : Int)), (.int .i64 (0 : Int)), .nilsl, (.int .i64 (0 : Int)), (.int .i64 (0 : Int)), .nilsl]) rfl F32.sz53 rfl (stc (hs.shows 2 rfl).stor (stc (hs.shows 1 rfl).stor (stc rfl (stc rfl (stc rfl (stc rfl (stc rfl (stc rfl (stc rfl stn))))))))) (leb rfl) (cs' := [v104, v108, (.flt .f32 y110), (.int .i64 (0 : Int)), (.int .i64 (0 : Int)), .nilsl, (.int .i64 (0 : Int)), (.int .i64 (0 : Int)), .nilsl]) rfl nofun (fun H115 hs => ?_)
  refine so_nil ?_
  refine fi_seq ?_
  refine fi_region ?_
  refine sv_call (spec_l04Step_ok (4 : Int) (2 : Int) (2 : Int) (cz .f32 0) (cz .f32 1082130432) hs  _ h) rfl rfl nofun ?_
  clear h hs
  rintro _ H121 ⟨y116, y117, y118, h, v119, rfl, hs⟩
  refine so_fieldAddr rfl F32.fd53_2 ?_
  refine sv_st hs 1 rfl rfl rfl (c := [(.int .i64 y116), (.int .i64 y117), v119]) rfl F32.sz50 rfl (stc rfl (stc rfl (stc (hs.shows 0 rfl).stor stn))) (leb rfl) (cs' := [v104, v108, (.flt .f32 y110), (.int .i64 y116), (.int .i64 y117), v119, (.int .i64 (0 : Int)), (.int .i64 (0 : Int)), .nilsl]) rfl nofun (fun H122 hs => ?_)
  refine so_nil ?_
  refine fi_seq ?_
  refine fi_region ?_
  refine sv_bslice hs (eInt .i64) ([(3 : Int), (-1 : Int)] : List (Int)) [[(.int .i64 (3 : Int))], [(.int .i64 (-1 : Int))]] F32.te24 F32.sz2 F32.ze2 rfl rfl rfl rfl (fun _ => rfl) rfl (by decide) nofun (fun v123 H124 nv123 hs => ?_)
  refine sv_call (spec_l06Code_ok v123 ([(3 : Int), (-1 : Int)] : List (Int)) (0 : Int) hs (fun _ hs => (hs.shows 0 rfl)) _ h) rfl rfl nofun ?_
  clear h hs
  rintro _ H131 ⟨y126, y127, y128, h, v129, rfl, hs⟩
  refine so_fieldAddr rfl F32.fd53_3 ?_
  refine sv_st hs 3 rfl rfl rfl (c := [(.int .i64 y126), (.int .i64 y127), v129]) rfl F32.sz51 rfl (stc rfl (stc rfl (stc (hs.shows 0 rfl).stor stn))) (leb rfl) (cs' := [v104, v108, (.flt .f32 y110), (.int .i64 y116), (.int .i64 y117), v119, (.int .i64 y126), (.int .i64 y127), v129]) rfl nofun (fun H132 hs => ?_)
  refine so_nil ?_
  refine fi_seq ?_
  refine fi_region ?_
  refine sv_lds hs 3 rfl rfl (leb rfl) rfl F32.ag53 F32.sz53 ?_
  refine sv_st hs 6 rfl rfl rfl (c := [v104, v108, (.flt .f32 y110), (.int .i64 y116), (.int .i64 y117), v119, (.int .i64 y126), (.int .i64 y127), v129]) rfl F32.sz53 rfl (stc (hs.shows 5 rfl).stor (stc (hs.shows 4 rfl).stor (stc rfl (stc rfl (stc rfl (stc (hs.shows 2 rfl).stor (stc rfl (stc rfl (stc (hs.shows 0 rfl).stor stn))))))))) (leb rfl) (cs' := [v104, v108, (.flt .f32 y110), (.int .i64 y116), (.int .i64 y117), v119, (.int .i64 y126), (.int .i64 y127), v129]) rfl nofun (fun H133 hs => ?_)
  refine so_nil ?_
  exact by_ret (res_mk (ar_cells rfl F32.ag53 F32.sz53 (hs.lds 6 rfl (leb rfl) rfl) ar_nil) rfl) ⟨_, _, _, _, _, _, _, _, _, h, _, _, _, _, rfl, (Sep.front 3 (Sep.front 2 (Sep.front 1 (Sep.del 4 (Sep.del 2 (Sep.del 1 hs))) rfl) rfl) rfl)⟩

end Go.Proofs.Ytpeijfnfffogeaa.G

namespace Go.Proofs.Ytpeijfnfffogeaa.G
open Go Go.Ab Go.Proofs Go.Proofs.Ytpeijfnfffogeaa
set_option maxRecDepth 100000
set_option linter.unusedVariables false
set_option linter.unusedSimpArgs false
set_option maxHeartbeats 1000000
attribute [local irreducible] wops wopf Go.Ab.Fin
theorem F103.ag49 : tagg Try.prog 49 = some true := by kernel_rfl
theorem F103.bp49 : bplan Try.prog 49 = some ([.nilsl, (.flt .f32 (0 : Nat))], [(0, 1), (1, 1)]) := by kernel_rfl
theorem F103.sz25 : tsz Try.prog 25 = some 1 := by kernel_rfl
theorem F103.sz49 : tsz Try.prog 49 = some 2 := by kernel_rfl
theorem F103.te37 : telem Try.prog 37 = some 25 := by kernel_rfl
theorem F103.ze25 : tzero Try.prog 25 = some [(.flt .f32 (0 : Nat))] := by kernel_rfl
theorem F103.ze49 : tzero Try.prog 49 = some [.nilsl, (.flt .f32 (0 : Nat))] := by kernel_rfl
theorem impl_LinesScheme_ok {fr : List Pc} {H : Heap}  (hs : Sep H (fr))  (K : (List (Nat)) → Nat → Prop) (h : impl_LinesScheme.wp  K) : OkQ Try.prog 103 [] H (fun r H2 => ∃ (y0 : List (Nat)) (y1 : Nat), K y0 y1 ∧ ∃ (w0_ : AV), r = (.g [w0_, (.flt .f32 y1)]) ∧ Sep H2 (Pc.osl w0_ 1 (enc (eFlt .f32) y0) :: fr)) := by
  unfold impl_LinesScheme.wp at h
  refine of_body Try.f103 F.hm Try.func103 rfl Try.call103 (by kernel_rfl) (by simp) ?_
  refine fi_seq ?_
  refine fi_region ?_
  refine sv_alloc hs F103.ze49 rfl nofun (fun id101 H102 hs => ?_)
  refine so_nil ?_
  refine fi_seq ?_
  refine fi_region ?_
  refine sv_bslice hs (eFlt .f32) ([(cz .f32 3204448256), (cz .f32 1048576000)] : List (Nat)) [[(.flt .f32 (cz .f32 3204448256))], [(.flt .f32 (cz .f32 1048576000))]] F103.te37 F103.sz25 F103.ze25 rfl rfl rfl rfl (fun _ => rfl) rfl (by decide) nofun (fun v104 H105 nv104 hs => ?_)
  refine so_build F103.bp49 (cps := [(0, [v104]), (1, [(.flt .f32 (cz .f32 1065353216))])]) rfl (fac (stc (hs.shows 0 rfl).stor stn) (fac (stc rfl stn) fan)) rfl ?_
  refine sv_st hs 1 rfl rfl rfl (c := [v104, (.flt .f32 (cz .f32 1065353216))]) rfl F103.sz49 rfl (stc (hs.shows 0 rfl).stor (stc rfl stn)) (leb rfl) (cs' := [v104, (.flt .f32 (cz .f32 1065353216))]) rfl nofun (fun H107 hs => ?_)
  refine so_nil ?_
  exact by_ret (res_mk (ar_cells rfl F103.ag49 F103.sz49 (hs.lds 1 rfl (leb rfl) rfl) ar_nil) rfl) ⟨_, _, h, _, rfl, (Sep.del 1 hs)⟩

end Go.Proofs.Ytpeijfnfffogeaa.G

namespace Go.Proofs.Ytpeijfnfffogeaa.G
open Go Go.Ab Go.Proofs Go.Proofs.Ytpeijfnfffogeaa
set_option maxRecDepth 100000
set_option linter.unusedVariables false
set_option linter.unusedSimpArgs false
set_option maxHeartbeats 1000000
attribute [local irreducible] wops wopf Go.Ab.Fin
theorem F180.ag2 : tagg Try.prog 2 = some false := by kernel_rfl
theorem F180.ag25 : tagg Try.prog 25 = some false := by kernel_rfl
theorem impl_StepPicture_1_ok {fr : List Pc} {H : Heap} (a0 : Int) (a1 : Int) (i2 o2 : Nat) (a2 : Int) (i3 o3 : Nat) (a3 : Nat) (i4 o4 : Nat) (a4 : Nat) (hs : Sep H (fr)) (q2 : ∀ H, Sep H fr → PtAt H i2 o2 [(.int .i64 a2)]) (q3 : ∀ H, Sep H fr → PtAt H i3 o3 [(.flt .f32 a3)]) (q4 : ∀ H, Sep H fr → PtAt H i4 o4 [(.flt .f32 a4)]) (K : Nat → Prop) (h : impl_StepPicture_1.wp a0 a1 a2 a3 a4 K) : OkQ Try.prog 180 [(.v (.int .i64 a0)), (.v (.int .i64 a1)), (.v (.ptr i2 o2)), (.v (.ptr i3 o3)), (.v (.ptr i4 o4))] H (fun r H2 => ∃ (y0 : Nat), K y0 ∧ r = (.v (.flt .f32 y0)) ∧ H = H2) := by
  unfold impl_StepPicture_1.wp at h
  refine of_body Try.f180 F.hm Try.func180 rfl Try.call180 (by kernel_rfl) (by simp) ?_
  refine fi_seq ?_
  refine fi_region ?_
  refine so_assign (v := (.v (.flt .f32 (cz .f32 0)))) rfl ?_
  refine so_nil ?_
  refine fi_seq ?_
  refine fi_seq ?_
  refine fi_region ?_
  refine so_move (v := (.v (.int .i64 a0))) rfl ?_
  refine su_ld (q2 _ hs) 0 rfl rfl F180.ag2 ?_
  refine so_bin rfl rfl ab_lss ?_
  refine so_nil ?_
  replace h := ofP h; rcases h with ⟨c101, h⟩ | ⟨c101, h⟩
  · refine fi_true rfl (decide_eq_true c101) ?_
    refine fi_seq ?_
    refine fi_region ?_
    refine su_ld (q3 _ hs) 0 rfl rfl F180.ag25 ?_
    refine so_assign (v := (.v (.flt .f32 a3))) rfl ?_
    refine so_nil ?_
    exact by_ret rfl ⟨_, h, rfl, rfl⟩
  · refine fi_false rfl (decide_eq_false c101) ?_
    refine fi_skip ?_
    refine fi_seq ?_
    refine fi_region ?_
    refine su_ld (q4 _ hs) 0 rfl rfl F180.ag25 ?_
    refine so_assign (v := (.v (.flt .f32 a4))) rfl ?_
    refine so_nil ?_
    exact by_ret rfl ⟨_, h, rfl, rfl⟩

end Go.Proofs.Ytpeijfnfffogeaa.G

namespace Go.Proofs.Ytpeijfnfffogeaa.G
open Go Go.Ab Go.Proofs Go.Proofs.Ytpeijfnfffogeaa
set_option maxRecDepth 100000
set_option linter.unusedVariables false
set_option linter.unusedSimpArgs false
set_option maxHeartbeats 1000000
attribute [local irreducible] wops wopf Go.Ab.Fin
theorem impl_IsFinite_ok {fr : List Pc} {H : Heap} (a0 : Nat) (hs : Sep H (fr))  (K : Bool → Prop) (h : impl_IsFinite.wp a0 K) : OkQ Try.prog 80 [(.v (.flt .f32 a0))] H (fun r H2 => ∃ (y0 : Bool), K y0 ∧ r = (.v (.bool y0)) ∧ H = H2) := by
  unfold impl_IsFinite.wp at h
  refine of_body Try.f80 F.hm Try.func80 rfl Try.call80 (by kernel_rfl) (by simp) ?_
  refine fi_seq ?_
  refine fi_region ?_
  refine so_assign (v := (.v (.bool false))) rfl ?_
  refine so_nil ?_
  refine fi_seq ?_
  refine fi_region ?_
  refine so_move (v := (.v (.flt .f32 a0))) rfl ?_
  refine so_move (v := (.v (.flt .f32 a0))) rfl ?_
  refine so_bin rfl rfl ab_fsub ?_
  refine so_bin rfl rfl ab_feql ?_
  refine so_assign (v := (.v (.bool (fcmp .eql .f32 (fop .sub .f32 a0 a0) (cz .f32 0))))) rfl ?_
  refine so_nil ?_
  exact by_ret rfl ⟨_, h, rfl, rfl⟩

end Go.Proofs.Ytpeijfnfffogeaa.G

namespace Go.Proofs.Ytpeijfnfffogeaa.G
open Go Go.Ab Go.Proofs Go.Proofs.Ytpeijfnfffogeaa
set_option maxRecDepth 100000
set_option linter.unusedVariables false
set_option linter.unusedSimpArgs false
set_option maxHeartbeats 1000000
attribute [local irreducible] wops wopf Go.Ab.Fin
theorem F187.ag25 : tagg Try.prog 25 = some false := by kernel_rfl
theorem F187.ag37 : tagg Try.prog 37 = some false := by kernel_rfl
theorem F187.ti153 : (telem Try.prog 153).isSome = true := by kernel_rfl
theorem F187.ti37 : (telem Try.prog 37).isSome = true := by kernel_rfl
theorem F187.tl153 : (telem Try.prog 153).bind (tsz Try.prog) = some 1 := by kernel_rfl
theorem F187.tl37 : (telem Try.prog 37).bind (tsz Try.prog) = some 1 := by kernel_rfl
theorem impl_areFinite_ok {fr : List Pc} {H : Heap} (v0 : AV) (w0 : List (List AV)) (l0 : List (List (Nat))) (hs : Sep H (fr)) (g0 : ∀ H, Sep H fr → DSh H v0 1 R_LeFlt_f32_o l0 w0) (K : Bool → Prop) (h : impl_areFinite.wp l0 K) : OkQ Try.prog 187 [(.v v0)] H (fun r H2 => ∃ (y0 : Bool), K y0 ∧ r = (.v (.bool y0)) ∧ H = H2) := by
  unfold impl_areFinite.wp at h
  refine of_body Try.f187 F.hm Try.func187 rfl Try.call187 (by kernel_rfl) (by simp) ?_
  refine fi_seq ?_
  refine fi_region ?_
  refine so_assign (v := (.v (.bool false))) rfl ?_
  refine so_nil ?_
  refine fi_seq ?_
  refine fi_seq ?_
  refine fi_region ?_
  refine so_move (v := (.v v0)) rfl ?_
  refine sd_len ((g0 _ hs) : DSh _ _ 1 R_LeFlt_f32_o l0 w0) (by decide) rfl F187.ti153 ?_
  refine so_move (v := (.v (.int .i64 (0 : Int)))) rfl ?_
  refine so_nil ?_
  refine fi_block ?_
  refine fi_loop ?_
  refine fi_at [(7, (.v v0)), (8, (.v (.int .i64 (l0.length : Int)))), (9, (.v (.int .i64 (0 : Int))))] ⟨rfl, rfl, rfl, trivial⟩ ?_
  refine h (fun (x102 : Int) => ∀ (s : Nat → TV), Fin _ _ (updL s [(7, (.v v0)), (8, (.v (.int .i64 (l0.length : Int)))), (9, (.v (.int .i64 x102)))]) _ _) ?_ _
  intro x102 h s114
  refine fi_inLoop ?_
  refine fi_seq ?_
  refine fi_region ?_
  refine so_bin rfl rfl ab_lss ?_
  refine so_nil ?_
  refine fi_seq ?_
  replace h := ofP h; rcases h with ⟨c103, h⟩ | ⟨c103, h⟩
  · refine fi_true rfl (decide_eq_true c103) ?_
    refine fi_skip ?_
    refine fi_seq ?_
    refine fi_block ?_
    refine fi_seq ?_
    refine fi_region ?_
    obtain ⟨c104, h⟩ := h
    refine sd_idx ((g0 _ hs) : DSh _ _ 1 R_LeFlt_f32_o l0 w0) c104 ([] : List (Nat)) (by decide) rfl rfl F187.tl153 ?_
    refine su_ld ((((g0 _ hs) : DSh _ _ 1 R_LeFlt_f32_o l0 w0)).at (by decide) c104 ([] : List (Nat))).2.2 0 (congrArg (fun c => c[0]?) ((((g0 _ hs) : DSh _ _ 1 R_LeFlt_f32_o l0 w0)).at (by decide) c104 ([] : List (Nat))).2.1.1) rfl F187.ag37 ?_
    refine so_assign (v := (.v ((w0.getD (x102).toNat []).getD 0 .und))) rfl ?_
    refine so_nil ?_
    refine fi_seq ?_
    refine fi_region ?_
    refine so_move (v := (.v ((w0.getD (x102).toNat []).getD 0 .und))) rfl ?_
    refine sv_len ((((g0 _ hs) : DSh _ _ 1 R_LeFlt_f32_o l0 w0)).at (by decide) c104 ([] : List (Nat))).2.1.2 (fun _ => rfl) (by decide) rfl F187.ti37 ?_
    refine so_move (v := (.v (.int .i64 (0 : Int)))) rfl ?_
    refine so_nil ?_
    refine fi_block ?_
    refine fi_loop ?_
    refine fi_at [(7, (.v v0)), (8, (.v (.int .i64 (l0.length : Int)))), (9, (.v (.int .i64 x102))), (13, (.v ((w0.getD (x102).toNat []).getD 0 .und))), (14, (.v (.int .i64 ((l0.getD (x102).toNat ([] : List (Nat))).length : Int)))), (15, (.v (.int .i64 (0 : Int))))] ⟨rfl, rfl, rfl, rfl, rfl, rfl, trivial⟩ ?_
    refine h (fun (x106 : Int) => ∀ (s : Nat → TV), Fin _ _ (updL s [(7, (.v v0)), (8, (.v (.int .i64 (l0.length : Int)))), (9, (.v (.int .i64 x102))), (13, (.v ((w0.getD (x102).toNat []).getD 0 .und))), (14, (.v (.int .i64 ((l0.getD (x102).toNat ([] : List (Nat))).length : Int)))), (15, (.v (.int .i64 x106)))]) _ _) ?_ _
    intro x106 h s112
    refine fi_inLoop ?_
    refine fi_seq ?_
    refine fi_region ?_
    refine so_bin rfl rfl ab_lss ?_
    refine so_nil ?_
    refine fi_seq ?_
    replace h := ofP h; rcases h with ⟨c107, h⟩ | ⟨c107, h⟩
    · refine fi_true rfl (decide_eq_true c107) ?_
      refine fi_skip ?_
      refine fi_seq ?_
      refine fi_block ?_
      refine fi_seq ?_
      refine fi_region ?_
      obtain ⟨c108, h⟩ := h
      refine sv_idx ((((g0 _ hs) : DSh _ _ 1 R_LeFlt_f32_o l0 w0)).at (by decide) c104 ([] : List (Nat))).2.1.2 c108 (fun _ => rfl) (by decide) rfl rfl F187.tl37 ?_
      refine sv_cell ((((g0 _ hs) : DSh _ _ 1 R_LeFlt_f32_o l0 w0)).at (by decide) c104 ([] : List (Nat))).2.1.2 c108 (0 : Nat) 0 (fun x => (AV.flt .f32 x)) (fun _ => rfl) (fun _ => rfl) rfl F187.ag25 ?_
      refine so_assign (v := (.v (.flt .f32 ((l0.getD (x102).toNat ([] : List (Nat))).getD (x106).toNat (0 : Nat))))) rfl ?_
      refine so_nil ?_
      refine fi_seq ?_
      refine fi_region ?_
      refine so_move (v := (.v (.flt .f32 ((l0.getD (x102).toNat ([] : List (Nat))).getD (x106).toNat (0 : Nat))))) rfl ?_
      refine sv_callS (impl_IsFinite_ok ((l0.getD (x102).toNat ([] : List (Nat))).getD (x106).toNat (0 : Nat)) hs  _ h) (fun _ _ ⟨_, _, _, e⟩ => e) rfl rfl ?_
      clear h
      rintro _ _ ⟨y109, h, rfl, rfl⟩
      refine so_un rfl au_not ?_
      refine so_nil ?_
      replace h := ofT h; rcases h with ⟨c111, h⟩ | ⟨c111, h⟩
      · refine fi_false rfl (not_f c111) ?_
        refine fi_skip ?_
        refine fi_inBlock ?_
        refine fi_region ?_
        refine so_bin rfl rfl ab_add ?_
        refine so_move (v := (.v (.int .i64 (IntKind.i64.wrap (x106 + (1 : Int)))))) rfl ?_
        refine so_nil ?_
        exact fi_at [(7, (.v v0)), (8, (.v (.int .i64 (l0.length : Int)))), (9, (.v (.int .i64 x102))), (13, (.v ((w0.getD (x102).toNat []).getD 0 .und))), (14, (.v (.int .i64 ((l0.getD (x102).toNat ([] : List (Nat))).length : Int)))), (15, (.v (.int .i64 (IntKind.i64.wrap (x106 + (1 : Int))))))] ⟨rfl, rfl, rfl, rfl, rfl, rfl, trivial⟩ (h _)
      · refine fi_true rfl (not_t c111) ?_
        refine fi_seq ?_
        refine fi_region ?_
        refine so_assign (v := (.v (.bool false))) rfl ?_
        refine so_nil ?_
        exact by_ret rfl ⟨_, h, rfl, rfl⟩
    · refine fi_false rfl (decide_eq_false c107) ?_
      refine fi_exit rfl ?_
      refine fi_inBlock ?_
      refine fi_region ?_
      refine so_bin rfl rfl ab_add ?_
      refine so_move (v := (.v (.int .i64 (IntKind.i64.wrap (x102 + (1 : Int)))))) rfl ?_
      refine so_nil ?_
      exact fi_at [(7, (.v v0)), (8, (.v (.int .i64 (l0.length : Int)))), (9, (.v (.int .i64 (IntKind.i64.wrap (x102 + (1 : Int))))))] ⟨rfl, rfl, rfl, trivial⟩ (h _)
  · refine fi_false rfl (decide_eq_false c103) ?_
    refine fi_exit rfl ?_
    refine fi_seq ?_
    refine fi_region ?_
    refine so_assign (v := (.v (.bool true))) rfl ?_
    refine so_nil ?_
    exact by_ret rfl ⟨_, h, rfl, rfl⟩

end Go.Proofs.Ytpeijfnfffogeaa.G

namespace Go.Proofs.Ytpeijfnfffogeaa.G
open Go Go.Ab Go.Proofs Go.Proofs.Ytpeijfnfffogeaa
set_option maxRecDepth 100000
set_option linter.unusedVariables false
set_option linter.unusedSimpArgs false
set_option maxHeartbeats 1000000
attribute [local irreducible] wops wopf Go.Ab.Fin
theorem impl_within_ok {fr : List Pc} {H : Heap} (a0 : Int) (a1 : Int) (a2 : Int) (hs : Sep H (fr))  (K : Bool → Prop) (h : impl_within.wp a0 a1 a2 K) : OkQ Try.prog 79 [(.v (.int .i64 a0)), (.v (.int .i64 a1)), (.v (.int .i64 a2))] H (fun r H2 => ∃ (y0 : Bool), K y0 ∧ r = (.v (.bool y0)) ∧ H = H2) := by
  unfold impl_within.wp at h
  refine of_body Try.f79 F.hm Try.func79 rfl Try.call79 (by kernel_rfl) (by simp) ?_
  refine fi_seq ?_
  refine fi_region ?_
  refine so_assign (v := (.v (.bool false))) rfl ?_
  refine so_nil ?_
  refine fi_seq ?_
  refine fi_region ?_
  refine so_move (v := (.v (.int .i64 a0))) rfl ?_
  refine so_move (v := (.v (.int .i64 a1))) rfl ?_
  refine so_bin rfl rfl ab_geq ?_
  refine so_move (v := (.v (.bool (decide (a1 ≤ a0))))) rfl ?_
  replace h := ofP h; rcases h with ⟨c101, h⟩ | ⟨c101, h⟩
  · refine so_gyes rfl (decide_eq_true c101) ?_
    refine so_move (v := (.v (.int .i64 a0))) rfl ?_
    refine so_gyes rfl (decide_eq_true c101) ?_
    refine so_move (v := (.v (.int .i64 a2))) rfl ?_
    refine so_gyes rfl (decide_eq_true c101) ?_
    refine so_bin rfl rfl ab_leq ?_
    refine so_pick_t (v := (.v (.bool (decide (a0 ≤ a2))))) rfl (decide_eq_true c101) rfl ?_
    refine so_assign (v := (.v (.bool (decide (a0 ≤ a2))))) rfl ?_
    refine so_nil ?_
    exact by_ret rfl ⟨_, h, rfl, rfl⟩
  · refine so_gno rfl (decide_eq_false c101) ?_
    refine so_gno rfl (decide_eq_false c101) ?_
    refine so_gno rfl (decide_eq_false c101) ?_
    refine so_pick_f (v := (.v (.bool false))) rfl (decide_eq_false c101) rfl ?_
    refine so_assign (v := (.v (.bool false))) rfl ?_
    refine so_nil ?_
    exact by_ret rfl ⟨_, h, rfl, rfl⟩

end Go.Proofs.Ytpeijfnfffogeaa.G

namespace Go.Proofs.Ytpeijfnfffogeaa.G
open Go Go.Ab Go.Proofs Go.Proofs.Ytpeijfnfffogeaa
set_option maxRecDepth 100000
set_option linter.unusedVariables false
set_option linter.unusedSimpArgs false
set_option maxHeartbeats 1000000
attribute [local irreducible] wops wopf Go.Ab.Fin
theorem F263.ag2 : tagg Try.prog 2 = some false := by kernel_rfl
theorem F263.ag37 : tagg Try.prog 37 = some false := by kernel_rfl
theorem F263.fd50_0 : tfield Try.prog 50 0 = some (0, 1, false) := by kernel_rfl
theorem F263.fd50_1 : tfield Try.prog 50 1 = some (1, 1, false) := by kernel_rfl
theorem F263.fd50_2 : tfield Try.prog 50 2 = some (2, 1, false) := by kernel_rfl
theorem F263.inf50 : (Try.prog.info? 50).isSome = true := by kernel_rfl
theorem F263.sz37 : tsz Try.prog 37 = some 1 := by kernel_rfl
theorem F263.te153 : telem Try.prog 153 = some 37 := by kernel_rfl
theorem F263.ti37 : (telem Try.prog 37).isSome = true := by kernel_rfl
theorem F263.ze37 : tzero Try.prog 37 = some [.nilsl] := by kernel_rfl
theorem impl_ValidPicture_ok {fr : List Pc} {H : Heap} (a0 : Int) (a1 : Int) (v2 : AV) (l2 : List (Nat)) (hs : Sep H (fr)) (g2 : ∀ H, Sep H fr → Shows H v2 1 (enc (eFlt .f32) l2)) (K : Bool → Prop) (h : impl_ValidPicture.wp a0 a1 l2 K) : OkQ Try.prog 263 [(.g [(.int .i64 a0), (.int .i64 a1), v2])] H (fun r H2 => ∃ (y0 : Bool), K y0 ∧ r = (.v (.bool y0)) ∧ Sep H2 (fr)) := by
  unfold impl_ValidPicture.wp at h
  refine of_body Try.f263 F.hm Try.func263 rfl Try.call263 (by kernel_rfl) (by simp) ?_
  refine fi_seq ?_
  refine fi_region ?_
  refine sv_box hs rfl (c := [(.int .i64 a0), (.int .i64 a1), v2]) rfl F263.inf50 (stc rfl (stc rfl (stc (g2 _ hs).stor stn))) nofun (fun id101 H102 hs => ?_)
  refine so_assign (v := (.v (.bool false))) rfl ?_
  refine so_nil ?_
  refine fi_seq ?_
  refine fi_region ?_
  refine so_fieldAddr rfl F263.fd50_0 ?_
  refine sv_ld hs 0 rfl rfl rfl F263.ag2 ?_
  refine sv_callS (impl_within_ok a0 (1 : Int) (16 : Int) hs  _ h) (fun _ _ ⟨_, _, _, e⟩ => e) rfl rfl ?_
  clear h
  rintro _ _ ⟨y104, h, rfl, rfl⟩
  refine so_move (v := (.v (.bool y104))) rfl ?_
  replace h := ofT h; rcases h with ⟨c106, h⟩ | ⟨c106, h⟩
  · refine so_gyes rfl c106 ?_
    refine so_fieldAddr rfl F263.fd50_1 ?_
    refine so_gyes rfl c106 ?_
    refine sv_ld hs 0 rfl rfl rfl F263.ag2 ?_
    refine so_gyes rfl c106 ?_
    refine sv_callS (impl_within_ok a1 (1 : Int) (16 : Int) hs  _ h) (fun _ _ ⟨_, _, _, e⟩ => e) rfl rfl ?_
    clear h
    rintro _ _ ⟨y107, h, rfl, rfl⟩
    refine so_pick_t (v := (.v (.bool y107))) rfl c106 rfl ?_
    refine so_move (v := (.v (.bool y107))) rfl ?_
    replace h := ofT h; rcases h with ⟨c109, h⟩ | ⟨c109, h⟩
    · refine so_gyes rfl c109 ?_
      refine so_fieldAddr rfl F263.fd50_2 ?_
      refine so_gyes rfl c109 ?_
      refine sv_ld hs 0 rfl rfl rfl F263.ag37 ?_
      refine so_gyes rfl c109 ?_
      refine sv_len (g2 _ hs.tl) (fun _ => rfl) (by decide) rfl F263.ti37 ?_
      refine so_gyes rfl c109 ?_
      refine so_fieldAddr rfl F263.fd50_0 ?_
      refine so_gyes rfl c109 ?_
      refine sv_ld hs 0 rfl rfl rfl F263.ag2 ?_
      refine so_gyes rfl c109 ?_
      refine so_fieldAddr rfl F263.fd50_1 ?_
      refine so_gyes rfl c109 ?_
      refine sv_ld hs 0 rfl rfl rfl F263.ag2 ?_
      refine so_gyes rfl c109 ?_
      refine so_bin rfl rfl ab_mul ?_
      refine so_gyes rfl c109 ?_
      refine so_bin rfl rfl ab_eql ?_
      refine so_pick_t (v := (.v (.bool (decide ((l2.length : Int) = (IntKind.i64.wrap (a0 * a1))))))) rfl c109 rfl ?_
      refine so_move (v := (.v (.bool (decide ((l2.length : Int) = (IntKind.i64.wrap (a0 * a1))))))) rfl ?_
      replace h := ofP h; rcases h with ⟨c110, h⟩ | ⟨c110, h⟩
      · refine so_gyes rfl (decide_eq_true c110) ?_
        refine so_fieldAddr rfl F263.fd50_2 ?_
        refine so_gyes rfl (decide_eq_true c110) ?_
        refine sv_ld hs 0 rfl rfl rfl F263.ag37 ?_
        refine so_gyes rfl (decide_eq_true c110) ?_
        refine sd_bslice hs [[v2]] F263.te153 F263.sz37 F263.ze37 rfl rfl rfl (by simp) (fac (stc (g2 _ hs.tl).stor stn) fan) (by decide) rfl nofun (fun v111 H112 _ hs => ?_)
        refine so_gyes rfl (decide_eq_true c110) ?_
        refine sv_callS (impl_areFinite_ok v111 ([[v2]]) ([l2] : List (List (Nat))) hs (fun _ hs => ⟨hs.shows 0 rfl, by simp, ⟨⟨rfl, (g2 _ hs.tl.tl)⟩, trivial⟩⟩) _ h) (fun _ _ ⟨_, _, _, e⟩ => e) rfl rfl ?_
        clear h
        rintro _ _ ⟨y114, h, rfl, rfl⟩
        refine so_pick_t (v := (.v (.bool y114))) rfl (decide_eq_true c110) rfl ?_
        refine so_assign (v := (.v (.bool y114))) rfl ?_
        refine so_nil ?_
        exact by_ret rfl ⟨_, h, rfl, (Sep.del 0 (Sep.del 0 hs))⟩
      · refine so_gno rfl (decide_eq_false c110) ?_
        refine so_gno rfl (decide_eq_false c110) ?_
        refine so_gno rfl (decide_eq_false c110) ?_
        refine so_gno rfl (decide_eq_false c110) ?_
        refine so_pick_f (v := (.v (.bool false))) rfl (decide_eq_false c110) rfl ?_
        refine so_assign (v := (.v (.bool false))) rfl ?_
        refine so_nil ?_
        exact by_ret rfl ⟨_, h, rfl, (Sep.del 0 hs)⟩
    · refine so_gno rfl c109 ?_
      refine so_gno rfl c109 ?_
      refine so_gno rfl c109 ?_
      refine so_gno rfl c109 ?_
      refine so_gno rfl c109 ?_
      refine so_gno rfl c109 ?_
      refine so_gno rfl c109 ?_
      refine so_gno rfl c109 ?_
      refine so_gno rfl c109 ?_
      refine so_pick_f (v := (.v (.bool false))) rfl c109 rfl ?_
      refine so_move (v := (.v (.bool false))) rfl ?_
      refine so_gno rfl rfl ?_
      refine so_gno rfl rfl ?_
      refine so_gno rfl rfl ?_
      refine so_gno rfl rfl ?_
      refine so_pick_f (v := (.v (.bool false))) rfl rfl rfl ?_
      refine so_assign (v := (.v (.bool false))) rfl ?_
      refine so_nil ?_
      exact by_ret rfl ⟨_, h, rfl, (Sep.del 0 hs)⟩
  · refine so_gno rfl c106 ?_
    refine so_gno rfl c106 ?_
    refine so_gno rfl c106 ?_
    refine so_pick_f (v := (.v (.bool false))) rfl c106 rfl ?_
    refine so_move (v := (.v (.bool false))) rfl ?_
    refine so_gno rfl rfl ?_
    refine so_gno rfl rfl ?_
    refine so_gno rfl rfl ?_
    refine so_gno rfl rfl ?_
    refine so_gno rfl rfl ?_
    refine so_gno rfl rfl ?_
    refine so_gno rfl rfl ?_
    refine so_gno rfl rfl ?_
    refine so_gno rfl rfl ?_
    refine so_pick_f (v := (.v (.bool false))) rfl rfl rfl ?_
    refine so_move (v := (.v (.bool false))) rfl ?_
    refine so_gno rfl rfl ?_
    refine so_gno rfl rfl ?_
    refine so_gno rfl rfl ?_
    refine so_gno rfl rfl ?_
    refine so_pick_f (v := (.v (.bool false))) rfl rfl rfl ?_
    refine so_assign (v := (.v (.bool false))) rfl ?_
    refine so_nil ?_
    exact by_ret rfl ⟨_, h, rfl, (Sep.del 0 hs)⟩

end Go.Proofs.Ytpeijfnfffogeaa.G

namespace Go.Proofs.Ytpeijfnfffogeaa.G
open Go Go.Ab Go.Proofs Go.Proofs.Ytpeijfnfffogeaa
set_option maxRecDepth 100000
set_option linter.unusedVariables false
set_option linter.unusedSimpArgs false
set_option maxHeartbeats 1000000
attribute [local irreducible] wops wopf Go.Ab.Fin
theorem F239.ag50 : tagg Try.prog 50 = some true := by kernel_rfl
theorem F239.bp50 : bplan Try.prog 50 = some ([(.int .i64 (0 : Int)), (.int .i64 (0 : Int)), .nilsl], [(0, 1), (1, 1), (2, 1)]) := by kernel_rfl
theorem F239.inf50 : (Try.prog.info? 50).isSome = true := by kernel_rfl
theorem F239.sz50 : tsz Try.prog 50 = some 3 := by kernel_rfl
theorem F239.ze50 : tzero Try.prog 50 = some [(.int .i64 (0 : Int)), (.int .i64 (0 : Int)), .nilsl] := by kernel_rfl
theorem impl_validPicture_ok {fr : List Pc} {H : Heap} (a0 : Int) (a1 : Int) (v2 : AV) (l2 : List (Nat)) (hs : Sep H (fr)) (g2 : ∀ H, Sep H fr → Shows H v2 1 (enc (eFlt .f32) l2)) (K : Int → Int → Bool → Bool → Prop) (h : impl_validPicture.wp a0 a1 l2 K) : OkQ Try.prog 239 [(.g [(.int .i64 a0), (.int .i64 a1), v2])] H (fun r H2 => ∃ (y0 : Int) (y1 : Int) (y2 : Bool) (y3 : Bool), K y0 y1 y2 y3 ∧ r = (.t [(.g [(.int .i64 y0), (.int .i64 y1), (bif y2 then v2 else .nilsl)]), (.v (.bool y3))]) ∧ Sep H2 (fr)) := by
  unfold impl_validPicture.wp at h
  refine of_body Try.f239 F.hm Try.func239 rfl Try.call239 (by kernel_rfl) (by simp) ?_
  refine fi_seq ?_
  refine fi_region ?_
  refine sv_box hs rfl (c := [(.int .i64 a0), (.int .i64 a1), v2]) rfl F239.inf50 (stc rfl (stc rfl (stc (g2 _ hs).stor stn))) nofun (fun id101 H102 hs => ?_)
  refine sv_alloc hs F239.ze50 rfl nofun (fun id104 H105 hs => ?_)
  refine so_assign (v := (.v (.bool false))) rfl ?_
  refine so_nil ?_
  refine fi_seq ?_
  refine fi_seq ?_
  refine fi_region ?_
  refine sv_lds hs 1 rfl rfl (leb rfl) rfl F239.ag50 F239.sz50 ?_
  refine sv_call (impl_ValidPicture_ok a0 a1 v2 l2 hs (fun _ hs => (g2 _ hs.tl.tl)) _ h) rfl rfl nofun ?_
  clear h hs
  rintro _ H108 ⟨y107, h, rfl, hs⟩
  refine so_un rfl au_not ?_
  refine so_nil ?_
  replace h := ofT h; rcases h with ⟨c109, h⟩ | ⟨c109, h⟩
  · refine fi_false rfl (not_f c109) ?_
    refine fi_skip ?_
    refine fi_seq ?_
    refine fi_region ?_
    refine sv_lds hs 1 rfl rfl (leb rfl) rfl F239.ag50 F239.sz50 ?_
    refine sv_st hs 0 rfl rfl rfl (c := [(.int .i64 a0), (.int .i64 a1), v2]) rfl F239.sz50 rfl (stc rfl (stc rfl (stc (g2 _ hs.tl.tl).stor stn))) (leb rfl) (cs' := [(.int .i64 a0), (.int .i64 a1), v2]) rfl nofun (fun H110 hs => ?_)
    refine so_assign (v := (.v (.bool true))) rfl ?_
    refine so_nil ?_
    exact by_ret (res_mk (ar_cells rfl F239.ag50 F239.sz50 (hs.lds 0 rfl (leb rfl) rfl) (ar_tmp rfl ar_nil)) rfl) ⟨_, _, _, _, h, rfl, (Sep.del 0 (Sep.del 0 hs))⟩
  · refine fi_true rfl (not_t c109) ?_
    refine fi_seq ?_
    refine fi_region ?_
    refine so_build F239.bp50 (cps := []) rfl fan rfl ?_
    refine sv_st hs 0 rfl rfl rfl (c := [(.int .i64 (0 : Int)), (.int .i64 (0 : Int)), .nilsl]) rfl F239.sz50 rfl (stc rfl (stc rfl (stc rfl stn))) (leb rfl) (cs' := [(.int .i64 (0 : Int)), (.int .i64 (0 : Int)), .nilsl]) rfl nofun (fun H111 hs => ?_)
    refine so_assign (v := (.v (.bool false))) rfl ?_
    refine so_nil ?_
    exact by_ret (res_mk (ar_cells rfl F239.ag50 F239.sz50 (hs.lds 0 rfl (leb rfl) rfl) (ar_tmp rfl ar_nil)) rfl) ⟨_, _, _, _, h, rfl, (Sep.del 0 (Sep.del 0 hs))⟩

end Go.Proofs.Ytpeijfnfffogeaa.G

namespace Go.Proofs.Ytpeijfnfffogeaa.G
open Go Go.Ab Go.Proofs Go.Proofs.Ytpeijfnfffogeaa
set_option maxRecDepth 100000
set_option linter.unusedVariables false
set_option linter.unusedSimpArgs false
set_option maxHeartbeats 1000000
attribute [local irreducible] wops wopf Go.Ab.Fin
theorem F179s180.ag37 : tagg Try.prog 37 = some false := by kernel_rfl
theorem F179s180.ag50 : tagg Try.prog 50 = some true := by kernel_rfl
theorem F179s180.bp50 : bplan Try.prog 50 = some ([(.int .i64 (0 : Int)), (.int .i64 (0 : Int)), .nilsl], [(0, 1), (1, 1), (2, 1)]) := by kernel_rfl
theorem F179s180.fd50_2 : tfield Try.prog 50 2 = some (2, 1, false) := by kernel_rfl
theorem F179s180.sz25 : tsz Try.prog 25 = some 1 := by kernel_rfl
theorem F179s180.sz37 : tsz Try.prog 37 = some 1 := by kernel_rfl
theorem F179s180.sz50 : tsz Try.prog 50 = some 3 := by kernel_rfl
theorem F179s180.ta37_37 : tapp Try.prog 37 37 = some (1, 4) := by kernel_rfl
theorem F179s180.te37 : telem Try.prog 37 = some 25 := by kernel_rfl
theorem F179s180.ze25 : tzero Try.prog 25 = some [(.flt .f32 (0 : Nat))] := by kernel_rfl
theorem F179s180.ze50 : tzero Try.prog 50 = some [(.int .i64 (0 : Int)), (.int .i64 (0 : Int)), .nilsl] := by kernel_rfl
theorem impl_pictureBy_impl_StepPicture_1_ok {fr : List Pc} {H : Heap} (a0 : Int) (a1 : Int) (i2 o2 : Nat) (a2 : Int) (i3 o3 : Nat) (a3 : Nat) (i4 o4 : Nat) (a4 : Nat) (hs : Sep H (fr)) (q2 : ∀ H, Sep H fr → PtAt H i2 o2 [(.int .i64 a2)]) (q3 : ∀ H, Sep H fr → PtAt H i3 o3 [(.flt .f32 a3)]) (q4 : ∀ H, Sep H fr → PtAt H i4 o4 [(.flt .f32 a4)]) (K : Int → Int → (List (Nat)) → Bool → Prop) (h : impl_pictureBy_impl_StepPicture_1.wp a0 a1 a2 a3 a4 K) : OkQ Try.prog 179 [(.v (.int .i64 a0)), (.v (.int .i64 a1)), (.v (.fn 180 [(i2, o2), (i3, o3), (i4, o4)]))] H (fun r H2 => ∃ (y0 : Int) (y1 : Int) (y2 : List (Nat)) (y3 : Bool), K y0 y1 y2 y3 ∧ ∃ (w0_ : AV), r = (.t [(.g [(.int .i64 y0), (.int .i64 y1), w0_]), (.v (.bool y3))]) ∧ Sep H2 (Pc.osl w0_ 1 (enc (eFlt .f32) y2) :: fr)) := by
  unfold impl_pictureBy_impl_StepPicture_1.wp at h
  refine of_body Try.f179 F.hm Try.func179 rfl Try.call179 (by kernel_rfl) (by simp) ?_
  refine fi_seq ?_
  refine fi_region ?_
  refine sv_alloc hs F179s180.ze50 rfl nofun (fun id101 H102 hs => ?_)
  refine so_assign (v := (.v (.bool false))) rfl ?_
  refine so_nil ?_
  refine fi_seq ?_
  refine fi_seq ?_
  refine fi_region ?_
  refine so_move (v := (.v (.int .i64 a0))) rfl ?_
  refine sv_callS (impl_within_ok a0 (1 : Int) (16 : Int) hs  _ h) (fun _ _ ⟨_, _, _, e⟩ => e) rfl rfl ?_
  clear h
  rintro _ _ ⟨y104, h, rfl, rfl⟩
  refine so_un rfl au_not ?_
  refine so_move (v := (.v (.bool (!y104)))) rfl ?_
  replace h := ofT h; rcases h with ⟨c106, h⟩ | ⟨c106, h⟩
  · refine so_gyes rfl (not_f c106) ?_
    refine so_move (v := (.v (.int .i64 a1))) rfl ?_
    refine so_gyes rfl (not_f c106) ?_
    refine sv_callS (impl_within_ok a1 (1 : Int) (16 : Int) hs  _ h) (fun _ _ ⟨_, _, _, e⟩ => e) rfl rfl ?_
    clear h
    rintro _ _ ⟨y107, h, rfl, rfl⟩
    refine so_gyes rfl (not_f c106) ?_
    refine so_un rfl au_not ?_
    refine so_pick_f (v := (.v (.bool (!y107)))) rfl (not_f c106) rfl ?_
    refine so_nil ?_
    replace h := ofT h; rcases h with ⟨c109, h⟩ | ⟨c109, h⟩
    · refine fi_false rfl (not_f c109) ?_
      refine fi_skip ?_
      refine fi_seq ?_
      refine fi_region ?_
      refine so_move (v := (.v (.int .i64 a0))) rfl ?_
      refine so_move (v := (.v (.int .i64 a1))) rfl ?_
      refine so_build F179s180.bp50 (cps := [(0, [(.int .i64 a0)]), (1, [(.int .i64 a1)])]) rfl (fac (stc rfl stn) (fac (stc rfl stn) fan)) rfl ?_
      refine sv_alloc hs F179s180.ze50 rfl nofun (fun id110 H111 hs => ?_)
      refine sv_st hs 0 rfl rfl rfl (c := [(.int .i64 a0), (.int .i64 a1), .nilsl]) rfl F179s180.sz50 rfl (stc rfl (stc rfl (stc rfl stn))) (leb rfl) (cs' := [(.int .i64 a0), (.int .i64 a1), .nilsl]) rfl nofun (fun H113 hs => ?_)
      refine so_nil ?_
      refine fi_seq ?_
      refine fi_seq ?_
      refine fi_region ?_
      refine so_move (v := (.v (.int .i64 a1))) rfl ?_
      refine so_move (v := (.v (.int .i64 (0 : Int)))) rfl ?_
      refine so_nil ?_
      refine fi_block ?_
      refine fi_loop ?_
      replace hs := hs.nil 1
      refine fi_at [(0, (.v (.int .i64 a0))), (2, (.v (.fn 180 [(i2, o2), (i3, o3), (i4, o4)]))), (6, (.v (.ptr id101 0))), (8, (.v (.ptr id110 0))), (23, (.v (.int .i64 a1))), (24, (.v (.int .i64 (0 : Int))))] ⟨rfl, rfl, rfl, rfl, rfl, rfl, trivial⟩ ?_
      refine h (fun (b158 : Int) (b159 : Int) (b161 : List (Nat)) (x163 : Int) => ∀ (s : Nat → TV) (H : Heap) (v162 : AV), Sep H (Pc.osl v162 1 (enc (eFlt .f32) b161) :: Pc.box id110 [(.int .i64 b158), (.int .i64 b159), v162] :: Pc.box id101 [(.int .i64 (0 : Int)), (.int .i64 (0 : Int)), .nilsl] :: fr) → Fin _ _ (updL s [(0, (.v (.int .i64 a0))), (2, (.v (.fn 180 [(i2, o2), (i3, o3), (i4, o4)]))), (6, (.v (.ptr id101 0))), (8, (.v (.ptr id110 0))), (23, (.v (.int .i64 a1))), (24, (.v (.int .i64 x163)))]) H _) ?_ _ _ _ hs
      intro b158 b159 b161 x163 h s205 H206 v162 hs
      refine fi_inLoop ?_
      refine fi_seq ?_
      refine fi_region ?_
      refine so_bin rfl rfl ab_lss ?_
      refine so_nil ?_
      refine fi_seq ?_
      replace h := ofP h; rcases h with ⟨c164, h⟩ | ⟨c164, h⟩
      · refine fi_true rfl (decide_eq_true c164) ?_
        refine fi_skip ?_
        refine fi_seq ?_
        refine fi_block ?_
        refine fi_seq ?_
        refine fi_region ?_
        refine so_move (v := (.v (.int .i64 x163))) rfl ?_
        refine so_assign (v := (.v (.int .i64 x163))) rfl ?_
        refine so_nil ?_
        refine fi_seq ?_
        refine fi_region ?_
        refine so_move (v := (.v (.int .i64 a0))) rfl ?_
        refine so_move (v := (.v (.int .i64 (0 : Int)))) rfl ?_
        refine so_nil ?_
        refine fi_block ?_
        refine fi_loop ?_
        refine fi_at [(0, (.v (.int .i64 a0))), (2, (.v (.fn 180 [(i2, o2), (i3, o3), (i4, o4)]))), (6, (.v (.ptr id101 0))), (8, (.v (.ptr id110 0))), (9, (.v (.int .i64 x163))), (23, (.v (.int .i64 a1))), (24, (.v (.int .i64 x163))), (27, (.v (.int .i64 a0))), (28, (.v (.int .i64 (0 : Int))))] ⟨rfl, rfl, rfl, rfl, rfl, rfl, rfl, rfl, rfl, trivial⟩ ?_
        refine h (fun (l180 : List (Nat)) (b182 : Int) (b183 : Int) (x184 : Int) => ∀ (s : Nat → TV) (H : Heap) (v181 : AV), Sep H (Pc.osl v181 1 (enc (eFlt .f32) l180) :: Pc.box id110 [(.int .i64 b182), (.int .i64 b183), v181] :: Pc.box id101 [(.int .i64 (0 : Int)), (.int .i64 (0 : Int)), .nilsl] :: fr) → Fin _ _ (updL s [(0, (.v (.int .i64 a0))), (2, (.v (.fn 180 [(i2, o2), (i3, o3), (i4, o4)]))), (6, (.v (.ptr id101 0))), (8, (.v (.ptr id110 0))), (9, (.v (.int .i64 x163))), (23, (.v (.int .i64 a1))), (24, (.v (.int .i64 x163))), (27, (.v (.int .i64 a0))), (28, (.v (.int .i64 x184)))]) H _) ?_ _ _ _ hs
        intro l180 b182 b183 x184 h s195 H196 v181 hs
        refine fi_inLoop ?_
        refine fi_seq ?_
        refine fi_region ?_
        refine so_bin rfl rfl ab_lss ?_
        refine so_nil ?_
        refine fi_seq ?_
        replace h := ofP h; rcases h with ⟨c185, h⟩ | ⟨c185, h⟩
        · refine fi_true rfl (decide_eq_true c185) ?_
          refine fi_skip ?_
          refine fi_seq ?_
          refine fi_block ?_
          refine fi_seq ?_
          refine fi_region ?_
          refine so_move (v := (.v (.int .i64 x184))) rfl ?_
          refine so_assign (v := (.v (.int .i64 x184))) rfl ?_
          refine so_nil ?_
          refine fi_free [1] ?_
          refine wf_pure rfl (by kernel_rfl) ?_
          refine so_fieldAddr rfl F179s180.fd50_2 ?_
          refine so_end ?_
          refine wf_free (.v v181) rfl (by kernel_rfl) (stepr (i := 0) rfl (by refine sv_ld hs 1 rfl rfl rfl F179s180.ag37 ?_; exact so_end ⟨rfl, rfl⟩)) fan ?_
          refine wf_pure rfl (by kernel_rfl) ?_
          refine so_move (v := (.v (.fn 180 [(i2, o2), (i3, o3), (i4, o4)]))) rfl ?_
          refine so_end ?_
          refine wf_pure rfl (by kernel_rfl) ?_
          refine so_move (v := (.v (.int .i64 x184))) rfl ?_
          refine so_end ?_
          refine wf_pure rfl (by kernel_rfl) ?_
          refine so_move (v := (.v (.int .i64 x163))) rfl ?_
          refine so_end ?_
          have hs0_ := hs
          refine wf_chg (by kernel_rfl) ?_
          refine sv_callcS (impl_StepPicture_1_ok x184 x163 i2 o2 a2 i3 o3 a3 i4 o4 a4 hs (fun _ hs => (q2 _ hs.tl.tl.tl)) (fun _ hs => (q3 _ hs.tl.tl.tl)) (fun _ hs => (q4 _ hs.tl.tl.tl)) _ h) (fun _ _ ⟨_, _, _, e⟩ => e) rfl rfl ?_
          clear h
          rintro _ _ ⟨y186, h, rfl, rfl⟩
          refine so_end ⟨(fac (.inr (stepr (i := 0) rfl (by refine sv_ld hs 1 rfl rfl rfl F179s180.ag37 ?_; exact so_end ⟨rfl, rfl⟩))) fan), ?_⟩
          have hs1_ := hs
          refine wf_chg (by kernel_rfl) ?_
          refine sv_bslice hs (eFlt .f32) ([y186] : List (Nat)) [[(.flt .f32 y186)]] F179s180.te37 F179s180.sz25 F179s180.ze25 rfl rfl rfl rfl (fun _ => rfl) rfl (by decide) nofun (fun v188 H189 nv188 hs => ?_)
          refine so_end ⟨(fac (.inr (stepr (i := 0) rfl (by refine sv_ld hs 2 rfl rfl rfl F179s180.ag37 ?_; exact so_end ⟨rfl, rfl⟩))) fan), ?_⟩
          have hs2_ := hs
          refine wf_chg (by kernel_rfl) ?_
          obtain ⟨c193, h⟩ := h
          refine sv_app hs 1 rfl (hs.shows 0 rfl) (fun _ => rfl) (by decide) F179s180.ta37_37 (by decide) c193 rfl rfl nofun (fun v191 H192 kv191 hs => ?_)
          replace hs := hs.del 0
          refine so_end ⟨(fac (.inl ⟨7, by kernel_rfl⟩) fan), ?_⟩
          refine wf_pure rfl (by kernel_rfl) ?_
          refine so_fieldAddr rfl F179s180.fd50_2 ?_
          refine so_end ?_
          have hs3_ := hs
          refine wf_chg (by kernel_rfl) ?_
          refine sv_st hs 1 rfl rfl rfl (c := [v191]) rfl F179s180.sz37 rfl (stc (hs.shows 0 rfl).stor stn) (leb rfl) (cs' := [(.int .i64 b182), (.int .i64 b183), v191]) rfl nofun (fun H194 hs => ?_)
          refine so_end ⟨(fac (.inl ⟨7, by kernel_rfl⟩) fan), ?_⟩
          refine wf_nil ?_
          refine fi_inBlock ?_
          refine fi_region ?_
          refine so_bin rfl rfl ab_add ?_
          refine so_move (v := (.v (.int .i64 (IntKind.i64.wrap (x184 + (1 : Int)))))) rfl ?_
          refine so_nil ?_
          exact fi_at [(0, (.v (.int .i64 a0))), (2, (.v (.fn 180 [(i2, o2), (i3, o3), (i4, o4)]))), (6, (.v (.ptr id101 0))), (8, (.v (.ptr id110 0))), (9, (.v (.int .i64 x163))), (23, (.v (.int .i64 a1))), (24, (.v (.int .i64 x163))), (27, (.v (.int .i64 a0))), (28, (.v (.int .i64 (IntKind.i64.wrap (x184 + (1 : Int))))))] ⟨rfl, rfl, rfl, rfl, rfl, rfl, rfl, rfl, rfl, trivial⟩ (h _ _ _ hs)
        · refine fi_false rfl (decide_eq_false c185) ?_
          refine fi_exit rfl ?_
          refine fi_inBlock ?_
          refine fi_region ?_
          refine so_bin rfl rfl ab_add ?_
          refine so_move (v := (.v (.int .i64 (IntKind.i64.wrap (x163 + (1 : Int)))))) rfl ?_
          refine so_nil ?_
          exact fi_at [(0, (.v (.int .i64 a0))), (2, (.v (.fn 180 [(i2, o2), (i3, o3), (i4, o4)]))), (6, (.v (.ptr id101 0))), (8, (.v (.ptr id110 0))), (23, (.v (.int .i64 a1))), (24, (.v (.int .i64 (IntKind.i64.wrap (x163 + (1 : Int))))))] ⟨rfl, rfl, rfl, rfl, rfl, rfl, trivial⟩ (h _ _ _ hs)
      · refine fi_false rfl (decide_eq_false c164) ?_
        refine fi_exit rfl ?_
        refine fi_seq ?_
        refine fi_region ?_
        refine sv_lds hs 1 rfl rfl (leb rfl) rfl F179s180.ag50 F179s180.sz50 ?_
        refine sv_call (impl_validPicture_ok b158 b159 v162 b161 hs (fun _ hs => (hs.shows 0 rfl)) _ h) rfl rfl nofun ?_
        clear h hs
        rintro _ H201 ⟨y197, y198, y199, y200, h, rfl, hs⟩
        replace h := ofT h; rcases h with ⟨c202, h⟩ | ⟨c202, h⟩
        · subst c202
          refine so_extract rfl rfl rfl ?_
          refine so_extract rfl rfl rfl ?_
          refine sv_st hs 2 rfl rfl rfl (c := [(.int .i64 y197), (.int .i64 y198), v162]) rfl F179s180.sz50 rfl (stc rfl (stc rfl (stc (hs.shows 0 rfl).stor stn))) (leb rfl) (cs' := [(.int .i64 y197), (.int .i64 y198), v162]) rfl nofun (fun H203 hs => ?_)
          refine so_assign (v := (.v (.bool y200))) rfl ?_
          refine so_nil ?_
          exact by_ret (res_mk (ar_cells rfl F179s180.ag50 F179s180.sz50 (hs.lds 2 rfl (leb rfl) rfl) (ar_tmp rfl ar_nil)) rfl) ⟨_, _, _, _, h, _, rfl, (Sep.del 1 (Sep.del 1 hs))⟩
        · subst c202
          refine so_extract rfl rfl rfl ?_
          refine so_extract rfl rfl rfl ?_
          refine sv_st hs 2 rfl rfl rfl (c := [(.int .i64 y197), (.int .i64 y198), .nilsl]) rfl F179s180.sz50 rfl (stc rfl (stc rfl (stc rfl stn))) (leb rfl) (cs' := [(.int .i64 y197), (.int .i64 y198), .nilsl]) rfl nofun (fun H204 hs => ?_)
          refine so_assign (v := (.v (.bool y200))) rfl ?_
          refine so_nil ?_
          exact by_ret (res_mk (ar_cells rfl F179s180.ag50 F179s180.sz50 (hs.lds 2 rfl (leb rfl) rfl) (ar_tmp rfl ar_nil)) rfl) ⟨_, _, _, _, h, _, rfl, (Sep.nil (Sep.del 0 (Sep.del 0 (Sep.del 0 hs))) 1)⟩
    · refine fi_true rfl (not_t c109) ?_
      refine fi_seq ?_
      refine fi_region ?_
      refine so_build F179s180.bp50 (cps := []) rfl fan rfl ?_
      refine sv_st hs 0 rfl rfl rfl (c := [(.int .i64 (0 : Int)), (.int .i64 (0 : Int)), .nilsl]) rfl F179s180.sz50 rfl (stc rfl (stc rfl (stc rfl stn))) (leb rfl) (cs' := [(.int .i64 (0 : Int)), (.int .i64 (0 : Int)), .nilsl]) rfl nofun (fun H207 hs => ?_)
      refine so_assign (v := (.v (.bool false))) rfl ?_
      refine so_nil ?_
      exact by_ret (res_mk (ar_cells rfl F179s180.ag50 F179s180.sz50 (hs.lds 0 rfl (leb rfl) rfl) (ar_tmp rfl ar_nil)) rfl) ⟨_, _, _, _, h, _, rfl, (Sep.nil (Sep.del 0 hs) 1)⟩
  · refine so_gno rfl (not_t c106) ?_
    refine so_gno rfl (not_t c106) ?_
    refine so_gno rfl (not_t c106) ?_
    refine so_pick_t (v := (.v (.bool true))) rfl (not_t c106) rfl ?_
    refine so_nil ?_
    refine fi_true rfl rfl ?_
    refine fi_seq ?_
    refine fi_region ?_
    refine so_build F179s180.bp50 (cps := []) rfl fan rfl ?_
    refine sv_st hs 0 rfl rfl rfl (c := [(.int .i64 (0 : Int)), (.int .i64 (0 : Int)), .nilsl]) rfl F179s180.sz50 rfl (stc rfl (stc rfl (stc rfl stn))) (leb rfl) (cs' := [(.int .i64 (0 : Int)), (.int .i64 (0 : Int)), .nilsl]) rfl nofun (fun H208 hs => ?_)
    refine so_assign (v := (.v (.bool false))) rfl ?_
    refine so_nil ?_
    exact by_ret (res_mk (ar_cells rfl F179s180.ag50 F179s180.sz50 (hs.lds 0 rfl (leb rfl) rfl) (ar_tmp rfl ar_nil)) rfl) ⟨_, _, _, _, h, _, rfl, (Sep.nil (Sep.del 0 hs) 1)⟩

end Go.Proofs.Ytpeijfnfffogeaa.G

namespace Go.Proofs.Ytpeijfnfffogeaa.G
open Go Go.Ab Go.Proofs Go.Proofs.Ytpeijfnfffogeaa
set_option maxRecDepth 100000
set_option linter.unusedVariables false
set_option linter.unusedSimpArgs false
set_option maxHeartbeats 1000000
attribute [local irreducible] wops wopf Go.Ab.Fin
theorem F104.ag2 : tagg Try.prog 2 = some false := by kernel_rfl
theorem F104.ag25 : tagg Try.prog 25 = some false := by kernel_rfl
theorem F104.ag50 : tagg Try.prog 50 = some true := by kernel_rfl
theorem F104.bp50 : bplan Try.prog 50 = some ([(.int .i64 (0 : Int)), (.int .i64 (0 : Int)), .nilsl], [(0, 1), (1, 1), (2, 1)]) := by kernel_rfl
theorem F104.inf2 : (Try.prog.info? 2).isSome = true := by kernel_rfl
theorem F104.inf25 : (Try.prog.info? 25).isSome = true := by kernel_rfl
theorem F104.sz50 : tsz Try.prog 50 = some 3 := by kernel_rfl
theorem F104.ze50 : tzero Try.prog 50 = some [(.int .i64 (0 : Int)), (.int .i64 (0 : Int)), .nilsl] := by kernel_rfl
theorem impl_StepPicture_ok {fr : List Pc} {H : Heap} (a0 : Int) (a1 : Int) (a2 : Int) (a3 : Nat) (a4 : Nat) (hs : Sep H (fr))  (K : Int → Int → (List (Nat)) → Bool → Prop) (h : impl_StepPicture.wp a0 a1 a2 a3 a4 K) : OkQ Try.prog 104 [(.v (.int .i64 a0)), (.v (.int .i64 a1)), (.v (.int .i64 a2)), (.v (.flt .f32 a3)), (.v (.flt .f32 a4))] H (fun r H2 => ∃ (y0 : Int) (y1 : Int) (y2 : List (Nat)) (y3 : Bool), K y0 y1 y2 y3 ∧ ∃ (w0_ : AV), r = (.t [(.g [(.int .i64 y0), (.int .i64 y1), w0_]), (.v (.bool y3))]) ∧ Sep H2 (Pc.osl w0_ 1 (enc (eFlt .f32) y2) :: fr)) := by
  unfold impl_StepPicture.wp at h
  refine of_body Try.f104 F.hm Try.func104 rfl Try.call104 (by kernel_rfl) (by simp) ?_
  refine fi_seq ?_
  refine fi_region ?_
  refine sv_box hs rfl (c := [(.int .i64 a2)]) rfl F104.inf2 (stc rfl stn) nofun (fun id101 H102 hs => ?_)
  refine sv_box hs rfl (c := [(.flt .f32 a3)]) rfl F104.inf25 (stc rfl stn) nofun (fun id104 H105 hs => ?_)
  refine sv_box hs rfl (c := [(.flt .f32 a4)]) rfl F104.inf25 (stc rfl stn) nofun (fun id107 H108 hs => ?_)
  refine sv_alloc hs F104.ze50 rfl nofun (fun id110 H111 hs => ?_)
  refine so_assign (v := (.v (.bool false))) rfl ?_
  refine so_nil ?_
  refine fi_seq ?_
  refine fi_seq ?_
  refine fi_region ?_
  refine sv_ld hs 3 rfl rfl rfl F104.ag2 ?_
  refine sv_callS (impl_within_ok a2 (0 : Int) (16 : Int) hs  _ h) (fun _ _ ⟨_, _, _, e⟩ => e) rfl rfl ?_
  clear h
  rintro _ _ ⟨y113, h, rfl, rfl⟩
  refine so_un rfl au_not ?_
  refine so_move (v := (.v (.bool (!y113)))) rfl ?_
  replace h := ofT h; rcases h with ⟨c115, h⟩ | ⟨c115, h⟩
  · refine so_gyes rfl (not_f c115) ?_
    refine sv_ld hs 2 rfl rfl rfl F104.ag25 ?_
    refine so_gyes rfl (not_f c115) ?_
    refine sv_callS (impl_IsFinite_ok a3 hs  _ h) (fun _ _ ⟨_, _, _, e⟩ => e) rfl rfl ?_
    clear h
    rintro _ _ ⟨y116, h, rfl, rfl⟩
    refine so_gyes rfl (not_f c115) ?_
    refine so_un rfl au_not ?_
    refine so_pick_f (v := (.v (.bool (!y116)))) rfl (not_f c115) rfl ?_
    refine so_move (v := (.v (.bool (!y116)))) rfl ?_
    replace h := ofT h; rcases h with ⟨c118, h⟩ | ⟨c118, h⟩
    · refine so_gyes rfl (not_f c118) ?_
      refine sv_ld hs 1 rfl rfl rfl F104.ag25 ?_
      refine so_gyes rfl (not_f c118) ?_
      refine sv_callS (impl_IsFinite_ok a4 hs  _ h) (fun _ _ ⟨_, _, _, e⟩ => e) rfl rfl ?_
      clear h
      rintro _ _ ⟨y119, h, rfl, rfl⟩
      refine so_gyes rfl (not_f c118) ?_
      refine so_un rfl au_not ?_
      refine so_pick_f (v := (.v (.bool (!y119)))) rfl (not_f c118) rfl ?_
      refine so_nil ?_
      replace h := ofT h; rcases h with ⟨c121, h⟩ | ⟨c121, h⟩
      · refine fi_false rfl (not_f c121) ?_
        refine fi_skip ?_
        refine fi_seq ?_
        refine fi_region ?_
        refine so_move (v := (.v (.int .i64 a0))) rfl ?_
        refine so_move (v := (.v (.int .i64 a1))) rfl ?_
        refine so_makeFunc rfl ?_
        refine sv_call (impl_pictureBy_impl_StepPicture_1_ok a0 a1 id101 0 a2 id104 0 a3 id107 0 a4 hs (fun _ hs => (hs.ptat 3 rfl)) (fun _ hs => (hs.ptat 2 rfl)) (fun _ hs => (hs.ptat 1 rfl)) _ h) rfl rfl nofun ?_
        clear h hs
        rintro _ H128 ⟨y122, y123, y124, y127, h, v125, rfl, hs⟩
        refine so_extract rfl rfl rfl ?_
        refine so_extract rfl rfl rfl ?_
        refine sv_st hs 1 rfl rfl rfl (c := [(.int .i64 y122), (.int .i64 y123), v125]) rfl F104.sz50 rfl (stc rfl (stc rfl (stc (hs.shows 0 rfl).stor stn))) (leb rfl) (cs' := [(.int .i64 y122), (.int .i64 y123), v125]) rfl nofun (fun H129 hs => ?_)
        refine so_assign (v := (.v (.bool y127))) rfl ?_
        refine so_nil ?_
        exact by_ret (res_mk (ar_cells rfl F104.ag50 F104.sz50 (hs.lds 1 rfl (leb rfl) rfl) (ar_tmp rfl ar_nil)) rfl) ⟨_, _, _, _, h, _, rfl, (Sep.del 1 (Sep.del 1 (Sep.del 1 (Sep.del 1 hs))))⟩
      · refine fi_true rfl (not_t c121) ?_
        refine fi_seq ?_
        refine fi_region ?_
        refine so_build F104.bp50 (cps := []) rfl fan rfl ?_
        refine sv_st hs 0 rfl rfl rfl (c := [(.int .i64 (0 : Int)), (.int .i64 (0 : Int)), .nilsl]) rfl F104.sz50 rfl (stc rfl (stc rfl (stc rfl stn))) (leb rfl) (cs' := [(.int .i64 (0 : Int)), (.int .i64 (0 : Int)), .nilsl]) rfl nofun (fun H130 hs => ?_)
        refine so_assign (v := (.v (.bool false))) rfl ?_
        refine so_nil ?_
        exact by_ret (res_mk (ar_cells rfl F104.ag50 F104.sz50 (hs.lds 0 rfl (leb rfl) rfl) (ar_tmp rfl ar_nil)) rfl) ⟨_, _, _, _, h, _, rfl, (Sep.nil (Sep.dropn 4 hs) 1)⟩
    · refine so_gno rfl (not_t c118) ?_
      refine so_gno rfl (not_t c118) ?_
      refine so_gno rfl (not_t c118) ?_
      refine so_pick_t (v := (.v (.bool true))) rfl (not_t c118) rfl ?_
      refine so_nil ?_
      refine fi_true rfl rfl ?_
      refine fi_seq ?_
      refine fi_region ?_
      refine so_build F104.bp50 (cps := []) rfl fan rfl ?_
      refine sv_st hs 0 rfl rfl rfl (c := [(.int .i64 (0 : Int)), (.int .i64 (0 : Int)), .nilsl]) rfl F104.sz50 rfl (stc rfl (stc rfl (stc rfl stn))) (leb rfl) (cs' := [(.int .i64 (0 : Int)), (.int .i64 (0 : Int)), .nilsl]) rfl nofun (fun H131 hs => ?_)
      refine so_assign (v := (.v (.bool false))) rfl ?_
      refine so_nil ?_
      exact by_ret (res_mk (ar_cells rfl F104.ag50 F104.sz50 (hs.lds 0 rfl (leb rfl) rfl) (ar_tmp rfl ar_nil)) rfl) ⟨_, _, _, _, h, _, rfl, (Sep.nil (Sep.dropn 4 hs) 1)⟩
  · refine so_gno rfl (not_t c115) ?_
    refine so_gno rfl (not_t c115) ?_
    refine so_gno rfl (not_t c115) ?_
    refine so_pick_t (v := (.v (.bool true))) rfl (not_t c115) rfl ?_
    refine so_move (v := (.v (.bool true))) rfl ?_
    refine so_gno rfl rfl ?_
    refine so_gno rfl rfl ?_
    refine so_gno rfl rfl ?_
    refine so_pick_t (v := (.v (.bool true))) rfl rfl rfl ?_
    refine so_nil ?_
    refine fi_true rfl rfl ?_
    refine fi_seq ?_
    refine fi_region ?_
    refine so_build F104.bp50 (cps := []) rfl fan rfl ?_
    refine sv_st hs 0 rfl rfl rfl (c := [(.int .i64 (0 : Int)), (.int .i64 (0 : Int)), .nilsl]) rfl F104.sz50 rfl (stc rfl (stc rfl (stc rfl stn))) (leb rfl) (cs' := [(.int .i64 (0 : Int)), (.int .i64 (0 : Int)), .nilsl]) rfl nofun (fun H132 hs => ?_)
    refine so_assign (v := (.v (.bool false))) rfl ?_
    refine so_nil ?_
    exact by_ret (res_mk (ar_cells rfl F104.ag50 F104.sz50 (hs.lds 0 rfl (leb rfl) rfl) (ar_tmp rfl ar_nil)) rfl) ⟨_, _, _, _, h, _, rfl, (Sep.nil (Sep.dropn 4 hs) 1)⟩

end Go.Proofs.Ytpeijfnfffogeaa.G

namespace Go.Proofs.Ytpeijfnfffogeaa.G
open Go Go.Ab Go.Proofs Go.Proofs.Ytpeijfnfffogeaa
set_option maxRecDepth 100000
set_option linter.unusedVariables false
set_option linter.unusedSimpArgs false
set_option maxHeartbeats 1000000
attribute [local irreducible] wops wopf Go.Ab.Fin
theorem impl_far_ok {fr : List Pc} {H : Heap} (a0 : Int) (hs : Sep H (fr))  (K : Int → Prop) (h : impl_far.wp a0 K) : OkQ Try.prog 213 [(.v (.int .i64 a0))] H (fun r H2 => ∃ (y0 : Int), K y0 ∧ r = (.v (.int .i64 y0)) ∧ H = H2) := by
  unfold impl_far.wp at h
  refine of_body Try.f213 F.hm Try.func213 rfl Try.call213 (by kernel_rfl) (by simp) ?_
  refine fi_seq ?_
  refine fi_region ?_
  refine so_assign (v := (.v (.int .i64 (0 : Int)))) rfl ?_
  refine so_nil ?_
  refine fi_seq ?_
  refine fi_region ?_
  refine so_move (v := (.v (.int .i64 a0))) rfl ?_
  refine so_move (v := (.v (.int .i64 a0))) rfl ?_
  refine so_un rfl au_neg ?_
  refine sv_max rfl rfl ?_
  refine so_assign (v := (.v (.int .i64 (mxI a0 (IntKind.i64.wrap (0 - a0)))))) rfl ?_
  refine so_nil ?_
  exact by_ret rfl ⟨_, h, rfl, rfl⟩

end Go.Proofs.Ytpeijfnfffogeaa.G

namespace Go.Proofs.Ytpeijfnfffogeaa.G
open Go Go.Ab Go.Proofs Go.Proofs.Ytpeijfnfffogeaa
set_option maxRecDepth 100000
set_option linter.unusedVariables false
set_option linter.unusedSimpArgs false
set_option maxHeartbeats 1000000
attribute [local irreducible] wops wopf Go.Ab.Fin
theorem F214.it3 : tint Try.prog 3 = some .i64 := by kernel_rfl
theorem F214.it5 : tint Try.prog 5 = some .u8 := by kernel_rfl
theorem F214.sr9 : tstr Try.prog 9 = true := by kernel_rfl
theorem F214.us227 : (Try.prog.underlying 227).isSome = true := by kernel_rfl
theorem F214.us5 : (Try.prog.underlying 5).isSome = true := by kernel_rfl
theorem math_bits_Len64_ok {fr : List Pc} {H : Heap} (a0 : Int) (hs : Sep H (fr))  (K : Int → Prop) (h : math_bits_Len64.wp a0 K) : OkQ Try.prog 214 [(.v (.int .u64 a0))] H (fun r H2 => ∃ (y0 : Int), K y0 ∧ r = (.v (.int .i64 y0)) ∧ H = H2) := by
  unfold math_bits_Len64.wp at h
  refine of_body Try.f214 F.hm Try.func214 rfl Try.call214 (by kernel_rfl) (by simp) ?_
  refine fi_seq ?_
  refine fi_region ?_
  refine so_assign (v := (.v (.int .i64 (0 : Int)))) rfl ?_
  refine so_nil ?_
  refine fi_seq ?_
  refine fi_seq ?_
  refine fi_region ?_
  refine so_move (v := (.v (.int .u64 a0))) rfl ?_
  refine so_bin rfl rfl ab_geq ?_
  refine so_nil ?_
  replace h := ofP h; rcases h with ⟨c101, h⟩ | ⟨c101, h⟩
  · refine fi_true rfl (decide_eq_true c101) ?_
    refine fi_seq ?_
    refine fi_region ?_
    refine so_move (v := (.v (.int .u64 a0))) rfl ?_
    refine so_bin rfl rfl (ab_shr (by decide)) ?_
    refine so_assign (v := (.v (.int .u64 (Int.fdiv a0 (2 ^ (min ((32 : Int)).toNat IntKind.u64.bits)))))) rfl ?_
    refine so_nil ?_
    refine fi_region ?_
    refine so_assign (v := (.v (.int .i64 (32 : Int)))) rfl ?_
    refine so_nil ?_
    refine fi_seq ?_
    refine fi_seq ?_
    refine fi_region ?_
    refine so_move (v := (.v (.int .u64 (Int.fdiv a0 (2 ^ (min ((32 : Int)).toNat IntKind.u64.bits)))))) rfl ?_
    refine so_bin rfl rfl ab_geq ?_
    refine so_nil ?_
    replace h := ofP h; rcases h with ⟨c102, h⟩ | ⟨c102, h⟩
    · refine fi_true rfl (decide_eq_true c102) ?_
      refine fi_seq ?_
      refine fi_region ?_
      refine so_move (v := (.v (.int .u64 (Int.fdiv a0 (2 ^ (min ((32 : Int)).toNat IntKind.u64.bits)))))) rfl ?_
      refine so_bin rfl rfl (ab_shr (by decide)) ?_
      refine so_assign (v := (.v (.int .u64 (Int.fdiv (Int.fdiv a0 (2 ^ (min ((32 : Int)).toNat IntKind.u64.bits))) (2 ^ (min ((16 : Int)).toNat IntKind.u64.bits)))))) rfl ?_
      refine so_nil ?_
      refine fi_region ?_
      refine so_move (v := (.v (.int .i64 (32 : Int)))) rfl ?_
      refine so_bin rfl rfl ab_add ?_
      refine so_assign (v := (.v (.int .i64 (IntKind.i64.wrap ((32 : Int) + (16 : Int)))))) rfl ?_
      refine so_nil ?_
      refine fi_seq ?_
      refine fi_seq ?_
      refine fi_region ?_
      refine so_move (v := (.v (.int .u64 (Int.fdiv (Int.fdiv a0 (2 ^ (min ((32 : Int)).toNat IntKind.u64.bits))) (2 ^ (min ((16 : Int)).toNat IntKind.u64.bits)))))) rfl ?_
      refine so_bin rfl rfl ab_geq ?_
      refine so_nil ?_
      replace h := ofP h; rcases h with ⟨c103, h⟩ | ⟨c103, h⟩
      · refine fi_true rfl (decide_eq_true c103) ?_
        refine fi_seq ?_
        refine fi_region ?_
        refine so_move (v := (.v (.int .u64 (Int.fdiv (Int.fdiv a0 (2 ^ (min ((32 : Int)).toNat IntKind.u64.bits))) (2 ^ (min ((16 : Int)).toNat IntKind.u64.bits)))))) rfl ?_
        refine so_bin rfl rfl (ab_shr (by decide)) ?_
        refine so_assign (v := (.v (.int .u64 (Int.fdiv (Int.fdiv (Int.fdiv a0 (2 ^ (min ((32 : Int)).toNat IntKind.u64.bits))) (2 ^ (min ((16 : Int)).toNat IntKind.u64.bits))) (2 ^ (min ((8 : Int)).toNat IntKind.u64.bits)))))) rfl ?_
        refine so_nil ?_
        refine fi_region ?_
        refine so_move (v := (.v (.int .i64 (IntKind.i64.wrap ((32 : Int) + (16 : Int)))))) rfl ?_
        refine so_bin rfl rfl ab_add ?_
        refine so_assign (v := (.v (.int .i64 (IntKind.i64.wrap ((IntKind.i64.wrap ((32 : Int) + (16 : Int))) + (8 : Int)))))) rfl ?_
        refine so_nil ?_
        refine fi_seq ?_
        refine fi_region ?_
        refine so_move (v := (.v (.int .i64 (IntKind.i64.wrap ((IntKind.i64.wrap ((32 : Int) + (16 : Int))) + (8 : Int)))))) rfl ?_
        refine so_move (v := (.v (.int .u64 (Int.fdiv (Int.fdiv (Int.fdiv a0 (2 ^ (min ((32 : Int)).toNat IntKind.u64.bits))) (2 ^ (min ((16 : Int)).toNat IntKind.u64.bits))) (2 ^ (min ((8 : Int)).toNat IntKind.u64.bits)))))) rfl ?_
        refine sv_ii rfl F214.us227 F214.it5 ?_
        obtain ⟨c104, h⟩ := h
        refine so_index rfl rfl F214.sr9 c104 ?_
        refine sv_ii rfl F214.us5 F214.it3 ?_
        refine so_bin rfl rfl ab_add ?_
        refine so_assign (v := (.v (.int .i64 (IntKind.i64.wrap ((IntKind.i64.wrap ((IntKind.i64.wrap ((32 : Int) + (16 : Int))) + (8 : Int))) + (IntKind.i64.wrap (bt ([0, 1, 2, 2, 3, 3, 3, 3, 4, 4, 4, 4, 4, 4, 4, 4, 5, 5, 5, 5, 5, 5, 5, 5, 5, 5, 5, 5, 5, 5, 5, 5, 6, 6, 6, 6, 6, 6, 6, 6, 6, 6, 6, 6, 6, 6, 6, 6, 6, 6, 6, 6, 6, 6, 6, 6, 6, 6, 6, 6, 6, 6, 6, 6, 7, 7, 7, 7, 7, 7, 7, 7, 7, 7, 7, 7, 7, 7, 7, 7, 7, 7, 7, 7, 7, 7, 7, 7, 7, 7, 7, 7, 7, 7, 7, 7, 7, 7, 7, 7, 7, 7, 7, 7, 7, 7, 7, 7, 7, 7, 7, 7, 7, 7, 7, 7, 7, 7, 7, 7, 7, 7, 7, 7, 7, 7, 7, 7, 8, 8, 8, 8, 8, 8, 8, 8, 8, 8, 8, 8, 8, 8, 8, 8, 8, 8, 8, 8, 8, 8, 8, 8, 8, 8, 8, 8, 8, 8, 8, 8, 8, 8, 8, 8, 8, 8, 8, 8, 8, 8, 8, 8, 8, 8, 8, 8, 8, 8, 8, 8, 8, 8, 8, 8, 8, 8, 8, 8, 8, 8, 8, 8, 8, 8, 8, 8, 8, 8, 8, 8, 8, 8, 8, 8, 8, 8, 8, 8, 8, 8, 8, 8, 8, 8, 8, 8, 8, 8, 8, 8, 8, 8, 8, 8, 8, 8, 8, 8, 8, 8, 8, 8, 8, 8, 8, 8, 8, 8, 8, 8, 8, 8, 8, 8, 8, 8, 8, 8, 8, 8, 8, 8, 8, 8, 8, 8] : List UInt8) (IntKind.u8.wrap (Int.fdiv (Int.fdiv (Int.fdiv a0 (2 ^ (min ((32 : Int)).toNat IntKind.u64.bits))) (2 ^ (min ((16 : Int)).toNat IntKind.u64.bits))) (2 ^ (min ((8 : Int)).toNat IntKind.u64.bits))))))))))) rfl ?_
        refine so_nil ?_
        exact by_ret rfl ⟨_, h, rfl, rfl⟩
      · refine fi_false rfl (decide_eq_false c103) ?_
        refine fi_skip ?_
        refine fi_seq ?_
        refine fi_region ?_
        refine so_move (v := (.v (.int .i64 (IntKind.i64.wrap ((32 : Int) + (16 : Int)))))) rfl ?_
        refine so_move (v := (.v (.int .u64 (Int.fdiv (Int.fdiv a0 (2 ^ (min ((32 : Int)).toNat IntKind.u64.bits))) (2 ^ (min ((16 : Int)).toNat IntKind.u64.bits)))))) rfl ?_
        refine sv_ii rfl F214.us227 F214.it5 ?_
        obtain ⟨c105, h⟩ := h
        refine so_index rfl rfl F214.sr9 c105 ?_
        refine sv_ii rfl F214.us5 F214.it3 ?_
        refine so_bin rfl rfl ab_add ?_
        refine so_assign (v := (.v (.int .i64 (IntKind.i64.wrap ((IntKind.i64.wrap ((32 : Int) + (16 : Int))) + (IntKind.i64.wrap (bt ([0, 1, 2, 2, 3, 3, 3, 3, 4, 4, 4, 4, 4, 4, 4, 4, 5, 5, 5, 5, 5, 5, 5, 5, 5, 5, 5, 5, 5, 5, 5, 5, 6, 6, 6, 6, 6, 6, 6, 6, 6, 6, 6, 6, 6, 6, 6, 6, 6, 6, 6, 6, 6, 6, 6, 6, 6, 6, 6, 6, 6, 6, 6, 6, 7, 7, 7, 7, 7, 7, 7, 7, 7, 7, 7, 7, 7, 7, 7, 7, 7, 7, 7, 7, 7, 7, 7, 7, 7, 7, 7, 7, 7, 7, 7, 7, 7, 7, 7, 7, 7, 7, 7, 7, 7, 7, 7, 7, 7, 7, 7, 7, 7, 7, 7, 7, 7, 7, 7, 7, 7, 7, 7, 7, 7, 7, 7, 7, 8, 8, 8, 8, 8, 8, 8, 8, 8, 8, 8, 8, 8, 8, 8, 8, 8, 8, 8, 8, 8, 8, 8, 8, 8, 8, 8, 8, 8, 8, 8, 8, 8, 8, 8, 8, 8, 8, 8, 8, 8, 8, 8, 8, 8, 8, 8, 8, 8, 8, 8, 8, 8, 8, 8, 8, 8, 8, 8, 8, 8, 8, 8, 8, 8, 8, 8, 8, 8, 8, 8, 8, 8, 8, 8, 8, 8, 8, 8, 8, 8, 8, 8, 8, 8, 8, 8, 8, 8, 8, 8, 8, 8, 8, 8, 8, 8, 8, 8, 8, 8, 8, 8, 8, 8, 8, 8, 8, 8, 8, 8, 8, 8, 8, 8, 8, 8, 8, 8, 8, 8, 8, 8, 8, 8, 8, 8, 8] : List UInt8) (IntKind.u8.wrap (Int.fdiv (Int.fdiv a0 (2 ^ (min ((32 : Int)).toNat IntKind.u64.bits))) (2 ^ (min ((16 : Int)).toNat IntKind.u64.bits))))))))))) rfl ?_
        refine so_nil ?_
        exact by_ret rfl ⟨_, h, rfl, rfl⟩
    · refine fi_false rfl (decide_eq_false c102) ?_
      refine fi_skip ?_
      refine fi_seq ?_
      refine fi_seq ?_
      refine fi_region ?_
      refine so_move (v := (.v (.int .u64 (Int.fdiv a0 (2 ^ (min ((32 : Int)).toNat IntKind.u64.bits)))))) rfl ?_
      refine so_bin rfl rfl ab_geq ?_
      refine so_nil ?_
      replace h := ofP h; rcases h with ⟨c106, h⟩ | ⟨c106, h⟩
      · refine fi_true rfl (decide_eq_true c106) ?_
        refine fi_seq ?_
        refine fi_region ?_
        refine so_move (v := (.v (.int .u64 (Int.fdiv a0 (2 ^ (min ((32 : Int)).toNat IntKind.u64.bits)))))) rfl ?_
        refine so_bin rfl rfl (ab_shr (by decide)) ?_
        refine so_assign (v := (.v (.int .u64 (Int.fdiv (Int.fdiv a0 (2 ^ (min ((32 : Int)).toNat IntKind.u64.bits))) (2 ^ (min ((8 : Int)).toNat IntKind.u64.bits)))))) rfl ?_
        refine so_nil ?_
        refine fi_region ?_
        refine so_move (v := (.v (.int .i64 (32 : Int)))) rfl ?_
        refine so_bin rfl rfl ab_add ?_
        refine so_assign (v := (.v (.int .i64 (IntKind.i64.wrap ((32 : Int) + (8 : Int)))))) rfl ?_
        refine so_nil ?_
        refine fi_seq ?_
        refine fi_region ?_
        refine so_move (v := (.v (.int .i64 (IntKind.i64.wrap ((32 : Int) + (8 : Int)))))) rfl ?_
        refine so_move (v := (.v (.int .u64 (Int.fdiv (Int.fdiv a0 (2 ^ (min ((32 : Int)).toNat IntKind.u64.bits))) (2 ^ (min ((8 : Int)).toNat IntKind.u64.bits)))))) rfl ?_
        refine sv_ii rfl F214.us227 F214.it5 ?_
        obtain ⟨c107, h⟩ := h
        refine so_index rfl rfl F214.sr9 c107 ?_
        refine sv_ii rfl F214.us5 F214.it3 ?_
        refine so_bin rfl rfl ab_add ?_
        refine so_assign (v := (.v (.int .i64 (IntKind.i64.wrap ((IntKind.i64.wrap ((32 : Int) + (8 : Int))) + (IntKind.i64.wrap (bt ([0, 1, 2, 2, 3, 3, 3, 3, 4, 4, 4, 4, 4, 4, 4, 4, 5, 5, 5, 5, 5, 5, 5, 5, 5, 5, 5, 5, 5, 5, 5, 5, 6, 6, 6, 6, 6, 6, 6, 6, 6, 6, 6, 6, 6, 6, 6, 6, 6, 6, 6, 6, 6, 6, 6, 6, 6, 6, 6, 6, 6, 6, 6, 6, 7, 7, 7, 7, 7, 7, 7, 7, 7, 7, 7, 7, 7, 7, 7, 7, 7, 7, 7, 7, 7, 7, 7, 7, 7, 7, 7, 7, 7, 7, 7, 7, 7, 7, 7, 7, 7, 7, 7, 7, 7, 7, 7, 7, 7, 7, 7, 7, 7, 7, 7, 7, 7, 7, 7, 7, 7, 7, 7, 7, 7, 7, 7, 7, 8, 8, 8, 8, 8, 8, 8, 8, 8, 8, 8, 8, 8, 8, 8, 8, 8, 8, 8, 8, 8, 8, 8, 8, 8, 8, 8, 8, 8, 8, 8, 8, 8, 8, 8, 8, 8, 8, 8, 8, 8, 8, 8, 8, 8, 8, 8, 8, 8, 8, 8, 8, 8, 8, 8, 8, 8, 8, 8, 8, 8, 8, 8, 8, 8, 8, 8, 8, 8, 8, 8, 8, 8, 8, 8, 8, 8, 8, 8, 8, 8, 8, 8, 8, 8, 8, 8, 8, 8, 8, 8, 8, 8, 8, 8, 8, 8, 8, 8, 8, 8, 8, 8, 8, 8, 8, 8, 8, 8, 8, 8, 8, 8, 8, 8, 8, 8, 8, 8, 8, 8, 8, 8, 8, 8, 8, 8, 8] : List UInt8) (IntKind.u8.wrap (Int.fdiv (Int.fdiv a0 (2 ^ (min ((32 : Int)).toNat IntKind.u64.bits))) (2 ^ (min ((8 : Int)).toNat IntKind.u64.bits))))))))))) rfl ?_
        refine so_nil ?_
        exact by_ret rfl ⟨_, h, rfl, rfl⟩
      · refine fi_false rfl (decide_eq_false c106) ?_
        refine fi_skip ?_
        refine fi_seq ?_
        refine fi_region ?_
        refine so_move (v := (.v (.int .i64 (32 : Int)))) rfl ?_
        refine so_move (v := (.v (.int .u64 (Int.fdiv a0 (2 ^ (min ((32 : Int)).toNat IntKind.u64.bits)))))) rfl ?_
        refine sv_ii rfl F214.us227 F214.it5 ?_
        obtain ⟨c108, h⟩ := h
        refine so_index rfl rfl F214.sr9 c108 ?_
        refine sv_ii rfl F214.us5 F214.it3 ?_
        refine so_bin rfl rfl ab_add ?_
        refine so_assign (v := (.v (.int .i64 (IntKind.i64.wrap ((32 : Int) + (IntKind.i64.wrap (bt ([0, 1, 2, 2, 3, 3, 3, 3, 4, 4, 4, 4, 4, 4, 4, 4, 5, 5, 5, 5, 5, 5, 5, 5, 5, 5, 5, 5, 5, 5, 5, 5, 6, 6, 6, 6, 6, 6, 6, 6, 6, 6, 6, 6, 6, 6, 6, 6, 6, 6, 6, 6, 6, 6, 6, 6, 6, 6, 6, 6, 6, 6, 6, 6, 7, 7, 7, 7, 7, 7, 7, 7, 7, 7, 7, 7, 7, 7, 7, 7, 7, 7, 7, 7, 7, 7, 7, 7, 7, 7, 7, 7, 7, 7, 7, 7, 7, 7, 7, 7, 7, 7, 7, 7, 7, 7, 7, 7, 7, 7, 7, 7, 7, 7, 7, 7, 7, 7, 7, 7, 7, 7, 7, 7, 7, 7, 7, 7, 8, 8, 8, 8, 8, 8, 8, 8, 8, 8, 8, 8, 8, 8, 8, 8, 8, 8, 8, 8, 8, 8, 8, 8, 8, 8, 8, 8, 8, 8, 8, 8, 8, 8, 8, 8, 8, 8, 8, 8, 8, 8, 8, 8, 8, 8, 8, 8, 8, 8, 8, 8, 8, 8, 8, 8, 8, 8, 8, 8, 8, 8, 8, 8, 8, 8, 8, 8, 8, 8, 8, 8, 8, 8, 8, 8, 8, 8, 8, 8, 8, 8, 8, 8, 8, 8, 8, 8, 8, 8, 8, 8, 8, 8, 8, 8, 8, 8, 8, 8, 8, 8, 8, 8, 8, 8, 8, 8, 8, 8, 8, 8, 8, 8, 8, 8, 8, 8, 8, 8, 8, 8, 8, 8, 8, 8, 8, 8] : List UInt8) (IntKind.u8.wrap (Int.fdiv a0 (2 ^ (min ((32 : Int)).toNat IntKind.u64.bits))))))))))) rfl ?_
        refine so_nil ?_
        exact by_ret rfl ⟨_, h, rfl, rfl⟩
  · refine fi_false rfl (decide_eq_false c101) ?_
    refine fi_skip ?_
    refine fi_seq ?_
    refine fi_seq ?_
    refine fi_region ?_
    refine so_move (v := (.v (.int .u64 a0))) rfl ?_
    refine so_bin rfl rfl ab_geq ?_
    refine so_nil ?_
    replace h := ofP h; rcases h with ⟨c109, h⟩ | ⟨c109, h⟩
    · refine fi_true rfl (decide_eq_true c109) ?_
      refine fi_seq ?_
      refine fi_region ?_
      refine so_move (v := (.v (.int .u64 a0))) rfl ?_
      refine so_bin rfl rfl (ab_shr (by decide)) ?_
      refine so_assign (v := (.v (.int .u64 (Int.fdiv a0 (2 ^ (min ((16 : Int)).toNat IntKind.u64.bits)))))) rfl ?_
      refine so_nil ?_
      refine fi_region ?_
      refine so_move (v := (.v (.int .i64 (0 : Int)))) rfl ?_
      refine so_bin rfl rfl ab_add ?_
      refine so_assign (v := (.v (.int .i64 (IntKind.i64.wrap ((0 : Int) + (16 : Int)))))) rfl ?_
      refine so_nil ?_
      refine fi_seq ?_
      refine fi_seq ?_
      refine fi_region ?_
      refine so_move (v := (.v (.int .u64 (Int.fdiv a0 (2 ^ (min ((16 : Int)).toNat IntKind.u64.bits)))))) rfl ?_
      refine so_bin rfl rfl ab_geq ?_
      refine so_nil ?_
      replace h := ofP h; rcases h with ⟨c110, h⟩ | ⟨c110, h⟩
      · refine fi_true rfl (decide_eq_true c110) ?_
        refine fi_seq ?_
        refine fi_region ?_
        refine so_move (v := (.v (.int .u64 (Int.fdiv a0 (2 ^ (min ((16 : Int)).toNat IntKind.u64.bits)))))) rfl ?_
        refine so_bin rfl rfl (ab_shr (by decide)) ?_
        refine so_assign (v := (.v (.int .u64 (Int.fdiv (Int.fdiv a0 (2 ^ (min ((16 : Int)).toNat IntKind.u64.bits))) (2 ^ (min ((8 : Int)).toNat IntKind.u64.bits)))))) rfl ?_
        refine so_nil ?_
        refine fi_region ?_
        refine so_move (v := (.v (.int .i64 (IntKind.i64.wrap ((0 : Int) + (16 : Int)))))) rfl ?_
        refine so_bin rfl rfl ab_add ?_
        refine so_assign (v := (.v (.int .i64 (IntKind.i64.wrap ((IntKind.i64.wrap ((0 : Int) + (16 : Int))) + (8 : Int)))))) rfl ?_
        refine so_nil ?_
        refine fi_seq ?_
        refine fi_region ?_
        refine so_move (v := (.v (.int .i64 (IntKind.i64.wrap ((IntKind.i64.wrap ((0 : Int) + (16 : Int))) + (8 : Int)))))) rfl ?_
        refine so_move (v := (.v (.int .u64 (Int.fdiv (Int.fdiv a0 (2 ^ (min ((16 : Int)).toNat IntKind.u64.bits))) (2 ^ (min ((8 : Int)).toNat IntKind.u64.bits)))))) rfl ?_
        refine sv_ii rfl F214.us227 F214.it5 ?_
        obtain ⟨c111, h⟩ := h
        refine so_index rfl rfl F214.sr9 c111 ?_
        refine sv_ii rfl F214.us5 F214.it3 ?_
        refine so_bin rfl rfl ab_add ?_
        refine so_assign (v := (.v (.int .i64 (IntKind.i64.wrap ((IntKind.i64.wrap ((IntKind.i64.wrap ((0 : Int) + (16 : Int))) + (8 : Int))) + (IntKind.i64.wrap (bt ([0, 1, 2, 2, 3, 3, 3, 3, 4, 4, 4, 4, 4, 4, 4, 4, 5, 5, 5, 5, 5, 5, 5, 5, 5, 5, 5, 5, 5, 5, 5, 5, 6, 6, 6, 6, 6, 6, 6, 6, 6, 6, 6, 6, 6, 6, 6, 6, 6, 6, 6, 6, 6, 6, 6, 6, 6, 6, 6, 6, 6, 6, 6, 6, 7, 7, 7, 7, 7, 7, 7, 7, 7, 7, 7, 7, 7, 7, 7, 7, 7, 7, 7, 7, 7, 7, 7, 7, 7, 7, 7, 7, 7, 7, 7, 7, 7, 7, 7, 7, 7, 7, 7, 7, 7, 7, 7, 7, 7, 7, 7, 7, 7, 7, 7, 7, 7, 7, 7, 7, 7, 7, 7, 7, 7, 7, 7, 7, 8, 8, 8, 8, 8, 8, 8, 8, 8, 8, 8, 8, 8, 8, 8, 8, 8, 8, 8, 8, 8, 8, 8, 8, 8, 8, 8, 8, 8, 8, 8, 8, 8, 8, 8, 8, 8, 8, 8, 8, 8, 8, 8, 8, 8, 8, 8, 8, 8, 8, 8, 8, 8, 8, 8, 8, 8, 8, 8, 8, 8, 8, 8, 8, 8, 8, 8, 8, 8, 8, 8, 8, 8, 8, 8, 8, 8, 8, 8, 8, 8, 8, 8, 8, 8, 8, 8, 8, 8, 8, 8, 8, 8, 8, 8, 8, 8, 8, 8, 8, 8, 8, 8, 8, 8, 8, 8, 8, 8, 8, 8, 8, 8, 8, 8, 8, 8, 8, 8, 8, 8, 8, 8, 8, 8, 8, 8, 8] : List UInt8) (IntKind.u8.wrap (Int.fdiv (Int.fdiv a0 (2 ^ (min ((16 : Int)).toNat IntKind.u64.bits))) (2 ^ (min ((8 : Int)).toNat IntKind.u64.bits))))))))))) rfl ?_
        refine so_nil ?_
        exact by_ret rfl ⟨_, h, rfl, rfl⟩
      · refine fi_false rfl (decide_eq_false c110) ?_
        refine fi_skip ?_
        refine fi_seq ?_
        refine fi_region ?_
        refine so_move (v := (.v (.int .i64 (IntKind.i64.wrap ((0 : Int) + (16 : Int)))))) rfl ?_
        refine so_move (v := (.v (.int .u64 (Int.fdiv a0 (2 ^ (min ((16 : Int)).toNat IntKind.u64.bits)))))) rfl ?_
        refine sv_ii rfl F214.us227 F214.it5 ?_
        obtain ⟨c112, h⟩ := h
        refine so_index rfl rfl F214.sr9 c112 ?_
        refine sv_ii rfl F214.us5 F214.it3 ?_
        refine so_bin rfl rfl ab_add ?_
        refine so_assign (v := (.v (.int .i64 (IntKind.i64.wrap ((IntKind.i64.wrap ((0 : Int) + (16 : Int))) + (IntKind.i64.wrap (bt ([0, 1, 2, 2, 3, 3, 3, 3, 4, 4, 4, 4, 4, 4, 4, 4, 5, 5, 5, 5, 5, 5, 5, 5, 5, 5, 5, 5, 5, 5, 5, 5, 6, 6, 6, 6, 6, 6, 6, 6, 6, 6, 6, 6, 6, 6, 6, 6, 6, 6, 6, 6, 6, 6, 6, 6, 6, 6, 6, 6, 6, 6, 6, 6, 7, 7, 7, 7, 7, 7, 7, 7, 7, 7, 7, 7, 7, 7, 7, 7, 7, 7, 7, 7, 7, 7, 7, 7, 7, 7, 7, 7, 7, 7, 7, 7, 7, 7, 7, 7, 7, 7, 7, 7, 7, 7, 7, 7, 7, 7, 7, 7, 7, 7, 7, 7, 7, 7, 7, 7, 7, 7, 7, 7, 7, 7, 7, 7, 8, 8, 8, 8, 8, 8, 8, 8, 8, 8, 8, 8, 8, 8, 8, 8, 8, 8, 8, 8, 8, 8, 8, 8, 8, 8, 8, 8, 8, 8, 8, 8, 8, 8, 8, 8, 8, 8, 8, 8, 8, 8, 8, 8, 8, 8, 8, 8, 8, 8, 8, 8, 8, 8, 8, 8, 8, 8, 8, 8, 8, 8, 8, 8, 8, 8, 8, 8, 8, 8, 8, 8, 8, 8, 8, 8, 8, 8, 8, 8, 8, 8, 8, 8, 8, 8, 8, 8, 8, 8, 8, 8, 8, 8, 8, 8, 8, 8, 8, 8, 8, 8, 8, 8, 8, 8, 8, 8, 8, 8, 8, 8, 8, 8, 8, 8, 8, 8, 8, 8, 8, 8, 8, 8, 8, 8, 8, 8] : List UInt8) (IntKind.u8.wrap (Int.fdiv a0 (2 ^ (min ((16 : Int)).toNat IntKind.u64.bits))))))))))) rfl ?_
        refine so_nil ?_
        exact by_ret rfl ⟨_, h, rfl, rfl⟩
    · refine fi_false rfl (decide_eq_false c109) ?_
      refine fi_skip ?_
      refine fi_seq ?_
      refine fi_seq ?_
      refine fi_region ?_
      refine so_move (v := (.v (.int .u64 a0))) rfl ?_
      refine so_bin rfl rfl ab_geq ?_
      refine so_nil ?_
      replace h := ofP h; rcases h with ⟨c113, h⟩ | ⟨c113, h⟩
      · refine fi_true rfl (decide_eq_true c113) ?_
        refine fi_seq ?_
        refine fi_region ?_
        refine so_move (v := (.v (.int .u64 a0))) rfl ?_
        refine so_bin rfl rfl (ab_shr (by decide)) ?_
        refine so_assign (v := (.v (.int .u64 (Int.fdiv a0 (2 ^ (min ((8 : Int)).toNat IntKind.u64.bits)))))) rfl ?_
        refine so_nil ?_
        refine fi_region ?_
        refine so_move (v := (.v (.int .i64 (0 : Int)))) rfl ?_
        refine so_bin rfl rfl ab_add ?_
        refine so_assign (v := (.v (.int .i64 (IntKind.i64.wrap ((0 : Int) + (8 : Int)))))) rfl ?_
        refine so_nil ?_
        refine fi_seq ?_
        refine fi_region ?_
        refine so_move (v := (.v (.int .i64 (IntKind.i64.wrap ((0 : Int) + (8 : Int)))))) rfl ?_
        refine so_move (v := (.v (.int .u64 (Int.fdiv a0 (2 ^ (min ((8 : Int)).toNat IntKind.u64.bits)))))) rfl ?_
        refine sv_ii rfl F214.us227 F214.it5 ?_
        obtain ⟨c114, h⟩ := h
        refine so_index rfl rfl F214.sr9 c114 ?_
        refine sv_ii rfl F214.us5 F214.it3 ?_
        refine so_bin rfl rfl ab_add ?_
        refine so_assign (v := (.v (.int .i64 (IntKind.i64.wrap ((IntKind.i64.wrap ((0 : Int) + (8 : Int))) + (IntKind.i64.wrap (bt ([0, 1, 2, 2, 3, 3, 3, 3, 4, 4, 4, 4, 4, 4, 4, 4, 5, 5, 5, 5, 5, 5, 5, 5, 5, 5, 5, 5, 5, 5, 5, 5, 6, 6, 6, 6, 6, 6, 6, 6, 6, 6, 6, 6, 6, 6, 6, 6, 6, 6, 6, 6, 6, 6, 6, 6, 6, 6, 6, 6, 6, 6, 6, 6, 7, 7, 7, 7, 7, 7, 7, 7, 7, 7, 7, 7, 7, 7, 7, 7, 7, 7, 7, 7, 7, 7, 7, 7, 7, 7, 7, 7, 7, 7, 7, 7, 7, 7, 7, 7, 7, 7, 7, 7, 7, 7, 7, 7, 7, 7, 7, 7, 7, 7, 7, 7, 7, 7, 7, 7, 7, 7, 7, 7, 7, 7, 7, 7, 8, 8, 8, 8, 8, 8, 8, 8, 8, 8, 8, 8, 8, 8, 8, 8, 8, 8, 8, 8, 8, 8, 8, 8, 8, 8, 8, 8, 8, 8, 8, 8, 8, 8, 8, 8, 8, 8, 8, 8, 8, 8, 8, 8, 8, 8, 8, 8, 8, 8, 8, 8, 8, 8, 8, 8, 8, 8, 8, 8, 8, 8, 8, 8, 8, 8, 8, 8, 8, 8, 8, 8, 8, 8, 8, 8, 8, 8, 8, 8, 8, 8, 8, 8, 8, 8, 8, 8, 8, 8, 8, 8, 8, 8, 8, 8, 8, 8, 8, 8, 8, 8, 8, 8, 8, 8, 8, 8, 8, 8, 8, 8, 8, 8, 8, 8, 8, 8, 8, 8, 8, 8, 8, 8, 8, 8, 8, 8] : List UInt8) (IntKind.u8.wrap (Int.fdiv a0 (2 ^ (min ((8 : Int)).toNat IntKind.u64.bits))))))))))) rfl ?_
        refine so_nil ?_
        exact by_ret rfl ⟨_, h, rfl, rfl⟩
      · refine fi_false rfl (decide_eq_false c113) ?_
        refine fi_skip ?_
        refine fi_seq ?_
        refine fi_region ?_
        refine so_move (v := (.v (.int .i64 (0 : Int)))) rfl ?_
        refine so_move (v := (.v (.int .u64 a0))) rfl ?_
        refine sv_ii rfl F214.us227 F214.it5 ?_
        obtain ⟨c115, h⟩ := h
        refine so_index rfl rfl F214.sr9 c115 ?_
        refine sv_ii rfl F214.us5 F214.it3 ?_
        refine so_bin rfl rfl ab_add ?_
        refine so_assign (v := (.v (.int .i64 (IntKind.i64.wrap ((0 : Int) + (IntKind.i64.wrap (bt ([0, 1, 2, 2, 3, 3, 3, 3, 4, 4, 4, 4, 4, 4, 4, 4, 5, 5, 5, 5, 5, 5, 5, 5, 5, 5, 5, 5, 5, 5, 5, 5, 6, 6, 6, 6, 6, 6, 6, 6, 6, 6, 6, 6, 6, 6, 6, 6, 6, 6, 6, 6, 6, 6, 6, 6, 6, 6, 6, 6, 6, 6, 6, 6, 7, 7, 7, 7, 7, 7, 7, 7, 7, 7, 7, 7, 7, 7, 7, 7, 7, 7, 7, 7, 7, 7, 7, 7, 7, 7, 7, 7, 7, 7, 7, 7, 7, 7, 7, 7, 7, 7, 7, 7, 7, 7, 7, 7, 7, 7, 7, 7, 7, 7, 7, 7, 7, 7, 7, 7, 7, 7, 7, 7, 7, 7, 7, 7, 8, 8, 8, 8, 8, 8, 8, 8, 8, 8, 8, 8, 8, 8, 8, 8, 8, 8, 8, 8, 8, 8, 8, 8, 8, 8, 8, 8, 8, 8, 8, 8, 8, 8, 8, 8, 8, 8, 8, 8, 8, 8, 8, 8, 8, 8, 8, 8, 8, 8, 8, 8, 8, 8, 8, 8, 8, 8, 8, 8, 8, 8, 8, 8, 8, 8, 8, 8, 8, 8, 8, 8, 8, 8, 8, 8, 8, 8, 8, 8, 8, 8, 8, 8, 8, 8, 8, 8, 8, 8, 8, 8, 8, 8, 8, 8, 8, 8, 8, 8, 8, 8, 8, 8, 8, 8, 8, 8, 8, 8, 8, 8, 8, 8, 8, 8, 8, 8, 8, 8, 8, 8, 8, 8, 8, 8, 8, 8] : List UInt8) (IntKind.u8.wrap a0)))))))) rfl ?_
        refine so_nil ?_
        exact by_ret rfl ⟨_, h, rfl, rfl⟩

end Go.Proofs.Ytpeijfnfffogeaa.G

namespace Go.Proofs.Ytpeijfnfffogeaa.G
open Go Go.Ab Go.Proofs Go.Proofs.Ytpeijfnfffogeaa
set_option maxRecDepth 100000
set_option linter.unusedVariables false
set_option linter.unusedSimpArgs false
set_option maxHeartbeats 1000000
attribute [local irreducible] wops wopf Go.Ab.Fin
theorem F142.ag2 : tagg Try.prog 2 = some false := by kernel_rfl
theorem F142.it227 : tint Try.prog 227 = some .u64 := by kernel_rfl
theorem F142.ti24 : (telem Try.prog 24).isSome = true := by kernel_rfl
theorem F142.tl24 : (telem Try.prog 24).bind (tsz Try.prog) = some 1 := by kernel_rfl
theorem F142.us2 : (Try.prog.underlying 2).isSome = true := by kernel_rfl
theorem impl_planesFor_ok {fr : List Pc} {H : Heap} (v0 : AV) (l0 : List (Int)) (hs : Sep H (fr)) (g0 : ∀ H, Sep H fr → Shows H v0 1 (enc (eInt .i64) l0)) (K : Int → Prop) (h : impl_planesFor.wp l0 K) : OkQ Try.prog 142 [(.v v0)] H (fun r H2 => ∃ (y0 : Int), K y0 ∧ r = (.v (.int .i64 y0)) ∧ H = H2) := by
  unfold impl_planesFor.wp at h
  refine of_body Try.f142 F.hm Try.func142 rfl Try.call142 (by kernel_rfl) (by simp) ?_
  refine fi_seq ?_
  refine fi_region ?_
  refine so_assign (v := (.v (.int .i64 (0 : Int)))) rfl ?_
  refine so_nil ?_
  refine fi_seq ?_
  refine fi_region ?_
  refine so_assign (v := (.v (.int .i64 (0 : Int)))) rfl ?_
  refine so_nil ?_
  refine fi_seq ?_
  refine fi_seq ?_
  refine fi_region ?_
  refine so_move (v := (.v v0)) rfl ?_
  refine sv_len (g0 _ hs) (fun _ => rfl) (by decide) rfl F142.ti24 ?_
  refine so_move (v := (.v (.int .i64 (0 : Int)))) rfl ?_
  refine so_nil ?_
  refine fi_block ?_
  refine fi_loop ?_
  refine fi_at [(3, (.v (.int .i64 (0 : Int)))), (6, (.v v0)), (7, (.v (.int .i64 (l0.length : Int)))), (8, (.v (.int .i64 (0 : Int))))] ⟨rfl, rfl, rfl, rfl, trivial⟩ ?_
  refine h (fun (most102 : Int) (x103 : Int) => ∀ (s : Nat → TV), Fin _ _ (updL s [(3, (.v (.int .i64 most102))), (6, (.v v0)), (7, (.v (.int .i64 (l0.length : Int)))), (8, (.v (.int .i64 x103)))]) _ _) ?_ _
  intro most102 x103 h s110
  refine fi_inLoop ?_
  refine fi_seq ?_
  refine fi_region ?_
  refine so_bin rfl rfl ab_lss ?_
  refine so_nil ?_
  refine fi_seq ?_
  replace h := ofP h; rcases h with ⟨c104, h⟩ | ⟨c104, h⟩
  · refine fi_true rfl (decide_eq_true c104) ?_
    refine fi_skip ?_
    refine fi_seq ?_
    refine fi_block ?_
    refine fi_seq ?_
    refine fi_region ?_
    obtain ⟨c105, h⟩ := h
    refine sv_idx (g0 _ hs) c105 (fun _ => rfl) (by decide) rfl rfl F142.tl24 ?_
    refine sv_cell (g0 _ hs) c105 (0 : Int) 0 (fun x => (AV.int .i64 x)) (fun _ => rfl) (fun _ => rfl) rfl F142.ag2 ?_
    refine so_assign (v := (.v (.int .i64 (l0.getD (x103).toNat (0 : Int))))) rfl ?_
    refine so_nil ?_
    refine fi_region ?_
    refine so_move (v := (.v (.int .i64 most102))) rfl ?_
    refine so_move (v := (.v (.int .i64 (l0.getD (x103).toNat (0 : Int))))) rfl ?_
    refine sv_callS (impl_far_ok (l0.getD (x103).toNat (0 : Int)) hs  _ h) (fun _ _ ⟨_, _, _, e⟩ => e) rfl rfl ?_
    clear h
    rintro _ _ ⟨y106, h, rfl, rfl⟩
    refine sv_max rfl rfl ?_
    refine so_assign (v := (.v (.int .i64 (mxI most102 y106)))) rfl ?_
    refine so_nil ?_
    refine fi_inBlock ?_
    refine fi_region ?_
    refine so_bin rfl rfl ab_add ?_
    refine so_move (v := (.v (.int .i64 (IntKind.i64.wrap (x103 + (1 : Int)))))) rfl ?_
    refine so_nil ?_
    exact fi_at [(3, (.v (.int .i64 (mxI most102 y106)))), (6, (.v v0)), (7, (.v (.int .i64 (l0.length : Int)))), (8, (.v (.int .i64 (IntKind.i64.wrap (x103 + (1 : Int))))))] ⟨rfl, rfl, rfl, rfl, trivial⟩ (h _)
  · refine fi_false rfl (decide_eq_false c104) ?_
    refine fi_exit rfl ?_
    refine fi_seq ?_
    refine fi_region ?_
    refine so_move (v := (.v (.int .i64 most102))) rfl ?_
    refine sv_ii rfl F142.us2 F142.it227 ?_
    refine sv_callS (math_bits_Len64_ok (IntKind.u64.wrap most102) hs  _ h) (fun _ _ ⟨_, _, _, e⟩ => e) rfl rfl ?_
    clear h
    rintro _ _ ⟨y108, h, rfl, rfl⟩
    refine so_assign (v := (.v (.int .i64 y108))) rfl ?_
    refine so_nil ?_
    exact by_ret rfl ⟨_, h, rfl, rfl⟩

end Go.Proofs.Ytpeijfnfffogeaa.G

namespace Go.Proofs.Ytpeijfnfffogeaa.G
open Go Go.Ab Go.Proofs Go.Proofs.Ytpeijfnfffogeaa
set_option maxRecDepth 100000
set_option linter.unusedVariables false
set_option linter.unusedSimpArgs false
set_option maxHeartbeats 1000000
attribute [local irreducible] wops wopf Go.Ab.Fin
theorem F222.ag2 : tagg Try.prog 2 = some false := by kernel_rfl
theorem F222.ti24 : (telem Try.prog 24).isSome = true := by kernel_rfl
theorem F222.tl24 : (telem Try.prog 24).bind (tsz Try.prog) = some 1 := by kernel_rfl
theorem impl_areWithin_ok {fr : List Pc} {H : Heap} (v0 : AV) (l0 : List (Int)) (a1 : Int) (hs : Sep H (fr)) (g0 : ∀ H, Sep H fr → Shows H v0 1 (enc (eInt .i64) l0)) (K : Bool → Prop) (h : impl_areWithin.wp l0 a1 K) : OkQ Try.prog 222 [(.v v0), (.v (.int .i64 a1))] H (fun r H2 => ∃ (y0 : Bool), K y0 ∧ r = (.v (.bool y0)) ∧ H = H2) := by
  unfold impl_areWithin.wp at h
  refine of_body Try.f222 F.hm Try.func222 rfl Try.call222 (by kernel_rfl) (by simp) ?_
  refine fi_seq ?_
  refine fi_region ?_
  refine so_assign (v := (.v (.bool false))) rfl ?_
  refine so_nil ?_
  refine fi_seq ?_
  refine fi_seq ?_
  refine fi_region ?_
  refine so_move (v := (.v v0)) rfl ?_
  refine sv_len (g0 _ hs) (fun _ => rfl) (by decide) rfl F222.ti24 ?_
  refine so_move (v := (.v (.int .i64 (0 : Int)))) rfl ?_
  refine so_nil ?_
  refine fi_block ?_
  refine fi_loop ?_
  refine fi_at [(1, (.v (.int .i64 a1))), (7, (.v v0)), (8, (.v (.int .i64 (l0.length : Int)))), (9, (.v (.int .i64 (0 : Int))))] ⟨rfl, rfl, rfl, rfl, trivial⟩ ?_
  refine h (fun (x102 : Int) => ∀ (s : Nat → TV), Fin _ _ (updL s [(1, (.v (.int .i64 a1))), (7, (.v v0)), (8, (.v (.int .i64 (l0.length : Int)))), (9, (.v (.int .i64 x102)))]) _ _) ?_ _
  intro x102 h s108
  refine fi_inLoop ?_
  refine fi_seq ?_
  refine fi_region ?_
  refine so_bin rfl rfl ab_lss ?_
  refine so_nil ?_
  refine fi_seq ?_
  replace h := ofP h; rcases h with ⟨c103, h⟩ | ⟨c103, h⟩
  · refine fi_true rfl (decide_eq_true c103) ?_
    refine fi_skip ?_
    refine fi_seq ?_
    refine fi_block ?_
    refine fi_seq ?_
    refine fi_region ?_
    obtain ⟨c104, h⟩ := h
    refine sv_idx (g0 _ hs) c104 (fun _ => rfl) (by decide) rfl rfl F222.tl24 ?_
    refine sv_cell (g0 _ hs) c104 (0 : Int) 0 (fun x => (AV.int .i64 x)) (fun _ => rfl) (fun _ => rfl) rfl F222.ag2 ?_
    refine so_assign (v := (.v (.int .i64 (l0.getD (x102).toNat (0 : Int))))) rfl ?_
    refine so_nil ?_
    refine fi_seq ?_
    refine fi_region ?_
    refine so_move (v := (.v (.int .i64 (l0.getD (x102).toNat (0 : Int))))) rfl ?_
    refine so_move (v := (.v (.int .i64 a1))) rfl ?_
    refine so_un rfl au_neg ?_
    refine so_move (v := (.v (.int .i64 a1))) rfl ?_
    refine sv_callS (impl_within_ok (l0.getD (x102).toNat (0 : Int)) (IntKind.i64.wrap (0 - a1)) a1 hs  _ h) (fun _ _ ⟨_, _, _, e⟩ => e) rfl rfl ?_
    clear h
    rintro _ _ ⟨y105, h, rfl, rfl⟩
    refine so_un rfl au_not ?_
    refine so_nil ?_
    replace h := ofT h; rcases h with ⟨c107, h⟩ | ⟨c107, h⟩
    · refine fi_false rfl (not_f c107) ?_
      refine fi_skip ?_
      refine fi_inBlock ?_
      refine fi_region ?_
      refine so_bin rfl rfl ab_add ?_
      refine so_move (v := (.v (.int .i64 (IntKind.i64.wrap (x102 + (1 : Int)))))) rfl ?_
      refine so_nil ?_
      exact fi_at [(1, (.v (.int .i64 a1))), (7, (.v v0)), (8, (.v (.int .i64 (l0.length : Int)))), (9, (.v (.int .i64 (IntKind.i64.wrap (x102 + (1 : Int))))))] ⟨rfl, rfl, rfl, rfl, trivial⟩ (h _)
    · refine fi_true rfl (not_t c107) ?_
      refine fi_seq ?_
      refine fi_region ?_
      refine so_assign (v := (.v (.bool false))) rfl ?_
      refine so_nil ?_
      exact by_ret rfl ⟨_, h, rfl, rfl⟩
  · refine fi_false rfl (decide_eq_false c103) ?_
    refine fi_exit rfl ?_
    refine fi_seq ?_
    refine fi_region ?_
    refine so_assign (v := (.v (.bool true))) rfl ?_
    refine so_nil ?_
    exact by_ret rfl ⟨_, h, rfl, rfl⟩

end Go.Proofs.Ytpeijfnfffogeaa.G

namespace Go.Proofs.Ytpeijfnfffogeaa.G
open Go Go.Ab Go.Proofs Go.Proofs.Ytpeijfnfffogeaa
set_option maxRecDepth 100000
set_option linter.unusedVariables false
set_option linter.unusedSimpArgs false
set_option maxHeartbeats 1000000
attribute [local irreducible] wops wopf Go.Ab.Fin
theorem F148.ti24 : (telem Try.prog 24).isSome = true := by kernel_rfl
theorem impl_AreIntegers_ok {fr : List Pc} {H : Heap} (v0 : AV) (l0 : List (Int)) (hs : Sep H (fr)) (g0 : ∀ H, Sep H fr → Shows H v0 1 (enc (eInt .i64) l0)) (K : Bool → Prop) (h : impl_AreIntegers.wp l0 K) : OkQ Try.prog 148 [(.v v0)] H (fun r H2 => ∃ (y0 : Bool), K y0 ∧ r = (.v (.bool y0)) ∧ H = H2) := by
  unfold impl_AreIntegers.wp at h
  refine of_body Try.f148 F.hm Try.func148 rfl Try.call148 (by kernel_rfl) (by simp) ?_
  refine fi_seq ?_
  refine fi_region ?_
  refine so_assign (v := (.v (.bool false))) rfl ?_
  refine so_nil ?_
  refine fi_seq ?_
  refine fi_region ?_
  refine so_move (v := (.v v0)) rfl ?_
  refine sv_len (g0 _ hs) (fun _ => rfl) (by decide) rfl F148.ti24 ?_
  refine sv_callS (impl_within_ok (l0.length : Int) (1 : Int) (128 : Int) hs  _ h) (fun _ _ ⟨_, _, _, e⟩ => e) rfl rfl ?_
  clear h
  rintro _ _ ⟨y101, h, rfl, rfl⟩
  refine so_move (v := (.v (.bool y101))) rfl ?_
  replace h := ofT h; rcases h with ⟨c103, h⟩ | ⟨c103, h⟩
  · refine so_gyes rfl c103 ?_
    refine so_move (v := (.v v0)) rfl ?_
    refine so_gyes rfl c103 ?_
    refine sv_callS (impl_areWithin_ok v0 l0 (1000000 : Int) hs (fun _ hs => (g0 _ hs)) _ h) (fun _ _ ⟨_, _, _, e⟩ => e) rfl rfl ?_
    clear h
    rintro _ _ ⟨y104, h, rfl, rfl⟩
    refine so_pick_t (v := (.v (.bool y104))) rfl c103 rfl ?_
    refine so_assign (v := (.v (.bool y104))) rfl ?_
    refine so_nil ?_
    exact by_ret rfl ⟨_, h, rfl, rfl⟩
  · refine so_gno rfl c103 ?_
    refine so_gno rfl c103 ?_
    refine so_pick_f (v := (.v (.bool false))) rfl c103 rfl ?_
    refine so_assign (v := (.v (.bool false))) rfl ?_
    refine so_nil ?_
    exact by_ret rfl ⟨_, h, rfl, rfl⟩

end Go.Proofs.Ytpeijfnfffogeaa.G

namespace Go.Proofs.Ytpeijfnfffogeaa.G
open Go Go.Ab Go.Proofs Go.Proofs.Ytpeijfnfffogeaa
set_option maxRecDepth 100000
set_option linter.unusedVariables false
set_option linter.unusedSimpArgs false
set_option maxHeartbeats 1000000
attribute [local irreducible] wops wopf Go.Ab.Fin
theorem impl_digit_ok {fr : List Pc} {H : Heap} (a0 : Int) (a1 : Int) (hs : Sep H (fr))  (K : Bool → Prop) (h : impl_digit.wp a0 a1 K) : OkQ Try.prog 240 [(.v (.int .i64 a0)), (.v (.int .i64 a1))] H (fun r H2 => ∃ (y0 : Bool), K y0 ∧ r = (.v (.bool y0)) ∧ H = H2) := by
  unfold impl_digit.wp at h
  refine of_body Try.f240 F.hm Try.func240 rfl Try.call240 (by kernel_rfl) (by simp) ?_
  refine fi_seq ?_
  refine fi_region ?_
  refine so_assign (v := (.v (.bool false))) rfl ?_
  refine so_nil ?_
  refine fi_seq ?_
  refine fi_region ?_
  refine so_move (v := (.v (.int .i64 a0))) rfl ?_
  refine sv_callS (impl_far_ok a0 hs  _ h) (fun _ _ ⟨_, _, _, e⟩ => e) rfl rfl ?_
  clear h
  rintro _ _ ⟨y101, h, rfl, rfl⟩
  refine so_move (v := (.v (.int .i64 a1))) rfl ?_
  obtain ⟨c103, h⟩ := h
  refine so_bin rfl rfl (ab_shr c103) ?_
  refine so_bin rfl rfl ab_and ?_
  refine so_bin rfl rfl ab_eql ?_
  refine so_assign (v := (.v (.bool (decide ((ibits .and .i64 (Int.fdiv y101 (2 ^ (min (a1).toNat IntKind.i64.bits))) (1 : Int)) = (1 : Int)))))) rfl ?_
  refine so_nil ?_
  exact by_ret rfl ⟨_, h, rfl, rfl⟩

end Go.Proofs.Ytpeijfnfffogeaa.G

namespace Go.Proofs.Ytpeijfnfffogeaa.G
open Go Go.Ab Go.Proofs Go.Proofs.Ytpeijfnfffogeaa
set_option maxRecDepth 100000
set_option linter.unusedVariables false
set_option linter.unusedSimpArgs false
set_option maxHeartbeats 1000000
attribute [local irreducible] wops wopf Go.Ab.Fin
theorem F181.ag2 : tagg Try.prog 2 = some false := by kernel_rfl
theorem F181.sz4 : tsz Try.prog 4 = some 1 := by kernel_rfl
theorem F181.ta42_42 : tapp Try.prog 42 42 = some (1, 1) := by kernel_rfl
theorem F181.te42 : telem Try.prog 42 = some 4 := by kernel_rfl
theorem F181.ti24 : (telem Try.prog 24).isSome = true := by kernel_rfl
theorem F181.tl24 : (telem Try.prog 24).bind (tsz Try.prog) = some 1 := by kernel_rfl
theorem F181.ze4 : tzero Try.prog 4 = some [(.bool false)] := by kernel_rfl
theorem impl_codeUntil_ok {fr : List Pc} {H : Heap} (v0 : AV) (l0 : List (Int)) (a1 : Int) (a2 : Int) (hs : Sep H (fr)) (g0 : ∀ H, Sep H fr → Shows H v0 1 (enc (eInt .i64) l0)) (K : (List (Bool)) → Prop) (h : impl_codeUntil.wp l0 a1 a2 K) : OkQ Try.prog 181 [(.v v0), (.v (.int .i64 a1)), (.v (.int .i64 a2))] H (fun r H2 => ∃ (y0 : List (Bool)), K y0 ∧ ∃ (w0_ : AV), r = (.v w0_) ∧ Sep H2 (Pc.osl w0_ 1 (enc eBool y0) :: fr)) := by
  unfold impl_codeUntil.wp at h
  refine of_body Try.f181 F.hm Try.func181 rfl Try.call181 (by kernel_rfl) (by simp) ?_
  refine fi_seq ?_
  refine fi_region ?_
  refine so_assign (v := (.v .nilsl)) rfl ?_
  refine so_nil ?_
  refine fi_seq ?_
  refine fi_region ?_
  refine sv_bslice hs eBool ([] : List (Bool)) [] F181.te42 F181.sz4 F181.ze4 rfl rfl rfl rfl (fun _ => rfl) rfl (by decide) nofun (fun v101 H102 nv101 hs => ?_)
  refine so_assign (v := (.v v101)) rfl ?_
  refine so_nil ?_
  refine fi_seq ?_
  refine fi_seq ?_
  refine fi_region ?_
  refine so_move (v := (.v (.int .i64 a1))) rfl ?_
  refine so_bin rfl rfl ab_sub ?_
  refine so_assign (v := (.v (.int .i64 (IntKind.i64.wrap (a1 - (1 : Int)))))) rfl ?_
  refine so_nil ?_
  refine fi_block ?_
  refine fi_loop ?_
  refine fi_at [(0, (.v v0)), (2, (.v (.int .i64 a2))), (7, (.v v101)), (8, (.v (.int .i64 (IntKind.i64.wrap (a1 - (1 : Int))))))] ⟨rfl, rfl, rfl, rfl, trivial⟩ ?_
  refine h (fun (out162 : List (Bool)) (plane164 : Int) => ∀ (s : Nat → TV) (H : Heap) (v163 : AV) (nv163 : v163 ≠ .nilsl), Sep H (Pc.osl v163 1 (enc eBool out162) :: fr) → Fin _ _ (updL s [(0, (.v v0)), (2, (.v (.int .i64 a2))), (7, (.v v163)), (8, (.v (.int .i64 plane164)))]) H _) ?_ _ _ _ nv101 hs
  intro out162 plane164 h s218 H219 v163 nv163 hs
  refine fi_inLoop ?_
  refine fi_seq ?_
  refine fi_seq ?_
  refine fi_region ?_
  refine so_move (v := (.v (.int .i64 plane164))) rfl ?_
  refine so_move (v := (.v (.int .i64 a2))) rfl ?_
  refine so_bin rfl rfl ab_geq ?_
  refine so_nil ?_
  replace h := ofP h; rcases h with ⟨c165, h⟩ | ⟨c165, h⟩
  · refine fi_true rfl (decide_eq_true c165) ?_
    refine fi_skip ?_
    refine fi_seq ?_
    refine fi_block ?_
    refine fi_seq ?_
    refine fi_region ?_
    refine so_move (v := (.v v0)) rfl ?_
    refine sv_len (g0 _ hs.tl) (fun _ => rfl) (by decide) rfl F181.ti24 ?_
    refine so_move (v := (.v (.int .i64 (0 : Int)))) rfl ?_
    refine so_nil ?_
    refine fi_block ?_
    refine fi_loop ?_
    refine fi_at [(0, (.v v0)), (2, (.v (.int .i64 a2))), (7, (.v v163)), (8, (.v (.int .i64 plane164))), (20, (.v v0)), (21, (.v (.int .i64 (l0.length : Int)))), (22, (.v (.int .i64 (0 : Int))))] ⟨rfl, rfl, rfl, rfl, rfl, rfl, rfl, trivial⟩ ?_
    refine h (fun (out192 : List (Bool)) (x194 : Int) => ∀ (s : Nat → TV) (H : Heap) (v193 : AV) (nv193 : v193 ≠ .nilsl), Sep H (Pc.osl v193 1 (enc eBool out192) :: fr) → Fin _ _ (updL s [(0, (.v v0)), (2, (.v (.int .i64 a2))), (7, (.v v193)), (8, (.v (.int .i64 plane164))), (20, (.v v0)), (21, (.v (.int .i64 (l0.length : Int)))), (22, (.v (.int .i64 x194)))]) H _) ?_ _ _ _ nv163 hs
    intro out192 x194 h s216 H217 v193 nv193 hs
    refine fi_inLoop ?_
    refine fi_seq ?_
    refine fi_region ?_
    refine so_bin rfl rfl ab_lss ?_
    refine so_nil ?_
    refine fi_seq ?_
    replace h := ofP h; rcases h with ⟨c195, h⟩ | ⟨c195, h⟩
    · refine fi_true rfl (decide_eq_true c195) ?_
      refine fi_skip ?_
      refine fi_seq ?_
      refine fi_block ?_
      refine fi_seq ?_
      refine fi_region ?_
      obtain ⟨c196, h⟩ := h
      refine sv_idx (g0 _ hs.tl) c196 (fun _ => rfl) (by decide) rfl rfl F181.tl24 ?_
      refine sv_cell (g0 _ hs.tl) c196 (0 : Int) 0 (fun x => (AV.int .i64 x)) (fun _ => rfl) (fun _ => rfl) rfl F181.ag2 ?_
      refine so_assign (v := (.v (.int .i64 (l0.getD (x194).toNat (0 : Int))))) rfl ?_
      refine so_nil ?_
      refine fi_seq ?_
      refine fi_region ?_
      refine so_move (v := (.v (.int .i64 (l0.getD (x194).toNat (0 : Int))))) rfl ?_
      refine so_move (v := (.v (.int .i64 plane164))) rfl ?_
      refine sv_callS (impl_digit_ok (l0.getD (x194).toNat (0 : Int)) plane164 hs  _ h) (fun _ _ ⟨_, _, _, e⟩ => e) rfl rfl ?_
      clear h
      rintro _ _ ⟨y197, h, rfl, rfl⟩
      refine so_assign (v := (.v (.bool y197))) rfl ?_
      refine so_nil ?_
      refine fi_seq ?_
      refine fi_region ?_
      refine so_move (v := (.v v193)) rfl ?_
      refine so_move (v := (.v (.bool y197))) rfl ?_
      refine sv_bslice hs eBool ([y197] : List (Bool)) [[(.bool y197)]] F181.te42 F181.sz4 F181.ze4 rfl rfl rfl rfl (fun _ => rfl) rfl (by decide) nofun (fun v199 H200 nv199 hs => ?_)
      obtain ⟨c204, h⟩ := h
      refine sv_app hs 1 rfl (hs.shows 0 rfl) (fun _ => rfl) (by decide) F181.ta42_42 (by decide) c204 rfl rfl nofun (fun v202 H203 kv202 hs => ?_)
      replace hs := hs.del 0
      have nv202 := kv202 nv193
      refine so_assign (v := (.v v202)) rfl ?_
      refine so_nil ?_
      refine fi_seq ?_
      refine fi_region ?_
      refine so_move (v := (.v (.bool y197))) rfl ?_
      refine so_move (v := (.v (.bool y197))) rfl ?_
      replace h := ofT h; rcases h with ⟨c205, h⟩ | ⟨c205, h⟩
      · refine so_gyes rfl c205 ?_
        refine so_move (v := (.v (.int .i64 (l0.getD (x194).toNat (0 : Int))))) rfl ?_
        refine so_gyes rfl c205 ?_
        refine sv_callS (impl_far_ok (l0.getD (x194).toNat (0 : Int)) hs  _ h) (fun _ _ ⟨_, _, _, e⟩ => e) rfl rfl ?_
        clear h
        rintro _ _ ⟨y206, h, rfl, rfl⟩
        refine so_gyes rfl c205 ?_
        refine so_move (v := (.v (.int .i64 plane164))) rfl ?_
        refine so_gyes rfl c205 ?_
        refine so_bin rfl rfl ab_add ?_
        refine so_gyes rfl c205 ?_
        obtain ⟨c208, h⟩ := h
        refine so_bin rfl rfl (ab_shr c208) ?_
        refine so_gyes rfl c205 ?_
        refine so_bin rfl rfl ab_eql ?_
        refine so_pick_t (v := (.v (.bool (decide ((Int.fdiv y206 (2 ^ (min ((IntKind.i64.wrap (plane164 + (1 : Int)))).toNat IntKind.i64.bits))) = (0 : Int)))))) rfl c205 rfl ?_
        refine so_nil ?_
        replace h := ofP h; rcases h with ⟨c209, h⟩ | ⟨c209, h⟩
        · refine fi_true rfl (decide_eq_true c209) ?_
          refine fi_region ?_
          refine so_move (v := (.v v202)) rfl ?_
          refine so_move (v := (.v (.int .i64 (l0.getD (x194).toNat (0 : Int))))) rfl ?_
          refine so_bin rfl rfl ab_lss ?_
          refine sv_bslice hs eBool ([(decide ((l0.getD (x194).toNat (0 : Int)) < (0 : Int)))] : List (Bool)) [[(.bool (decide ((l0.getD (x194).toNat (0 : Int)) < (0 : Int))))]] F181.te42 F181.sz4 F181.ze4 rfl rfl rfl rfl (fun _ => rfl) rfl (by decide) nofun (fun v210 H211 nv210 hs => ?_)
          obtain ⟨c215, h⟩ := h
          refine sv_app hs 1 rfl (hs.shows 0 rfl) (fun _ => rfl) (by decide) F181.ta42_42 (by decide) c215 rfl rfl nofun (fun v213 H214 kv213 hs => ?_)
          replace hs := hs.del 0
          have nv213 := kv213 nv202
          refine so_assign (v := (.v v213)) rfl ?_
          refine so_nil ?_
          refine fi_inBlock ?_
          refine fi_region ?_
          refine so_bin rfl rfl ab_add ?_
          refine so_move (v := (.v (.int .i64 (IntKind.i64.wrap (x194 + (1 : Int)))))) rfl ?_
          refine so_nil ?_
          exact fi_at [(0, (.v v0)), (2, (.v (.int .i64 a2))), (7, (.v v213)), (8, (.v (.int .i64 plane164))), (20, (.v v0)), (21, (.v (.int .i64 (l0.length : Int)))), (22, (.v (.int .i64 (IntKind.i64.wrap (x194 + (1 : Int))))))] ⟨rfl, rfl, rfl, rfl, rfl, rfl, rfl, trivial⟩ (h _ _ _ nv213 hs)
        · refine fi_false rfl (decide_eq_false c209) ?_
          refine fi_skip ?_
          refine fi_inBlock ?_
          refine fi_region ?_
          refine so_bin rfl rfl ab_add ?_
          refine so_move (v := (.v (.int .i64 (IntKind.i64.wrap (x194 + (1 : Int)))))) rfl ?_
          refine so_nil ?_
          exact fi_at [(0, (.v v0)), (2, (.v (.int .i64 a2))), (7, (.v v202)), (8, (.v (.int .i64 plane164))), (20, (.v v0)), (21, (.v (.int .i64 (l0.length : Int)))), (22, (.v (.int .i64 (IntKind.i64.wrap (x194 + (1 : Int))))))] ⟨rfl, rfl, rfl, rfl, rfl, rfl, rfl, trivial⟩ (h _ _ _ nv202 hs)
      · refine so_gno rfl c205 ?_
        refine so_gno rfl c205 ?_
        refine so_gno rfl c205 ?_
        refine so_gno rfl c205 ?_
        refine so_gno rfl c205 ?_
        refine so_gno rfl c205 ?_
        refine so_pick_f (v := (.v (.bool false))) rfl c205 rfl ?_
        refine so_nil ?_
        refine fi_false rfl rfl ?_
        refine fi_skip ?_
        refine fi_inBlock ?_
        refine fi_region ?_
        refine so_bin rfl rfl ab_add ?_
        refine so_move (v := (.v (.int .i64 (IntKind.i64.wrap (x194 + (1 : Int)))))) rfl ?_
        refine so_nil ?_
        exact fi_at [(0, (.v v0)), (2, (.v (.int .i64 a2))), (7, (.v v202)), (8, (.v (.int .i64 plane164))), (20, (.v v0)), (21, (.v (.int .i64 (l0.length : Int)))), (22, (.v (.int .i64 (IntKind.i64.wrap (x194 + (1 : Int))))))] ⟨rfl, rfl, rfl, rfl, rfl, rfl, rfl, trivial⟩ (h _ _ _ nv202 hs)
    · refine fi_false rfl (decide_eq_false c195) ?_
      refine fi_exit rfl ?_
      refine fi_inBlock ?_
      refine fi_region ?_
      refine so_move (v := (.v (.int .i64 plane164))) rfl ?_
      refine so_bin rfl rfl ab_sub ?_
      refine so_assign (v := (.v (.int .i64 (IntKind.i64.wrap (plane164 - (1 : Int)))))) rfl ?_
      refine so_nil ?_
      exact fi_at [(0, (.v v0)), (2, (.v (.int .i64 a2))), (7, (.v v193)), (8, (.v (.int .i64 (IntKind.i64.wrap (plane164 - (1 : Int))))))] ⟨rfl, rfl, rfl, rfl, trivial⟩ (h _ _ _ nv193 hs)
  · refine fi_false rfl (decide_eq_false c165) ?_
    refine fi_exit rfl ?_
    refine fi_seq ?_
    refine fi_region ?_
    refine so_move (v := (.v v163)) rfl ?_
    refine so_assign (v := (.v v163)) rfl ?_
    refine so_nil ?_
    exact by_ret rfl ⟨_, h, _, rfl, hs⟩

end Go.Proofs.Ytpeijfnfffogeaa.G

namespace Go.Proofs.Ytpeijfnfffogeaa.G
open Go Go.Ab Go.Proofs Go.Proofs.Ytpeijfnfffogeaa
set_option maxRecDepth 100000
set_option linter.unusedVariables false
set_option linter.unusedSimpArgs false
set_option maxHeartbeats 1000000
attribute [local irreducible] wops wopf Go.Ab.Fin
theorem F105.ag51 : tagg Try.prog 51 = some true := by kernel_rfl
theorem F105.bp51 : bplan Try.prog 51 = some ([(.int .i64 (0 : Int)), (.int .i64 (0 : Int)), .nilsl], [(0, 1), (1, 1), (2, 1)]) := by kernel_rfl
theorem F105.sz51 : tsz Try.prog 51 = some 3 := by kernel_rfl
theorem F105.ti24 : (telem Try.prog 24).isSome = true := by kernel_rfl
theorem F105.ze51 : tzero Try.prog 51 = some [(.int .i64 (0 : Int)), (.int .i64 (0 : Int)), .nilsl] := by kernel_rfl
theorem impl_CodeList_ok {fr : List Pc} {H : Heap} (v0 : AV) (l0 : List (Int)) (hs : Sep H (fr)) (g0 : ∀ H, Sep H fr → Shows H v0 1 (enc (eInt .i64) l0)) (K : Int → Int → (List (Bool)) → Bool → Prop) (h : impl_CodeList.wp l0 K) : OkQ Try.prog 105 [(.v v0)] H (fun r H2 => ∃ (y0 : Int) (y1 : Int) (y2 : List (Bool)) (y3 : Bool), K y0 y1 y2 y3 ∧ ∃ (w0_ : AV), r = (.t [(.g [(.int .i64 y0), (.int .i64 y1), w0_]), (.v (.bool y3))]) ∧ Sep H2 (Pc.osl w0_ 1 (enc eBool y2) :: fr)) := by
  unfold impl_CodeList.wp at h
  refine of_body Try.f105 F.hm Try.func105 rfl Try.call105 (by kernel_rfl) (by simp) ?_
  refine fi_seq ?_
  refine fi_region ?_
  refine sv_alloc hs F105.ze51 rfl nofun (fun id101 H102 hs => ?_)
  refine so_assign (v := (.v (.bool false))) rfl ?_
  refine so_nil ?_
  refine fi_seq ?_
  refine fi_seq ?_
  refine fi_region ?_
  refine so_move (v := (.v v0)) rfl ?_
  refine sv_callS (impl_AreIntegers_ok v0 l0 hs (fun _ hs => (g0 _ hs.tl)) _ h) (fun _ _ ⟨_, _, _, e⟩ => e) rfl rfl ?_
  clear h
  rintro _ _ ⟨y104, h, rfl, rfl⟩
  refine so_un rfl au_not ?_
  refine so_nil ?_
  replace h := ofT h; rcases h with ⟨c106, h⟩ | ⟨c106, h⟩
  · refine fi_false rfl (not_f c106) ?_
    refine fi_skip ?_
    refine fi_seq ?_
    refine fi_region ?_
    refine so_move (v := (.v v0)) rfl ?_
    refine sv_callS (impl_planesFor_ok v0 l0 hs (fun _ hs => (g0 _ hs.tl)) _ h) (fun _ _ ⟨_, _, _, e⟩ => e) rfl rfl ?_
    clear h
    rintro _ _ ⟨y107, h, rfl, rfl⟩
    refine so_assign (v := (.v (.int .i64 y107))) rfl ?_
    refine so_nil ?_
    refine fi_seq ?_
    refine fi_region ?_
    refine so_move (v := (.v v0)) rfl ?_
    refine sv_len (g0 _ hs.tl) (fun _ => rfl) (by decide) rfl F105.ti24 ?_
    refine so_move (v := (.v (.int .i64 y107))) rfl ?_
    refine so_move (v := (.v v0)) rfl ?_
    refine so_move (v := (.v (.int .i64 y107))) rfl ?_
    refine sv_call (impl_codeUntil_ok v0 l0 y107 (0 : Int) hs (fun _ hs => (g0 _ hs.tl)) _ h) rfl rfl nofun ?_
    clear h hs
    rintro _ H112 ⟨y109, h, v110, rfl, hs⟩
    refine so_build F105.bp51 (cps := [(0, [(.int .i64 (l0.length : Int))]), (1, [(.int .i64 y107)]), (2, [v110])]) rfl (fac (stc rfl stn) (fac (stc rfl stn) (fac (stc (hs.shows 0 rfl).stor stn) fan))) rfl ?_
    refine sv_st hs 1 rfl rfl rfl (c := [(.int .i64 (l0.length : Int)), (.int .i64 y107), v110]) rfl F105.sz51 rfl (stc rfl (stc rfl (stc (hs.shows 0 rfl).stor stn))) (leb rfl) (cs' := [(.int .i64 (l0.length : Int)), (.int .i64 y107), v110]) rfl nofun (fun H113 hs => ?_)
    refine so_assign (v := (.v (.bool true))) rfl ?_
    refine so_nil ?_
    exact by_ret (res_mk (ar_cells rfl F105.ag51 F105.sz51 (hs.lds 1 rfl (leb rfl) rfl) (ar_tmp rfl ar_nil)) rfl) ⟨_, _, _, _, h, _, rfl, (Sep.del 1 hs)⟩
  · refine fi_true rfl (not_t c106) ?_
    refine fi_seq ?_
    refine fi_region ?_
    refine so_build F105.bp51 (cps := []) rfl fan rfl ?_
    refine sv_st hs 0 rfl rfl rfl (c := [(.int .i64 (0 : Int)), (.int .i64 (0 : Int)), .nilsl]) rfl F105.sz51 rfl (stc rfl (stc rfl (stc rfl stn))) (leb rfl) (cs' := [(.int .i64 (0 : Int)), (.int .i64 (0 : Int)), .nilsl]) rfl nofun (fun H114 hs => ?_)
    refine so_assign (v := (.v (.bool false))) rfl ?_
    refine so_nil ?_
    exact by_ret (res_mk (ar_cells rfl F105.ag51 F105.sz51 (hs.lds 0 rfl (leb rfl) rfl) (ar_tmp rfl ar_nil)) rfl) ⟨_, _, _, _, h, _, rfl, (Sep.nil (Sep.del 0 hs) 1)⟩

end Go.Proofs.Ytpeijfnfffogeaa.G

namespace Go.Proofs.Ytpeijfnfffogeaa.G
open Go Go.Ab Go.Proofs Go.Proofs.Ytpeijfnfffogeaa
set_option maxRecDepth 100000
set_option linter.unusedVariables false
set_option linter.unusedSimpArgs false
set_option maxHeartbeats 1000000
attribute [local irreducible] wops wopf Go.Ab.Fin
theorem F33.ag53 : tagg Try.prog 53 = some true := by kernel_rfl
theorem F33.bp53 : bplan Try.prog 53 = some ([.nilsl, .nilsl, (.flt .f32 (0 : Nat)), (.int .i64 (0 : Int)), (.int .i64 (0 : Int)), .nilsl, (.int .i64 (0 : Int)), (.int .i64 (0 : Int)), .nilsl], [(0, 1), (1, 2), (3, 3), (6, 3)]) := by kernel_rfl
theorem F33.fd53_2 : tfield Try.prog 53 2 = some (3, 3, true) := by kernel_rfl
theorem F33.fd53_3 : tfield Try.prog 53 3 = some (6, 3, true) := by kernel_rfl
theorem F33.sz2 : tsz Try.prog 2 = some 1 := by kernel_rfl
theorem F33.sz25 : tsz Try.prog 25 = some 1 := by kernel_rfl
theorem F33.sz50 : tsz Try.prog 50 = some 3 := by kernel_rfl
theorem F33.sz51 : tsz Try.prog 51 = some 3 := by kernel_rfl
theorem F33.sz53 : tsz Try.prog 53 = some 9 := by kernel_rfl
theorem F33.te24 : telem Try.prog 24 = some 2 := by kernel_rfl
theorem F33.te37 : telem Try.prog 37 = some 25 := by kernel_rfl
theorem F33.ze2 : tzero Try.prog 2 = some [(.int .i64 (0 : Int))] := by kernel_rfl
theorem F33.ze25 : tzero Try.prog 25 = some [(.flt .f32 (0 : Nat))] := by kernel_rfl
theorem F33.ze53 : tzero Try.prog 53 = some [.nilsl, .nilsl, (.flt .f32 (0 : Nat)), (.int .i64 (0 : Int)), (.int .i64 (0 : Int)), .nilsl, (.int .i64 (0 : Int)), (.int .i64 (0 : Int)), .nilsl] := by kernel_rfl
theorem impl_NewDesk_ok {fr : List Pc} {H : Heap}  (hs : Sep H (fr))  (K : (List (Nat)) → (List (Nat)) → Nat → Int → Int → (List (Nat)) → Int → Int → (List (Bool)) → Prop) (h : impl_NewDesk.wp  K) : OkQ Try.prog 33 [] H (fun r H2 => ∃ (y0 : List (Nat)) (y1 : List (Nat)) (y2 : Nat) (y3 : Int) (y4 : Int) (y5 : List (Nat)) (y6 : Int) (y7 : Int) (y8 : List (Bool)), K y0 y1 y2 y3 y4 y5 y6 y7 y8 ∧ ∃ (w0_ : AV) (w1_ : AV) (w2_ : AV) (w3_ : AV), r = (.g [w0_, w1_, (.flt .f32 y2), (.int .i64 y3), (.int .i64 y4), w2_, (.int .i64 y6), (.int .i64 y7), w3_]) ∧ Sep H2 (Pc.osl w0_ 1 (enc (eFlt .f32) y0) :: Pc.osl w1_ 1 (enc (eFlt .f32) y1) :: Pc.osl w2_ 1 (enc (eFlt .f32) y5) :: Pc.osl w3_ 1 (enc eBool y8) :: fr)) := by
  unfold impl_NewDesk.wp at h
  refine of_body Try.f33 F.hm Try.func33 rfl Try.call33 (by kernel_rfl) (by simp) ?_
  refine fi_seq ?_
  refine fi_region ?_
  refine sv_alloc hs F33.ze53 rfl nofun (fun id101 H102 hs => ?_)
  refine so_nil ?_
  refine fi_seq ?_
  refine fi_region ?_
  refine sv_bslice hs (eFlt .f32) ([(cz .f32 1065353216), (cz .f32 1077936128), (cz .f32 1073741824)] : List (Nat)) [[(.flt .f32 (cz .f32 1065353216))], [(.flt .f32 (cz .f32 1077936128))], [(.flt .f32 (cz .f32 1073741824))]] F33.te37 F33.sz25 F33.ze25 rfl rfl rfl rfl (fun _ => rfl) rfl (by decide) nofun (fun v104 H105 nv104 hs => ?_)
  refine sv_call (impl_LinesScheme_ok  hs  _ h) rfl rfl nofun ?_
  clear h hs
  rintro _ H111 ⟨y107, y110, h, v108, rfl, hs⟩
  refine so_build F33.bp53 (cps := [(0, [v104]), (1, [v108, (.flt .f32 y110)])]) rfl (fac (stc (hs.shows 1 rfl).stor stn) (fac (stc (hs.shows 0 rfl).stor (stc rfl stn)) fan)) rfl ?_
  refine sv_alloc hs F33.ze53 rfl nofun (fun id112 H113 hs => ?_)
  refine sv_st hs 0 rfl rfl rfl (c := [v104, v108, (.flt .f32 y110), (.int .i64 (0 : Int)), (.int .i64 (0 : Int)), .nilsl, (.int .i64 (0 : Int)), (.int .i64 (0 : Int)), .nilsl]) rfl F33.sz53 rfl (stc (hs.shows 2 rfl).stor (stc (hs.shows 1 rfl).stor (stc rfl (stc rfl (stc rfl (stc rfl (stc rfl (stc rfl (stc rfl stn))))))))) (leb rfl) (cs' := [v104, v108, (.flt .f32 y110), (.int .i64 (0 : Int)), (.int .i64 (0 : Int)), .nilsl, (.int .i64 (0 : Int)), (.int .i64 (0 : Int)), .nilsl]) rfl nofun (fun H115 hs => ?_)
  refine so_nil ?_
  refine fi_seq ?_
  refine fi_region ?_
  refine sv_call (impl_StepPicture_ok (4 : Int) (2 : Int) (2 : Int) (cz .f32 0) (cz .f32 1082130432) hs  _ h) rfl rfl nofun ?_
  clear h hs
  rintro _ H122 ⟨y116, y117, y118, y121, h, v119, rfl, hs⟩
  refine so_move (v := (.t [(.g [(.int .i64 y116), (.int .i64 y117), v119]), (.v (.bool y121))])) rfl ?_
  refine so_extract rfl rfl rfl ?_
  refine so_extract rfl rfl rfl ?_
  refine so_fieldAddr rfl F33.fd53_2 ?_
  refine sv_st hs 1 rfl rfl rfl (c := [(.int .i64 y116), (.int .i64 y117), v119]) rfl F33.sz50 rfl (stc rfl (stc rfl (stc (hs.shows 0 rfl).stor stn))) (leb rfl) (cs' := [v104, v108, (.flt .f32 y110), (.int .i64 y116), (.int .i64 y117), v119, (.int .i64 (0 : Int)), (.int .i64 (0 : Int)), .nilsl]) rfl nofun (fun H123 hs => ?_)
  refine so_nil ?_
  refine fi_seq ?_
  refine fi_region ?_
  refine sv_bslice hs (eInt .i64) ([(3 : Int), (-1 : Int)] : List (Int)) [[(.int .i64 (3 : Int))], [(.int .i64 (-1 : Int))]] F33.te24 F33.sz2 F33.ze2 rfl rfl rfl rfl (fun _ => rfl) rfl (by decide) nofun (fun v124 H125 nv124 hs => ?_)
  refine sv_call (impl_CodeList_ok v124 ([(3 : Int), (-1 : Int)] : List (Int)) hs (fun _ hs => (hs.shows 0 rfl)) _ h) rfl rfl nofun ?_
  clear h hs
  rintro _ H133 ⟨y127, y128, y129, y132, h, v130, rfl, hs⟩
  refine so_move (v := (.t [(.g [(.int .i64 y127), (.int .i64 y128), v130]), (.v (.bool y132))])) rfl ?_
  refine so_extract rfl rfl rfl ?_
  refine so_extract rfl rfl rfl ?_
  refine so_fieldAddr rfl F33.fd53_3 ?_
  refine sv_st hs 3 rfl rfl rfl (c := [(.int .i64 y127), (.int .i64 y128), v130]) rfl F33.sz51 rfl (stc rfl (stc rfl (stc (hs.shows 0 rfl).stor stn))) (leb rfl) (cs' := [v104, v108, (.flt .f32 y110), (.int .i64 y116), (.int .i64 y117), v119, (.int .i64 y127), (.int .i64 y128), v130]) rfl nofun (fun H134 hs => ?_)
  refine so_nil ?_
  refine fi_seq ?_
  refine fi_region ?_
  refine sv_lds hs 3 rfl rfl (leb rfl) rfl F33.ag53 F33.sz53 ?_
  refine sv_st hs 6 rfl rfl rfl (c := [v104, v108, (.flt .f32 y110), (.int .i64 y116), (.int .i64 y117), v119, (.int .i64 y127), (.int .i64 y128), v130]) rfl F33.sz53 rfl (stc (hs.shows 5 rfl).stor (stc (hs.shows 4 rfl).stor (stc rfl (stc rfl (stc rfl (stc (hs.shows 2 rfl).stor (stc rfl (stc rfl (stc (hs.shows 0 rfl).stor stn))))))))) (leb rfl) (cs' := [v104, v108, (.flt .f32 y110), (.int .i64 y116), (.int .i64 y117), v119, (.int .i64 y127), (.int .i64 y128), v130]) rfl nofun (fun H135 hs => ?_)
  refine so_nil ?_
  exact by_ret (res_mk (ar_cells rfl F33.ag53 F33.sz53 (hs.lds 6 rfl (leb rfl) rfl) ar_nil) rfl) ⟨_, _, _, _, _, _, _, _, _, h, _, _, _, _, rfl, (Sep.front 3 (Sep.front 2 (Sep.front 1 (Sep.del 4 (Sep.del 2 (Sep.del 1 hs))) rfl) rfl) rfl)⟩

end Go.Proofs.Ytpeijfnfffogeaa.G

namespace Go.Proofs.Ytpeijfnfffogeaa.G
open Go Go.Ab Go.Proofs Go.Proofs.Ytpeijfnfffogeaa
set_option maxRecDepth 100000
set_option linter.unusedVariables false
set_option linter.unusedSimpArgs false
set_option maxHeartbeats 1000000
attribute [local irreducible] wops wopf Go.Ab.Fin
theorem F50.fl25 : tflt Try.prog 25 = some .f32 := by kernel_rfl
theorem F50.in25 : tint Try.prog 25 = none := by kernel_rfl
theorem F50.sz25 : tsz Try.prog 25 = some 1 := by kernel_rfl
theorem F50.ti37 : (telem Try.prog 37).isSome = true := by kernel_rfl
theorem F50.tl37 : (telem Try.prog 37).bind (tsz Try.prog) = some 1 := by kernel_rfl
theorem F50.us3 : (Try.prog.underlying 3).isSome = true := by kernel_rfl
theorem laws_markFloat32S_ok {fr : List Pc} {H : Heap} (v0 : AV) (l0 : List (Nat)) (a1 : Int) (hs : Sep H (Pc.osl v0 1 (enc (eFlt .f32) l0) :: fr))  (K : Int → (List (Nat)) → Prop) (h : laws_markFloat32S.wp l0 a1 K) : OkQ Try.prog 50 [(.v v0), (.v (.int .i64 a1))] H (fun r H2 => ∃ (y0 : Int) (y1 : List (Nat)), K y0 y1 ∧ r = (.v (.int .i64 y0)) ∧ Sep H2 (Pc.osl v0 1 (enc (eFlt .f32) y1) :: fr)) := by
  unfold laws_markFloat32S.wp at h
  refine of_body Try.f50 F.hm Try.func50 rfl Try.call50 (by kernel_rfl) (by simp) ?_
  refine fi_seq ?_
  refine fi_region ?_
  refine so_assign (v := (.v (.int .i64 (0 : Int)))) rfl ?_
  refine so_nil ?_
  refine fi_seq ?_
  refine fi_seq ?_
  refine fi_region ?_
  refine so_assign (v := (.v (.int .i64 (0 : Int)))) rfl ?_
  refine so_nil ?_
  refine fi_block ?_
  refine fi_loop ?_
  refine fi_at [(0, (.v v0)), (1, (.v (.int .i64 a1))), (5, (.v (.int .i64 (0 : Int))))] ⟨rfl, rfl, rfl, trivial⟩ ?_
  refine h (fun (a109 : List (Nat)) (k110 : Int) (i111 : Int) => ∀ (s : Nat → TV) (H : Heap), Sep H (Pc.osl v0 1 (enc (eFlt .f32) a109) :: fr) → Fin _ _ (updL s [(0, (.v v0)), (1, (.v (.int .i64 k110))), (5, (.v (.int .i64 i111)))]) H _) ?_ _ _ hs
  intro a109 k110 i111 h s115 H116 hs
  refine fi_inLoop ?_
  refine fi_seq ?_
  refine fi_seq ?_
  refine fi_region ?_
  refine so_move (v := (.v (.int .i64 i111))) rfl ?_
  refine so_move (v := (.v v0)) rfl ?_
  refine sv_len (hs.shows 0 rfl) (fun _ => rfl) (by decide) rfl F50.ti37 ?_
  refine so_bin rfl rfl ab_lss ?_
  refine so_nil ?_
  replace h := ofP h; rcases h with ⟨c112, h⟩ | ⟨c112, h⟩
  · refine fi_true rfl (decide_eq_true c112) ?_
    refine fi_skip ?_
    refine fi_seq ?_
    refine fi_block ?_
    refine fi_seq ?_
    refine fi_region ?_
    refine so_move (v := (.v v0)) rfl ?_
    refine so_move (v := (.v (.int .i64 i111))) rfl ?_
    refine so_move (v := (.v (.int .i64 k110))) rfl ?_
    refine sv_if rfl F50.us3 F50.in25 F50.fl25 ?_
    obtain ⟨c113, h⟩ := h
    refine sv_idx (hs.shows 0 rfl) c113 (fun _ => rfl) (by decide) rfl rfl F50.tl37 ?_
    refine sv_set hs 0 rfl c113 (itof .f32 k110) (fun _ => rfl) (by decide) rfl rfl rfl rfl F50.sz25 nofun (fun H114 hs => ?_)
    refine so_nil ?_
    refine fi_region ?_
    refine so_move (v := (.v (.int .i64 k110))) rfl ?_
    refine so_bin rfl rfl ab_add ?_
    refine so_assign (v := (.v (.int .i64 (IntKind.i64.wrap (k110 + (1 : Int)))))) rfl ?_
    refine so_nil ?_
    refine fi_inBlock ?_
    refine fi_region ?_
    refine so_move (v := (.v (.int .i64 i111))) rfl ?_
    refine so_bin rfl rfl ab_add ?_
    refine so_assign (v := (.v (.int .i64 (IntKind.i64.wrap (i111 + (1 : Int)))))) rfl ?_
    refine so_nil ?_
    exact fi_at [(0, (.v v0)), (1, (.v (.int .i64 (IntKind.i64.wrap (k110 + (1 : Int)))))), (5, (.v (.int .i64 (IntKind.i64.wrap (i111 + (1 : Int))))))] ⟨rfl, rfl, rfl, trivial⟩ (h _ _  hs)
  · refine fi_false rfl (decide_eq_false c112) ?_
    refine fi_exit rfl ?_
    refine fi_seq ?_
    refine fi_region ?_
    refine so_move (v := (.v (.int .i64 k110))) rfl ?_
    refine so_assign (v := (.v (.int .i64 k110))) rfl ?_
    refine so_nil ?_
    exact by_ret rfl ⟨_, _, h, rfl, hs⟩

end Go.Proofs.Ytpeijfnfffogeaa.G

namespace Go.Proofs.Ytpeijfnfffogeaa.G
open Go Go.Ab Go.Proofs Go.Proofs.Ytpeijfnfffogeaa
set_option maxRecDepth 100000
set_option linter.unusedVariables false
set_option linter.unusedSimpArgs false
set_option maxHeartbeats 1000000
attribute [local irreducible] wops wopf Go.Ab.Fin
theorem F106.ag37 : tagg Try.prog 37 = some false := by kernel_rfl
theorem F106.fd50_2 : tfield Try.prog 50 2 = some (2, 1, false) := by kernel_rfl
theorem F106.inf50 : (Try.prog.info? 50).isSome = true := by kernel_rfl
theorem laws_markPicture_ok {fr : List Pc} {H : Heap} (a0 : Int) (a1 : Int) (v2 : AV) (l2 : List (Nat)) (a3 : Int) (hs : Sep H (Pc.osl v2 1 (enc (eFlt .f32) l2) :: fr))  (K : Int → (List (Nat)) → Prop) (h : laws_markPicture.wp a0 a1 l2 a3 K) : OkQ Try.prog 106 [(.g [(.int .i64 a0), (.int .i64 a1), v2]), (.v (.int .i64 a3))] H (fun r H2 => ∃ (y0 : Int) (y1 : List (Nat)), K y0 y1 ∧ r = (.v (.int .i64 y0)) ∧ Sep H2 (Pc.osl v2 1 (enc (eFlt .f32) y1) :: fr)) := by
  unfold laws_markPicture.wp at h
  refine of_body Try.f106 F.hm Try.func106 rfl Try.call106 (by kernel_rfl) (by simp) ?_
  refine fi_seq ?_
  refine fi_region ?_
  refine sv_box hs rfl (c := [(.int .i64 a0), (.int .i64 a1), v2]) rfl F106.inf50 (stc rfl (stc rfl (stc (hs.shows 0 rfl).stor stn))) nofun (fun id102 H103 hs => ?_)
  refine so_assign (v := (.v (.int .i64 (0 : Int)))) rfl ?_
  refine so_nil ?_
  refine fi_seq ?_
  refine fi_region ?_
  refine so_fieldAddr rfl F106.fd50_2 ?_
  refine sv_ld hs 0 rfl rfl rfl F106.ag37 ?_
  refine so_move (v := (.v (.int .i64 a3))) rfl ?_
  replace hs := (Sep.front 1 hs rfl)
  refine sv_call (laws_markFloat32S_ok v2 l2 a3 hs  _ h) rfl rfl nofun ?_
  clear h hs
  rintro _ H107 ⟨y105, y106, h, rfl, hs⟩
  refine so_assign (v := (.v (.int .i64 y105))) rfl ?_
  refine so_nil ?_
  refine fi_seq ?_
  refine fi_region ?_
  refine so_move (v := (.v (.int .i64 y105))) rfl ?_
  refine so_assign (v := (.v (.int .i64 y105))) rfl ?_
  refine so_nil ?_
  exact by_ret rfl ⟨_, _, h, rfl, (Sep.del 1 hs)⟩

end Go.Proofs.Ytpeijfnfffogeaa.G

namespace Go.Proofs.Ytpeijfnfffogeaa.G
open Go Go.Ab Go.Proofs Go.Proofs.Ytpeijfnfffogeaa
set_option maxRecDepth 100000
set_option linter.unusedVariables false
set_option linter.unusedSimpArgs false
set_option maxHeartbeats 1000000
attribute [local irreducible] wops wopf Go.Ab.Fin
theorem F51.sz4 : tsz Try.prog 4 = some 1 := by kernel_rfl
theorem F51.ti42 : (telem Try.prog 42).isSome = true := by kernel_rfl
theorem F51.tl42 : (telem Try.prog 42).bind (tsz Try.prog) = some 1 := by kernel_rfl
theorem laws_markBoolS_ok {fr : List Pc} {H : Heap} (v0 : AV) (l0 : List (Bool)) (a1 : Int) (hs : Sep H (Pc.osl v0 1 (enc eBool l0) :: fr))  (K : Int → (List (Bool)) → Prop) (h : laws_markBoolS.wp l0 a1 K) : OkQ Try.prog 51 [(.v v0), (.v (.int .i64 a1))] H (fun r H2 => ∃ (y0 : Int) (y1 : List (Bool)), K y0 y1 ∧ r = (.v (.int .i64 y0)) ∧ Sep H2 (Pc.osl v0 1 (enc eBool y1) :: fr)) := by
  unfold laws_markBoolS.wp at h
  refine of_body Try.f51 F.hm Try.func51 rfl Try.call51 (by kernel_rfl) (by simp) ?_
  refine fi_seq ?_
  refine fi_region ?_
  refine so_assign (v := (.v (.int .i64 (0 : Int)))) rfl ?_
  refine so_nil ?_
  refine fi_seq ?_
  refine fi_seq ?_
  refine fi_region ?_
  refine so_assign (v := (.v (.int .i64 (0 : Int)))) rfl ?_
  refine so_nil ?_
  refine fi_block ?_
  refine fi_loop ?_
  refine fi_at [(0, (.v v0)), (1, (.v (.int .i64 a1))), (5, (.v (.int .i64 (0 : Int))))] ⟨rfl, rfl, rfl, trivial⟩ ?_
  refine h (fun (a109 : List (Bool)) (k110 : Int) (i111 : Int) => ∀ (s : Nat → TV) (H : Heap), Sep H (Pc.osl v0 1 (enc eBool a109) :: fr) → Fin _ _ (updL s [(0, (.v v0)), (1, (.v (.int .i64 k110))), (5, (.v (.int .i64 i111)))]) H _) ?_ _ _ hs
  intro a109 k110 i111 h s115 H116 hs
  refine fi_inLoop ?_
  refine fi_seq ?_
  refine fi_seq ?_
  refine fi_region ?_
  refine so_move (v := (.v (.int .i64 i111))) rfl ?_
  refine so_move (v := (.v v0)) rfl ?_
  refine sv_len (hs.shows 0 rfl) (fun _ => rfl) (by decide) rfl F51.ti42 ?_
  refine so_bin rfl rfl ab_lss ?_
  refine so_nil ?_
  replace h := ofP h; rcases h with ⟨c112, h⟩ | ⟨c112, h⟩
  · refine fi_true rfl (decide_eq_true c112) ?_
    refine fi_skip ?_
    refine fi_seq ?_
    refine fi_block ?_
    refine fi_seq ?_
    refine fi_region ?_
    refine so_move (v := (.v v0)) rfl ?_
    refine so_move (v := (.v (.int .i64 i111))) rfl ?_
    refine so_move (v := (.v (.int .i64 k110))) rfl ?_
    refine so_bin rfl rfl (ab_rem (by decide)) ?_
    refine so_bin rfl rfl ab_eql ?_
    obtain ⟨c113, h⟩ := h
    refine sv_idx (hs.shows 0 rfl) c113 (fun _ => rfl) (by decide) rfl rfl F51.tl42 ?_
    refine sv_set hs 0 rfl c113 (decide ((Int.tmod k110 (3 : Int)) = (0 : Int))) (fun _ => rfl) (by decide) rfl rfl rfl rfl F51.sz4 nofun (fun H114 hs => ?_)
    refine so_nil ?_
    refine fi_region ?_
    refine so_move (v := (.v (.int .i64 k110))) rfl ?_
    refine so_bin rfl rfl ab_add ?_
    refine so_assign (v := (.v (.int .i64 (IntKind.i64.wrap (k110 + (1 : Int)))))) rfl ?_
    refine so_nil ?_
    refine fi_inBlock ?_
    refine fi_region ?_
    refine so_move (v := (.v (.int .i64 i111))) rfl ?_
    refine so_bin rfl rfl ab_add ?_
    refine so_assign (v := (.v (.int .i64 (IntKind.i64.wrap (i111 + (1 : Int)))))) rfl ?_
    refine so_nil ?_
    exact fi_at [(0, (.v v0)), (1, (.v (.int .i64 (IntKind.i64.wrap (k110 + (1 : Int)))))), (5, (.v (.int .i64 (IntKind.i64.wrap (i111 + (1 : Int))))))] ⟨rfl, rfl, rfl, trivial⟩ (h _ _  hs)
  · refine fi_false rfl (decide_eq_false c112) ?_
    refine fi_exit rfl ?_
    refine fi_seq ?_
    refine fi_region ?_
    refine so_move (v := (.v (.int .i64 k110))) rfl ?_
    refine so_assign (v := (.v (.int .i64 k110))) rfl ?_
    refine so_nil ?_
    exact by_ret rfl ⟨_, _, h, rfl, hs⟩

end Go.Proofs.Ytpeijfnfffogeaa.G

namespace Go.Proofs.Ytpeijfnfffogeaa.G
open Go Go.Ab Go.Proofs Go.Proofs.Ytpeijfnfffogeaa
set_option maxRecDepth 100000
set_option linter.unusedVariables false
set_option linter.unusedSimpArgs false
set_option maxHeartbeats 1000000
attribute [local irreducible] wops wopf Go.Ab.Fin
theorem F107.ag42 : tagg Try.prog 42 = some false := by kernel_rfl
theorem F107.fd51_2 : tfield Try.prog 51 2 = some (2, 1, false) := by kernel_rfl
theorem F107.inf51 : (Try.prog.info? 51).isSome = true := by kernel_rfl
theorem laws_markCoded_ok {fr : List Pc} {H : Heap} (a0 : Int) (a1 : Int) (v2 : AV) (l2 : List (Bool)) (a3 : Int) (hs : Sep H (Pc.osl v2 1 (enc eBool l2) :: fr))  (K : Int → (List (Bool)) → Prop) (h : laws_markCoded.wp a0 a1 l2 a3 K) : OkQ Try.prog 107 [(.g [(.int .i64 a0), (.int .i64 a1), v2]), (.v (.int .i64 a3))] H (fun r H2 => ∃ (y0 : Int) (y1 : List (Bool)), K y0 y1 ∧ r = (.v (.int .i64 y0)) ∧ Sep H2 (Pc.osl v2 1 (enc eBool y1) :: fr)) := by
  unfold laws_markCoded.wp at h
  refine of_body Try.f107 F.hm Try.func107 rfl Try.call107 (by kernel_rfl) (by simp) ?_
  refine fi_seq ?_
  refine fi_region ?_
  refine sv_box hs rfl (c := [(.int .i64 a0), (.int .i64 a1), v2]) rfl F107.inf51 (stc rfl (stc rfl (stc (hs.shows 0 rfl).stor stn))) nofun (fun id102 H103 hs => ?_)
  refine so_assign (v := (.v (.int .i64 (0 : Int)))) rfl ?_
  refine so_nil ?_
  refine fi_seq ?_
  refine fi_region ?_
  refine so_fieldAddr rfl F107.fd51_2 ?_
  refine sv_ld hs 0 rfl rfl rfl F107.ag42 ?_
  refine so_move (v := (.v (.int .i64 a3))) rfl ?_
  replace hs := (Sep.front 1 hs rfl)
  refine sv_call (laws_markBoolS_ok v2 l2 a3 hs  _ h) rfl rfl nofun ?_
  clear h hs
  rintro _ H107 ⟨y105, y106, h, rfl, hs⟩
  refine so_assign (v := (.v (.int .i64 y105))) rfl ?_
  refine so_nil ?_
  refine fi_seq ?_
  refine fi_region ?_
  refine so_move (v := (.v (.int .i64 y105))) rfl ?_
  refine so_assign (v := (.v (.int .i64 y105))) rfl ?_
  refine so_nil ?_
  exact by_ret rfl ⟨_, _, h, rfl, (Sep.del 1 hs)⟩

end Go.Proofs.Ytpeijfnfffogeaa.G

namespace Go.Proofs.Ytpeijfnfffogeaa.G
open Go Go.Ab Go.Proofs Go.Proofs.Ytpeijfnfffogeaa
set_option maxRecDepth 100000
set_option linter.unusedVariables false
set_option linter.unusedSimpArgs false
set_option maxHeartbeats 1000000
attribute [local irreducible] wops wopf Go.Ab.Fin
theorem F59.ag37 : tagg Try.prog 37 = some false := by kernel_rfl
theorem F59.fd49_0 : tfield Try.prog 49 0 = some (0, 1, false) := by kernel_rfl
theorem F59.inf49 : (Try.prog.info? 49).isSome = true := by kernel_rfl
theorem laws_markScheme_ok {fr : List Pc} {H : Heap} (v0 : AV) (l0 : List (Nat)) (a1 : Nat) (a2 : Int) (hs : Sep H (Pc.osl v0 1 (enc (eFlt .f32) l0) :: fr))  (K : Int → (List (Nat)) → Prop) (h : laws_markScheme.wp l0 a1 a2 K) : OkQ Try.prog 59 [(.g [v0, (.flt .f32 a1)]), (.v (.int .i64 a2))] H (fun r H2 => ∃ (y0 : Int) (y1 : List (Nat)), K y0 y1 ∧ r = (.v (.int .i64 y0)) ∧ Sep H2 (Pc.osl v0 1 (enc (eFlt .f32) y1) :: fr)) := by
  unfold laws_markScheme.wp at h
  refine of_body Try.f59 F.hm Try.func59 rfl Try.call59 (by kernel_rfl) (by simp) ?_
  refine fi_seq ?_
  refine fi_region ?_
  refine sv_box hs rfl (c := [v0, (.flt .f32 a1)]) rfl F59.inf49 (stc (hs.shows 0 rfl).stor (stc rfl stn)) nofun (fun id102 H103 hs => ?_)
  refine so_assign (v := (.v (.int .i64 (0 : Int)))) rfl ?_
  refine so_nil ?_
  refine fi_seq ?_
  refine fi_region ?_
  refine so_fieldAddr rfl F59.fd49_0 ?_
  refine sv_ld hs 0 rfl rfl rfl F59.ag37 ?_
  refine so_move (v := (.v (.int .i64 a2))) rfl ?_
  replace hs := (Sep.front 1 hs rfl)
  refine sv_call (laws_markFloat32S_ok v0 l0 a2 hs  _ h) rfl rfl nofun ?_
  clear h hs
  rintro _ H107 ⟨y105, y106, h, rfl, hs⟩
  refine so_assign (v := (.v (.int .i64 y105))) rfl ?_
  refine so_nil ?_
  refine fi_seq ?_
  refine fi_region ?_
  refine so_move (v := (.v (.int .i64 y105))) rfl ?_
  refine so_assign (v := (.v (.int .i64 y105))) rfl ?_
  refine so_nil ?_
  exact by_ret rfl ⟨_, _, h, rfl, (Sep.del 1 hs)⟩

end Go.Proofs.Ytpeijfnfffogeaa.G

namespace Go.Proofs.Ytpeijfnfffogeaa.G
open Go Go.Ab Go.Proofs Go.Proofs.Ytpeijfnfffogeaa
set_option maxRecDepth 100000
set_option linter.unusedVariables false
set_option linter.unusedSimpArgs false
set_option maxHeartbeats 1000000
attribute [local irreducible] wops wopf Go.Ab.Fin
theorem F34.ag37 : tagg Try.prog 37 = some false := by kernel_rfl
theorem F34.ag49 : tagg Try.prog 49 = some true := by kernel_rfl
theorem F34.ag50 : tagg Try.prog 50 = some true := by kernel_rfl
theorem F34.ag51 : tagg Try.prog 51 = some true := by kernel_rfl
theorem F34.fd53_0 : tfield Try.prog 53 0 = some (0, 1, false) := by kernel_rfl
theorem F34.fd53_1 : tfield Try.prog 53 1 = some (1, 2, true) := by kernel_rfl
theorem F34.fd53_2 : tfield Try.prog 53 2 = some (3, 3, true) := by kernel_rfl
theorem F34.fd53_3 : tfield Try.prog 53 3 = some (6, 3, true) := by kernel_rfl
theorem F34.inf53 : (Try.prog.info? 53).isSome = true := by kernel_rfl
theorem F34.sz49 : tsz Try.prog 49 = some 2 := by kernel_rfl
theorem F34.sz50 : tsz Try.prog 50 = some 3 := by kernel_rfl
theorem F34.sz51 : tsz Try.prog 51 = some 3 := by kernel_rfl
theorem laws_markDesk_ok {fr : List Pc} {H : Heap} (v0 : AV) (l0 : List (Nat)) (v1 : AV) (l1 : List (Nat)) (a2 : Nat) (a3 : Int) (a4 : Int) (v5 : AV) (l5 : List (Nat)) (a6 : Int) (a7 : Int) (v8 : AV) (l8 : List (Bool)) (a9 : Int) (hs : Sep H (Pc.osl v0 1 (enc (eFlt .f32) l0) :: Pc.osl v1 1 (enc (eFlt .f32) l1) :: Pc.osl v5 1 (enc (eFlt .f32) l5) :: Pc.osl v8 1 (enc eBool l8) :: fr))  (K : Int → (List (Nat)) → (List (Nat)) → (List (Nat)) → (List (Bool)) → Prop) (h : laws_markDesk.wp l0 l1 a2 a3 a4 l5 a6 a7 l8 a9 K) : OkQ Try.prog 34 [(.g [v0, v1, (.flt .f32 a2), (.int .i64 a3), (.int .i64 a4), v5, (.int .i64 a6), (.int .i64 a7), v8]), (.v (.int .i64 a9))] H (fun r H2 => ∃ (y0 : Int) (y1 : List (Nat)) (y2 : List (Nat)) (y3 : List (Nat)) (y4 : List (Bool)), K y0 y1 y2 y3 y4 ∧ r = (.v (.int .i64 y0)) ∧ Sep H2 (Pc.osl v0 1 (enc (eFlt .f32) y1) :: Pc.osl v1 1 (enc (eFlt .f32) y2) :: Pc.osl v5 1 (enc (eFlt .f32) y3) :: Pc.osl v8 1 (enc eBool y4) :: fr)) := by
  unfold laws_markDesk.wp at h
  refine of_body Try.f34 F.hm Try.func34 rfl Try.call34 (by kernel_rfl) (by simp) ?_
  refine fi_seq ?_
  refine fi_region ?_
  refine sv_box hs rfl (c := [v0, v1, (.flt .f32 a2), (.int .i64 a3), (.int .i64 a4), v5, (.int .i64 a6), (.int .i64 a7), v8]) rfl F34.inf53 (stc (hs.shows 0 rfl).stor (stc (hs.shows 1 rfl).stor (stc rfl (stc rfl (stc rfl (stc (hs.shows 2 rfl).stor (stc rfl (stc rfl (stc (hs.shows 3 rfl).stor stn))))))))) nofun (fun id105 H106 hs => ?_)
  refine so_assign (v := (.v (.int .i64 (0 : Int)))) rfl ?_
  refine so_nil ?_
  refine fi_seq ?_
  refine fi_region ?_
  refine so_fieldAddr rfl F34.fd53_0 ?_
  refine sv_ld hs 0 rfl rfl rfl F34.ag37 ?_
  refine so_move (v := (.v (.int .i64 a9))) rfl ?_
  replace hs := (Sep.front 1 hs rfl)
  refine sv_call (laws_markFloat32S_ok v0 l0 a9 hs  _ h) rfl rfl nofun ?_
  clear h hs
  rintro _ H110 ⟨y108, y109, h, rfl, hs⟩
  refine so_assign (v := (.v (.int .i64 y108))) rfl ?_
  refine so_nil ?_
  refine fi_seq ?_
  refine fi_region ?_
  refine so_fieldAddr rfl F34.fd53_1 ?_
  refine sv_lds hs 1 rfl rfl (leb rfl) rfl F34.ag49 F34.sz49 ?_
  refine so_move (v := (.v (.int .i64 y108))) rfl ?_
  replace hs := (Sep.front 2 hs rfl)
  refine sv_call (laws_markScheme_ok v1 l1 a2 y108 hs  _ h) rfl rfl nofun ?_
  clear h hs
  rintro _ H113 ⟨y111, y112, h, rfl, hs⟩
  refine so_assign (v := (.v (.int .i64 y111))) rfl ?_
  refine so_nil ?_
  refine fi_seq ?_
  refine fi_region ?_
  refine so_fieldAddr rfl F34.fd53_2 ?_
  refine sv_lds hs 2 rfl rfl (leb rfl) rfl F34.ag50 F34.sz50 ?_
  refine so_move (v := (.v (.int .i64 y111))) rfl ?_
  replace hs := (Sep.front 3 hs rfl)
  refine sv_call (laws_markPicture_ok a3 a4 v5 l5 y111 hs  _ h) rfl rfl nofun ?_
  clear h hs
  rintro _ H116 ⟨y114, y115, h, rfl, hs⟩
  refine so_assign (v := (.v (.int .i64 y114))) rfl ?_
  refine so_nil ?_
  refine fi_seq ?_
  refine fi_region ?_
  refine so_fieldAddr rfl F34.fd53_3 ?_
  refine sv_lds hs 3 rfl rfl (leb rfl) rfl F34.ag51 F34.sz51 ?_
  refine so_move (v := (.v (.int .i64 y114))) rfl ?_
  replace hs := (Sep.front 4 hs rfl)
  refine sv_call (laws_markCoded_ok a6 a7 v8 l8 y114 hs  _ h) rfl rfl nofun ?_
  clear h hs
  rintro _ H119 ⟨y117, y118, h, rfl, hs⟩
  refine so_assign (v := (.v (.int .i64 y117))) rfl ?_
  refine so_nil ?_
  refine fi_seq ?_
  refine fi_region ?_
  refine so_move (v := (.v (.int .i64 y117))) rfl ?_
  refine so_assign (v := (.v (.int .i64 y117))) rfl ?_
  refine so_nil ?_
  exact by_ret rfl ⟨_, _, _, _, _, h, rfl, (Sep.front 3 (Sep.front 2 (Sep.front 1 (Sep.del 4 hs) rfl) rfl) rfl)⟩

end Go.Proofs.Ytpeijfnfffogeaa.G

namespace Go.Proofs.Ytpeijfnfffogeaa.G
open Go Go.Ab Go.Proofs Go.Proofs.Ytpeijfnfffogeaa
set_option maxRecDepth 100000
set_option linter.unusedVariables false
set_option linter.unusedSimpArgs false
set_option maxHeartbeats 1000000
attribute [local irreducible] wops wopf Go.Ab.Fin
theorem F53.ag25 : tagg Try.prog 25 = some false := by kernel_rfl
theorem F53.fl25 : tflt Try.prog 25 = some .f32 := by kernel_rfl
theorem F53.in25 : tint Try.prog 25 = none := by kernel_rfl
theorem F53.ti37 : (telem Try.prog 37).isSome = true := by kernel_rfl
theorem F53.tl37 : (telem Try.prog 37).bind (tsz Try.prog) = some 1 := by kernel_rfl
theorem F53.us3 : (Try.prog.underlying 3).isSome = true := by kernel_rfl
theorem laws_heldFloat32S_ok {fr : List Pc} {H : Heap} (v0 : AV) (l0 : List (Nat)) (a1 : Int) (hs : Sep H (fr)) (g0 : ∀ H, Sep H fr → Shows H v0 1 (enc (eFlt .f32) l0)) (K : Int → Prop) (h : laws_heldFloat32S.wp l0 a1 K) : OkQ Try.prog 53 [(.v v0), (.v (.int .i64 a1))] H (fun r H2 => ∃ (y0 : Int), K y0 ∧ r = (.v (.int .i64 y0)) ∧ H = H2) := by
  unfold laws_heldFloat32S.wp at h
  refine of_body Try.f53 F.hm Try.func53 rfl Try.call53 (by kernel_rfl) (by simp) ?_
  refine fi_seq ?_
  refine fi_region ?_
  refine so_assign (v := (.v (.int .i64 (0 : Int)))) rfl ?_
  refine so_nil ?_
  refine fi_seq ?_
  refine fi_seq ?_
  refine fi_region ?_
  refine so_assign (v := (.v (.int .i64 (0 : Int)))) rfl ?_
  refine so_nil ?_
  refine fi_block ?_
  refine fi_loop ?_
  refine fi_at [(0, (.v v0)), (1, (.v (.int .i64 a1))), (5, (.v (.int .i64 (0 : Int))))] ⟨rfl, rfl, rfl, trivial⟩ ?_
  refine h (fun (k102 : Int) (i103 : Int) => ∀ (s : Nat → TV), Fin _ _ (updL s [(0, (.v v0)), (1, (.v (.int .i64 k102))), (5, (.v (.int .i64 i103)))]) _ _) ?_ _
  intro k102 i103 h s107
  refine fi_inLoop ?_
  refine fi_seq ?_
  refine fi_seq ?_
  refine fi_region ?_
  refine so_move (v := (.v (.int .i64 i103))) rfl ?_
  refine so_move (v := (.v v0)) rfl ?_
  refine sv_len (g0 _ hs) (fun _ => rfl) (by decide) rfl F53.ti37 ?_
  refine so_bin rfl rfl ab_lss ?_
  refine so_nil ?_
  replace h := ofP h; rcases h with ⟨c104, h⟩ | ⟨c104, h⟩
  · refine fi_true rfl (decide_eq_true c104) ?_
    refine fi_skip ?_
    refine fi_seq ?_
    refine fi_block ?_
    refine fi_seq ?_
    refine fi_seq ?_
    refine fi_region ?_
    refine so_move (v := (.v v0)) rfl ?_
    refine so_move (v := (.v (.int .i64 i103))) rfl ?_
    obtain ⟨c105, h⟩ := h
    refine sv_idx (g0 _ hs) c105 (fun _ => rfl) (by decide) rfl rfl F53.tl37 ?_
    refine sv_cell (g0 _ hs) c105 (0 : Nat) 0 (fun x => (AV.flt .f32 x)) (fun _ => rfl) (fun _ => rfl) rfl F53.ag25 ?_
    refine so_move (v := (.v (.int .i64 k102))) rfl ?_
    refine sv_if rfl F53.us3 F53.in25 F53.fl25 ?_
    refine so_bin rfl rfl ab_fneq ?_
    refine so_nil ?_
    replace h := ofT h; rcases h with ⟨c106, h⟩ | ⟨c106, h⟩
    · refine fi_true rfl c106 ?_
      refine fi_seq ?_
      refine fi_region ?_
      refine so_assign (v := (.v (.int .i64 (-1 : Int)))) rfl ?_
      refine so_nil ?_
      exact by_ret rfl ⟨_, h, rfl, rfl⟩
    · refine fi_false rfl c106 ?_
      refine fi_skip ?_
      refine fi_region ?_
      refine so_move (v := (.v (.int .i64 k102))) rfl ?_
      refine so_bin rfl rfl ab_add ?_
      refine so_assign (v := (.v (.int .i64 (IntKind.i64.wrap (k102 + (1 : Int)))))) rfl ?_
      refine so_nil ?_
      refine fi_inBlock ?_
      refine fi_region ?_
      refine so_move (v := (.v (.int .i64 i103))) rfl ?_
      refine so_bin rfl rfl ab_add ?_
      refine so_assign (v := (.v (.int .i64 (IntKind.i64.wrap (i103 + (1 : Int)))))) rfl ?_
      refine so_nil ?_
      exact fi_at [(0, (.v v0)), (1, (.v (.int .i64 (IntKind.i64.wrap (k102 + (1 : Int)))))), (5, (.v (.int .i64 (IntKind.i64.wrap (i103 + (1 : Int))))))] ⟨rfl, rfl, rfl, trivial⟩ (h _)
  · refine fi_false rfl (decide_eq_false c104) ?_
    refine fi_exit rfl ?_
    refine fi_seq ?_
    refine fi_region ?_
    refine so_move (v := (.v (.int .i64 k102))) rfl ?_
    refine so_assign (v := (.v (.int .i64 k102))) rfl ?_
    refine so_nil ?_
    exact by_ret rfl ⟨_, h, rfl, rfl⟩

end Go.Proofs.Ytpeijfnfffogeaa.G

namespace Go.Proofs.Ytpeijfnfffogeaa.G
open Go Go.Ab Go.Proofs Go.Proofs.Ytpeijfnfffogeaa
set_option maxRecDepth 100000
set_option linter.unusedVariables false
set_option linter.unusedSimpArgs false
set_option maxHeartbeats 1000000
attribute [local irreducible] wops wopf Go.Ab.Fin
theorem F108.ag37 : tagg Try.prog 37 = some false := by kernel_rfl
theorem F108.fd49_0 : tfield Try.prog 49 0 = some (0, 1, false) := by kernel_rfl
theorem F108.inf49 : (Try.prog.info? 49).isSome = true := by kernel_rfl
theorem laws_heldScheme_ok {fr : List Pc} {H : Heap} (v0 : AV) (l0 : List (Nat)) (a1 : Nat) (a2 : Int) (hs : Sep H (fr)) (g0 : ∀ H, Sep H fr → Shows H v0 1 (enc (eFlt .f32) l0)) (K : Int → Prop) (h : laws_heldScheme.wp l0 a1 a2 K) : OkQ Try.prog 108 [(.g [v0, (.flt .f32 a1)]), (.v (.int .i64 a2))] H (fun r H2 => ∃ (y0 : Int), K y0 ∧ r = (.v (.int .i64 y0)) ∧ Sep H2 (fr)) := by
  unfold laws_heldScheme.wp at h
  refine of_body Try.f108 F.hm Try.func108 rfl Try.call108 (by kernel_rfl) (by simp) ?_
  refine fi_seq ?_
  refine fi_region ?_
  refine sv_box hs rfl (c := [v0, (.flt .f32 a1)]) rfl F108.inf49 (stc (g0 _ hs).stor (stc rfl stn)) nofun (fun id101 H102 hs => ?_)
  refine so_assign (v := (.v (.int .i64 (0 : Int)))) rfl ?_
  refine so_nil ?_
  refine fi_seq ?_
  refine fi_region ?_
  refine so_fieldAddr rfl F108.fd49_0 ?_
  refine sv_ld hs 0 rfl rfl rfl F108.ag37 ?_
  refine so_move (v := (.v (.int .i64 a2))) rfl ?_
  refine sv_callS (laws_heldFloat32S_ok v0 l0 a2 hs (fun _ hs => (g0 _ hs.tl)) _ h) (fun _ _ ⟨_, _, _, e⟩ => e) rfl rfl ?_
  clear h
  rintro _ _ ⟨y104, h, rfl, rfl⟩
  refine so_assign (v := (.v (.int .i64 y104))) rfl ?_
  refine so_nil ?_
  refine fi_seq ?_
  refine fi_seq ?_
  refine fi_region ?_
  refine so_move (v := (.v (.int .i64 y104))) rfl ?_
  refine so_bin rfl rfl ab_lss ?_
  refine so_nil ?_
  replace h := ofP h; rcases h with ⟨c106, h⟩ | ⟨c106, h⟩
  · refine fi_true rfl (decide_eq_true c106) ?_
    refine fi_seq ?_
    refine fi_region ?_
    refine so_assign (v := (.v (.int .i64 (-1 : Int)))) rfl ?_
    refine so_nil ?_
    exact by_ret rfl ⟨_, h, rfl, (Sep.del 0 hs)⟩
  · refine fi_false rfl (decide_eq_false c106) ?_
    refine fi_skip ?_
    refine fi_seq ?_
    refine fi_region ?_
    refine so_move (v := (.v (.int .i64 y104))) rfl ?_
    refine so_assign (v := (.v (.int .i64 y104))) rfl ?_
    refine so_nil ?_
    exact by_ret rfl ⟨_, h, rfl, (Sep.del 0 hs)⟩

end Go.Proofs.Ytpeijfnfffogeaa.G

namespace Go.Proofs.Ytpeijfnfffogeaa.G
open Go Go.Ab Go.Proofs Go.Proofs.Ytpeijfnfffogeaa
set_option maxRecDepth 100000
set_option linter.unusedVariables false
set_option linter.unusedSimpArgs false
set_option maxHeartbeats 1000000
attribute [local irreducible] wops wopf Go.Ab.Fin
theorem F109.ag37 : tagg Try.prog 37 = some false := by kernel_rfl
theorem F109.fd50_2 : tfield Try.prog 50 2 = some (2, 1, false) := by kernel_rfl
theorem F109.inf50 : (Try.prog.info? 50).isSome = true := by kernel_rfl
theorem laws_heldPicture_ok {fr : List Pc} {H : Heap} (a0 : Int) (a1 : Int) (v2 : AV) (l2 : List (Nat)) (a3 : Int) (hs : Sep H (fr)) (g2 : ∀ H, Sep H fr → Shows H v2 1 (enc (eFlt .f32) l2)) (K : Int → Prop) (h : laws_heldPicture.wp a0 a1 l2 a3 K) : OkQ Try.prog 109 [(.g [(.int .i64 a0), (.int .i64 a1), v2]), (.v (.int .i64 a3))] H (fun r H2 => ∃ (y0 : Int), K y0 ∧ r = (.v (.int .i64 y0)) ∧ Sep H2 (fr)) := by
  unfold laws_heldPicture.wp at h
  refine of_body Try.f109 F.hm Try.func109 rfl Try.call109 (by kernel_rfl) (by simp) ?_
  refine fi_seq ?_
  refine fi_region ?_
  refine sv_box hs rfl (c := [(.int .i64 a0), (.int .i64 a1), v2]) rfl F109.inf50 (stc rfl (stc rfl (stc (g2 _ hs).stor stn))) nofun (fun id101 H102 hs => ?_)
  refine so_assign (v := (.v (.int .i64 (0 : Int)))) rfl ?_
  refine so_nil ?_
  refine fi_seq ?_
  refine fi_region ?_
  refine so_fieldAddr rfl F109.fd50_2 ?_
  refine sv_ld hs 0 rfl rfl rfl F109.ag37 ?_
  refine so_move (v := (.v (.int .i64 a3))) rfl ?_
  refine sv_callS (laws_heldFloat32S_ok v2 l2 a3 hs (fun _ hs => (g2 _ hs.tl)) _ h) (fun _ _ ⟨_, _, _, e⟩ => e) rfl rfl ?_
  clear h
  rintro _ _ ⟨y104, h, rfl, rfl⟩
  refine so_assign (v := (.v (.int .i64 y104))) rfl ?_
  refine so_nil ?_
  refine fi_seq ?_
  refine fi_seq ?_
  refine fi_region ?_
  refine so_move (v := (.v (.int .i64 y104))) rfl ?_
  refine so_bin rfl rfl ab_lss ?_
  refine so_nil ?_
  replace h := ofP h; rcases h with ⟨c106, h⟩ | ⟨c106, h⟩
  · refine fi_true rfl (decide_eq_true c106) ?_
    refine fi_seq ?_
    refine fi_region ?_
    refine so_assign (v := (.v (.int .i64 (-1 : Int)))) rfl ?_
    refine so_nil ?_
    exact by_ret rfl ⟨_, h, rfl, (Sep.del 0 hs)⟩
  · refine fi_false rfl (decide_eq_false c106) ?_
    refine fi_skip ?_
    refine fi_seq ?_
    refine fi_region ?_
    refine so_move (v := (.v (.int .i64 y104))) rfl ?_
    refine so_assign (v := (.v (.int .i64 y104))) rfl ?_
    refine so_nil ?_
    exact by_ret rfl ⟨_, h, rfl, (Sep.del 0 hs)⟩

end Go.Proofs.Ytpeijfnfffogeaa.G

namespace Go.Proofs.Ytpeijfnfffogeaa.G
open Go Go.Ab Go.Proofs Go.Proofs.Ytpeijfnfffogeaa
set_option maxRecDepth 100000
set_option linter.unusedVariables false
set_option linter.unusedSimpArgs false
set_option maxHeartbeats 1000000
attribute [local irreducible] wops wopf Go.Ab.Fin
theorem F182.ag4 : tagg Try.prog 4 = some false := by kernel_rfl
theorem F182.tb4 : tbool Try.prog 4 = true := by kernel_rfl
theorem F182.ti42 : (telem Try.prog 42).isSome = true := by kernel_rfl
theorem F182.tl42 : (telem Try.prog 42).bind (tsz Try.prog) = some 1 := by kernel_rfl
theorem laws_heldBoolS_ok {fr : List Pc} {H : Heap} (v0 : AV) (l0 : List (Bool)) (a1 : Int) (hs : Sep H (fr)) (g0 : ∀ H, Sep H fr → Shows H v0 1 (enc eBool l0)) (K : Int → Prop) (h : laws_heldBoolS.wp l0 a1 K) : OkQ Try.prog 182 [(.v v0), (.v (.int .i64 a1))] H (fun r H2 => ∃ (y0 : Int), K y0 ∧ r = (.v (.int .i64 y0)) ∧ H = H2) := by
  unfold laws_heldBoolS.wp at h
  refine of_body Try.f182 F.hm Try.func182 rfl Try.call182 (by kernel_rfl) (by simp) ?_
  refine fi_seq ?_
  refine fi_region ?_
  refine so_assign (v := (.v (.int .i64 (0 : Int)))) rfl ?_
  refine so_nil ?_
  refine fi_seq ?_
  refine fi_seq ?_
  refine fi_region ?_
  refine so_assign (v := (.v (.int .i64 (0 : Int)))) rfl ?_
  refine so_nil ?_
  refine fi_block ?_
  refine fi_loop ?_
  refine fi_at [(0, (.v v0)), (1, (.v (.int .i64 a1))), (5, (.v (.int .i64 (0 : Int))))] ⟨rfl, rfl, rfl, trivial⟩ ?_
  refine h (fun (k102 : Int) (i103 : Int) => ∀ (s : Nat → TV), Fin _ _ (updL s [(0, (.v v0)), (1, (.v (.int .i64 k102))), (5, (.v (.int .i64 i103)))]) _ _) ?_ _
  intro k102 i103 h s107
  refine fi_inLoop ?_
  refine fi_seq ?_
  refine fi_seq ?_
  refine fi_region ?_
  refine so_move (v := (.v (.int .i64 i103))) rfl ?_
  refine so_move (v := (.v v0)) rfl ?_
  refine sv_len (g0 _ hs) (fun _ => rfl) (by decide) rfl F182.ti42 ?_
  refine so_bin rfl rfl ab_lss ?_
  refine so_nil ?_
  replace h := ofP h; rcases h with ⟨c104, h⟩ | ⟨c104, h⟩
  · refine fi_true rfl (decide_eq_true c104) ?_
    refine fi_skip ?_
    refine fi_seq ?_
    refine fi_block ?_
    refine fi_seq ?_
    refine fi_seq ?_
    refine fi_region ?_
    refine so_move (v := (.v v0)) rfl ?_
    refine so_move (v := (.v (.int .i64 i103))) rfl ?_
    obtain ⟨c105, h⟩ := h
    refine sv_idx (g0 _ hs) c105 (fun _ => rfl) (by decide) rfl rfl F182.tl42 ?_
    refine sv_cell (g0 _ hs) c105 false 0 (fun x => (AV.bool x)) (fun _ => rfl) (fun _ => rfl) rfl F182.ag4 ?_
    refine so_move (v := (.v (.int .i64 k102))) rfl ?_
    refine so_bin rfl rfl (ab_rem (by decide)) ?_
    refine so_bin rfl rfl ab_eql ?_
    refine so_bin rfl rfl (ab_bneq F182.tb4) ?_
    refine so_nil ?_
    replace h := ofT h; rcases h with ⟨c106, h⟩ | ⟨c106, h⟩
    · refine fi_false rfl (not_f c106) ?_
      refine fi_skip ?_
      refine fi_region ?_
      refine so_move (v := (.v (.int .i64 k102))) rfl ?_
      refine so_bin rfl rfl ab_add ?_
      refine so_assign (v := (.v (.int .i64 (IntKind.i64.wrap (k102 + (1 : Int)))))) rfl ?_
      refine so_nil ?_
      refine fi_inBlock ?_
      refine fi_region ?_
      refine so_move (v := (.v (.int .i64 i103))) rfl ?_
      refine so_bin rfl rfl ab_add ?_
      refine so_assign (v := (.v (.int .i64 (IntKind.i64.wrap (i103 + (1 : Int)))))) rfl ?_
      refine so_nil ?_
      exact fi_at [(0, (.v v0)), (1, (.v (.int .i64 (IntKind.i64.wrap (k102 + (1 : Int)))))), (5, (.v (.int .i64 (IntKind.i64.wrap (i103 + (1 : Int))))))] ⟨rfl, rfl, rfl, trivial⟩ (h _)
    · refine fi_true rfl (not_t c106) ?_
      refine fi_seq ?_
      refine fi_region ?_
      refine so_assign (v := (.v (.int .i64 (-1 : Int)))) rfl ?_
      refine so_nil ?_
      exact by_ret rfl ⟨_, h, rfl, rfl⟩
  · refine fi_false rfl (decide_eq_false c104) ?_
    refine fi_exit rfl ?_
    refine fi_seq ?_
    refine fi_region ?_
    refine so_move (v := (.v (.int .i64 k102))) rfl ?_
    refine so_assign (v := (.v (.int .i64 k102))) rfl ?_
    refine so_nil ?_
    exact by_ret rfl ⟨_, h, rfl, rfl⟩

end Go.Proofs.Ytpeijfnfffogeaa.G

namespace Go.Proofs.Ytpeijfnfffogeaa.G
open Go Go.Ab Go.Proofs Go.Proofs.Ytpeijfnfffogeaa
set_option maxRecDepth 100000
set_option linter.unusedVariables false
set_option linter.unusedSimpArgs false
set_option maxHeartbeats 1000000
attribute [local irreducible] wops wopf Go.Ab.Fin
theorem F110.ag42 : tagg Try.prog 42 = some false := by kernel_rfl
theorem F110.fd51_2 : tfield Try.prog 51 2 = some (2, 1, false) := by kernel_rfl
theorem F110.inf51 : (Try.prog.info? 51).isSome = true := by kernel_rfl
theorem laws_heldCoded_ok {fr : List Pc} {H : Heap} (a0 : Int) (a1 : Int) (v2 : AV) (l2 : List (Bool)) (a3 : Int) (hs : Sep H (fr)) (g2 : ∀ H, Sep H fr → Shows H v2 1 (enc eBool l2)) (K : Int → Prop) (h : laws_heldCoded.wp a0 a1 l2 a3 K) : OkQ Try.prog 110 [(.g [(.int .i64 a0), (.int .i64 a1), v2]), (.v (.int .i64 a3))] H (fun r H2 => ∃ (y0 : Int), K y0 ∧ r = (.v (.int .i64 y0)) ∧ Sep H2 (fr)) := by
  unfold laws_heldCoded.wp at h
  refine of_body Try.f110 F.hm Try.func110 rfl Try.call110 (by kernel_rfl) (by simp) ?_
  refine fi_seq ?_
  refine fi_region ?_
  refine sv_box hs rfl (c := [(.int .i64 a0), (.int .i64 a1), v2]) rfl F110.inf51 (stc rfl (stc rfl (stc (g2 _ hs).stor stn))) nofun (fun id101 H102 hs => ?_)
  refine so_assign (v := (.v (.int .i64 (0 : Int)))) rfl ?_
  refine so_nil ?_
  refine fi_seq ?_
  refine fi_region ?_
  refine so_fieldAddr rfl F110.fd51_2 ?_
  refine sv_ld hs 0 rfl rfl rfl F110.ag42 ?_
  refine so_move (v := (.v (.int .i64 a3))) rfl ?_
  refine sv_callS (laws_heldBoolS_ok v2 l2 a3 hs (fun _ hs => (g2 _ hs.tl)) _ h) (fun _ _ ⟨_, _, _, e⟩ => e) rfl rfl ?_
  clear h
  rintro _ _ ⟨y104, h, rfl, rfl⟩
  refine so_assign (v := (.v (.int .i64 y104))) rfl ?_
  refine so_nil ?_
  refine fi_seq ?_
  refine fi_seq ?_
  refine fi_region ?_
  refine so_move (v := (.v (.int .i64 y104))) rfl ?_
  refine so_bin rfl rfl ab_lss ?_
  refine so_nil ?_
  replace h := ofP h; rcases h with ⟨c106, h⟩ | ⟨c106, h⟩
  · refine fi_true rfl (decide_eq_true c106) ?_
    refine fi_seq ?_
    refine fi_region ?_
    refine so_assign (v := (.v (.int .i64 (-1 : Int)))) rfl ?_
    refine so_nil ?_
    exact by_ret rfl ⟨_, h, rfl, (Sep.del 0 hs)⟩
  · refine fi_false rfl (decide_eq_false c106) ?_
    refine fi_skip ?_
    refine fi_seq ?_
    refine fi_region ?_
    refine so_move (v := (.v (.int .i64 y104))) rfl ?_
    refine so_assign (v := (.v (.int .i64 y104))) rfl ?_
    refine so_nil ?_
    exact by_ret rfl ⟨_, h, rfl, (Sep.del 0 hs)⟩

end Go.Proofs.Ytpeijfnfffogeaa.G

namespace Go.Proofs.Ytpeijfnfffogeaa.G
open Go Go.Ab Go.Proofs Go.Proofs.Ytpeijfnfffogeaa
set_option maxRecDepth 100000
set_option linter.unusedVariables false
set_option linter.unusedSimpArgs false
set_option maxHeartbeats 1000000
attribute [local irreducible] wops wopf Go.Ab.Fin
theorem F35.ag37 : tagg Try.prog 37 = some false := by kernel_rfl
theorem F35.ag49 : tagg Try.prog 49 = some true := by kernel_rfl
theorem F35.ag50 : tagg Try.prog 50 = some true := by kernel_rfl
theorem F35.ag51 : tagg Try.prog 51 = some true := by kernel_rfl
theorem F35.fd53_0 : tfield Try.prog 53 0 = some (0, 1, false) := by kernel_rfl
theorem F35.fd53_1 : tfield Try.prog 53 1 = some (1, 2, true) := by kernel_rfl
theorem F35.fd53_2 : tfield Try.prog 53 2 = some (3, 3, true) := by kernel_rfl
theorem F35.fd53_3 : tfield Try.prog 53 3 = some (6, 3, true) := by kernel_rfl
theorem F35.inf53 : (Try.prog.info? 53).isSome = true := by kernel_rfl
theorem F35.sz49 : tsz Try.prog 49 = some 2 := by kernel_rfl
theorem F35.sz50 : tsz Try.prog 50 = some 3 := by kernel_rfl
theorem F35.sz51 : tsz Try.prog 51 = some 3 := by kernel_rfl
theorem laws_heldDesk_ok {fr : List Pc} {H : Heap} (v0 : AV) (l0 : List (Nat)) (v1 : AV) (l1 : List (Nat)) (a2 : Nat) (a3 : Int) (a4 : Int) (v5 : AV) (l5 : List (Nat)) (a6 : Int) (a7 : Int) (v8 : AV) (l8 : List (Bool)) (a9 : Int) (hs : Sep H (fr)) (g0 : ∀ H, Sep H fr → Shows H v0 1 (enc (eFlt .f32) l0)) (g1 : ∀ H, Sep H fr → Shows H v1 1 (enc (eFlt .f32) l1)) (g5 : ∀ H, Sep H fr → Shows H v5 1 (enc (eFlt .f32) l5)) (g8 : ∀ H, Sep H fr → Shows H v8 1 (enc eBool l8)) (K : Int → Prop) (h : laws_heldDesk.wp l0 l1 a2 a3 a4 l5 a6 a7 l8 a9 K) : OkQ Try.prog 35 [(.g [v0, v1, (.flt .f32 a2), (.int .i64 a3), (.int .i64 a4), v5, (.int .i64 a6), (.int .i64 a7), v8]), (.v (.int .i64 a9))] H (fun r H2 => ∃ (y0 : Int), K y0 ∧ r = (.v (.int .i64 y0)) ∧ Sep H2 (fr)) := by
  unfold laws_heldDesk.wp at h
  refine of_body Try.f35 F.hm Try.func35 rfl Try.call35 (by kernel_rfl) (by simp) ?_
  refine fi_seq ?_
  refine fi_region ?_
  refine sv_box hs rfl (c := [v0, v1, (.flt .f32 a2), (.int .i64 a3), (.int .i64 a4), v5, (.int .i64 a6), (.int .i64 a7), v8]) rfl F35.inf53 (stc (g0 _ hs).stor (stc (g1 _ hs).stor (stc rfl (stc rfl (stc rfl (stc (g5 _ hs).stor (stc rfl (stc rfl (stc (g8 _ hs).stor stn))))))))) nofun (fun id101 H102 hs => ?_)
  refine so_assign (v := (.v (.int .i64 (0 : Int)))) rfl ?_
  refine so_nil ?_
  refine fi_seq ?_
  refine fi_region ?_
  refine so_fieldAddr rfl F35.fd53_0 ?_
  refine sv_ld hs 0 rfl rfl rfl F35.ag37 ?_
  refine so_move (v := (.v (.int .i64 a9))) rfl ?_
  refine sv_callS (laws_heldFloat32S_ok v0 l0 a9 hs (fun _ hs => (g0 _ hs.tl)) _ h) (fun _ _ ⟨_, _, _, e⟩ => e) rfl rfl ?_
  clear h
  rintro _ _ ⟨y104, h, rfl, rfl⟩
  refine so_assign (v := (.v (.int .i64 y104))) rfl ?_
  refine so_nil ?_
  refine fi_seq ?_
  refine fi_seq ?_
  refine fi_region ?_
  refine so_move (v := (.v (.int .i64 y104))) rfl ?_
  refine so_bin rfl rfl ab_lss ?_
  refine so_nil ?_
  replace h := ofP h; rcases h with ⟨c106, h⟩ | ⟨c106, h⟩
  · refine fi_true rfl (decide_eq_true c106) ?_
    refine fi_seq ?_
    refine fi_region ?_
    refine so_assign (v := (.v (.int .i64 (-1 : Int)))) rfl ?_
    refine so_nil ?_
    exact by_ret rfl ⟨_, h, rfl, (Sep.del 0 hs)⟩
  · refine fi_false rfl (decide_eq_false c106) ?_
    refine fi_skip ?_
    refine fi_seq ?_
    refine fi_region ?_
    refine so_fieldAddr rfl F35.fd53_1 ?_
    refine sv_lds hs 0 rfl rfl (leb rfl) rfl F35.ag49 F35.sz49 ?_
    refine so_move (v := (.v (.int .i64 y104))) rfl ?_
    refine sv_call (laws_heldScheme_ok v1 l1 a2 y104 hs (fun _ hs => (g1 _ hs.tl)) _ h) rfl rfl nofun ?_
    clear h hs
    rintro _ H108 ⟨y107, h, rfl, hs⟩
    refine so_assign (v := (.v (.int .i64 y107))) rfl ?_
    refine so_nil ?_
    refine fi_seq ?_
    refine fi_seq ?_
    refine fi_region ?_
    refine so_move (v := (.v (.int .i64 y107))) rfl ?_
    refine so_bin rfl rfl ab_lss ?_
    refine so_nil ?_
    replace h := ofP h; rcases h with ⟨c109, h⟩ | ⟨c109, h⟩
    · refine fi_true rfl (decide_eq_true c109) ?_
      refine fi_seq ?_
      refine fi_region ?_
      refine so_assign (v := (.v (.int .i64 (-1 : Int)))) rfl ?_
      refine so_nil ?_
      exact by_ret rfl ⟨_, h, rfl, (Sep.del 0 hs)⟩
    · refine fi_false rfl (decide_eq_false c109) ?_
      refine fi_skip ?_
      refine fi_seq ?_
      refine fi_region ?_
      refine so_fieldAddr rfl F35.fd53_2 ?_
      refine sv_lds hs 0 rfl rfl (leb rfl) rfl F35.ag50 F35.sz50 ?_
      refine so_move (v := (.v (.int .i64 y107))) rfl ?_
      refine sv_call (laws_heldPicture_ok a3 a4 v5 l5 y107 hs (fun _ hs => (g5 _ hs.tl)) _ h) rfl rfl nofun ?_
      clear h hs
      rintro _ H111 ⟨y110, h, rfl, hs⟩
      refine so_assign (v := (.v (.int .i64 y110))) rfl ?_
      refine so_nil ?_
      refine fi_seq ?_
      refine fi_seq ?_
      refine fi_region ?_
      refine so_move (v := (.v (.int .i64 y110))) rfl ?_
      refine so_bin rfl rfl ab_lss ?_
      refine so_nil ?_
      replace h := ofP h; rcases h with ⟨c112, h⟩ | ⟨c112, h⟩
      · refine fi_true rfl (decide_eq_true c112) ?_
        refine fi_seq ?_
        refine fi_region ?_
        refine so_assign (v := (.v (.int .i64 (-1 : Int)))) rfl ?_
        refine so_nil ?_
        exact by_ret rfl ⟨_, h, rfl, (Sep.del 0 hs)⟩
      · refine fi_false rfl (decide_eq_false c112) ?_
        refine fi_skip ?_
        refine fi_seq ?_
        refine fi_region ?_
        refine so_fieldAddr rfl F35.fd53_3 ?_
        refine sv_lds hs 0 rfl rfl (leb rfl) rfl F35.ag51 F35.sz51 ?_
        refine so_move (v := (.v (.int .i64 y110))) rfl ?_
        refine sv_call (laws_heldCoded_ok a6 a7 v8 l8 y110 hs (fun _ hs => (g8 _ hs.tl)) _ h) rfl rfl nofun ?_
        clear h hs
        rintro _ H114 ⟨y113, h, rfl, hs⟩
        refine so_assign (v := (.v (.int .i64 y113))) rfl ?_
        refine so_nil ?_
        refine fi_seq ?_
        refine fi_seq ?_
        refine fi_region ?_
        refine so_move (v := (.v (.int .i64 y113))) rfl ?_
        refine so_bin rfl rfl ab_lss ?_
        refine so_nil ?_
        replace h := ofP h; rcases h with ⟨c115, h⟩ | ⟨c115, h⟩
        · refine fi_true rfl (decide_eq_true c115) ?_
          refine fi_seq ?_
          refine fi_region ?_
          refine so_assign (v := (.v (.int .i64 (-1 : Int)))) rfl ?_
          refine so_nil ?_
          exact by_ret rfl ⟨_, h, rfl, (Sep.del 0 hs)⟩
        · refine fi_false rfl (decide_eq_false c115) ?_
          refine fi_skip ?_
          refine fi_seq ?_
          refine fi_region ?_
          refine so_move (v := (.v (.int .i64 y113))) rfl ?_
          refine so_assign (v := (.v (.int .i64 y113))) rfl ?_
          refine so_nil ?_
          exact by_ret rfl ⟨_, h, rfl, (Sep.del 0 hs)⟩

end Go.Proofs.Ytpeijfnfffogeaa.G

namespace Go.Proofs.Ytpeijfnfffogeaa.G
open Go Go.Ab Go.Proofs Go.Proofs.Ytpeijfnfffogeaa
set_option maxRecDepth 100000
set_option linter.unusedVariables false
set_option linter.unusedSimpArgs false
set_option maxHeartbeats 1000000
attribute [local irreducible] wops wopf Go.Ab.Fin
theorem F6.ag53 : tagg Try.prog 53 = some true := by kernel_rfl
theorem F6.sz53 : tsz Try.prog 53 = some 9 := by kernel_rfl
theorem F6.ze53 : tzero Try.prog 53 = some [.nilsl, .nilsl, (.flt .f32 (0 : Nat)), (.int .i64 (0 : Int)), (.int .i64 (0 : Int)), .nilsl, (.int .i64 (0 : Int)), (.int .i64 (0 : Int)), .nilsl] := by kernel_rfl
theorem laws_FnExactNewDesk_ok {fr : List Pc} {H : Heap}  (hs : Sep H (fr))  (K : Bool → Prop) (h : laws_FnExactNewDesk.wp  K) : OkQ Try.prog 6 [] H (fun r H2 => ∃ (y0 : Bool), K y0 ∧ r = (.v (.bool y0)) ∧ Sep H2 (fr)) := by
  unfold laws_FnExactNewDesk.wp at h
  refine of_body Try.f6 F.hm Try.func6 rfl Try.call6 (by kernel_rfl) (by simp) ?_
  refine fi_seq ?_
  refine fi_region ?_
  refine so_assign (v := (.v (.bool false))) rfl ?_
  refine so_nil ?_
  refine fi_seq ?_
  refine fi_region ?_
  refine sv_call (spec_NewDesk_ok  hs  _ h) rfl rfl nofun ?_
  clear h hs
  rintro _ H118 ⟨y101, y104, y107, y108, y109, y110, y113, y114, y115, h, v102, v105, v111, v116, rfl, hs⟩
  refine sv_alloc hs F6.ze53 rfl nofun (fun id119 H120 hs => ?_)
  refine sv_st hs 0 rfl rfl rfl (c := [v102, v105, (.flt .f32 y107), (.int .i64 y108), (.int .i64 y109), v111, (.int .i64 y113), (.int .i64 y114), v116]) rfl F6.sz53 rfl (stc (hs.shows 1 rfl).stor (stc (hs.shows 2 rfl).stor (stc rfl (stc rfl (stc rfl (stc (hs.shows 3 rfl).stor (stc rfl (stc rfl (stc (hs.shows 4 rfl).stor stn))))))))) (leb rfl) (cs' := [v102, v105, (.flt .f32 y107), (.int .i64 y108), (.int .i64 y109), v111, (.int .i64 y113), (.int .i64 y114), v116]) rfl nofun (fun H122 hs => ?_)
  refine so_nil ?_
  refine fi_seq ?_
  refine fi_region ?_
  refine sv_call (impl_NewDesk_ok  hs  _ h) rfl rfl nofun ?_
  clear h hs
  rintro _ H140 ⟨y123, y126, y129, y130, y131, y132, y135, y136, y137, h, v124, v127, v133, v138, rfl, hs⟩
  refine sv_alloc hs F6.ze53 rfl nofun (fun id141 H142 hs => ?_)
  refine sv_st hs 0 rfl rfl rfl (c := [v124, v127, (.flt .f32 y129), (.int .i64 y130), (.int .i64 y131), v133, (.int .i64 y135), (.int .i64 y136), v138]) rfl F6.sz53 rfl (stc (hs.shows 1 rfl).stor (stc (hs.shows 2 rfl).stor (stc rfl (stc rfl (stc rfl (stc (hs.shows 3 rfl).stor (stc rfl (stc rfl (stc (hs.shows 4 rfl).stor stn))))))))) (leb rfl) (cs' := [v124, v127, (.flt .f32 y129), (.int .i64 y130), (.int .i64 y131), v133, (.int .i64 y135), (.int .i64 y136), v138]) rfl nofun (fun H144 hs => ?_)
  refine so_nil ?_
  refine fi_seq ?_
  refine fi_seq ?_
  refine fi_region ?_
  refine sv_lds hs 0 rfl rfl (leb rfl) rfl F6.ag53 F6.sz53 ?_
  refine sv_lds hs 5 rfl rfl (leb rfl) rfl F6.ag53 F6.sz53 ?_
  refine sv_call (laws_eqDesk_ok v124 y123 v127 y126 y129 y130 y131 v133 y132 y135 y136 v138 y137 v102 y101 v105 y104 y107 y108 y109 v111 y110 y113 y114 v116 y115 hs (fun _ hs => (hs.shows 1 rfl)) (fun _ hs => (hs.shows 2 rfl)) (fun _ hs => (hs.shows 3 rfl)) (fun _ hs => (hs.shows 4 rfl)) (fun _ hs => (hs.shows 6 rfl)) (fun _ hs => (hs.shows 7 rfl)) (fun _ hs => (hs.shows 8 rfl)) (fun _ hs => (hs.shows 9 rfl)) _ h) rfl rfl nofun ?_
  clear h hs
  rintro _ H146 ⟨y145, h, rfl, hs⟩
  refine so_un rfl au_not ?_
  refine so_nil ?_
  replace h := ofT h; rcases h with ⟨c147, h⟩ | ⟨c147, h⟩
  · refine fi_false rfl (not_f c147) ?_
    refine fi_skip ?_
    refine fi_seq ?_
    refine fi_region ?_
    refine so_assign (v := (.v (.int .i64 (1 : Int)))) rfl ?_
    refine so_nil ?_
    refine fi_seq ?_
    refine fi_region ?_
    refine sv_lds hs 0 rfl rfl (leb rfl) rfl F6.ag53 F6.sz53 ?_
    refine so_move (v := (.v (.int .i64 (1 : Int)))) rfl ?_
    replace hs := (Sep.front 4 (Sep.front 4 (Sep.front 4 (Sep.front 4 hs rfl) rfl) rfl) rfl)
    refine sv_call (laws_markDesk_ok v124 y123 v127 y126 y129 y130 y131 v133 y132 y135 y136 v138 y137 (1 : Int) hs  _ h) rfl rfl nofun ?_
    clear h hs
    rintro _ H153 ⟨y148, y149, y150, y151, y152, h, rfl, hs⟩
    refine so_assign (v := (.v (.int .i64 y148))) rfl ?_
    refine so_nil ?_
    refine fi_seq ?_
    refine fi_region ?_
    refine so_assign (v := (.v (.int .i64 (1 : Int)))) rfl ?_
    refine so_nil ?_
    refine fi_seq ?_
    refine fi_region ?_
    refine sv_lds hs 4 rfl rfl (leb rfl) rfl F6.ag53 F6.sz53 ?_
    refine so_move (v := (.v (.int .i64 (1 : Int)))) rfl ?_
    refine sv_call (laws_heldDesk_ok v124 y149 v127 y150 y129 y130 y131 v133 y151 y135 y136 v138 y152 (1 : Int) hs (fun _ hs => (hs.shows 0 rfl)) (fun _ hs => (hs.shows 1 rfl)) (fun _ hs => (hs.shows 2 rfl)) (fun _ hs => (hs.shows 3 rfl)) _ h) rfl rfl nofun ?_
    clear h hs
    rintro _ H155 ⟨y154, h, rfl, hs⟩
    refine so_assign (v := (.v (.int .i64 y154))) rfl ?_
    refine so_nil ?_
    refine fi_seq ?_
    refine fi_seq ?_
    refine fi_region ?_
    refine so_move (v := (.v (.int .i64 y154))) rfl ?_
    refine so_bin rfl rfl ab_lss ?_
    refine so_nil ?_
    replace h := ofP h; rcases h with ⟨c156, h⟩ | ⟨c156, h⟩
    · refine fi_true rfl (decide_eq_true c156) ?_
      refine fi_seq ?_
      refine fi_region ?_
      refine so_assign (v := (.v (.bool false))) rfl ?_
      refine so_nil ?_
      exact by_ret rfl ⟨_, h, rfl, (Sep.dropn 10 hs)⟩
    · refine fi_false rfl (decide_eq_false c156) ?_
      refine fi_skip ?_
      refine fi_seq ?_
      refine fi_seq ?_
      refine fi_region ?_
      refine so_move (v := (.v (.int .i64 y154))) rfl ?_
      refine so_move (v := (.v (.int .i64 y148))) rfl ?_
      refine so_bin rfl rfl ab_neq ?_
      refine so_nil ?_
      replace h := ofP h; rcases h with ⟨c157, h⟩ | ⟨c157, h⟩
      · refine fi_false rfl (not_f (decide_eq_true c157)) ?_
        refine fi_skip ?_
        refine fi_seq ?_
        refine fi_region ?_
        refine sv_call (impl_NewDesk_ok  hs  _ h) rfl rfl nofun ?_
        clear h hs
        rintro _ H175 ⟨y158, y161, y164, y165, y166, y167, y170, y171, y172, h, v159, v162, v168, v173, rfl, hs⟩
        refine sv_alloc hs F6.ze53 rfl nofun (fun id176 H177 hs => ?_)
        refine sv_st hs 0 rfl rfl rfl (c := [v159, v162, (.flt .f32 y164), (.int .i64 y165), (.int .i64 y166), v168, (.int .i64 y170), (.int .i64 y171), v173]) rfl F6.sz53 rfl (stc (hs.shows 1 rfl).stor (stc (hs.shows 2 rfl).stor (stc rfl (stc rfl (stc rfl (stc (hs.shows 3 rfl).stor (stc rfl (stc rfl (stc (hs.shows 4 rfl).stor stn))))))))) (leb rfl) (cs' := [v159, v162, (.flt .f32 y164), (.int .i64 y165), (.int .i64 y166), v168, (.int .i64 y170), (.int .i64 y171), v173]) rfl nofun (fun H179 hs => ?_)
        refine so_nil ?_
        refine fi_seq ?_
        refine fi_seq ?_
        refine fi_region ?_
        refine sv_lds hs 0 rfl rfl (leb rfl) rfl F6.ag53 F6.sz53 ?_
        refine sv_lds hs 10 rfl rfl (leb rfl) rfl F6.ag53 F6.sz53 ?_
        refine sv_call (laws_eqDesk_ok v159 y158 v162 y161 y164 y165 y166 v168 y167 y170 y171 v173 y172 v102 y101 v105 y104 y107 y108 y109 v111 y110 y113 y114 v116 y115 hs (fun _ hs => (hs.shows 1 rfl)) (fun _ hs => (hs.shows 2 rfl)) (fun _ hs => (hs.shows 3 rfl)) (fun _ hs => (hs.shows 4 rfl)) (fun _ hs => (hs.shows 11 rfl)) (fun _ hs => (hs.shows 12 rfl)) (fun _ hs => (hs.shows 13 rfl)) (fun _ hs => (hs.shows 14 rfl)) _ h) rfl rfl nofun ?_
        clear h hs
        rintro _ H181 ⟨y180, h, rfl, hs⟩
        refine so_un rfl au_not ?_
        refine so_nil ?_
        replace h := ofT h; rcases h with ⟨c182, h⟩ | ⟨c182, h⟩
        · refine fi_false rfl (not_f c182) ?_
          refine fi_skip ?_
          refine fi_seq ?_
          refine fi_region ?_
          refine so_assign (v := (.v (.int .i64 (1 : Int)))) rfl ?_
          refine so_nil ?_
          refine fi_seq ?_
          refine fi_region ?_
          refine sv_lds hs 9 rfl rfl (leb rfl) rfl F6.ag53 F6.sz53 ?_
          refine so_move (v := (.v (.int .i64 (1 : Int)))) rfl ?_
          refine sv_call (laws_heldDesk_ok v124 y149 v127 y150 y129 y130 y131 v133 y151 y135 y136 v138 y152 (1 : Int) hs (fun _ hs => (hs.shows 5 rfl)) (fun _ hs => (hs.shows 6 rfl)) (fun _ hs => (hs.shows 7 rfl)) (fun _ hs => (hs.shows 8 rfl)) _ h) rfl rfl nofun ?_
          clear h hs
          rintro _ H184 ⟨y183, h, rfl, hs⟩
          refine so_assign (v := (.v (.int .i64 y183))) rfl ?_
          refine so_nil ?_
          refine fi_seq ?_
          refine fi_seq ?_
          refine fi_region ?_
          refine so_move (v := (.v (.int .i64 y183))) rfl ?_
          refine so_bin rfl rfl ab_lss ?_
          refine so_nil ?_
          replace h := ofP h; rcases h with ⟨c185, h⟩ | ⟨c185, h⟩
          · refine fi_true rfl (decide_eq_true c185) ?_
            refine fi_seq ?_
            refine fi_region ?_
            refine so_assign (v := (.v (.bool false))) rfl ?_
            refine so_nil ?_
            exact by_ret rfl ⟨_, h, rfl, (Sep.dropn 15 hs)⟩
          · refine fi_false rfl (decide_eq_false c185) ?_
            refine fi_skip ?_
            refine fi_seq ?_
            refine fi_seq ?_
            refine fi_region ?_
            refine so_move (v := (.v (.int .i64 y183))) rfl ?_
            refine so_move (v := (.v (.int .i64 y148))) rfl ?_
            refine so_bin rfl rfl ab_neq ?_
            refine so_nil ?_
            replace h := ofP h; rcases h with ⟨c186, h⟩ | ⟨c186, h⟩
            · refine fi_false rfl (not_f (decide_eq_true c186)) ?_
              refine fi_skip ?_
              refine fi_seq ?_
              refine fi_region ?_
              refine so_assign (v := (.v (.bool true))) rfl ?_
              refine so_nil ?_
              exact by_ret rfl ⟨_, h, rfl, (Sep.dropn 15 hs)⟩
            · refine fi_true rfl (not_t (decide_eq_false c186)) ?_
              refine fi_seq ?_
              refine fi_region ?_
              refine so_assign (v := (.v (.bool false))) rfl ?_
              refine so_nil ?_
              exact by_ret rfl ⟨_, h, rfl, (Sep.dropn 15 hs)⟩
        · refine fi_true rfl (not_t c182) ?_
          refine fi_seq ?_
          refine fi_region ?_
          refine so_assign (v := (.v (.bool false))) rfl ?_
          refine so_nil ?_
          exact by_ret rfl ⟨_, h, rfl, (Sep.dropn 15 hs)⟩
      · refine fi_true rfl (not_t (decide_eq_false c157)) ?_
        refine fi_seq ?_
        refine fi_region ?_
        refine so_assign (v := (.v (.bool false))) rfl ?_
        refine so_nil ?_
        exact by_ret rfl ⟨_, h, rfl, (Sep.dropn 10 hs)⟩
  · refine fi_true rfl (not_t c147) ?_
    refine fi_seq ?_
    refine fi_region ?_
    refine so_assign (v := (.v (.bool false))) rfl ?_
    refine so_nil ?_
    exact by_ret rfl ⟨_, h, rfl, (Sep.dropn 10 hs)⟩

end Go.Proofs.Ytpeijfnfffogeaa.G

