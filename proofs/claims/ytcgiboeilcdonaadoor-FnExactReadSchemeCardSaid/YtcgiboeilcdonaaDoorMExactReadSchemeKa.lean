/-
  The model ends so. Printed by a program of the session; nothing here is trusted.
-/
import Derived.Test.YtcgiboeilcdonaaDoorProg
import Derived.KernelRfl
import Derived.Test.YtcgiboeilcdonaaDoorMExactReadSchemeWa
import Derived.Test.YtcgiboeilcdonaaDoorShelf
namespace Go.Proofs.YtcgiboeilcdonaaDoor.F
open Go Go.Ab Go.Proofs
set_option maxRecDepth 100000
set_option linter.unusedVariables false
set_option linter.unusedSimpArgs false
set_option maxHeartbeats 1000000
theorem hm : Tryd.prog.follows .mixedOrders = true := by kernel_rfl
def tab4 : Obj → Prop := showsTab Tryd.prog "internal/strconv.uint64pow10" .u64 Lib.pow10Tab 4
def tab8 : Obj → Prop := showsTab Tryd.prog "math/bits.deBruijn64tab" .u8 (Lib.deBruijn64tab.map Int.ofNat) 8
def tab6 : Obj → Prop := holdsErr 6
def tab5 : Obj → Prop := holdsErr 5
end Go.Proofs.YtcgiboeilcdonaaDoor.F

namespace Go.Proofs.YtcgiboeilcdonaaDoor.G
open Go Go.Ab Go.Proofs Go.Proofs.YtcgiboeilcdonaaDoor
set_option maxRecDepth 100000
set_option linter.unusedVariables false
set_option linter.unusedSimpArgs false
set_option maxHeartbeats 1000000
attribute [local irreducible] wops wopf Go.Ab.Fin
theorem F77.tb4 : tbool Tryd.prog 4 = true := by kernel_rfl
theorem laws_sameFloat_ok {fr : List Pc} {H : Heap} (a0 : Nat) (a1 : Nat) (hs : Sep H (fr))  (K : Bool → Prop) (h : laws_sameFloat.wp a0 a1 K) : OkQ Tryd.prog 77 [(.v (.flt .f64 a0)), (.v (.flt .f64 a1))] H (fun r H2 => ∃ (y0 : Bool), K y0 ∧ r = (.v (.bool y0)) ∧ H = H2) := by
  unfold laws_sameFloat.wp at h
  refine of_body Tryd.f77 F.hm Tryd.func77 rfl Tryd.call77 (by kernel_rfl) (by simp) ?_
  refine fi_seq ?_
  refine fi_region ?_
  refine so_assign (v := (.v (.bool false))) rfl ?_
  refine so_nil ?_
  refine fi_seq ?_
  refine fi_seq ?_
  refine fi_region ?_
  refine so_move (v := (.v (.flt .f64 a0))) rfl ?_
  refine so_move (v := (.v (.flt .f64 a0))) rfl ?_
  refine so_bin rfl rfl ab_fneq ?_
  refine so_move (v := (.v (.bool (fcmp .neq .f64 a0 a0)))) rfl ?_
  replace h := ofT h; rcases h with ⟨c101, h⟩ | ⟨c101, h⟩
  · refine so_gno rfl c101 ?_
    refine so_gno rfl c101 ?_
    refine so_gno rfl c101 ?_
    refine so_pick_t (v := (.v (.bool true))) rfl c101 rfl ?_
    refine so_nil ?_
    refine fi_true rfl rfl ?_
    refine fi_seq ?_
    refine fi_region ?_
    refine so_move (v := (.v (.flt .f64 a0))) rfl ?_
    refine so_move (v := (.v (.flt .f64 a0))) rfl ?_
    refine so_bin rfl rfl ab_fneq ?_
    refine so_move (v := (.v (.bool (fcmp .neq .f64 a0 a0)))) rfl ?_
    refine so_gyes rfl c101 ?_
    refine so_move (v := (.v (.flt .f64 a1))) rfl ?_
    refine so_gyes rfl c101 ?_
    refine so_move (v := (.v (.flt .f64 a1))) rfl ?_
    refine so_gyes rfl c101 ?_
    refine so_bin rfl rfl ab_fneq ?_
    refine so_pick_t (v := (.v (.bool (fcmp .neq .f64 a1 a1)))) rfl c101 rfl ?_
    refine so_assign (v := (.v (.bool (fcmp .neq .f64 a1 a1)))) rfl ?_
    refine so_nil ?_
    exact by_ret rfl ⟨_, h, rfl, rfl⟩
  · refine so_gyes rfl c101 ?_
    refine so_move (v := (.v (.flt .f64 a1))) rfl ?_
    refine so_gyes rfl c101 ?_
    refine so_move (v := (.v (.flt .f64 a1))) rfl ?_
    refine so_gyes rfl c101 ?_
    refine so_bin rfl rfl ab_fneq ?_
    refine so_pick_f (v := (.v (.bool (fcmp .neq .f64 a1 a1)))) rfl c101 rfl ?_
    refine so_nil ?_
    replace h := ofT h; rcases h with ⟨c102, h⟩ | ⟨c102, h⟩
    · refine fi_true rfl c102 ?_
      refine fi_seq ?_
      refine fi_region ?_
      refine so_move (v := (.v (.flt .f64 a0))) rfl ?_
      refine so_move (v := (.v (.flt .f64 a0))) rfl ?_
      refine so_bin rfl rfl ab_fneq ?_
      refine so_move (v := (.v (.bool (fcmp .neq .f64 a0 a0)))) rfl ?_
      refine so_gno rfl c101 ?_
      refine so_gno rfl c101 ?_
      refine so_gno rfl c101 ?_
      refine so_pick_f (v := (.v (.bool false))) rfl c101 rfl ?_
      refine so_assign (v := (.v (.bool false))) rfl ?_
      refine so_nil ?_
      exact by_ret rfl ⟨_, h, rfl, rfl⟩
    · refine fi_false rfl c102 ?_
      refine fi_skip ?_
      refine fi_seq ?_
      refine fi_seq ?_
      refine fi_region ?_
      refine so_move (v := (.v (.flt .f64 a0))) rfl ?_
      refine so_bin rfl rfl ab_feql ?_
      refine so_move (v := (.v (.bool (fcmp .eql .f64 a0 (cz .f64 0))))) rfl ?_
      replace h := ofT h; rcases h with ⟨c103, h⟩ | ⟨c103, h⟩
      · refine so_gyes rfl c103 ?_
        refine so_move (v := (.v (.flt .f64 a1))) rfl ?_
        refine so_gyes rfl c103 ?_
        refine so_bin rfl rfl ab_feql ?_
        refine so_pick_t (v := (.v (.bool (fcmp .eql .f64 a1 (cz .f64 0))))) rfl c103 rfl ?_
        refine so_nil ?_
        replace h := ofT h; rcases h with ⟨c104, h⟩ | ⟨c104, h⟩
        · refine fi_true rfl c104 ?_
          refine fi_seq ?_
          refine fi_region ?_
          refine so_move (v := (.v (.flt .f64 a0))) rfl ?_
          refine so_bin rfl rfl ab_fquo ?_
          refine so_bin rfl rfl ab_fgtr ?_
          refine so_move (v := (.v (.flt .f64 a1))) rfl ?_
          refine so_bin rfl rfl ab_fquo ?_
          refine so_bin rfl rfl ab_fgtr ?_
          refine so_bin rfl rfl (ab_beql F77.tb4) ?_
          refine so_assign (v := (.v (.bool ((fcmp .gtr .f64 (fop .quo .f64 (cz .f64 4607182418800017408) a0) (cz .f64 0)) == (fcmp .gtr .f64 (fop .quo .f64 (cz .f64 4607182418800017408) a1) (cz .f64 0)))))) rfl ?_
          refine so_nil ?_
          exact by_ret rfl ⟨_, h, rfl, rfl⟩
        · refine fi_false rfl c104 ?_
          refine fi_skip ?_
          refine fi_seq ?_
          refine fi_region ?_
          refine so_move (v := (.v (.flt .f64 a0))) rfl ?_
          refine so_move (v := (.v (.flt .f64 a1))) rfl ?_
          refine so_bin rfl rfl ab_feql ?_
          refine so_assign (v := (.v (.bool (fcmp .eql .f64 a0 a1)))) rfl ?_
          refine so_nil ?_
          exact by_ret rfl ⟨_, h, rfl, rfl⟩
      · refine so_gno rfl c103 ?_
        refine so_gno rfl c103 ?_
        refine so_pick_f (v := (.v (.bool false))) rfl c103 rfl ?_
        refine so_nil ?_
        refine fi_false rfl rfl ?_
        refine fi_skip ?_
        refine fi_seq ?_
        refine fi_region ?_
        refine so_move (v := (.v (.flt .f64 a0))) rfl ?_
        refine so_move (v := (.v (.flt .f64 a1))) rfl ?_
        refine so_bin rfl rfl ab_feql ?_
        refine so_assign (v := (.v (.bool (fcmp .eql .f64 a0 a1)))) rfl ?_
        refine so_nil ?_
        exact by_ret rfl ⟨_, h, rfl, rfl⟩

end Go.Proofs.YtcgiboeilcdonaaDoor.G

namespace Go.Proofs.YtcgiboeilcdonaaDoor.G
open Go Go.Ab Go.Proofs Go.Proofs.YtcgiboeilcdonaaDoor
set_option maxRecDepth 100000
set_option linter.unusedVariables false
set_option linter.unusedSimpArgs false
set_option maxHeartbeats 1000000
attribute [local irreducible] wops wopf Go.Ab.Fin
theorem F76.ag49 : tagg Tryd.prog 49 = some false := by kernel_rfl
theorem F76.fl111 : tflt Tryd.prog 111 = some .f64 := by kernel_rfl
theorem F76.in111 : tint Tryd.prog 111 = none := by kernel_rfl
theorem F76.ti48 : (telem Tryd.prog 48).isSome = true := by kernel_rfl
theorem F76.tl48 : (telem Tryd.prog 48).bind (tsz Tryd.prog) = some 1 := by kernel_rfl
theorem F76.us49 : (Tryd.prog.underlying 49).isSome = true := by kernel_rfl
theorem laws_eqFloat32S_ok {fr : List Pc} {H : Heap} (v0 : AV) (l0 : List (Nat)) (v1 : AV) (l1 : List (Nat)) (hs : Sep H (fr)) (g0 : ∀ H, Sep H fr → Shows H v0 1 (enc (eFlt .f32) l0)) (g1 : ∀ H, Sep H fr → Shows H v1 1 (enc (eFlt .f32) l1)) (K : Bool → Prop) (h : laws_eqFloat32S.wp l0 l1 K) : OkQ Tryd.prog 76 [(.v v0), (.v v1)] H (fun r H2 => ∃ (y0 : Bool), K y0 ∧ r = (.v (.bool y0)) ∧ H = H2) := by
  unfold laws_eqFloat32S.wp at h
  refine of_body Tryd.f76 F.hm Tryd.func76 rfl Tryd.call76 (by kernel_rfl) (by simp) ?_
  refine fi_seq ?_
  refine fi_region ?_
  refine so_assign (v := (.v (.bool false))) rfl ?_
  refine so_nil ?_
  refine fi_seq ?_
  refine fi_seq ?_
  refine fi_region ?_
  refine so_move (v := (.v v0)) rfl ?_
  refine sv_len (g0 _ hs) (fun _ => rfl) (by decide) rfl F76.ti48 ?_
  refine so_move (v := (.v v1)) rfl ?_
  refine sv_len (g1 _ hs) (fun _ => rfl) (by decide) rfl F76.ti48 ?_
  refine so_bin rfl rfl ab_neq ?_
  refine so_nil ?_
  replace h := ofP h; rcases h with ⟨c101, h⟩ | ⟨c101, h⟩
  · refine fi_false rfl (not_f (decide_eq_true c101)) ?_
    refine fi_skip ?_
    refine fi_seq ?_
    refine fi_seq ?_
    refine fi_region ?_
    refine so_assign (v := (.v (.int .i64 (0 : Int)))) rfl ?_
    refine so_nil ?_
    refine fi_block ?_
    refine fi_loop ?_
    refine fi_at [(0, (.v v0)), (1, (.v v1)), (5, (.v (.int .i64 (0 : Int))))] ⟨rfl, rfl, rfl, trivial⟩ ?_
    refine h (fun (i103 : Int) => ∀ (s : Nat → TV), Fin _ _ (updL s [(0, (.v v0)), (1, (.v v1)), (5, (.v (.int .i64 i103)))]) _ _) ?_ _
    intro i103 h s110
    refine fi_inLoop ?_
    refine fi_seq ?_
    refine fi_seq ?_
    refine fi_region ?_
    refine so_move (v := (.v (.int .i64 i103))) rfl ?_
    refine so_move (v := (.v v0)) rfl ?_
    refine sv_len (g0 _ hs) (fun _ => rfl) (by decide) rfl F76.ti48 ?_
    refine so_bin rfl rfl ab_lss ?_
    refine so_nil ?_
    replace h := ofP h; rcases h with ⟨c104, h⟩ | ⟨c104, h⟩
    · refine fi_true rfl (decide_eq_true c104) ?_
      refine fi_skip ?_
      refine fi_seq ?_
      refine fi_block ?_
      refine fi_seq ?_
      refine fi_region ?_
      refine so_move (v := (.v v0)) rfl ?_
      refine so_move (v := (.v (.int .i64 i103))) rfl ?_
      obtain ⟨c105, h⟩ := h
      refine sv_idx (g0 _ hs) c105 (fun _ => rfl) (by decide) rfl rfl F76.tl48 ?_
      refine sv_cell (g0 _ hs) c105 (0 : Nat) 0 (fun x => (AV.flt .f32 x)) (fun _ => rfl) (fun _ => rfl) rfl F76.ag49 ?_
      refine sv_ffw rfl F76.us49 F76.in111 F76.fl111 ?_
      refine so_move (v := (.v v1)) rfl ?_
      refine so_move (v := (.v (.int .i64 i103))) rfl ?_
      obtain ⟨c106, h⟩ := h
      refine sv_idx (g1 _ hs) c106 (fun _ => rfl) (by decide) rfl rfl F76.tl48 ?_
      refine sv_cell (g1 _ hs) c106 (0 : Nat) 0 (fun x => (AV.flt .f32 x)) (fun _ => rfl) (fun _ => rfl) rfl F76.ag49 ?_
      refine sv_ffw rfl F76.us49 F76.in111 F76.fl111 ?_
      refine sv_callS (laws_sameFloat_ok (widen (l0.getD (i103).toNat (0 : Nat))) (widen (l1.getD (i103).toNat (0 : Nat))) hs  _ h) (fun _ _ ⟨_, _, _, e⟩ => e) rfl rfl ?_
      clear h
      rintro _ _ ⟨y107, h, rfl, rfl⟩
      refine so_un rfl au_not ?_
      refine so_nil ?_
      replace h := ofT h; rcases h with ⟨c109, h⟩ | ⟨c109, h⟩
      · refine fi_false rfl (not_f c109) ?_
        refine fi_skip ?_
        refine fi_inBlock ?_
        refine fi_region ?_
        refine so_move (v := (.v (.int .i64 i103))) rfl ?_
        refine so_bin rfl rfl ab_add ?_
        refine so_assign (v := (.v (.int .i64 (IntKind.i64.wrap (i103 + (1 : Int)))))) rfl ?_
        refine so_nil ?_
        exact fi_at [(0, (.v v0)), (1, (.v v1)), (5, (.v (.int .i64 (IntKind.i64.wrap (i103 + (1 : Int))))))] ⟨rfl, rfl, rfl, trivial⟩ (h _)
      · refine fi_true rfl (not_t c109) ?_
        refine fi_seq ?_
        refine fi_region ?_
        refine so_assign (v := (.v (.bool false))) rfl ?_
        refine so_nil ?_
        exact by_ret rfl ⟨_, h, rfl, rfl⟩
    · refine fi_false rfl (decide_eq_false c104) ?_
      refine fi_exit rfl ?_
      refine fi_seq ?_
      refine fi_region ?_
      refine so_assign (v := (.v (.bool true))) rfl ?_
      refine so_nil ?_
      exact by_ret rfl ⟨_, h, rfl, rfl⟩
  · refine fi_true rfl (not_t (decide_eq_false c101)) ?_
    refine fi_seq ?_
    refine fi_region ?_
    refine so_assign (v := (.v (.bool false))) rfl ?_
    refine so_nil ?_
    exact by_ret rfl ⟨_, h, rfl, rfl⟩

end Go.Proofs.YtcgiboeilcdonaaDoor.G

namespace Go.Proofs.YtcgiboeilcdonaaDoor.G
open Go Go.Ab Go.Proofs Go.Proofs.YtcgiboeilcdonaaDoor
set_option maxRecDepth 100000
set_option linter.unusedVariables false
set_option linter.unusedSimpArgs false
set_option maxHeartbeats 1000000
attribute [local irreducible] wops wopf Go.Ab.Fin
theorem F38.ag48 : tagg Tryd.prog 48 = some false := by kernel_rfl
theorem F38.ag49 : tagg Tryd.prog 49 = some false := by kernel_rfl
theorem F38.fd54_0 : tfield Tryd.prog 54 0 = some (0, 1, false) := by kernel_rfl
theorem F38.fd54_1 : tfield Tryd.prog 54 1 = some (1, 1, false) := by kernel_rfl
theorem F38.fl111 : tflt Tryd.prog 111 = some .f64 := by kernel_rfl
theorem F38.in111 : tint Tryd.prog 111 = none := by kernel_rfl
theorem F38.inf54 : (Tryd.prog.info? 54).isSome = true := by kernel_rfl
theorem F38.us49 : (Tryd.prog.underlying 49).isSome = true := by kernel_rfl
theorem laws_eqScheme_ok {fr : List Pc} {H : Heap} (v0 : AV) (l0 : List (Nat)) (a1 : Nat) (v2 : AV) (l2 : List (Nat)) (a3 : Nat) (hs : Sep H (fr)) (g0 : ∀ H, Sep H fr → Shows H v0 1 (enc (eFlt .f32) l0)) (g2 : ∀ H, Sep H fr → Shows H v2 1 (enc (eFlt .f32) l2)) (K : Bool → Prop) (h : laws_eqScheme.wp l0 a1 l2 a3 K) : OkQ Tryd.prog 38 [(.g [v0, (.flt .f32 a1)]), (.g [v2, (.flt .f32 a3)])] H (fun r H2 => ∃ (y0 : Bool), K y0 ∧ r = (.v (.bool y0)) ∧ Sep H2 (fr)) := by
  unfold laws_eqScheme.wp at h
  refine of_body Tryd.f38 F.hm Tryd.func38 rfl Tryd.call38 (by kernel_rfl) (by simp) ?_
  refine fi_seq ?_
  refine fi_region ?_
  refine sv_box hs rfl (c := [v0, (.flt .f32 a1)]) rfl F38.inf54 (stc (g0 _ hs).stor (stc rfl stn)) nofun (fun id101 H102 hs => ?_)
  refine sv_box hs rfl (c := [v2, (.flt .f32 a3)]) rfl F38.inf54 (stc (g2 _ hs.tl).stor (stc rfl stn)) nofun (fun id104 H105 hs => ?_)
  refine so_assign (v := (.v (.bool false))) rfl ?_
  refine so_nil ?_
  refine fi_seq ?_
  refine fi_seq ?_
  refine fi_region ?_
  refine so_fieldAddr rfl F38.fd54_0 ?_
  refine sv_ld hs 1 rfl rfl rfl F38.ag48 ?_
  refine so_fieldAddr rfl F38.fd54_0 ?_
  refine sv_ld hs 0 rfl rfl rfl F38.ag48 ?_
  refine sv_callS (laws_eqFloat32S_ok v0 l0 v2 l2 hs (fun _ hs => (g0 _ hs.tl.tl)) (fun _ hs => (g2 _ hs.tl.tl)) _ h) (fun _ _ ⟨_, _, _, e⟩ => e) rfl rfl ?_
  clear h
  rintro _ _ ⟨y107, h, rfl, rfl⟩
  refine so_un rfl au_not ?_
  refine so_nil ?_
  replace h := ofT h; rcases h with ⟨c109, h⟩ | ⟨c109, h⟩
  · refine fi_false rfl (not_f c109) ?_
    refine fi_skip ?_
    refine fi_seq ?_
    refine fi_seq ?_
    refine fi_region ?_
    refine so_fieldAddr rfl F38.fd54_1 ?_
    refine sv_ld hs 1 rfl rfl rfl F38.ag49 ?_
    refine sv_ffw rfl F38.us49 F38.in111 F38.fl111 ?_
    refine so_fieldAddr rfl F38.fd54_1 ?_
    refine sv_ld hs 0 rfl rfl rfl F38.ag49 ?_
    refine sv_ffw rfl F38.us49 F38.in111 F38.fl111 ?_
    refine sv_callS (laws_sameFloat_ok (widen a1) (widen a3) hs  _ h) (fun _ _ ⟨_, _, _, e⟩ => e) rfl rfl ?_
    clear h
    rintro _ _ ⟨y110, h, rfl, rfl⟩
    refine so_un rfl au_not ?_
    refine so_nil ?_
    replace h := ofT h; rcases h with ⟨c112, h⟩ | ⟨c112, h⟩
    · refine fi_false rfl (not_f c112) ?_
      refine fi_skip ?_
      refine fi_seq ?_
      refine fi_region ?_
      refine so_assign (v := (.v (.bool true))) rfl ?_
      refine so_nil ?_
      exact by_ret rfl ⟨_, h, rfl, (Sep.del 0 (Sep.del 0 hs))⟩
    · refine fi_true rfl (not_t c112) ?_
      refine fi_seq ?_
      refine fi_region ?_
      refine so_assign (v := (.v (.bool false))) rfl ?_
      refine so_nil ?_
      exact by_ret rfl ⟨_, h, rfl, (Sep.del 0 (Sep.del 0 hs))⟩
  · refine fi_true rfl (not_t c109) ?_
    refine fi_seq ?_
    refine fi_region ?_
    refine so_assign (v := (.v (.bool false))) rfl ?_
    refine so_nil ?_
    exact by_ret rfl ⟨_, h, rfl, (Sep.del 0 (Sep.del 0 hs))⟩
theorem laws_eqScheme_okS {fr : List Pc} {H : Heap} (v0 : AV) (l0 : List (Nat)) (a1 : Nat) (v2 : AV) (l2 : List (Nat)) (a3 : Nat) (hs : Sep H fr) (g0 : ∀ H, Sep H fr → Shows H v0 1 (enc (eFlt .f32) l0)) (g2 : ∀ H, Sep H fr → Shows H v2 1 (enc (eFlt .f32) l2)) (K : Bool → Prop) (h : laws_eqScheme.wp l0 a1 l2 a3 K) : OkQ Tryd.prog 38 [(.g [v0, (.flt .f32 a1)]), (.g [v2, (.flt .f32 a3)])] H (fun r H2 => ∃ (y0 : Bool), K y0 ∧ r = (.v (.bool y0)) ∧ H = H2) := by
  obtain ⟨r, H2, h1, y0, hK, hr, hsep⟩ := laws_eqScheme_ok (fr := came H) (H := H) v0 l0 a1 v2 l2 a3 (came_sep H) (came_shows (g0 H hs)) (came_shows (g2 H hs)) K h
  have hk : H.n ≤ H2.n ∧ ∀ i, i < H.n → H2.f i = H.f i := hsep.1.2.1
  exact ⟨r, H, h1.forget hk.1 hk.2 (by subst hr; rfl), y0, hK, hr, rfl⟩

end Go.Proofs.YtcgiboeilcdonaaDoor.G

namespace Go.Proofs.YtcgiboeilcdonaaDoor.G
open Go Go.Ab Go.Proofs Go.Proofs.YtcgiboeilcdonaaDoor
set_option maxRecDepth 100000
set_option linter.unusedVariables false
set_option linter.unusedSimpArgs false
set_option maxHeartbeats 1000000
attribute [local irreducible] wops wopf Go.Ab.Fin
theorem F106.sr9 : tstr Tryd.prog 9 = true := by kernel_rfl
theorem F106.sz9 : tsz Tryd.prog 9 = some 1 := by kernel_rfl
theorem F106.ta28_28 : tapp Tryd.prog 28 28 = some (1, 16) := by kernel_rfl
theorem F106.te28 : telem Tryd.prog 28 = some 9 := by kernel_rfl
theorem F106.ze9 : tzero Tryd.prog 9 = some [(.str (pk ([] : List UInt8)))] := by kernel_rfl
theorem spec_l01Cut_ok {fr : List Pc} {H : Heap} (a0 : List UInt8) (a1 : Int) (hs : Sep H (fr))  (K : (List (List UInt8)) → Prop) (h : spec_l01Cut.wp a0 a1 K) : OkQ Tryd.prog 106 [(.v (.str (pk a0))), (.v (.int .u8 a1))] H (fun r H2 => ∃ (y0 : List (List UInt8)), K y0 ∧ ∃ (w0_ : AV), r = (.v w0_) ∧ Sep H2 (Pc.osl w0_ 1 (enc eStr y0) :: fr)) := by
  unfold spec_l01Cut.wp at h
  refine of_body Tryd.f106 F.hm Tryd.func106 rfl Tryd.call106 (by kernel_rfl) (by simp) ?_
  refine fi_seq ?_
  refine fi_region ?_
  refine so_assign (v := (.v .nilsl)) rfl ?_
  refine so_nil ?_
  refine fi_seq ?_
  refine fi_region ?_
  refine sv_bslice hs eStr ([] : List (List UInt8)) [] F106.te28 F106.sz9 F106.ze9 rfl rfl rfl rfl (fun _ => rfl) rfl (by decide) nofun (fun v101 H102 nv101 hs => ?_)
  refine so_assign (v := (.v v101)) rfl ?_
  refine so_nil ?_
  refine fi_seq ?_
  refine fi_region ?_
  refine so_assign (v := (.v (.int .i64 (0 : Int)))) rfl ?_
  refine so_nil ?_
  refine fi_seq ?_
  refine fi_seq ?_
  refine fi_region ?_
  refine so_assign (v := (.v (.int .i64 (0 : Int)))) rfl ?_
  refine so_nil ?_
  refine fi_block ?_
  refine fi_loop ?_
  refine fi_at [(0, (.v (.str (pk a0)))), (1, (.v (.int .u8 a1))), (5, (.v v101)), (6, (.v (.int .i64 (0 : Int)))), (7, (.v (.int .i64 (0 : Int))))] ⟨rfl, rfl, rfl, rfl, rfl, trivial⟩ ?_
  refine h (fun (out128 : List (List UInt8)) (fromq130 : Int) (i131 : Int) => ∀ (s : Nat → TV) (H : Heap) (v129 : AV) (nv129 : v129 ≠ .nilsl), Sep H (Pc.osl v129 1 (enc eStr out128) :: fr) → Fin _ _ (updL s [(0, (.v (.str (pk a0)))), (1, (.v (.int .u8 a1))), (5, (.v v129)), (6, (.v (.int .i64 fromq130))), (7, (.v (.int .i64 i131)))]) H _) ?_ _ _ _ nv101 hs
  intro out128 fromq130 i131 h s150 H151 v129 nv129 hs
  refine fi_inLoop ?_
  refine fi_seq ?_
  refine fi_seq ?_
  refine fi_region ?_
  refine so_move (v := (.v (.int .i64 i131))) rfl ?_
  refine so_move (v := (.v (.str (pk a0)))) rfl ?_
  refine so_slen rfl F106.sr9 ?_
  refine so_bin rfl rfl ab_leq ?_
  refine so_nil ?_
  replace h := ofP h; rcases h with ⟨c132, h⟩ | ⟨c132, h⟩
  · refine fi_true rfl (decide_eq_true c132) ?_
    refine fi_skip ?_
    refine fi_seq ?_
    refine fi_block ?_
    refine fi_seq ?_
    refine fi_region ?_
    refine so_move (v := (.v (.int .i64 i131))) rfl ?_
    refine so_move (v := (.v (.str (pk a0)))) rfl ?_
    refine so_slen rfl F106.sr9 ?_
    refine so_bin rfl rfl ab_eql ?_
    refine so_move (v := (.v (.bool (decide (i131 = (a0.length : Int)))))) rfl ?_
    replace h := ofP h; rcases h with ⟨c133, h⟩ | ⟨c133, h⟩
    · refine so_gno rfl (decide_eq_true c133) ?_
      refine so_gno rfl (decide_eq_true c133) ?_
      refine so_gno rfl (decide_eq_true c133) ?_
      refine so_gno rfl (decide_eq_true c133) ?_
      refine so_gno rfl (decide_eq_true c133) ?_
      refine so_pick_t (v := (.v (.bool true))) rfl (decide_eq_true c133) rfl ?_
      refine so_nil ?_
      refine fi_true rfl rfl ?_
      refine fi_seq ?_
      refine fi_region ?_
      refine so_move (v := (.v v129)) rfl ?_
      refine so_move (v := (.v (.str (pk a0)))) rfl ?_
      refine so_move (v := (.v (.int .i64 fromq130))) rfl ?_
      refine so_move (v := (.v (.int .i64 i131))) rfl ?_
      obtain ⟨c134, h⟩ := h
      refine so_sslice rfl rfl rfl F106.sr9 rfl rfl c134 ?_
      refine sv_bslice hs eStr ([((a0.drop (fromq130).toNat).take ((i131).toNat - (fromq130).toNat))] : List (List UInt8)) [[(.str (pk ((a0.drop (fromq130).toNat).take ((i131).toNat - (fromq130).toNat))))]] F106.te28 F106.sz9 F106.ze9 rfl rfl rfl rfl (fun _ => rfl) rfl (by decide) nofun (fun v135 H136 nv135 hs => ?_)
      obtain ⟨c140, h⟩ := h
      refine sv_app hs 1 rfl (hs.shows 0 rfl) (fun _ => rfl) (by decide) F106.ta28_28 (by decide) c140 rfl rfl nofun (fun v138 H139 kv138 hs => ?_)
      replace hs := hs.del 0
      have nv138 := kv138 nv129
      refine so_assign (v := (.v v138)) rfl ?_
      refine so_nil ?_
      refine fi_region ?_
      refine so_move (v := (.v (.int .i64 i131))) rfl ?_
      refine so_bin rfl rfl ab_add ?_
      refine so_assign (v := (.v (.int .i64 (IntKind.i64.wrap (i131 + (1 : Int)))))) rfl ?_
      refine so_nil ?_
      refine fi_inBlock ?_
      refine fi_region ?_
      refine so_move (v := (.v (.int .i64 i131))) rfl ?_
      refine so_bin rfl rfl ab_add ?_
      refine so_assign (v := (.v (.int .i64 (IntKind.i64.wrap (i131 + (1 : Int)))))) rfl ?_
      refine so_nil ?_
      exact fi_at [(0, (.v (.str (pk a0)))), (1, (.v (.int .u8 a1))), (5, (.v v138)), (6, (.v (.int .i64 (IntKind.i64.wrap (i131 + (1 : Int)))))), (7, (.v (.int .i64 (IntKind.i64.wrap (i131 + (1 : Int))))))] ⟨rfl, rfl, rfl, rfl, rfl, trivial⟩ (h _ _ _ nv138 hs)
    · refine so_gyes rfl (decide_eq_false c133) ?_
      refine so_move (v := (.v (.str (pk a0)))) rfl ?_
      refine so_gyes rfl (decide_eq_false c133) ?_
      refine so_move (v := (.v (.int .i64 i131))) rfl ?_
      refine so_gyes rfl (decide_eq_false c133) ?_
      obtain ⟨c141, h⟩ := h
      refine so_index rfl rfl F106.sr9 c141 ?_
      refine so_gyes rfl (decide_eq_false c133) ?_
      refine so_move (v := (.v (.int .u8 a1))) rfl ?_
      refine so_gyes rfl (decide_eq_false c133) ?_
      refine so_bin rfl rfl ab_eql ?_
      refine so_pick_f (v := (.v (.bool (decide ((bt a0 i131) = a1))))) rfl (decide_eq_false c133) rfl ?_
      refine so_nil ?_
      replace h := ofP h; rcases h with ⟨c142, h⟩ | ⟨c142, h⟩
      · refine fi_true rfl (decide_eq_true c142) ?_
        refine fi_seq ?_
        refine fi_region ?_
        refine so_move (v := (.v v129)) rfl ?_
        refine so_move (v := (.v (.str (pk a0)))) rfl ?_
        refine so_move (v := (.v (.int .i64 fromq130))) rfl ?_
        refine so_move (v := (.v (.int .i64 i131))) rfl ?_
        obtain ⟨c143, h⟩ := h
        refine so_sslice rfl rfl rfl F106.sr9 rfl rfl c143 ?_
        refine sv_bslice hs eStr ([((a0.drop (fromq130).toNat).take ((i131).toNat - (fromq130).toNat))] : List (List UInt8)) [[(.str (pk ((a0.drop (fromq130).toNat).take ((i131).toNat - (fromq130).toNat))))]] F106.te28 F106.sz9 F106.ze9 rfl rfl rfl rfl (fun _ => rfl) rfl (by decide) nofun (fun v144 H145 nv144 hs => ?_)
        obtain ⟨c149, h⟩ := h
        refine sv_app hs 1 rfl (hs.shows 0 rfl) (fun _ => rfl) (by decide) F106.ta28_28 (by decide) c149 rfl rfl nofun (fun v147 H148 kv147 hs => ?_)
        replace hs := hs.del 0
        have nv147 := kv147 nv129
        refine so_assign (v := (.v v147)) rfl ?_
        refine so_nil ?_
        refine fi_region ?_
        refine so_move (v := (.v (.int .i64 i131))) rfl ?_
        refine so_bin rfl rfl ab_add ?_
        refine so_assign (v := (.v (.int .i64 (IntKind.i64.wrap (i131 + (1 : Int)))))) rfl ?_
        refine so_nil ?_
        refine fi_inBlock ?_
        refine fi_region ?_
        refine so_move (v := (.v (.int .i64 i131))) rfl ?_
        refine so_bin rfl rfl ab_add ?_
        refine so_assign (v := (.v (.int .i64 (IntKind.i64.wrap (i131 + (1 : Int)))))) rfl ?_
        refine so_nil ?_
        exact fi_at [(0, (.v (.str (pk a0)))), (1, (.v (.int .u8 a1))), (5, (.v v147)), (6, (.v (.int .i64 (IntKind.i64.wrap (i131 + (1 : Int)))))), (7, (.v (.int .i64 (IntKind.i64.wrap (i131 + (1 : Int))))))] ⟨rfl, rfl, rfl, rfl, rfl, trivial⟩ (h _ _ _ nv147 hs)
      · refine fi_false rfl (decide_eq_false c142) ?_
        refine fi_skip ?_
        refine fi_inBlock ?_
        refine fi_region ?_
        refine so_move (v := (.v (.int .i64 i131))) rfl ?_
        refine so_bin rfl rfl ab_add ?_
        refine so_assign (v := (.v (.int .i64 (IntKind.i64.wrap (i131 + (1 : Int)))))) rfl ?_
        refine so_nil ?_
        exact fi_at [(0, (.v (.str (pk a0)))), (1, (.v (.int .u8 a1))), (5, (.v v129)), (6, (.v (.int .i64 fromq130))), (7, (.v (.int .i64 (IntKind.i64.wrap (i131 + (1 : Int))))))] ⟨rfl, rfl, rfl, rfl, rfl, trivial⟩ (h _ _ _ nv129 hs)
  · refine fi_false rfl (decide_eq_false c132) ?_
    refine fi_exit rfl ?_
    refine fi_seq ?_
    refine fi_region ?_
    refine so_move (v := (.v v129)) rfl ?_
    refine so_assign (v := (.v v129)) rfl ?_
    refine so_nil ?_
    exact by_ret rfl ⟨_, h, _, rfl, hs⟩

end Go.Proofs.YtcgiboeilcdonaaDoor.G

namespace Go.Proofs.YtcgiboeilcdonaaDoor.G
open Go Go.Ab Go.Proofs Go.Proofs.YtcgiboeilcdonaaDoor
set_option maxRecDepth 100000
set_option linter.unusedVariables false
set_option linter.unusedSimpArgs false
set_option maxHeartbeats 1000000
attribute [local irreducible] wops wopf Go.Ab.Fin
theorem F143.xb143 : Tryd.f143.body = none := rfl
theorem F143.xe143 : Extern.find Tryd.f143 = some Extern.MathFloatBits.float32frombits := by rfl
theorem F143.xf143 : (Extern.findNext Tryd.f143).isNone = true := by kernel_rfl
theorem F143.xn143 : (Tryd.f143.name == "runtime.NumGoroutine") = false := by kernel_rfl
theorem math_Float32frombits_ok {fr : List Pc} {H : Heap} (x : Int) (hs : Sep H fr) (K : Nat → Prop) (h : math_Float32frombits.wp x K) : OkQ Tryd.prog 143 [(.v (.int .u32 x))] H (fun r H2 => ∃ y0 : Nat, K y0 ∧ r = (.v (.flt .f32 y0)) ∧ H = H2) := ⟨_, _, f32from_ok Tryd.func143 F143.xn143 F143.xb143 F143.xf143 F143.xe143 x, _, h, rfl, rfl⟩

end Go.Proofs.YtcgiboeilcdonaaDoor.G

namespace Go.Proofs.YtcgiboeilcdonaaDoor.G
open Go Go.Ab Go.Proofs Go.Proofs.YtcgiboeilcdonaaDoor
set_option maxRecDepth 100000
set_option linter.unusedVariables false
set_option linter.unusedSimpArgs false
set_option maxHeartbeats 1000000
attribute [local irreducible] wops wopf Go.Ab.Fin
theorem F139.it167 : tint Tryd.prog 167 = some .u32 := by kernel_rfl
theorem F139.us2 : (Tryd.prog.underlying 2).isSome = true := by kernel_rfl
theorem spec_l01From_ok {fr : List Pc} {H : Heap} (a0 : Int) (hs : Sep H (fr))  (K : Nat → Prop) (h : spec_l01From.wp a0 K) : OkQ Tryd.prog 139 [(.v (.int .i64 a0))] H (fun r H2 => ∃ (y0 : Nat), K y0 ∧ r = (.v (.flt .f32 y0)) ∧ H = H2) := by
  unfold spec_l01From.wp at h
  refine of_body Tryd.f139 F.hm Tryd.func139 rfl Tryd.call139 (by kernel_rfl) (by simp) ?_
  refine fi_seq ?_
  refine fi_region ?_
  refine so_assign (v := (.v (.flt .f32 (cz .f32 0)))) rfl ?_
  refine so_nil ?_
  refine fi_seq ?_
  refine fi_region ?_
  refine so_move (v := (.v (.int .i64 a0))) rfl ?_
  refine sv_ii rfl F139.us2 F139.it167 ?_
  refine sv_callS (math_Float32frombits_ok (IntKind.u32.wrap a0) hs  _ h) (fun _ _ ⟨_, _, _, e⟩ => e) rfl rfl ?_
  clear h
  rintro _ _ ⟨y101, h, rfl, rfl⟩
  refine so_assign (v := (.v (.flt .f32 y101))) rfl ?_
  refine so_nil ?_
  exact by_ret rfl ⟨_, h, rfl, rfl⟩

end Go.Proofs.YtcgiboeilcdonaaDoor.G

namespace Go.Proofs.YtcgiboeilcdonaaDoor.G
open Go Go.Ab Go.Proofs Go.Proofs.YtcgiboeilcdonaaDoor
set_option maxRecDepth 100000
set_option linter.unusedVariables false
set_option linter.unusedSimpArgs false
set_option maxHeartbeats 1000000
attribute [local irreducible] wops wopf Go.Ab.Fin
theorem F156.xb156 : Tryd.f156.body = none := rfl
theorem F156.xe156 : Extern.find Tryd.f156 = some Extern.MathFloatBits.float32bits := by rfl
theorem F156.xf156 : (Extern.findNext Tryd.f156).isNone = true := by kernel_rfl
theorem F156.xn156 : (Tryd.f156.name == "runtime.NumGoroutine") = false := by kernel_rfl
theorem math_Float32bits_ok {fr : List Pc} {H : Heap} (x : Nat) (hs : Sep H fr) (K : Int → Prop) (h : math_Float32bits.wp x K) : OkQ Tryd.prog 156 [(.v (.flt .f32 x))] H (fun r H2 => ∃ y0 : Int, K y0 ∧ r = (.v (.int .u32 y0)) ∧ H = H2) := ⟨_, _, f32bits_ok Tryd.func156 F156.xn156 F156.xb156 F156.xf156 F156.xe156 x h.1, _, h.2, rfl, rfl⟩

end Go.Proofs.YtcgiboeilcdonaaDoor.G

namespace Go.Proofs.YtcgiboeilcdonaaDoor.G
open Go Go.Ab Go.Proofs Go.Proofs.YtcgiboeilcdonaaDoor
set_option maxRecDepth 100000
set_option linter.unusedVariables false
set_option linter.unusedSimpArgs false
set_option maxHeartbeats 1000000
attribute [local irreducible] wops wopf Go.Ab.Fin
theorem F140.it2 : tint Tryd.prog 2 = some .i64 := by kernel_rfl
theorem F140.us167 : (Tryd.prog.underlying 167).isSome = true := by kernel_rfl
theorem spec_l01Bits_ok {fr : List Pc} {H : Heap} (a0 : Nat) (hs : Sep H (fr))  (K : Int → Prop) (h : spec_l01Bits.wp a0 K) : OkQ Tryd.prog 140 [(.v (.flt .f32 a0))] H (fun r H2 => ∃ (y0 : Int), K y0 ∧ r = (.v (.int .i64 y0)) ∧ H = H2) := by
  unfold spec_l01Bits.wp at h
  refine of_body Tryd.f140 F.hm Tryd.func140 rfl Tryd.call140 (by kernel_rfl) (by simp) ?_
  refine fi_seq ?_
  refine fi_region ?_
  refine so_assign (v := (.v (.int .i64 (0 : Int)))) rfl ?_
  refine so_nil ?_
  refine fi_seq ?_
  refine fi_seq ?_
  refine fi_region ?_
  refine so_move (v := (.v (.flt .f32 a0))) rfl ?_
  refine so_move (v := (.v (.flt .f32 a0))) rfl ?_
  refine so_bin rfl rfl ab_fneq ?_
  refine so_nil ?_
  replace h := ofT h; rcases h with ⟨c101, h⟩ | ⟨c101, h⟩
  · refine fi_true rfl c101 ?_
    refine fi_seq ?_
    refine fi_region ?_
    refine so_assign (v := (.v (.int .i64 (2143289344 : Int)))) rfl ?_
    refine so_nil ?_
    exact by_ret rfl ⟨_, h, rfl, rfl⟩
  · refine fi_false rfl c101 ?_
    refine fi_skip ?_
    refine fi_seq ?_
    refine fi_region ?_
    refine so_move (v := (.v (.flt .f32 a0))) rfl ?_
    refine sv_callS (math_Float32bits_ok a0 hs  _ h) (fun _ _ ⟨_, _, _, e⟩ => e) rfl rfl ?_
    clear h
    rintro _ _ ⟨y102, h, rfl, rfl⟩
    refine sv_ii rfl F140.us167 F140.it2 ?_
    refine so_assign (v := (.v (.int .i64 (IntKind.i64.wrap y102)))) rfl ?_
    refine so_nil ?_
    exact by_ret rfl ⟨_, h, rfl, rfl⟩

end Go.Proofs.YtcgiboeilcdonaaDoor.G

namespace Go.Proofs.YtcgiboeilcdonaaDoor.G
open Go Go.Ab Go.Proofs Go.Proofs.YtcgiboeilcdonaaDoor
set_option maxRecDepth 100000
set_option linter.unusedVariables false
set_option linter.unusedSimpArgs false
set_option maxHeartbeats 1000000
attribute [local irreducible] wops wopf Go.Ab.Fin
theorem F118.ag9 : tagg Tryd.prog 9 = some false := by kernel_rfl
theorem F118.it2 : tint Tryd.prog 2 = some .i64 := by kernel_rfl
theorem F118.sr9 : tstr Tryd.prog 9 = true := by kernel_rfl
theorem F118.sz49 : tsz Tryd.prog 49 = some 1 := by kernel_rfl
theorem F118.ta48_48 : tapp Tryd.prog 48 48 = some (1, 4) := by kernel_rfl
theorem F118.te48 : telem Tryd.prog 48 = some 49 := by kernel_rfl
theorem F118.ti28 : (telem Tryd.prog 28).isSome = true := by kernel_rfl
theorem F118.tl28 : (telem Tryd.prog 28).bind (tsz Tryd.prog) = some 1 := by kernel_rfl
theorem F118.us5 : (Tryd.prog.underlying 5).isSome = true := by kernel_rfl
theorem F118.ze49 : tzero Tryd.prog 49 = some [(.flt .f32 (0 : Nat))] := by kernel_rfl
theorem spec_l01NRead_ok {fr : List Pc} {H : Heap} (a0 : List UInt8) (hs : Sep H (fr))  (K : (List (Nat)) → Bool → Prop) (h : spec_l01NRead.wp a0 K) : OkQ Tryd.prog 118 [(.v (.str (pk a0)))] H (fun r H2 => ∃ (y0 : List (Nat)) (y1 : Bool), K y0 y1 ∧ ∃ (w0_ : AV), r = (.t [(.v w0_), (.v (.bool y1))]) ∧ Sep H2 (Pc.osl w0_ 1 (enc (eFlt .f32) y0) :: fr)) := by
  unfold spec_l01NRead.wp at h
  refine of_body Tryd.f118 F.hm Tryd.func118 rfl Tryd.call118 (by kernel_rfl) (by simp) ?_
  refine fi_seq ?_
  refine fi_region ?_
  refine so_assign (v := (.v .nilsl)) rfl ?_
  refine so_assign (v := (.v (.bool false))) rfl ?_
  refine so_nil ?_
  refine fi_seq ?_
  refine fi_region ?_
  refine sv_bslice hs (eFlt .f32) ([] : List (Nat)) [] F118.te48 F118.sz49 F118.ze49 rfl rfl rfl rfl (fun _ => rfl) rfl (by decide) nofun (fun v101 H102 nv101 hs => ?_)
  refine so_assign (v := (.v v101)) rfl ?_
  refine so_nil ?_
  refine fi_seq ?_
  refine fi_seq ?_
  refine fi_region ?_
  refine so_move (v := (.v (.str (pk a0)))) rfl ?_
  refine so_bin rfl rfl ab_seql ?_
  refine so_nil ?_
  replace h := ofP h; rcases h with ⟨c104, h⟩ | ⟨c104, h⟩
  · refine fi_true rfl (decide_eq_true c104) ?_
    refine fi_seq ?_
    refine fi_region ?_
    refine so_move (v := (.v v101)) rfl ?_
    refine so_assign (v := (.v v101)) rfl ?_
    refine so_assign (v := (.v (.bool true))) rfl ?_
    refine so_nil ?_
    exact by_ret rfl ⟨_, _, h, _, rfl, hs⟩
  · refine fi_false rfl (decide_eq_false c104) ?_
    refine fi_skip ?_
    refine fi_seq ?_
    refine fi_region ?_
    refine so_move (v := (.v (.str (pk a0)))) rfl ?_
    refine sv_call (spec_l01Cut_ok a0 (44 : Int) hs  _ h) rfl rfl nofun ?_
    clear h hs
    rintro _ H108 ⟨y105, h, v106, rfl, hs⟩
    refine so_assign (v := (.v v106)) rfl ?_
    refine so_nil ?_
    refine fi_seq ?_
    refine fi_seq ?_
    refine fi_region ?_
    refine so_move (v := (.v v106)) rfl ?_
    refine sv_len (hs.shows 0 rfl) (fun _ => rfl) (by decide) rfl F118.ti28 ?_
    refine so_bin rfl rfl ab_gtr ?_
    refine so_nil ?_
    replace h := ofP h; rcases h with ⟨c109, h⟩ | ⟨c109, h⟩
    · refine fi_true rfl (decide_eq_true c109) ?_
      refine fi_seq ?_
      refine fi_region ?_
      refine so_assign (v := (.v .nilsl)) rfl ?_
      refine so_assign (v := (.v (.bool false))) rfl ?_
      refine so_nil ?_
      exact by_ret rfl ⟨_, _, h, _, rfl, (Sep.nil (Sep.del 0 (Sep.del 0 hs)) 1)⟩
    · refine fi_false rfl (decide_eq_false c109) ?_
      refine fi_skip ?_
      refine fi_seq ?_
      refine fi_seq ?_
      refine fi_region ?_
      refine so_assign (v := (.v (.int .i64 (0 : Int)))) rfl ?_
      refine so_nil ?_
      refine fi_block ?_
      refine fi_loop ?_
      refine fi_at [(4, (.v v101)), (5, (.v v106)), (6, (.v (.int .i64 (0 : Int))))] ⟨rfl, rfl, rfl, trivial⟩ ?_
      refine h (fun (out153 : List (Nat)) (i155 : Int) => ∀ (s : Nat → TV) (H : Heap) (v154 : AV) (nv154 : v154 ≠ .nilsl), Sep H (Pc.osl v106 1 (enc eStr y105) :: Pc.osl v154 1 (enc (eFlt .f32) out153) :: fr) → Fin _ _ (updL s [(4, (.v v154)), (5, (.v v106)), (6, (.v (.int .i64 i155)))]) H _) ?_ _ _ _ nv101 hs
      intro out153 i155 h s194 H195 v154 nv154 hs
      refine fi_inLoop ?_
      refine fi_seq ?_
      refine fi_seq ?_
      refine fi_region ?_
      refine so_move (v := (.v (.int .i64 i155))) rfl ?_
      refine so_move (v := (.v v106)) rfl ?_
      refine sv_len (hs.shows 0 rfl) (fun _ => rfl) (by decide) rfl F118.ti28 ?_
      refine so_bin rfl rfl ab_lss ?_
      refine so_nil ?_
      replace h := ofP h; rcases h with ⟨c156, h⟩ | ⟨c156, h⟩
      · refine fi_true rfl (decide_eq_true c156) ?_
        refine fi_skip ?_
        refine fi_seq ?_
        refine fi_block ?_
        refine fi_seq ?_
        refine fi_seq ?_
        refine fi_region ?_
        refine so_move (v := (.v v106)) rfl ?_
        refine so_move (v := (.v (.int .i64 i155))) rfl ?_
        obtain ⟨c157, h⟩ := h
        refine sv_idx (hs.shows 0 rfl) c157 (fun _ => rfl) (by decide) rfl rfl F118.tl28 ?_
        refine sv_cell (hs.shows 0 rfl) c157 ([] : List UInt8) 0 (fun x => (AV.str (pk x))) (fun _ => rfl) (fun _ => rfl) rfl F118.ag9 ?_
        refine so_slen rfl F118.sr9 ?_
        refine so_bin rfl rfl ab_neq ?_
        refine so_nil ?_
        replace h := ofP h; rcases h with ⟨c158, h⟩ | ⟨c158, h⟩
        · refine fi_false rfl (not_f (decide_eq_true c158)) ?_
          refine fi_skip ?_
          refine fi_seq ?_
          refine fi_region ?_
          refine so_assign (v := (.v (.int .i64 (0 : Int)))) rfl ?_
          refine so_nil ?_
          refine fi_seq ?_
          refine fi_seq ?_
          refine fi_region ?_
          refine so_assign (v := (.v (.int .i64 (0 : Int)))) rfl ?_
          refine so_nil ?_
          refine fi_block ?_
          refine fi_loop ?_
          refine fi_at [(4, (.v v154)), (5, (.v v106)), (6, (.v (.int .i64 i155))), (7, (.v (.int .i64 (0 : Int)))), (8, (.v (.int .i64 (0 : Int))))] ⟨rfl, rfl, rfl, rfl, rfl, trivial⟩ ?_
          refine h (fun (n160 : Int) (k161 : Int) => ∀ (s : Nat → TV) (H : Heap), Sep H (Pc.osl v106 1 (enc eStr y105) :: Pc.osl v154 1 (enc (eFlt .f32) out153) :: fr) → Fin _ _ (updL s [(4, (.v v154)), (5, (.v v106)), (6, (.v (.int .i64 i155))), (7, (.v (.int .i64 n160))), (8, (.v (.int .i64 k161)))]) H _) ?_ _ _ hs
          intro n160 k161 h s192 H193 hs
          refine fi_inLoop ?_
          refine fi_seq ?_
          refine fi_seq ?_
          refine fi_region ?_
          refine so_move (v := (.v (.int .i64 k161))) rfl ?_
          refine so_bin rfl rfl ab_lss ?_
          refine so_nil ?_
          replace h := ofP h; rcases h with ⟨c162, h⟩ | ⟨c162, h⟩
          · refine fi_true rfl (decide_eq_true c162) ?_
            refine fi_skip ?_
            refine fi_seq ?_
            refine fi_block ?_
            refine fi_seq ?_
            refine fi_region ?_
            refine so_move (v := (.v v106)) rfl ?_
            refine so_move (v := (.v (.int .i64 i155))) rfl ?_
            refine sv_idx (hs.shows 0 rfl) c157 (fun _ => rfl) (by decide) rfl rfl F118.tl28 ?_
            refine sv_cell (hs.shows 0 rfl) c157 ([] : List UInt8) 0 (fun x => (AV.str (pk x))) (fun _ => rfl) (fun _ => rfl) rfl F118.ag9 ?_
            refine so_move (v := (.v (.int .i64 k161))) rfl ?_
            obtain ⟨c163, h⟩ := h
            refine so_index rfl rfl F118.sr9 c163 ?_
            refine so_assign (v := (.v (.int .u8 (bt (y105.getD (i155).toNat ([] : List UInt8)) k161)))) rfl ?_
            refine so_nil ?_
            refine fi_seq ?_
            refine fi_region ?_
            refine so_assign (v := (.v (.int .i64 (-1 : Int)))) rfl ?_
            refine so_nil ?_
            refine fi_seq ?_
            refine fi_seq ?_
            refine fi_region ?_
            refine so_move (v := (.v (.int .u8 (bt (y105.getD (i155).toNat ([] : List UInt8)) k161)))) rfl ?_
            refine so_bin rfl rfl ab_geq ?_
            refine so_move (v := (.v (.bool (decide ((48 : Int) ≤ (bt (y105.getD (i155).toNat ([] : List UInt8)) k161)))))) rfl ?_
            replace h := ofP h; rcases h with ⟨c164, h⟩ | ⟨c164, h⟩
            · refine so_gyes rfl (decide_eq_true c164) ?_
              refine so_move (v := (.v (.int .u8 (bt (y105.getD (i155).toNat ([] : List UInt8)) k161)))) rfl ?_
              refine so_gyes rfl (decide_eq_true c164) ?_
              refine so_bin rfl rfl ab_leq ?_
              refine so_pick_t (v := (.v (.bool (decide ((bt (y105.getD (i155).toNat ([] : List UInt8)) k161) ≤ (57 : Int)))))) rfl (decide_eq_true c164) rfl ?_
              refine so_nil ?_
              replace h := ofP h; rcases h with ⟨c165, h⟩ | ⟨c165, h⟩
              · refine fi_true rfl (decide_eq_true c165) ?_
                refine fi_region ?_
                refine so_move (v := (.v (.int .u8 (bt (y105.getD (i155).toNat ([] : List UInt8)) k161)))) rfl ?_
                refine so_bin rfl rfl ab_sub ?_
                refine sv_ii rfl F118.us5 F118.it2 ?_
                refine so_assign (v := (.v (.int .i64 (IntKind.i64.wrap (IntKind.u8.wrap ((bt (y105.getD (i155).toNat ([] : List UInt8)) k161) - (48 : Int))))))) rfl ?_
                refine so_nil ?_
                refine fi_seq ?_
                refine fi_seq ?_
                refine fi_region ?_
                refine so_move (v := (.v (.int .u8 (bt (y105.getD (i155).toNat ([] : List UInt8)) k161)))) rfl ?_
                refine so_bin rfl rfl ab_geq ?_
                refine so_move (v := (.v (.bool (decide ((97 : Int) ≤ (bt (y105.getD (i155).toNat ([] : List UInt8)) k161)))))) rfl ?_
                replace h := ofP h; rcases h with ⟨c166, h⟩ | ⟨c166, h⟩
                · refine so_gyes rfl (decide_eq_true c166) ?_
                  refine so_move (v := (.v (.int .u8 (bt (y105.getD (i155).toNat ([] : List UInt8)) k161)))) rfl ?_
                  refine so_gyes rfl (decide_eq_true c166) ?_
                  refine so_bin rfl rfl ab_leq ?_
                  refine so_pick_t (v := (.v (.bool (decide ((bt (y105.getD (i155).toNat ([] : List UInt8)) k161) ≤ (102 : Int)))))) rfl (decide_eq_true c166) rfl ?_
                  refine so_nil ?_
                  replace h := ofP h; rcases h with ⟨c167, h⟩ | ⟨c167, h⟩
                  · refine fi_true rfl (decide_eq_true c167) ?_
                    refine fi_region ?_
                    refine so_move (v := (.v (.int .u8 (bt (y105.getD (i155).toNat ([] : List UInt8)) k161)))) rfl ?_
                    refine so_bin rfl rfl ab_sub ?_
                    refine sv_ii rfl F118.us5 F118.it2 ?_
                    refine so_bin rfl rfl ab_add ?_
                    refine so_assign (v := (.v (.int .i64 (IntKind.i64.wrap ((IntKind.i64.wrap (IntKind.u8.wrap ((bt (y105.getD (i155).toNat ([] : List UInt8)) k161) - (97 : Int)))) + (10 : Int)))))) rfl ?_
                    refine so_nil ?_
                    refine fi_seq ?_
                    refine fi_seq ?_
                    refine fi_region ?_
                    refine so_move (v := (.v (.int .i64 (IntKind.i64.wrap ((IntKind.i64.wrap (IntKind.u8.wrap ((bt (y105.getD (i155).toNat ([] : List UInt8)) k161) - (97 : Int)))) + (10 : Int)))))) rfl ?_
                    refine so_bin rfl rfl ab_lss ?_
                    refine so_nil ?_
                    replace h := ofP h; rcases h with ⟨c168, h⟩ | ⟨c168, h⟩
                    · refine fi_true rfl (decide_eq_true c168) ?_
                      refine fi_seq ?_
                      refine fi_region ?_
                      refine so_assign (v := (.v .nilsl)) rfl ?_
                      refine so_assign (v := (.v (.bool false))) rfl ?_
                      refine so_nil ?_
                      exact by_ret rfl ⟨_, _, h, _, rfl, (Sep.nil (Sep.del 0 (Sep.del 0 hs)) 1)⟩
                    · refine fi_false rfl (decide_eq_false c168) ?_
                      refine fi_skip ?_
                      refine fi_region ?_
                      refine so_move (v := (.v (.int .i64 n160))) rfl ?_
                      refine so_bin rfl rfl ab_mul ?_
                      refine so_move (v := (.v (.int .i64 (IntKind.i64.wrap ((IntKind.i64.wrap (IntKind.u8.wrap ((bt (y105.getD (i155).toNat ([] : List UInt8)) k161) - (97 : Int)))) + (10 : Int)))))) rfl ?_
                      refine so_bin rfl rfl ab_add ?_
                      refine so_assign (v := (.v (.int .i64 (IntKind.i64.wrap ((IntKind.i64.wrap ((16 : Int) * n160)) + (IntKind.i64.wrap ((IntKind.i64.wrap (IntKind.u8.wrap ((bt (y105.getD (i155).toNat ([] : List UInt8)) k161) - (97 : Int)))) + (10 : Int)))))))) rfl ?_
                      refine so_nil ?_
                      refine fi_inBlock ?_
                      refine fi_region ?_
                      refine so_move (v := (.v (.int .i64 k161))) rfl ?_
                      refine so_bin rfl rfl ab_add ?_
                      refine so_assign (v := (.v (.int .i64 (IntKind.i64.wrap (k161 + (1 : Int)))))) rfl ?_
                      refine so_nil ?_
                      exact fi_at [(4, (.v v154)), (5, (.v v106)), (6, (.v (.int .i64 i155))), (7, (.v (.int .i64 (IntKind.i64.wrap ((IntKind.i64.wrap ((16 : Int) * n160)) + (IntKind.i64.wrap ((IntKind.i64.wrap (IntKind.u8.wrap ((bt (y105.getD (i155).toNat ([] : List UInt8)) k161) - (97 : Int)))) + (10 : Int)))))))), (8, (.v (.int .i64 (IntKind.i64.wrap (k161 + (1 : Int))))))] ⟨rfl, rfl, rfl, rfl, rfl, trivial⟩ (h _ _  hs)
                  · refine fi_false rfl (decide_eq_false c167) ?_
                    refine fi_skip ?_
                    refine fi_seq ?_
                    refine fi_seq ?_
                    refine fi_region ?_
                    refine so_move (v := (.v (.int .i64 (IntKind.i64.wrap (IntKind.u8.wrap ((bt (y105.getD (i155).toNat ([] : List UInt8)) k161) - (48 : Int))))))) rfl ?_
                    refine so_bin rfl rfl ab_lss ?_
                    refine so_nil ?_
                    replace h := ofP h; rcases h with ⟨c169, h⟩ | ⟨c169, h⟩
                    · refine fi_true rfl (decide_eq_true c169) ?_
                      refine fi_seq ?_
                      refine fi_region ?_
                      refine so_assign (v := (.v .nilsl)) rfl ?_
                      refine so_assign (v := (.v (.bool false))) rfl ?_
                      refine so_nil ?_
                      exact by_ret rfl ⟨_, _, h, _, rfl, (Sep.nil (Sep.del 0 (Sep.del 0 hs)) 1)⟩
                    · refine fi_false rfl (decide_eq_false c169) ?_
                      refine fi_skip ?_
                      refine fi_region ?_
                      refine so_move (v := (.v (.int .i64 n160))) rfl ?_
                      refine so_bin rfl rfl ab_mul ?_
                      refine so_move (v := (.v (.int .i64 (IntKind.i64.wrap (IntKind.u8.wrap ((bt (y105.getD (i155).toNat ([] : List UInt8)) k161) - (48 : Int))))))) rfl ?_
                      refine so_bin rfl rfl ab_add ?_
                      refine so_assign (v := (.v (.int .i64 (IntKind.i64.wrap ((IntKind.i64.wrap ((16 : Int) * n160)) + (IntKind.i64.wrap (IntKind.u8.wrap ((bt (y105.getD (i155).toNat ([] : List UInt8)) k161) - (48 : Int))))))))) rfl ?_
                      refine so_nil ?_
                      refine fi_inBlock ?_
                      refine fi_region ?_
                      refine so_move (v := (.v (.int .i64 k161))) rfl ?_
                      refine so_bin rfl rfl ab_add ?_
                      refine so_assign (v := (.v (.int .i64 (IntKind.i64.wrap (k161 + (1 : Int)))))) rfl ?_
                      refine so_nil ?_
                      exact fi_at [(4, (.v v154)), (5, (.v v106)), (6, (.v (.int .i64 i155))), (7, (.v (.int .i64 (IntKind.i64.wrap ((IntKind.i64.wrap ((16 : Int) * n160)) + (IntKind.i64.wrap (IntKind.u8.wrap ((bt (y105.getD (i155).toNat ([] : List UInt8)) k161) - (48 : Int))))))))), (8, (.v (.int .i64 (IntKind.i64.wrap (k161 + (1 : Int))))))] ⟨rfl, rfl, rfl, rfl, rfl, trivial⟩ (h _ _  hs)
                · refine so_gno rfl (decide_eq_false c166) ?_
                  refine so_gno rfl (decide_eq_false c166) ?_
                  refine so_pick_f (v := (.v (.bool false))) rfl (decide_eq_false c166) rfl ?_
                  refine so_nil ?_
                  refine fi_false rfl rfl ?_
                  refine fi_skip ?_
                  refine fi_seq ?_
                  refine fi_seq ?_
                  refine fi_region ?_
                  refine so_move (v := (.v (.int .i64 (IntKind.i64.wrap (IntKind.u8.wrap ((bt (y105.getD (i155).toNat ([] : List UInt8)) k161) - (48 : Int))))))) rfl ?_
                  refine so_bin rfl rfl ab_lss ?_
                  refine so_nil ?_
                  replace h := ofP h; rcases h with ⟨c170, h⟩ | ⟨c170, h⟩
                  · refine fi_true rfl (decide_eq_true c170) ?_
                    refine fi_seq ?_
                    refine fi_region ?_
                    refine so_assign (v := (.v .nilsl)) rfl ?_
                    refine so_assign (v := (.v (.bool false))) rfl ?_
                    refine so_nil ?_
                    exact by_ret rfl ⟨_, _, h, _, rfl, (Sep.nil (Sep.del 0 (Sep.del 0 hs)) 1)⟩
                  · refine fi_false rfl (decide_eq_false c170) ?_
                    refine fi_skip ?_
                    refine fi_region ?_
                    refine so_move (v := (.v (.int .i64 n160))) rfl ?_
                    refine so_bin rfl rfl ab_mul ?_
                    refine so_move (v := (.v (.int .i64 (IntKind.i64.wrap (IntKind.u8.wrap ((bt (y105.getD (i155).toNat ([] : List UInt8)) k161) - (48 : Int))))))) rfl ?_
                    refine so_bin rfl rfl ab_add ?_
                    refine so_assign (v := (.v (.int .i64 (IntKind.i64.wrap ((IntKind.i64.wrap ((16 : Int) * n160)) + (IntKind.i64.wrap (IntKind.u8.wrap ((bt (y105.getD (i155).toNat ([] : List UInt8)) k161) - (48 : Int))))))))) rfl ?_
                    refine so_nil ?_
                    refine fi_inBlock ?_
                    refine fi_region ?_
                    refine so_move (v := (.v (.int .i64 k161))) rfl ?_
                    refine so_bin rfl rfl ab_add ?_
                    refine so_assign (v := (.v (.int .i64 (IntKind.i64.wrap (k161 + (1 : Int)))))) rfl ?_
                    refine so_nil ?_
                    exact fi_at [(4, (.v v154)), (5, (.v v106)), (6, (.v (.int .i64 i155))), (7, (.v (.int .i64 (IntKind.i64.wrap ((IntKind.i64.wrap ((16 : Int) * n160)) + (IntKind.i64.wrap (IntKind.u8.wrap ((bt (y105.getD (i155).toNat ([] : List UInt8)) k161) - (48 : Int))))))))), (8, (.v (.int .i64 (IntKind.i64.wrap (k161 + (1 : Int))))))] ⟨rfl, rfl, rfl, rfl, rfl, trivial⟩ (h _ _  hs)
              · refine fi_false rfl (decide_eq_false c165) ?_
                refine fi_skip ?_
                refine fi_seq ?_
                refine fi_seq ?_
                refine fi_region ?_
                refine so_move (v := (.v (.int .u8 (bt (y105.getD (i155).toNat ([] : List UInt8)) k161)))) rfl ?_
                refine so_bin rfl rfl ab_geq ?_
                refine so_move (v := (.v (.bool (decide ((97 : Int) ≤ (bt (y105.getD (i155).toNat ([] : List UInt8)) k161)))))) rfl ?_
                replace h := ofP h; rcases h with ⟨c171, h⟩ | ⟨c171, h⟩
                · refine so_gyes rfl (decide_eq_true c171) ?_
                  refine so_move (v := (.v (.int .u8 (bt (y105.getD (i155).toNat ([] : List UInt8)) k161)))) rfl ?_
                  refine so_gyes rfl (decide_eq_true c171) ?_
                  refine so_bin rfl rfl ab_leq ?_
                  refine so_pick_t (v := (.v (.bool (decide ((bt (y105.getD (i155).toNat ([] : List UInt8)) k161) ≤ (102 : Int)))))) rfl (decide_eq_true c171) rfl ?_
                  refine so_nil ?_
                  replace h := ofP h; rcases h with ⟨c172, h⟩ | ⟨c172, h⟩
                  · refine fi_true rfl (decide_eq_true c172) ?_
                    refine fi_region ?_
                    refine so_move (v := (.v (.int .u8 (bt (y105.getD (i155).toNat ([] : List UInt8)) k161)))) rfl ?_
                    refine so_bin rfl rfl ab_sub ?_
                    refine sv_ii rfl F118.us5 F118.it2 ?_
                    refine so_bin rfl rfl ab_add ?_
                    refine so_assign (v := (.v (.int .i64 (IntKind.i64.wrap ((IntKind.i64.wrap (IntKind.u8.wrap ((bt (y105.getD (i155).toNat ([] : List UInt8)) k161) - (97 : Int)))) + (10 : Int)))))) rfl ?_
                    refine so_nil ?_
                    refine fi_seq ?_
                    refine fi_seq ?_
                    refine fi_region ?_
                    refine so_move (v := (.v (.int .i64 (IntKind.i64.wrap ((IntKind.i64.wrap (IntKind.u8.wrap ((bt (y105.getD (i155).toNat ([] : List UInt8)) k161) - (97 : Int)))) + (10 : Int)))))) rfl ?_
                    refine so_bin rfl rfl ab_lss ?_
                    refine so_nil ?_
                    replace h := ofP h; rcases h with ⟨c173, h⟩ | ⟨c173, h⟩
                    · refine fi_true rfl (decide_eq_true c173) ?_
                      refine fi_seq ?_
                      refine fi_region ?_
                      refine so_assign (v := (.v .nilsl)) rfl ?_
                      refine so_assign (v := (.v (.bool false))) rfl ?_
                      refine so_nil ?_
                      exact by_ret rfl ⟨_, _, h, _, rfl, (Sep.nil (Sep.del 0 (Sep.del 0 hs)) 1)⟩
                    · refine fi_false rfl (decide_eq_false c173) ?_
                      refine fi_skip ?_
                      refine fi_region ?_
                      refine so_move (v := (.v (.int .i64 n160))) rfl ?_
                      refine so_bin rfl rfl ab_mul ?_
                      refine so_move (v := (.v (.int .i64 (IntKind.i64.wrap ((IntKind.i64.wrap (IntKind.u8.wrap ((bt (y105.getD (i155).toNat ([] : List UInt8)) k161) - (97 : Int)))) + (10 : Int)))))) rfl ?_
                      refine so_bin rfl rfl ab_add ?_
                      refine so_assign (v := (.v (.int .i64 (IntKind.i64.wrap ((IntKind.i64.wrap ((16 : Int) * n160)) + (IntKind.i64.wrap ((IntKind.i64.wrap (IntKind.u8.wrap ((bt (y105.getD (i155).toNat ([] : List UInt8)) k161) - (97 : Int)))) + (10 : Int)))))))) rfl ?_
                      refine so_nil ?_
                      refine fi_inBlock ?_
                      refine fi_region ?_
                      refine so_move (v := (.v (.int .i64 k161))) rfl ?_
                      refine so_bin rfl rfl ab_add ?_
                      refine so_assign (v := (.v (.int .i64 (IntKind.i64.wrap (k161 + (1 : Int)))))) rfl ?_
                      refine so_nil ?_
                      exact fi_at [(4, (.v v154)), (5, (.v v106)), (6, (.v (.int .i64 i155))), (7, (.v (.int .i64 (IntKind.i64.wrap ((IntKind.i64.wrap ((16 : Int) * n160)) + (IntKind.i64.wrap ((IntKind.i64.wrap (IntKind.u8.wrap ((bt (y105.getD (i155).toNat ([] : List UInt8)) k161) - (97 : Int)))) + (10 : Int)))))))), (8, (.v (.int .i64 (IntKind.i64.wrap (k161 + (1 : Int))))))] ⟨rfl, rfl, rfl, rfl, rfl, trivial⟩ (h _ _  hs)
                  · refine fi_false rfl (decide_eq_false c172) ?_
                    refine fi_skip ?_
                    refine fi_seq ?_
                    refine fi_seq ?_
                    refine fi_region ?_
                    refine so_move (v := (.v (.int .i64 (-1 : Int)))) rfl ?_
                    refine so_bin rfl rfl ab_lss ?_
                    refine so_nil ?_
                    replace h := ofP h; rcases h with ⟨c174, h⟩ | ⟨c174, h⟩
                    · refine fi_true rfl (decide_eq_true c174) ?_
                      refine fi_seq ?_
                      refine fi_region ?_
                      refine so_assign (v := (.v .nilsl)) rfl ?_
                      refine so_assign (v := (.v (.bool false))) rfl ?_
                      refine so_nil ?_
                      exact by_ret rfl ⟨_, _, h, _, rfl, (Sep.nil (Sep.del 0 (Sep.del 0 hs)) 1)⟩
                    · refine fi_false rfl (decide_eq_false c174) ?_
                      refine fi_skip ?_
                      refine fi_region ?_
                      refine so_move (v := (.v (.int .i64 n160))) rfl ?_
                      refine so_bin rfl rfl ab_mul ?_
                      refine so_move (v := (.v (.int .i64 (-1 : Int)))) rfl ?_
                      refine so_bin rfl rfl ab_add ?_
                      refine so_assign (v := (.v (.int .i64 (IntKind.i64.wrap ((IntKind.i64.wrap ((16 : Int) * n160)) + (-1 : Int)))))) rfl ?_
                      refine so_nil ?_
                      refine fi_inBlock ?_
                      refine fi_region ?_
                      refine so_move (v := (.v (.int .i64 k161))) rfl ?_
                      refine so_bin rfl rfl ab_add ?_
                      refine so_assign (v := (.v (.int .i64 (IntKind.i64.wrap (k161 + (1 : Int)))))) rfl ?_
                      refine so_nil ?_
                      exact fi_at [(4, (.v v154)), (5, (.v v106)), (6, (.v (.int .i64 i155))), (7, (.v (.int .i64 (IntKind.i64.wrap ((IntKind.i64.wrap ((16 : Int) * n160)) + (-1 : Int)))))), (8, (.v (.int .i64 (IntKind.i64.wrap (k161 + (1 : Int))))))] ⟨rfl, rfl, rfl, rfl, rfl, trivial⟩ (h _ _  hs)
                · refine so_gno rfl (decide_eq_false c171) ?_
                  refine so_gno rfl (decide_eq_false c171) ?_
                  refine so_pick_f (v := (.v (.bool false))) rfl (decide_eq_false c171) rfl ?_
                  refine so_nil ?_
                  refine fi_false rfl rfl ?_
                  refine fi_skip ?_
                  refine fi_seq ?_
                  refine fi_seq ?_
                  refine fi_region ?_
                  refine so_move (v := (.v (.int .i64 (-1 : Int)))) rfl ?_
                  refine so_bin rfl rfl ab_lss ?_
                  refine so_nil ?_
                  replace h := ofP h; rcases h with ⟨c175, h⟩ | ⟨c175, h⟩
                  · refine fi_true rfl (decide_eq_true c175) ?_
                    refine fi_seq ?_
                    refine fi_region ?_
                    refine so_assign (v := (.v .nilsl)) rfl ?_
                    refine so_assign (v := (.v (.bool false))) rfl ?_
                    refine so_nil ?_
                    exact by_ret rfl ⟨_, _, h, _, rfl, (Sep.nil (Sep.del 0 (Sep.del 0 hs)) 1)⟩
                  · refine fi_false rfl (decide_eq_false c175) ?_
                    refine fi_skip ?_
                    refine fi_region ?_
                    refine so_move (v := (.v (.int .i64 n160))) rfl ?_
                    refine so_bin rfl rfl ab_mul ?_
                    refine so_move (v := (.v (.int .i64 (-1 : Int)))) rfl ?_
                    refine so_bin rfl rfl ab_add ?_
                    refine so_assign (v := (.v (.int .i64 (IntKind.i64.wrap ((IntKind.i64.wrap ((16 : Int) * n160)) + (-1 : Int)))))) rfl ?_
                    refine so_nil ?_
                    refine fi_inBlock ?_
                    refine fi_region ?_
                    refine so_move (v := (.v (.int .i64 k161))) rfl ?_
                    refine so_bin rfl rfl ab_add ?_
                    refine so_assign (v := (.v (.int .i64 (IntKind.i64.wrap (k161 + (1 : Int)))))) rfl ?_
                    refine so_nil ?_
                    exact fi_at [(4, (.v v154)), (5, (.v v106)), (6, (.v (.int .i64 i155))), (7, (.v (.int .i64 (IntKind.i64.wrap ((IntKind.i64.wrap ((16 : Int) * n160)) + (-1 : Int)))))), (8, (.v (.int .i64 (IntKind.i64.wrap (k161 + (1 : Int))))))] ⟨rfl, rfl, rfl, rfl, rfl, trivial⟩ (h _ _  hs)
            · refine so_gno rfl (decide_eq_false c164) ?_
              refine so_gno rfl (decide_eq_false c164) ?_
              refine so_pick_f (v := (.v (.bool false))) rfl (decide_eq_false c164) rfl ?_
              refine so_nil ?_
              refine fi_false rfl rfl ?_
              refine fi_skip ?_
              refine fi_seq ?_
              refine fi_seq ?_
              refine fi_region ?_
              refine so_move (v := (.v (.int .u8 (bt (y105.getD (i155).toNat ([] : List UInt8)) k161)))) rfl ?_
              refine so_bin rfl rfl ab_geq ?_
              refine so_move (v := (.v (.bool (decide ((97 : Int) ≤ (bt (y105.getD (i155).toNat ([] : List UInt8)) k161)))))) rfl ?_
              replace h := ofP h; rcases h with ⟨c176, h⟩ | ⟨c176, h⟩
              · refine so_gyes rfl (decide_eq_true c176) ?_
                refine so_move (v := (.v (.int .u8 (bt (y105.getD (i155).toNat ([] : List UInt8)) k161)))) rfl ?_
                refine so_gyes rfl (decide_eq_true c176) ?_
                refine so_bin rfl rfl ab_leq ?_
                refine so_pick_t (v := (.v (.bool (decide ((bt (y105.getD (i155).toNat ([] : List UInt8)) k161) ≤ (102 : Int)))))) rfl (decide_eq_true c176) rfl ?_
                refine so_nil ?_
                replace h := ofP h; rcases h with ⟨c177, h⟩ | ⟨c177, h⟩
                · refine fi_true rfl (decide_eq_true c177) ?_
                  refine fi_region ?_
                  refine so_move (v := (.v (.int .u8 (bt (y105.getD (i155).toNat ([] : List UInt8)) k161)))) rfl ?_
                  refine so_bin rfl rfl ab_sub ?_
                  refine sv_ii rfl F118.us5 F118.it2 ?_
                  refine so_bin rfl rfl ab_add ?_
                  refine so_assign (v := (.v (.int .i64 (IntKind.i64.wrap ((IntKind.i64.wrap (IntKind.u8.wrap ((bt (y105.getD (i155).toNat ([] : List UInt8)) k161) - (97 : Int)))) + (10 : Int)))))) rfl ?_
                  refine so_nil ?_
                  refine fi_seq ?_
                  refine fi_seq ?_
                  refine fi_region ?_
                  refine so_move (v := (.v (.int .i64 (IntKind.i64.wrap ((IntKind.i64.wrap (IntKind.u8.wrap ((bt (y105.getD (i155).toNat ([] : List UInt8)) k161) - (97 : Int)))) + (10 : Int)))))) rfl ?_
                  refine so_bin rfl rfl ab_lss ?_
                  refine so_nil ?_
                  replace h := ofP h; rcases h with ⟨c178, h⟩ | ⟨c178, h⟩
                  · refine fi_true rfl (decide_eq_true c178) ?_
                    refine fi_seq ?_
                    refine fi_region ?_
                    refine so_assign (v := (.v .nilsl)) rfl ?_
                    refine so_assign (v := (.v (.bool false))) rfl ?_
                    refine so_nil ?_
                    exact by_ret rfl ⟨_, _, h, _, rfl, (Sep.nil (Sep.del 0 (Sep.del 0 hs)) 1)⟩
                  · refine fi_false rfl (decide_eq_false c178) ?_
                    refine fi_skip ?_
                    refine fi_region ?_
                    refine so_move (v := (.v (.int .i64 n160))) rfl ?_
                    refine so_bin rfl rfl ab_mul ?_
                    refine so_move (v := (.v (.int .i64 (IntKind.i64.wrap ((IntKind.i64.wrap (IntKind.u8.wrap ((bt (y105.getD (i155).toNat ([] : List UInt8)) k161) - (97 : Int)))) + (10 : Int)))))) rfl ?_
                    refine so_bin rfl rfl ab_add ?_
                    refine so_assign (v := (.v (.int .i64 (IntKind.i64.wrap ((IntKind.i64.wrap ((16 : Int) * n160)) + (IntKind.i64.wrap ((IntKind.i64.wrap (IntKind.u8.wrap ((bt (y105.getD (i155).toNat ([] : List UInt8)) k161) - (97 : Int)))) + (10 : Int)))))))) rfl ?_
                    refine so_nil ?_
                    refine fi_inBlock ?_
                    refine fi_region ?_
                    refine so_move (v := (.v (.int .i64 k161))) rfl ?_
                    refine so_bin rfl rfl ab_add ?_
                    refine so_assign (v := (.v (.int .i64 (IntKind.i64.wrap (k161 + (1 : Int)))))) rfl ?_
                    refine so_nil ?_
                    exact fi_at [(4, (.v v154)), (5, (.v v106)), (6, (.v (.int .i64 i155))), (7, (.v (.int .i64 (IntKind.i64.wrap ((IntKind.i64.wrap ((16 : Int) * n160)) + (IntKind.i64.wrap ((IntKind.i64.wrap (IntKind.u8.wrap ((bt (y105.getD (i155).toNat ([] : List UInt8)) k161) - (97 : Int)))) + (10 : Int)))))))), (8, (.v (.int .i64 (IntKind.i64.wrap (k161 + (1 : Int))))))] ⟨rfl, rfl, rfl, rfl, rfl, trivial⟩ (h _ _  hs)
                · refine fi_false rfl (decide_eq_false c177) ?_
                  refine fi_skip ?_
                  refine fi_seq ?_
                  refine fi_seq ?_
                  refine fi_region ?_
                  refine so_move (v := (.v (.int .i64 (-1 : Int)))) rfl ?_
                  refine so_bin rfl rfl ab_lss ?_
                  refine so_nil ?_
                  replace h := ofP h; rcases h with ⟨c179, h⟩ | ⟨c179, h⟩
                  · refine fi_true rfl (decide_eq_true c179) ?_
                    refine fi_seq ?_
                    refine fi_region ?_
                    refine so_assign (v := (.v .nilsl)) rfl ?_
                    refine so_assign (v := (.v (.bool false))) rfl ?_
                    refine so_nil ?_
                    exact by_ret rfl ⟨_, _, h, _, rfl, (Sep.nil (Sep.del 0 (Sep.del 0 hs)) 1)⟩
                  · refine fi_false rfl (decide_eq_false c179) ?_
                    refine fi_skip ?_
                    refine fi_region ?_
                    refine so_move (v := (.v (.int .i64 n160))) rfl ?_
                    refine so_bin rfl rfl ab_mul ?_
                    refine so_move (v := (.v (.int .i64 (-1 : Int)))) rfl ?_
                    refine so_bin rfl rfl ab_add ?_
                    refine so_assign (v := (.v (.int .i64 (IntKind.i64.wrap ((IntKind.i64.wrap ((16 : Int) * n160)) + (-1 : Int)))))) rfl ?_
                    refine so_nil ?_
                    refine fi_inBlock ?_
                    refine fi_region ?_
                    refine so_move (v := (.v (.int .i64 k161))) rfl ?_
                    refine so_bin rfl rfl ab_add ?_
                    refine so_assign (v := (.v (.int .i64 (IntKind.i64.wrap (k161 + (1 : Int)))))) rfl ?_
                    refine so_nil ?_
                    exact fi_at [(4, (.v v154)), (5, (.v v106)), (6, (.v (.int .i64 i155))), (7, (.v (.int .i64 (IntKind.i64.wrap ((IntKind.i64.wrap ((16 : Int) * n160)) + (-1 : Int)))))), (8, (.v (.int .i64 (IntKind.i64.wrap (k161 + (1 : Int))))))] ⟨rfl, rfl, rfl, rfl, rfl, trivial⟩ (h _ _  hs)
              · refine so_gno rfl (decide_eq_false c176) ?_
                refine so_gno rfl (decide_eq_false c176) ?_
                refine so_pick_f (v := (.v (.bool false))) rfl (decide_eq_false c176) rfl ?_
                refine so_nil ?_
                refine fi_false rfl rfl ?_
                refine fi_skip ?_
                refine fi_seq ?_
                refine fi_seq ?_
                refine fi_region ?_
                refine so_move (v := (.v (.int .i64 (-1 : Int)))) rfl ?_
                refine so_bin rfl rfl ab_lss ?_
                refine so_nil ?_
                replace h := ofP h; rcases h with ⟨c180, h⟩ | ⟨c180, h⟩
                · refine fi_true rfl (decide_eq_true c180) ?_
                  refine fi_seq ?_
                  refine fi_region ?_
                  refine so_assign (v := (.v .nilsl)) rfl ?_
                  refine so_assign (v := (.v (.bool false))) rfl ?_
                  refine so_nil ?_
                  exact by_ret rfl ⟨_, _, h, _, rfl, (Sep.nil (Sep.del 0 (Sep.del 0 hs)) 1)⟩
                · refine fi_false rfl (decide_eq_false c180) ?_
                  refine fi_skip ?_
                  refine fi_region ?_
                  refine so_move (v := (.v (.int .i64 n160))) rfl ?_
                  refine so_bin rfl rfl ab_mul ?_
                  refine so_move (v := (.v (.int .i64 (-1 : Int)))) rfl ?_
                  refine so_bin rfl rfl ab_add ?_
                  refine so_assign (v := (.v (.int .i64 (IntKind.i64.wrap ((IntKind.i64.wrap ((16 : Int) * n160)) + (-1 : Int)))))) rfl ?_
                  refine so_nil ?_
                  refine fi_inBlock ?_
                  refine fi_region ?_
                  refine so_move (v := (.v (.int .i64 k161))) rfl ?_
                  refine so_bin rfl rfl ab_add ?_
                  refine so_assign (v := (.v (.int .i64 (IntKind.i64.wrap (k161 + (1 : Int)))))) rfl ?_
                  refine so_nil ?_
                  exact fi_at [(4, (.v v154)), (5, (.v v106)), (6, (.v (.int .i64 i155))), (7, (.v (.int .i64 (IntKind.i64.wrap ((IntKind.i64.wrap ((16 : Int) * n160)) + (-1 : Int)))))), (8, (.v (.int .i64 (IntKind.i64.wrap (k161 + (1 : Int))))))] ⟨rfl, rfl, rfl, rfl, rfl, trivial⟩ (h _ _  hs)
          · refine fi_false rfl (decide_eq_false c162) ?_
            refine fi_exit rfl ?_
            refine fi_seq ?_
            refine fi_region ?_
            refine so_move (v := (.v (.int .i64 n160))) rfl ?_
            refine sv_callS (spec_l01From_ok n160 hs  _ h) (fun _ _ ⟨_, _, _, e⟩ => e) rfl rfl ?_
            clear h
            rintro _ _ ⟨y181, h, rfl, rfl⟩
            refine so_assign (v := (.v (.flt .f32 y181))) rfl ?_
            refine so_nil ?_
            refine fi_seq ?_
            refine fi_seq ?_
            refine fi_region ?_
            refine so_move (v := (.v (.flt .f32 y181))) rfl ?_
            refine sv_callS (spec_l01Bits_ok y181 hs  _ h) (fun _ _ ⟨_, _, _, e⟩ => e) rfl rfl ?_
            clear h
            rintro _ _ ⟨y183, h, rfl, rfl⟩
            refine so_move (v := (.v (.int .i64 n160))) rfl ?_
            refine so_bin rfl rfl ab_neq ?_
            refine so_nil ?_
            replace h := ofP h; rcases h with ⟨c185, h⟩ | ⟨c185, h⟩
            · refine fi_false rfl (not_f (decide_eq_true c185)) ?_
              refine fi_skip ?_
              refine fi_region ?_
              refine so_move (v := (.v v154)) rfl ?_
              refine so_move (v := (.v (.flt .f32 y181))) rfl ?_
              refine sv_bslice hs (eFlt .f32) ([y181] : List (Nat)) [[(.flt .f32 y181)]] F118.te48 F118.sz49 F118.ze49 rfl rfl rfl rfl (fun _ => rfl) rfl (by decide) nofun (fun v186 H187 nv186 hs => ?_)
              obtain ⟨c191, h⟩ := h
              refine sv_app hs 2 rfl (hs.shows 0 rfl) (fun _ => rfl) (by decide) F118.ta48_48 (by decide) c191 rfl rfl nofun (fun v189 H190 kv189 hs => ?_)
              replace hs := hs.del 0
              have nv189 := kv189 nv154
              refine so_assign (v := (.v v189)) rfl ?_
              refine so_nil ?_
              refine fi_inBlock ?_
              refine fi_region ?_
              refine so_move (v := (.v (.int .i64 i155))) rfl ?_
              refine so_bin rfl rfl ab_add ?_
              refine so_assign (v := (.v (.int .i64 (IntKind.i64.wrap (i155 + (1 : Int)))))) rfl ?_
              refine so_nil ?_
              exact fi_at [(4, (.v v189)), (5, (.v v106)), (6, (.v (.int .i64 (IntKind.i64.wrap (i155 + (1 : Int))))))] ⟨rfl, rfl, rfl, trivial⟩ (h _ _ _ nv189 hs)
            · refine fi_true rfl (not_t (decide_eq_false c185)) ?_
              refine fi_seq ?_
              refine fi_region ?_
              refine so_assign (v := (.v .nilsl)) rfl ?_
              refine so_assign (v := (.v (.bool false))) rfl ?_
              refine so_nil ?_
              exact by_ret rfl ⟨_, _, h, _, rfl, (Sep.nil (Sep.del 0 (Sep.del 0 hs)) 1)⟩
        · refine fi_true rfl (not_t (decide_eq_false c158)) ?_
          refine fi_seq ?_
          refine fi_region ?_
          refine so_assign (v := (.v .nilsl)) rfl ?_
          refine so_assign (v := (.v (.bool false))) rfl ?_
          refine so_nil ?_
          exact by_ret rfl ⟨_, _, h, _, rfl, (Sep.nil (Sep.del 0 (Sep.del 0 hs)) 1)⟩
      · refine fi_false rfl (decide_eq_false c156) ?_
        refine fi_exit rfl ?_
        refine fi_seq ?_
        refine fi_region ?_
        refine so_move (v := (.v v154)) rfl ?_
        refine so_assign (v := (.v v154)) rfl ?_
        refine so_assign (v := (.v (.bool true))) rfl ?_
        refine so_nil ?_
        exact by_ret rfl ⟨_, _, h, _, rfl, (Sep.del 0 hs)⟩

end Go.Proofs.YtcgiboeilcdonaaDoor.G

namespace Go.Proofs.YtcgiboeilcdonaaDoor.G
open Go Go.Ab Go.Proofs Go.Proofs.YtcgiboeilcdonaaDoor
set_option maxRecDepth 100000
set_option linter.unusedVariables false
set_option linter.unusedSimpArgs false
set_option maxHeartbeats 1000000
attribute [local irreducible] wops wopf Go.Ab.Fin
theorem F119.ag49 : tagg Tryd.prog 49 = some false := by kernel_rfl
theorem F119.ti48 : (telem Tryd.prog 48).isSome = true := by kernel_rfl
theorem F119.tl48 : (telem Tryd.prog 48).bind (tsz Tryd.prog) = some 1 := by kernel_rfl
theorem spec_l08Number_ok {fr : List Pc} {H : Heap} (a0 : List UInt8) (hs : Sep H (fr))  (K : Nat → Bool → Prop) (h : spec_l08Number.wp a0 K) : OkQ Tryd.prog 119 [(.v (.str (pk a0)))] H (fun r H2 => ∃ (y0 : Nat) (y1 : Bool), K y0 y1 ∧ r = (.t [(.v (.flt .f32 y0)), (.v (.bool y1))]) ∧ Sep H2 (fr)) := by
  unfold spec_l08Number.wp at h
  refine of_body Tryd.f119 F.hm Tryd.func119 rfl Tryd.call119 (by kernel_rfl) (by simp) ?_
  refine fi_seq ?_
  refine fi_region ?_
  refine so_assign (v := (.v (.flt .f32 (cz .f32 0)))) rfl ?_
  refine so_assign (v := (.v (.bool false))) rfl ?_
  refine so_nil ?_
  refine fi_seq ?_
  refine fi_region ?_
  refine so_move (v := (.v (.str (pk a0)))) rfl ?_
  refine sv_call (spec_l01NRead_ok a0 hs  _ h) rfl rfl nofun ?_
  clear h hs
  rintro _ H105 ⟨y101, y104, h, v102, rfl, hs⟩
  refine so_move (v := (.t [(.v v102), (.v (.bool y104))])) rfl ?_
  refine so_extract rfl rfl rfl ?_
  refine so_extract rfl rfl rfl ?_
  refine so_assign (v := (.v v102)) rfl ?_
  refine so_assign (v := (.v (.bool y104))) rfl ?_
  refine so_nil ?_
  refine fi_seq ?_
  refine fi_seq ?_
  refine fi_region ?_
  refine so_move (v := (.v (.bool y104))) rfl ?_
  refine so_un rfl au_not ?_
  refine so_move (v := (.v (.bool (!y104)))) rfl ?_
  replace h := ofT h; rcases h with ⟨c106, h⟩ | ⟨c106, h⟩
  · refine so_gyes rfl (not_f c106) ?_
    refine so_move (v := (.v v102)) rfl ?_
    refine so_gyes rfl (not_f c106) ?_
    refine sv_len (hs.shows 0 rfl) (fun _ => rfl) (by decide) rfl F119.ti48 ?_
    refine so_gyes rfl (not_f c106) ?_
    refine so_bin rfl rfl ab_neq ?_
    refine so_pick_f (v := (.v (.bool (!(decide ((y101.length : Int) = (1 : Int))))))) rfl (not_f c106) rfl ?_
    refine so_nil ?_
    replace h := ofP h; rcases h with ⟨c107, h⟩ | ⟨c107, h⟩
    · refine fi_false rfl (not_f (decide_eq_true c107)) ?_
      refine fi_skip ?_
      refine fi_seq ?_
      refine fi_region ?_
      refine so_move (v := (.v v102)) rfl ?_
      obtain ⟨c108, h⟩ := h
      refine sv_idx (hs.shows 0 rfl) c108 (fun _ => rfl) (by decide) rfl rfl F119.tl48 ?_
      refine sv_cell (hs.shows 0 rfl) c108 (0 : Nat) 0 (fun x => (AV.flt .f32 x)) (fun _ => rfl) (fun _ => rfl) rfl F119.ag49 ?_
      refine so_assign (v := (.v (.flt .f32 (y101.getD ((0 : Int)).toNat (0 : Nat))))) rfl ?_
      refine so_assign (v := (.v (.bool true))) rfl ?_
      refine so_nil ?_
      exact by_ret rfl ⟨_, _, h, rfl, (Sep.del 0 hs)⟩
    · refine fi_true rfl (not_t (decide_eq_false c107)) ?_
      refine fi_seq ?_
      refine fi_region ?_
      refine so_assign (v := (.v (.flt .f32 (cz .f32 0)))) rfl ?_
      refine so_assign (v := (.v (.bool false))) rfl ?_
      refine so_nil ?_
      exact by_ret rfl ⟨_, _, h, rfl, (Sep.del 0 hs)⟩
  · refine so_gno rfl (not_t c106) ?_
    refine so_gno rfl (not_t c106) ?_
    refine so_gno rfl (not_t c106) ?_
    refine so_pick_t (v := (.v (.bool true))) rfl (not_t c106) rfl ?_
    refine so_nil ?_
    refine fi_true rfl rfl ?_
    refine fi_seq ?_
    refine fi_region ?_
    refine so_assign (v := (.v (.flt .f32 (cz .f32 0)))) rfl ?_
    refine so_assign (v := (.v (.bool false))) rfl ?_
    refine so_nil ?_
    exact by_ret rfl ⟨_, _, h, rfl, (Sep.del 0 hs)⟩
theorem spec_l08Number_okS {fr : List Pc} {H : Heap} (a0 : List UInt8) (hs : Sep H fr)  (K : Nat → Bool → Prop) (h : spec_l08Number.wp a0 K) : OkQ Tryd.prog 119 [(.v (.str (pk a0)))] H (fun r H2 => ∃ (y0 : Nat) (y1 : Bool), K y0 y1 ∧ r = (.t [(.v (.flt .f32 y0)), (.v (.bool y1))]) ∧ H = H2) := by
  obtain ⟨r, H2, h1, y0, y1, hK, hr, hsep⟩ := spec_l08Number_ok (fr := came H) (H := H) a0 (came_sep H)  K h
  have hk : H.n ≤ H2.n ∧ ∀ i, i < H.n → H2.f i = H.f i := hsep.1.2.1
  exact ⟨r, H, h1.forget hk.1 hk.2 (by subst hr; rfl), y0, y1, hK, hr, rfl⟩

end Go.Proofs.YtcgiboeilcdonaaDoor.G

namespace Go.Proofs.YtcgiboeilcdonaaDoor.G
open Go Go.Ab Go.Proofs Go.Proofs.YtcgiboeilcdonaaDoor
set_option maxRecDepth 100000
set_option linter.unusedVariables false
set_option linter.unusedSimpArgs false
set_option maxHeartbeats 1000000
attribute [local irreducible] wops wopf Go.Ab.Fin
theorem spec_l01Finite_ok {fr : List Pc} {H : Heap} (a0 : Nat) (hs : Sep H (fr))  (K : Bool → Prop) (h : spec_l01Finite.wp a0 K) : OkQ Tryd.prog 133 [(.v (.flt .f32 a0))] H (fun r H2 => ∃ (y0 : Bool), K y0 ∧ r = (.v (.bool y0)) ∧ H = H2) := by
  unfold spec_l01Finite.wp at h
  refine of_body Tryd.f133 F.hm Tryd.func133 rfl Tryd.call133 (by kernel_rfl) (by simp) ?_
  refine fi_seq ?_
  refine fi_region ?_
  refine so_assign (v := (.v (.bool false))) rfl ?_
  refine so_nil ?_
  refine fi_seq ?_
  refine fi_region ?_
  refine so_move (v := (.v (.flt .f32 a0))) rfl ?_
  refine so_move (v := (.v (.flt .f32 a0))) rfl ?_
  refine so_bin rfl rfl ab_fsub ?_
  refine so_bin rfl rfl ab_feql ?_
  refine so_assign (v := (.v (.bool (fcmp .eql .f32 (fop .sub .f32 a0 a0) (cz .f32 0))))) rfl ?_
  refine so_nil ?_
  exact by_ret rfl ⟨_, h, rfl, rfl⟩

end Go.Proofs.YtcgiboeilcdonaaDoor.G

namespace Go.Proofs.YtcgiboeilcdonaaDoor.G
open Go Go.Ab Go.Proofs Go.Proofs.YtcgiboeilcdonaaDoor
set_option maxRecDepth 100000
set_option linter.unusedVariables false
set_option linter.unusedSimpArgs false
set_option maxHeartbeats 1000000
attribute [local irreducible] wops wopf Go.Ab.Fin
theorem F110.ag49 : tagg Tryd.prog 49 = some false := by kernel_rfl
theorem F110.ti48 : (telem Tryd.prog 48).isSome = true := by kernel_rfl
theorem F110.tl48 : (telem Tryd.prog 48).bind (tsz Tryd.prog) = some 1 := by kernel_rfl
theorem spec_l02Finite_ok {fr : List Pc} {H : Heap} (v0 : AV) (l0 : List (Nat)) (hs : Sep H (fr)) (g0 : ∀ H, Sep H fr → Shows H v0 1 (enc (eFlt .f32) l0)) (K : Bool → Prop) (h : spec_l02Finite.wp l0 K) : OkQ Tryd.prog 110 [(.v v0)] H (fun r H2 => ∃ (y0 : Bool), K y0 ∧ r = (.v (.bool y0)) ∧ H = H2) := by
  unfold spec_l02Finite.wp at h
  refine of_body Tryd.f110 F.hm Tryd.func110 rfl Tryd.call110 (by kernel_rfl) (by simp) ?_
  refine fi_seq ?_
  refine fi_region ?_
  refine so_assign (v := (.v (.bool false))) rfl ?_
  refine so_nil ?_
  refine fi_seq ?_
  refine fi_seq ?_
  refine fi_region ?_
  refine so_assign (v := (.v (.int .i64 (0 : Int)))) rfl ?_
  refine so_nil ?_
  refine fi_block ?_
  refine fi_loop ?_
  refine fi_at [(0, (.v v0)), (3, (.v (.int .i64 (0 : Int))))] ⟨rfl, rfl, trivial⟩ ?_
  refine h (fun (i102 : Int) => ∀ (s : Nat → TV), Fin _ _ (updL s [(0, (.v v0)), (3, (.v (.int .i64 i102)))]) _ _) ?_ _
  intro i102 h s108
  refine fi_inLoop ?_
  refine fi_seq ?_
  refine fi_seq ?_
  refine fi_region ?_
  refine so_move (v := (.v (.int .i64 i102))) rfl ?_
  refine so_move (v := (.v v0)) rfl ?_
  refine sv_len (g0 _ hs) (fun _ => rfl) (by decide) rfl F110.ti48 ?_
  refine so_bin rfl rfl ab_lss ?_
  refine so_nil ?_
  replace h := ofP h; rcases h with ⟨c103, h⟩ | ⟨c103, h⟩
  · refine fi_true rfl (decide_eq_true c103) ?_
    refine fi_skip ?_
    refine fi_seq ?_
    refine fi_block ?_
    refine fi_seq ?_
    refine fi_region ?_
    refine so_move (v := (.v v0)) rfl ?_
    refine so_move (v := (.v (.int .i64 i102))) rfl ?_
    obtain ⟨c104, h⟩ := h
    refine sv_idx (g0 _ hs) c104 (fun _ => rfl) (by decide) rfl rfl F110.tl48 ?_
    refine sv_cell (g0 _ hs) c104 (0 : Nat) 0 (fun x => (AV.flt .f32 x)) (fun _ => rfl) (fun _ => rfl) rfl F110.ag49 ?_
    refine sv_callS (spec_l01Finite_ok (l0.getD (i102).toNat (0 : Nat)) hs  _ h) (fun _ _ ⟨_, _, _, e⟩ => e) rfl rfl ?_
    clear h
    rintro _ _ ⟨y105, h, rfl, rfl⟩
    refine so_un rfl au_not ?_
    refine so_nil ?_
    replace h := ofT h; rcases h with ⟨c107, h⟩ | ⟨c107, h⟩
    · refine fi_false rfl (not_f c107) ?_
      refine fi_skip ?_
      refine fi_inBlock ?_
      refine fi_region ?_
      refine so_move (v := (.v (.int .i64 i102))) rfl ?_
      refine so_bin rfl rfl ab_add ?_
      refine so_assign (v := (.v (.int .i64 (IntKind.i64.wrap (i102 + (1 : Int)))))) rfl ?_
      refine so_nil ?_
      exact fi_at [(0, (.v v0)), (3, (.v (.int .i64 (IntKind.i64.wrap (i102 + (1 : Int))))))] ⟨rfl, rfl, trivial⟩ (h _)
    · refine fi_true rfl (not_t c107) ?_
      refine fi_seq ?_
      refine fi_region ?_
      refine so_assign (v := (.v (.bool false))) rfl ?_
      refine so_nil ?_
      exact by_ret rfl ⟨_, h, rfl, rfl⟩
  · refine fi_false rfl (decide_eq_false c103) ?_
    refine fi_exit rfl ?_
    refine fi_seq ?_
    refine fi_region ?_
    refine so_assign (v := (.v (.bool true))) rfl ?_
    refine so_nil ?_
    exact by_ret rfl ⟨_, h, rfl, rfl⟩

end Go.Proofs.YtcgiboeilcdonaaDoor.G

namespace Go.Proofs.YtcgiboeilcdonaaDoor.G
open Go Go.Ab Go.Proofs Go.Proofs.YtcgiboeilcdonaaDoor
set_option maxRecDepth 100000
set_option linter.unusedVariables false
set_option linter.unusedSimpArgs false
set_option maxHeartbeats 1000000
attribute [local irreducible] wops wopf Go.Ab.Fin
theorem spec_l02Above_ok {fr : List Pc} {H : Heap} (a0 : Nat) (hs : Sep H (fr))  (K : Bool → Prop) (h : spec_l02Above.wp a0 K) : OkQ Tryd.prog 111 [(.v (.flt .f32 a0))] H (fun r H2 => ∃ (y0 : Bool), K y0 ∧ r = (.v (.bool y0)) ∧ H = H2) := by
  unfold spec_l02Above.wp at h
  refine of_body Tryd.f111 F.hm Tryd.func111 rfl Tryd.call111 (by kernel_rfl) (by simp) ?_
  refine fi_seq ?_
  refine fi_region ?_
  refine so_assign (v := (.v (.bool false))) rfl ?_
  refine so_nil ?_
  refine fi_seq ?_
  refine fi_region ?_
  refine so_move (v := (.v (.flt .f32 a0))) rfl ?_
  refine sv_callS (spec_l01Finite_ok a0 hs  _ h) (fun _ _ ⟨_, _, _, e⟩ => e) rfl rfl ?_
  clear h
  rintro _ _ ⟨y101, h, rfl, rfl⟩
  refine so_move (v := (.v (.bool y101))) rfl ?_
  replace h := ofT h; rcases h with ⟨c103, h⟩ | ⟨c103, h⟩
  · refine so_gyes rfl c103 ?_
    refine so_move (v := (.v (.flt .f32 a0))) rfl ?_
    refine so_gyes rfl c103 ?_
    refine so_bin rfl rfl ab_fgtr ?_
    refine so_pick_t (v := (.v (.bool (fcmp .gtr .f32 a0 (cz .f32 0))))) rfl c103 rfl ?_
    refine so_assign (v := (.v (.bool (fcmp .gtr .f32 a0 (cz .f32 0))))) rfl ?_
    refine so_nil ?_
    exact by_ret rfl ⟨_, h, rfl, rfl⟩
  · refine so_gno rfl c103 ?_
    refine so_gno rfl c103 ?_
    refine so_pick_f (v := (.v (.bool false))) rfl c103 rfl ?_
    refine so_assign (v := (.v (.bool false))) rfl ?_
    refine so_nil ?_
    exact by_ret rfl ⟨_, h, rfl, rfl⟩

end Go.Proofs.YtcgiboeilcdonaaDoor.G

namespace Go.Proofs.YtcgiboeilcdonaaDoor.G
open Go Go.Ab Go.Proofs Go.Proofs.YtcgiboeilcdonaaDoor
set_option maxRecDepth 100000
set_option linter.unusedVariables false
set_option linter.unusedSimpArgs false
set_option maxHeartbeats 1000000
attribute [local irreducible] wops wopf Go.Ab.Fin
theorem F71.ag48 : tagg Tryd.prog 48 = some false := by kernel_rfl
theorem F71.ag49 : tagg Tryd.prog 49 = some false := by kernel_rfl
theorem F71.fd54_0 : tfield Tryd.prog 54 0 = some (0, 1, false) := by kernel_rfl
theorem F71.fd54_1 : tfield Tryd.prog 54 1 = some (1, 1, false) := by kernel_rfl
theorem F71.ti48 : (telem Tryd.prog 48).isSome = true := by kernel_rfl
theorem spec_l02Scheme_ok {fr : List Pc} {H : Heap} (i0 o0 : Nat) (v0 : AV) (l0 : List (Nat)) (a1 : Nat) (hs : Sep H (fr)) (g0 : ∀ H, Sep H fr → Shows H v0 1 (enc (eFlt .f32) l0)) (q0 : ∀ H, Sep H fr → PtAt H i0 o0 [v0, (.flt .f32 a1)]) (K : Bool → Prop) (h : spec_l02Scheme.wp l0 a1 K) : OkQ Tryd.prog 71 [(.v (.ptr i0 o0))] H (fun r H2 => ∃ (y0 : Bool), K y0 ∧ r = (.v (.bool y0)) ∧ H = H2) := by
  unfold spec_l02Scheme.wp at h
  refine of_body Tryd.f71 F.hm Tryd.func71 rfl Tryd.call71 (by kernel_rfl) (by simp) ?_
  refine fi_seq ?_
  refine fi_region ?_
  refine so_assign (v := (.v (.bool false))) rfl ?_
  refine so_nil ?_
  refine fi_seq ?_
  refine fi_region ?_
  refine so_move (v := (.v (.ptr i0 o0))) rfl ?_
  refine so_nilCheck rfl ?_
  refine so_fieldAddr rfl F71.fd54_0 ?_
  refine su_ld (q0 _ hs) 0 rfl rfl F71.ag48 ?_
  refine sv_len (g0 _ hs) (fun _ => rfl) (by decide) rfl F71.ti48 ?_
  refine so_bin rfl rfl ab_geq ?_
  refine so_move (v := (.v (.bool (decide ((1 : Int) ≤ (l0.length : Int)))))) rfl ?_
  replace h := ofP h; rcases h with ⟨c101, h⟩ | ⟨c101, h⟩
  · refine so_gyes rfl (decide_eq_true c101) ?_
    refine so_move (v := (.v (.ptr i0 o0))) rfl ?_
    refine so_gyes rfl (decide_eq_true c101) ?_
    refine so_nilCheck rfl ?_
    refine so_gyes rfl (decide_eq_true c101) ?_
    refine so_fieldAddr rfl F71.fd54_0 ?_
    refine so_gyes rfl (decide_eq_true c101) ?_
    refine su_ld (q0 _ hs) 0 rfl rfl F71.ag48 ?_
    refine so_gyes rfl (decide_eq_true c101) ?_
    refine sv_len (g0 _ hs) (fun _ => rfl) (by decide) rfl F71.ti48 ?_
    refine so_gyes rfl (decide_eq_true c101) ?_
    refine so_bin rfl rfl ab_leq ?_
    refine so_pick_t (v := (.v (.bool (decide ((l0.length : Int) ≤ (8 : Int)))))) rfl (decide_eq_true c101) rfl ?_
    refine so_move (v := (.v (.bool (decide ((l0.length : Int) ≤ (8 : Int)))))) rfl ?_
    replace h := ofP h; rcases h with ⟨c102, h⟩ | ⟨c102, h⟩
    · refine so_gyes rfl (decide_eq_true c102) ?_
      refine so_move (v := (.v (.ptr i0 o0))) rfl ?_
      refine so_gyes rfl (decide_eq_true c102) ?_
      refine so_nilCheck rfl ?_
      refine so_gyes rfl (decide_eq_true c102) ?_
      refine so_fieldAddr rfl F71.fd54_0 ?_
      refine so_gyes rfl (decide_eq_true c102) ?_
      refine su_ld (q0 _ hs) 0 rfl rfl F71.ag48 ?_
      refine so_gyes rfl (decide_eq_true c102) ?_
      refine sv_callS (spec_l02Finite_ok v0 l0 hs (fun _ hs => (g0 _ hs)) _ h) (fun _ _ ⟨_, _, _, e⟩ => e) rfl rfl ?_
      clear h
      rintro _ _ ⟨y103, h, rfl, rfl⟩
      refine so_pick_t (v := (.v (.bool y103))) rfl (decide_eq_true c102) rfl ?_
      refine so_move (v := (.v (.bool y103))) rfl ?_
      replace h := ofT h; rcases h with ⟨c105, h⟩ | ⟨c105, h⟩
      · refine so_gyes rfl c105 ?_
        refine so_move (v := (.v (.ptr i0 o0))) rfl ?_
        refine so_gyes rfl c105 ?_
        refine so_nilCheck rfl ?_
        refine so_gyes rfl c105 ?_
        refine so_fieldAddr rfl F71.fd54_1 ?_
        refine so_gyes rfl c105 ?_
        refine su_ld (q0 _ hs) 1 rfl rfl F71.ag49 ?_
        refine so_gyes rfl c105 ?_
        refine sv_callS (spec_l02Above_ok a1 hs  _ h) (fun _ _ ⟨_, _, _, e⟩ => e) rfl rfl ?_
        clear h
        rintro _ _ ⟨y106, h, rfl, rfl⟩
        refine so_pick_t (v := (.v (.bool y106))) rfl c105 rfl ?_
        refine so_assign (v := (.v (.bool y106))) rfl ?_
        refine so_nil ?_
        exact by_ret rfl ⟨_, h, rfl, rfl⟩
      · refine so_gno rfl c105 ?_
        refine so_gno rfl c105 ?_
        refine so_gno rfl c105 ?_
        refine so_gno rfl c105 ?_
        refine so_gno rfl c105 ?_
        refine so_pick_f (v := (.v (.bool false))) rfl c105 rfl ?_
        refine so_assign (v := (.v (.bool false))) rfl ?_
        refine so_nil ?_
        exact by_ret rfl ⟨_, h, rfl, rfl⟩
    · refine so_gno rfl (decide_eq_false c102) ?_
      refine so_gno rfl (decide_eq_false c102) ?_
      refine so_gno rfl (decide_eq_false c102) ?_
      refine so_gno rfl (decide_eq_false c102) ?_
      refine so_gno rfl (decide_eq_false c102) ?_
      refine so_pick_f (v := (.v (.bool false))) rfl (decide_eq_false c102) rfl ?_
      refine so_move (v := (.v (.bool false))) rfl ?_
      refine so_gno rfl rfl ?_
      refine so_gno rfl rfl ?_
      refine so_gno rfl rfl ?_
      refine so_gno rfl rfl ?_
      refine so_gno rfl rfl ?_
      refine so_pick_f (v := (.v (.bool false))) rfl rfl rfl ?_
      refine so_assign (v := (.v (.bool false))) rfl ?_
      refine so_nil ?_
      exact by_ret rfl ⟨_, h, rfl, rfl⟩
  · refine so_gno rfl (decide_eq_false c101) ?_
    refine so_gno rfl (decide_eq_false c101) ?_
    refine so_gno rfl (decide_eq_false c101) ?_
    refine so_gno rfl (decide_eq_false c101) ?_
    refine so_gno rfl (decide_eq_false c101) ?_
    refine so_gno rfl (decide_eq_false c101) ?_
    refine so_pick_f (v := (.v (.bool false))) rfl (decide_eq_false c101) rfl ?_
    refine so_move (v := (.v (.bool false))) rfl ?_
    refine so_gno rfl rfl ?_
    refine so_gno rfl rfl ?_
    refine so_gno rfl rfl ?_
    refine so_gno rfl rfl ?_
    refine so_gno rfl rfl ?_
    refine so_pick_f (v := (.v (.bool false))) rfl rfl rfl ?_
    refine so_move (v := (.v (.bool false))) rfl ?_
    refine so_gno rfl rfl ?_
    refine so_gno rfl rfl ?_
    refine so_gno rfl rfl ?_
    refine so_gno rfl rfl ?_
    refine so_gno rfl rfl ?_
    refine so_pick_f (v := (.v (.bool false))) rfl rfl rfl ?_
    refine so_assign (v := (.v (.bool false))) rfl ?_
    refine so_nil ?_
    exact by_ret rfl ⟨_, h, rfl, rfl⟩

end Go.Proofs.YtcgiboeilcdonaaDoor.G

namespace Go.Proofs.YtcgiboeilcdonaaDoor.G
open Go Go.Ab Go.Proofs Go.Proofs.YtcgiboeilcdonaaDoor
set_option maxRecDepth 100000
set_option linter.unusedVariables false
set_option linter.unusedSimpArgs false
set_option maxHeartbeats 1000000
attribute [local irreducible] wops wopf Go.Ab.Fin
theorem F81.ag54 : tagg Tryd.prog 54 = some true := by kernel_rfl
theorem F81.ag9 : tagg Tryd.prog 9 = some false := by kernel_rfl
theorem F81.bp54 : bplan Tryd.prog 54 = some ([.nilsl, (.flt .f32 (0 : Nat))], [(0, 1), (1, 1)]) := by kernel_rfl
theorem F81.sz54 : tsz Tryd.prog 54 = some 2 := by kernel_rfl
theorem F81.ti28 : (telem Tryd.prog 28).isSome = true := by kernel_rfl
theorem F81.tl28 : (telem Tryd.prog 28).bind (tsz Tryd.prog) = some 1 := by kernel_rfl
theorem F81.ze54 : tzero Tryd.prog 54 = some [.nilsl, (.flt .f32 (0 : Nat))] := by kernel_rfl
theorem spec_l08ReadScheme_ok {fr : List Pc} {H : Heap} (a0 : List UInt8) (hs : Sep H (fr))  (K : (List (Nat)) → Nat → Bool → Prop) (h : spec_l08ReadScheme.wp a0 K) : OkQ Tryd.prog 81 [(.v (.str (pk a0)))] H (fun r H2 => ∃ (y0 : List (Nat)) (y1 : Nat) (y2 : Bool), K y0 y1 y2 ∧ ∃ (w0_ : AV), r = (.t [(.g [w0_, (.flt .f32 y1)]), (.v (.bool y2))]) ∧ Sep H2 (Pc.osl w0_ 1 (enc (eFlt .f32) y0) :: fr)) := by
  unfold spec_l08ReadScheme.wp at h
  refine of_body Tryd.f81 F.hm Tryd.func81 rfl Tryd.call81 (by kernel_rfl) (by simp) ?_
  refine fi_seq ?_
  refine fi_region ?_
  refine sv_alloc hs F81.ze54 rfl nofun (fun id101 H102 hs => ?_)
  refine so_assign (v := (.v (.bool false))) rfl ?_
  refine so_nil ?_
  refine fi_seq ?_
  refine fi_region ?_
  refine so_move (v := (.v (.str (pk a0)))) rfl ?_
  refine sv_call (spec_l01Cut_ok a0 (59 : Int) hs  _ h) rfl rfl nofun ?_
  clear h hs
  rintro _ H107 ⟨y104, h, v105, rfl, hs⟩
  refine so_assign (v := (.v v105)) rfl ?_
  refine so_nil ?_
  refine fi_seq ?_
  refine fi_seq ?_
  refine fi_region ?_
  refine so_move (v := (.v v105)) rfl ?_
  refine sv_len (hs.shows 0 rfl) (fun _ => rfl) (by decide) rfl F81.ti28 ?_
  refine so_bin rfl rfl ab_neq ?_
  refine so_nil ?_
  replace h := ofP h; rcases h with ⟨c108, h⟩ | ⟨c108, h⟩
  · refine fi_false rfl (not_f (decide_eq_true c108)) ?_
    refine fi_skip ?_
    refine fi_seq ?_
    refine fi_region ?_
    refine so_move (v := (.v v105)) rfl ?_
    obtain ⟨c109, h⟩ := h
    refine sv_idx (hs.shows 0 rfl) c109 (fun _ => rfl) (by decide) rfl rfl F81.tl28 ?_
    refine sv_cell (hs.shows 0 rfl) c109 ([] : List UInt8) 0 (fun x => (AV.str (pk x))) (fun _ => rfl) (fun _ => rfl) rfl F81.ag9 ?_
    refine sv_call (spec_l01NRead_ok (y104.getD ((0 : Int)).toNat ([] : List UInt8)) hs  _ h) rfl rfl nofun ?_
    clear h hs
    rintro _ H114 ⟨y110, y113, h, v111, rfl, hs⟩
    refine so_move (v := (.t [(.v v111), (.v (.bool y113))])) rfl ?_
    refine so_extract rfl rfl rfl ?_
    refine so_extract rfl rfl rfl ?_
    refine so_assign (v := (.v v111)) rfl ?_
    refine so_assign (v := (.v (.bool y113))) rfl ?_
    refine so_nil ?_
    refine fi_seq ?_
    refine fi_region ?_
    refine so_move (v := (.v v105)) rfl ?_
    obtain ⟨c115, h⟩ := h
    refine sv_idx (hs.shows 1 rfl) c115 (fun _ => rfl) (by decide) rfl rfl F81.tl28 ?_
    refine sv_cell (hs.shows 1 rfl) c115 ([] : List UInt8) 0 (fun x => (AV.str (pk x))) (fun _ => rfl) (fun _ => rfl) rfl F81.ag9 ?_
    refine sv_callS (spec_l08Number_okS (y104.getD ((1 : Int)).toNat ([] : List UInt8)) hs  _ h) (fun _ _ ⟨_, _, _, _, e⟩ => e) rfl rfl ?_
    clear h
    rintro _ _ ⟨y116, y117, h, rfl, rfl⟩
    refine so_move (v := (.t [(.v (.flt .f32 y116)), (.v (.bool y117))])) rfl ?_
    refine so_extract rfl rfl rfl ?_
    refine so_extract rfl rfl rfl ?_
    refine so_assign (v := (.v (.flt .f32 y116))) rfl ?_
    refine so_assign (v := (.v (.bool y117))) rfl ?_
    refine so_nil ?_
    refine fi_seq ?_
    refine fi_region ?_
    refine so_move (v := (.v v111)) rfl ?_
    refine so_move (v := (.v (.flt .f32 y116))) rfl ?_
    refine so_build F81.bp54 (cps := [(0, [v111]), (1, [(.flt .f32 y116)])]) rfl (fac (stc (hs.shows 0 rfl).stor stn) (fac (stc rfl stn) fan)) rfl ?_
    refine sv_alloc hs F81.ze54 rfl nofun (fun id119 H120 hs => ?_)
    refine sv_st hs 0 rfl rfl rfl (c := [v111, (.flt .f32 y116)]) rfl F81.sz54 rfl (stc (hs.shows 1 rfl).stor (stc rfl stn)) (leb rfl) (cs' := [v111, (.flt .f32 y116)]) rfl nofun (fun H122 hs => ?_)
    refine so_nil ?_
    refine fi_seq ?_
    refine fi_seq ?_
    refine fi_region ?_
    refine so_move (v := (.v (.bool y113))) rfl ?_
    refine so_un rfl au_not ?_
    refine so_move (v := (.v (.bool (!y113)))) rfl ?_
    replace h := ofT h; rcases h with ⟨c123, h⟩ | ⟨c123, h⟩
    · refine so_gyes rfl (not_f c123) ?_
      refine so_move (v := (.v (.bool y117))) rfl ?_
      refine so_gyes rfl (not_f c123) ?_
      refine so_un rfl au_not ?_
      refine so_pick_f (v := (.v (.bool (!y117)))) rfl (not_f c123) rfl ?_
      refine so_move (v := (.v (.bool (!y117)))) rfl ?_
      replace h := ofT h; rcases h with ⟨c124, h⟩ | ⟨c124, h⟩
      · refine so_gyes rfl (not_f c124) ?_
        refine sv_callS (spec_l02Scheme_ok id119 0 v111 y110 y116 hs (fun _ hs => (hs.shows 1 rfl)) (fun _ hs => (hs.ptat 0 rfl)) _ h) (fun _ _ ⟨_, _, _, e⟩ => e) rfl rfl ?_
        clear h
        rintro _ _ ⟨y125, h, rfl, rfl⟩
        refine so_gyes rfl (not_f c124) ?_
        refine so_un rfl au_not ?_
        refine so_pick_f (v := (.v (.bool (!y125)))) rfl (not_f c124) rfl ?_
        refine so_nil ?_
        replace h := ofT h; rcases h with ⟨c127, h⟩ | ⟨c127, h⟩
        · refine fi_false rfl (not_f c127) ?_
          refine fi_skip ?_
          refine fi_seq ?_
          refine fi_region ?_
          refine sv_lds hs 0 rfl rfl (leb rfl) rfl F81.ag54 F81.sz54 ?_
          refine sv_st hs 3 rfl rfl rfl (c := [v111, (.flt .f32 y116)]) rfl F81.sz54 rfl (stc (hs.shows 1 rfl).stor (stc rfl stn)) (leb rfl) (cs' := [v111, (.flt .f32 y116)]) rfl nofun (fun H128 hs => ?_)
          refine so_assign (v := (.v (.bool true))) rfl ?_
          refine so_nil ?_
          exact by_ret (res_mk (ar_cells rfl F81.ag54 F81.sz54 (hs.lds 3 rfl (leb rfl) rfl) (ar_tmp rfl ar_nil)) rfl) ⟨_, _, _, h, _, rfl, (Sep.del 1 (Sep.del 1 (Sep.del 0 hs)))⟩
        · refine fi_true rfl (not_t c127) ?_
          refine fi_seq ?_
          refine fi_region ?_
          refine so_build F81.bp54 (cps := []) rfl fan rfl ?_
          refine sv_st hs 3 rfl rfl rfl (c := [.nilsl, (.flt .f32 (0 : Nat))]) rfl F81.sz54 rfl (stc rfl (stc rfl stn)) (leb rfl) (cs' := [.nilsl, (.flt .f32 (0 : Nat))]) rfl nofun (fun H129 hs => ?_)
          refine so_assign (v := (.v (.bool false))) rfl ?_
          refine so_nil ?_
          exact by_ret (res_mk (ar_cells rfl F81.ag54 F81.sz54 (hs.lds 3 rfl (leb rfl) rfl) (ar_tmp rfl ar_nil)) rfl) ⟨_, _, _, h, _, rfl, (Sep.nil (Sep.dropn 4 hs) 1)⟩
      · refine so_gno rfl (not_t c124) ?_
        refine so_gno rfl (not_t c124) ?_
        refine so_pick_t (v := (.v (.bool true))) rfl (not_t c124) rfl ?_
        refine so_nil ?_
        refine fi_true rfl rfl ?_
        refine fi_seq ?_
        refine fi_region ?_
        refine so_build F81.bp54 (cps := []) rfl fan rfl ?_
        refine sv_st hs 3 rfl rfl rfl (c := [.nilsl, (.flt .f32 (0 : Nat))]) rfl F81.sz54 rfl (stc rfl (stc rfl stn)) (leb rfl) (cs' := [.nilsl, (.flt .f32 (0 : Nat))]) rfl nofun (fun H130 hs => ?_)
        refine so_assign (v := (.v (.bool false))) rfl ?_
        refine so_nil ?_
        exact by_ret (res_mk (ar_cells rfl F81.ag54 F81.sz54 (hs.lds 3 rfl (leb rfl) rfl) (ar_tmp rfl ar_nil)) rfl) ⟨_, _, _, h, _, rfl, (Sep.nil (Sep.dropn 4 hs) 1)⟩
    · refine so_gno rfl (not_t c123) ?_
      refine so_gno rfl (not_t c123) ?_
      refine so_pick_t (v := (.v (.bool true))) rfl (not_t c123) rfl ?_
      refine so_move (v := (.v (.bool true))) rfl ?_
      refine so_gno rfl rfl ?_
      refine so_gno rfl rfl ?_
      refine so_pick_t (v := (.v (.bool true))) rfl rfl rfl ?_
      refine so_nil ?_
      refine fi_true rfl rfl ?_
      refine fi_seq ?_
      refine fi_region ?_
      refine so_build F81.bp54 (cps := []) rfl fan rfl ?_
      refine sv_st hs 3 rfl rfl rfl (c := [.nilsl, (.flt .f32 (0 : Nat))]) rfl F81.sz54 rfl (stc rfl (stc rfl stn)) (leb rfl) (cs' := [.nilsl, (.flt .f32 (0 : Nat))]) rfl nofun (fun H131 hs => ?_)
      refine so_assign (v := (.v (.bool false))) rfl ?_
      refine so_nil ?_
      exact by_ret (res_mk (ar_cells rfl F81.ag54 F81.sz54 (hs.lds 3 rfl (leb rfl) rfl) (ar_tmp rfl ar_nil)) rfl) ⟨_, _, _, h, _, rfl, (Sep.nil (Sep.dropn 4 hs) 1)⟩
  · refine fi_true rfl (not_t (decide_eq_false c108)) ?_
    refine fi_seq ?_
    refine fi_region ?_
    refine so_build F81.bp54 (cps := []) rfl fan rfl ?_
    refine sv_st hs 1 rfl rfl rfl (c := [.nilsl, (.flt .f32 (0 : Nat))]) rfl F81.sz54 rfl (stc rfl (stc rfl stn)) (leb rfl) (cs' := [.nilsl, (.flt .f32 (0 : Nat))]) rfl nofun (fun H132 hs => ?_)
    refine so_assign (v := (.v (.bool false))) rfl ?_
    refine so_nil ?_
    exact by_ret (res_mk (ar_cells rfl F81.ag54 F81.sz54 (hs.lds 1 rfl (leb rfl) rfl) (ar_tmp rfl ar_nil)) rfl) ⟨_, _, _, h, _, rfl, (Sep.nil (Sep.del 0 (Sep.del 0 hs)) 1)⟩

end Go.Proofs.YtcgiboeilcdonaaDoor.G

namespace Go.Proofs.YtcgiboeilcdonaaDoor.G
open Go Go.Ab Go.Proofs Go.Proofs.YtcgiboeilcdonaaDoor
set_option maxRecDepth 100000
set_option linter.unusedVariables false
set_option linter.unusedSimpArgs false
set_option maxHeartbeats 1000000
attribute [local irreducible] wops wopf Go.Ab.Fin
theorem F44.ag54 : tagg Tryd.prog 54 = some true := by kernel_rfl
theorem F44.sz54 : tsz Tryd.prog 54 = some 2 := by kernel_rfl
theorem F44.ze54 : tzero Tryd.prog 54 = some [.nilsl, (.flt .f32 (0 : Nat))] := by kernel_rfl
theorem spec_ReadScheme_ok {fr : List Pc} {H : Heap} (a0 : List UInt8) (hs : Sep H (fr))  (K : (List (Nat)) → Nat → Bool → Prop) (h : spec_ReadScheme.wp a0 K) : OkQ Tryd.prog 44 [(.v (.str (pk a0)))] H (fun r H2 => ∃ (y0 : List (Nat)) (y1 : Nat) (y2 : Bool), K y0 y1 y2 ∧ ∃ (w0_ : AV), r = (.t [(.g [w0_, (.flt .f32 y1)]), (.v (.bool y2))]) ∧ Sep H2 (Pc.osl w0_ 1 (enc (eFlt .f32) y0) :: fr)) := by
  unfold spec_ReadScheme.wp at h
  refine of_body Tryd.f44 F.hm Tryd.func44 rfl Tryd.call44 (by kernel_rfl) (by simp) ?_
  refine fi_seq ?_
  refine fi_region ?_
  refine sv_alloc hs F44.ze54 rfl nofun (fun id101 H102 hs => ?_)
  refine so_assign (v := (.v (.bool false))) rfl ?_
  refine so_nil ?_
  refine fi_seq ?_
  refine fi_region ?_
  refine so_move (v := (.v (.str (pk a0)))) rfl ?_
  refine sv_call (spec_l08ReadScheme_ok a0 hs  _ h) rfl rfl nofun ?_
  clear h hs
  rintro _ H109 ⟨y104, y107, y108, h, v105, rfl, hs⟩
  refine so_extract rfl rfl rfl ?_
  refine so_extract rfl rfl rfl ?_
  refine sv_st hs 1 rfl rfl rfl (c := [v105, (.flt .f32 y107)]) rfl F44.sz54 rfl (stc (hs.shows 0 rfl).stor (stc rfl stn)) (leb rfl) (cs' := [v105, (.flt .f32 y107)]) rfl nofun (fun H110 hs => ?_)
  refine so_assign (v := (.v (.bool y108))) rfl ?_
  refine so_nil ?_
  exact by_ret (res_mk (ar_cells rfl F44.ag54 F44.sz54 (hs.lds 1 rfl (leb rfl) rfl) (ar_tmp rfl ar_nil)) rfl) ⟨_, _, _, h, _, rfl, (Sep.del 1 hs)⟩

end Go.Proofs.YtcgiboeilcdonaaDoor.G

namespace Go.Proofs.YtcgiboeilcdonaaDoor.G
open Go Go.Ab Go.Proofs Go.Proofs.YtcgiboeilcdonaaDoor
set_option maxRecDepth 100000
set_option linter.unusedVariables false
set_option linter.unusedSimpArgs false
set_option maxHeartbeats 1000000
attribute [local irreducible] wops wopf Go.Ab.Fin
theorem internal_stringslite_Index_ok {fr : List Pc} {H : Heap} (a0 : List UInt8) (a1 : List UInt8) (hs : Sep H fr) (K : Int → Prop) (h : internal_stringslite_Index.wp a0 a1 K) : OkQ Tryd.prog 126 [.v (.str (pk a0)), .v (.str (pk a1))] H (fun r H2 => ∃ (y0 : Int), K y0 ∧ r = (.v (.int .i64 y0)) ∧ H = H2) := by
  obtain ⟨c, rfl, h⟩ := h
  exact ⟨.v (.int .i64 (Lib.indexByte a0 c)), _, ok_lib [.string (pk a0), .string (pk [c])] (.int .i64 (Lib.indexByte a0 c)) Tryd.call126 (args_ss _ _) (fun β => rfl) (fun w => Any.stringslite_Index_one Tryd.lays219 (pk a0) c w), _, h, rfl, rfl⟩

end Go.Proofs.YtcgiboeilcdonaaDoor.G

namespace Go.Proofs.YtcgiboeilcdonaaDoor.G
open Go Go.Ab Go.Proofs Go.Proofs.YtcgiboeilcdonaaDoor
set_option maxRecDepth 100000
set_option linter.unusedVariables false
set_option linter.unusedSimpArgs false
set_option maxHeartbeats 1000000
attribute [local irreducible] wops wopf Go.Ab.Fin
theorem F108.sr9 : tstr Tryd.prog 9 = true := by kernel_rfl
theorem internal_stringslite_Cut_ok {fr : List Pc} {H : Heap} (a0 : List UInt8) (a1 : List UInt8) (hs : Sep H (fr))  (K : (List UInt8) → (List UInt8) → Bool → Prop) (h : internal_stringslite_Cut.wp a0 a1 K) : OkQ Tryd.prog 108 [(.v (.str (pk a0))), (.v (.str (pk a1)))] H (fun r H2 => ∃ (y0 : List UInt8) (y1 : List UInt8) (y2 : Bool), K y0 y1 y2 ∧ r = (.t [(.v (.str (pk y0))), (.v (.str (pk y1))), (.v (.bool y2))]) ∧ H = H2) := by
  unfold internal_stringslite_Cut.wp at h
  refine of_body Tryd.f108 F.hm Tryd.func108 rfl Tryd.call108 (by kernel_rfl) (by simp) ?_
  refine fi_seq ?_
  refine fi_region ?_
  refine so_assign (v := (.v (.str (pk ([] : List UInt8))))) rfl ?_
  refine so_assign (v := (.v (.str (pk ([] : List UInt8))))) rfl ?_
  refine so_assign (v := (.v (.bool false))) rfl ?_
  refine so_nil ?_
  refine fi_seq ?_
  refine fi_seq ?_
  refine fi_region ?_
  refine so_move (v := (.v (.str (pk a0)))) rfl ?_
  refine so_move (v := (.v (.str (pk a1)))) rfl ?_
  refine sv_callS (internal_stringslite_Index_ok a0 a1 hs  _ h) (fun _ _ ⟨_, _, _, e⟩ => e) rfl rfl ?_
  clear h
  rintro _ _ ⟨y101, h, rfl, rfl⟩
  refine so_assign (v := (.v (.int .i64 y101))) rfl ?_
  refine so_nil ?_
  refine fi_seq ?_
  refine fi_region ?_
  refine so_move (v := (.v (.int .i64 y101))) rfl ?_
  refine so_bin rfl rfl ab_geq ?_
  refine so_nil ?_
  replace h := ofP h; rcases h with ⟨c103, h⟩ | ⟨c103, h⟩
  · refine fi_true rfl (decide_eq_true c103) ?_
    refine fi_seq ?_
    refine fi_region ?_
    refine so_move (v := (.v (.str (pk a0)))) rfl ?_
    refine so_move (v := (.v (.int .i64 y101))) rfl ?_
    obtain ⟨c104, h⟩ := h
    refine so_sslice rfl rfl rfl F108.sr9 rfl rfl c104 ?_
    refine so_move (v := (.v (.str (pk a0)))) rfl ?_
    refine so_move (v := (.v (.int .i64 y101))) rfl ?_
    refine so_move (v := (.v (.str (pk a1)))) rfl ?_
    refine so_slen rfl F108.sr9 ?_
    refine so_bin rfl rfl ab_add ?_
    obtain ⟨c105, h⟩ := h
    refine so_sslice rfl rfl rfl F108.sr9 rfl rfl c105 ?_
    refine so_assign (v := (.v (.str (pk ((a0.drop ((0 : Int)).toNat).take ((y101).toNat - ((0 : Int)).toNat)))))) rfl ?_
    refine so_assign (v := (.v (.str (pk ((a0.drop ((IntKind.i64.wrap (y101 + (a1.length : Int)))).toNat).take (((a0.length : Int)).toNat - ((IntKind.i64.wrap (y101 + (a1.length : Int)))).toNat)))))) rfl ?_
    refine so_assign (v := (.v (.bool true))) rfl ?_
    refine so_nil ?_
    exact by_ret rfl ⟨_, _, _, h, rfl, rfl⟩
  · refine fi_false rfl (decide_eq_false c103) ?_
    refine fi_skip ?_
    refine fi_seq ?_
    refine fi_region ?_
    refine so_move (v := (.v (.str (pk a0)))) rfl ?_
    refine so_assign (v := (.v (.str (pk a0)))) rfl ?_
    refine so_assign (v := (.v (.str (pk ([] : List UInt8))))) rfl ?_
    refine so_assign (v := (.v (.bool false))) rfl ?_
    refine so_nil ?_
    exact by_ret rfl ⟨_, _, _, h, rfl, rfl⟩

end Go.Proofs.YtcgiboeilcdonaaDoor.G

namespace Go.Proofs.YtcgiboeilcdonaaDoor.G
open Go Go.Ab Go.Proofs Go.Proofs.YtcgiboeilcdonaaDoor
set_option maxRecDepth 100000
set_option linter.unusedVariables false
set_option linter.unusedSimpArgs false
set_option maxHeartbeats 1000000
attribute [local irreducible] wops wopf Go.Ab.Fin
theorem strings_Cut_ok {fr : List Pc} {H : Heap} (a0 : List UInt8) (a1 : List UInt8) (hs : Sep H (fr))  (K : (List UInt8) → (List UInt8) → Bool → Prop) (h : strings_Cut.wp a0 a1 K) : OkQ Tryd.prog 68 [(.v (.str (pk a0))), (.v (.str (pk a1)))] H (fun r H2 => ∃ (y0 : List UInt8) (y1 : List UInt8) (y2 : Bool), K y0 y1 y2 ∧ r = (.t [(.v (.str (pk y0))), (.v (.str (pk y1))), (.v (.bool y2))]) ∧ H = H2) := by
  unfold strings_Cut.wp at h
  refine of_body Tryd.f68 F.hm Tryd.func68 rfl Tryd.call68 (by kernel_rfl) (by simp) ?_
  refine fi_seq ?_
  refine fi_region ?_
  refine so_assign (v := (.v (.str (pk ([] : List UInt8))))) rfl ?_
  refine so_assign (v := (.v (.str (pk ([] : List UInt8))))) rfl ?_
  refine so_assign (v := (.v (.bool false))) rfl ?_
  refine so_nil ?_
  refine fi_seq ?_
  refine fi_region ?_
  refine so_move (v := (.v (.str (pk a0)))) rfl ?_
  refine so_move (v := (.v (.str (pk a1)))) rfl ?_
  refine sv_callS (internal_stringslite_Cut_ok a0 a1 hs  _ h) (fun _ _ ⟨_, _, _, _, _, e⟩ => e) rfl rfl ?_
  clear h
  rintro _ _ ⟨y101, y102, y103, h, rfl, rfl⟩
  refine so_extract rfl rfl rfl ?_
  refine so_extract rfl rfl rfl ?_
  refine so_extract rfl rfl rfl ?_
  refine so_assign (v := (.v (.str (pk y101)))) rfl ?_
  refine so_assign (v := (.v (.str (pk y102)))) rfl ?_
  refine so_assign (v := (.v (.bool y103))) rfl ?_
  refine so_nil ?_
  exact by_ret rfl ⟨_, _, _, h, rfl, rfl⟩

end Go.Proofs.YtcgiboeilcdonaaDoor.G

namespace Go.Proofs.YtcgiboeilcdonaaDoor.G
open Go Go.Ab Go.Proofs Go.Proofs.YtcgiboeilcdonaaDoor
set_option maxRecDepth 100000
set_option linter.unusedVariables false
set_option linter.unusedSimpArgs false
set_option maxHeartbeats 1000000
attribute [local irreducible] wops wopf Go.Ab.Fin
theorem impl_IsFinite_ok {fr : List Pc} {H : Heap} (a0 : Nat) (hs : Sep H (fr))  (K : Bool → Prop) (h : impl_IsFinite.wp a0 K) : OkQ Tryd.prog 135 [(.v (.flt .f32 a0))] H (fun r H2 => ∃ (y0 : Bool), K y0 ∧ r = (.v (.bool y0)) ∧ H = H2) := by
  unfold impl_IsFinite.wp at h
  refine of_body Tryd.f135 F.hm Tryd.func135 rfl Tryd.call135 (by kernel_rfl) (by simp) ?_
  refine fi_seq ?_
  refine fi_region ?_
  refine so_assign (v := (.v (.bool false))) rfl ?_
  refine so_nil ?_
  refine fi_seq ?_
  refine fi_region ?_
  refine so_move (v := (.v (.flt .f32 a0))) rfl ?_
  refine so_move (v := (.v (.flt .f32 a0))) rfl ?_
  refine so_bin rfl rfl ab_fsub ?_
  refine so_bin rfl rfl ab_feql ?_
  refine so_assign (v := (.v (.bool (fcmp .eql .f32 (fop .sub .f32 a0 a0) (cz .f32 0))))) rfl ?_
  refine so_nil ?_
  exact by_ret rfl ⟨_, h, rfl, rfl⟩

end Go.Proofs.YtcgiboeilcdonaaDoor.G

namespace Go.Proofs.YtcgiboeilcdonaaDoor.G
open Go Go.Ab Go.Proofs Go.Proofs.YtcgiboeilcdonaaDoor
set_option maxRecDepth 100000
set_option linter.unusedVariables false
set_option linter.unusedSimpArgs false
set_option maxHeartbeats 1000000
attribute [local irreducible] wops wopf Go.Ab.Fin
theorem F113.ag48 : tagg Tryd.prog 48 = some false := by kernel_rfl
theorem F113.ag49 : tagg Tryd.prog 49 = some false := by kernel_rfl
theorem F113.ti157 : (telem Tryd.prog 157).isSome = true := by kernel_rfl
theorem F113.ti48 : (telem Tryd.prog 48).isSome = true := by kernel_rfl
theorem F113.tl157 : (telem Tryd.prog 157).bind (tsz Tryd.prog) = some 1 := by kernel_rfl
theorem F113.tl48 : (telem Tryd.prog 48).bind (tsz Tryd.prog) = some 1 := by kernel_rfl
theorem impl_areFinite_ok {fr : List Pc} {H : Heap} (v0 : AV) (w0 : List (List AV)) (l0 : List (List (Nat))) (hs : Sep H (fr)) (g0 : ∀ H, Sep H fr → DSh H v0 1 R_LeFlt_f32_o l0 w0) (K : Bool → Prop) (h : impl_areFinite.wp l0 K) : OkQ Tryd.prog 113 [(.v v0)] H (fun r H2 => ∃ (y0 : Bool), K y0 ∧ r = (.v (.bool y0)) ∧ H = H2) := by
  unfold impl_areFinite.wp at h
  refine of_body Tryd.f113 F.hm Tryd.func113 rfl Tryd.call113 (by kernel_rfl) (by simp) ?_
  refine fi_seq ?_
  refine fi_region ?_
  refine so_assign (v := (.v (.bool false))) rfl ?_
  refine so_nil ?_
  refine fi_seq ?_
  refine fi_seq ?_
  refine fi_region ?_
  refine so_move (v := (.v v0)) rfl ?_
  refine sd_len ((g0 _ hs) : DSh _ _ 1 R_LeFlt_f32_o l0 w0) (by decide) rfl F113.ti157 ?_
  refine so_move (v := (.v (.int .i64 (0 : Int)))) rfl ?_
  refine so_nil ?_
  refine fi_block ?_
  refine fi_loop ?_
  refine fi_at [(7, (.v v0)), (8, (.v (.int .i64 (l0.length : Int)))), (9, (.v (.int .i64 (0 : Int))))] ⟨rfl, rfl, rfl, trivial⟩ ?_
  refine h (fun (x102 : Int) => ∀ (s : Nat → TV), Fin _ _ (updL s [(7, (.v v0)), (8, (.v (.int .i64 (l0.length : Int)))), (9, (.v (.int .i64 x102)))]) _ _) ?_ _
  intro x102 h s114
  refine fi_inLoop ?_
  refine fi_seq ?_
  refine fi_region ?_
  refine so_bin rfl rfl ab_lss ?_
  refine so_nil ?_
  refine fi_seq ?_
  replace h := ofP h; rcases h with ⟨c103, h⟩ | ⟨c103, h⟩
  · refine fi_true rfl (decide_eq_true c103) ?_
    refine fi_skip ?_
    refine fi_seq ?_
    refine fi_block ?_
    refine fi_seq ?_
    refine fi_region ?_
    obtain ⟨c104, h⟩ := h
    refine sd_idx ((g0 _ hs) : DSh _ _ 1 R_LeFlt_f32_o l0 w0) c104 ([] : List (Nat)) (by decide) rfl rfl F113.tl157 ?_
    refine su_ld ((((g0 _ hs) : DSh _ _ 1 R_LeFlt_f32_o l0 w0)).at (by decide) c104 ([] : List (Nat))).2.2 0 (congrArg (fun c => c[0]?) ((((g0 _ hs) : DSh _ _ 1 R_LeFlt_f32_o l0 w0)).at (by decide) c104 ([] : List (Nat))).2.1.1) rfl F113.ag48 ?_
    refine so_assign (v := (.v ((w0.getD (x102).toNat []).getD 0 .und))) rfl ?_
    refine so_nil ?_
    refine fi_seq ?_
    refine fi_region ?_
    refine so_move (v := (.v ((w0.getD (x102).toNat []).getD 0 .und))) rfl ?_
    refine sv_len ((((g0 _ hs) : DSh _ _ 1 R_LeFlt_f32_o l0 w0)).at (by decide) c104 ([] : List (Nat))).2.1.2 (fun _ => rfl) (by decide) rfl F113.ti48 ?_
    refine so_move (v := (.v (.int .i64 (0 : Int)))) rfl ?_
    refine so_nil ?_
    refine fi_block ?_
    refine fi_loop ?_
    refine fi_at [(7, (.v v0)), (8, (.v (.int .i64 (l0.length : Int)))), (9, (.v (.int .i64 x102))), (13, (.v ((w0.getD (x102).toNat []).getD 0 .und))), (14, (.v (.int .i64 ((l0.getD (x102).toNat ([] : List (Nat))).length : Int)))), (15, (.v (.int .i64 (0 : Int))))] ⟨rfl, rfl, rfl, rfl, rfl, rfl, trivial⟩ ?_
    refine h (fun (x106 : Int) => ∀ (s : Nat → TV), Fin _ _ (updL s [(7, (.v v0)), (8, (.v (.int .i64 (l0.length : Int)))), (9, (.v (.int .i64 x102))), (13, (.v ((w0.getD (x102).toNat []).getD 0 .und))), (14, (.v (.int .i64 ((l0.getD (x102).toNat ([] : List (Nat))).length : Int)))), (15, (.v (.int .i64 x106)))]) _ _) ?_ _
    intro x106 h s112
    refine fi_inLoop ?_
    refine fi_seq ?_
    refine fi_region ?_
    refine so_bin rfl rfl ab_lss ?_
    refine so_nil ?_
    refine fi_seq ?_
    replace h := ofP h; rcases h with ⟨c107, h⟩ | ⟨c107, h⟩
    · refine fi_true rfl (decide_eq_true c107) ?_
      refine fi_skip ?_
      refine fi_seq ?_
      refine fi_block ?_
      refine fi_seq ?_
      refine fi_region ?_
      obtain ⟨c108, h⟩ := h
      refine sv_idx ((((g0 _ hs) : DSh _ _ 1 R_LeFlt_f32_o l0 w0)).at (by decide) c104 ([] : List (Nat))).2.1.2 c108 (fun _ => rfl) (by decide) rfl rfl F113.tl48 ?_
      refine sv_cell ((((g0 _ hs) : DSh _ _ 1 R_LeFlt_f32_o l0 w0)).at (by decide) c104 ([] : List (Nat))).2.1.2 c108 (0 : Nat) 0 (fun x => (AV.flt .f32 x)) (fun _ => rfl) (fun _ => rfl) rfl F113.ag49 ?_
      refine so_assign (v := (.v (.flt .f32 ((l0.getD (x102).toNat ([] : List (Nat))).getD (x106).toNat (0 : Nat))))) rfl ?_
      refine so_nil ?_
      refine fi_seq ?_
      refine fi_region ?_
      refine so_move (v := (.v (.flt .f32 ((l0.getD (x102).toNat ([] : List (Nat))).getD (x106).toNat (0 : Nat))))) rfl ?_
      refine sv_callS (impl_IsFinite_ok ((l0.getD (x102).toNat ([] : List (Nat))).getD (x106).toNat (0 : Nat)) hs  _ h) (fun _ _ ⟨_, _, _, e⟩ => e) rfl rfl ?_
      clear h
      rintro _ _ ⟨y109, h, rfl, rfl⟩
      refine so_un rfl au_not ?_
      refine so_nil ?_
      replace h := ofT h; rcases h with ⟨c111, h⟩ | ⟨c111, h⟩
      · refine fi_false rfl (not_f c111) ?_
        refine fi_skip ?_
        refine fi_inBlock ?_
        refine fi_region ?_
        refine so_bin rfl rfl ab_add ?_
        refine so_move (v := (.v (.int .i64 (IntKind.i64.wrap (x106 + (1 : Int)))))) rfl ?_
        refine so_nil ?_
        exact fi_at [(7, (.v v0)), (8, (.v (.int .i64 (l0.length : Int)))), (9, (.v (.int .i64 x102))), (13, (.v ((w0.getD (x102).toNat []).getD 0 .und))), (14, (.v (.int .i64 ((l0.getD (x102).toNat ([] : List (Nat))).length : Int)))), (15, (.v (.int .i64 (IntKind.i64.wrap (x106 + (1 : Int))))))] ⟨rfl, rfl, rfl, rfl, rfl, rfl, trivial⟩ (h _)
      · refine fi_true rfl (not_t c111) ?_
        refine fi_seq ?_
        refine fi_region ?_
        refine so_assign (v := (.v (.bool false))) rfl ?_
        refine so_nil ?_
        exact by_ret rfl ⟨_, h, rfl, rfl⟩
    · refine fi_false rfl (decide_eq_false c107) ?_
      refine fi_exit rfl ?_
      refine fi_inBlock ?_
      refine fi_region ?_
      refine so_bin rfl rfl ab_add ?_
      refine so_move (v := (.v (.int .i64 (IntKind.i64.wrap (x102 + (1 : Int)))))) rfl ?_
      refine so_nil ?_
      exact fi_at [(7, (.v v0)), (8, (.v (.int .i64 (l0.length : Int)))), (9, (.v (.int .i64 (IntKind.i64.wrap (x102 + (1 : Int))))))] ⟨rfl, rfl, rfl, trivial⟩ (h _)
  · refine fi_false rfl (decide_eq_false c103) ?_
    refine fi_exit rfl ?_
    refine fi_seq ?_
    refine fi_region ?_
    refine so_assign (v := (.v (.bool true))) rfl ?_
    refine so_nil ?_
    exact by_ret rfl ⟨_, h, rfl, rfl⟩

end Go.Proofs.YtcgiboeilcdonaaDoor.G

namespace Go.Proofs.YtcgiboeilcdonaaDoor.G
open Go Go.Ab Go.Proofs Go.Proofs.YtcgiboeilcdonaaDoor
set_option maxRecDepth 100000
set_option linter.unusedVariables false
set_option linter.unusedSimpArgs false
set_option maxHeartbeats 1000000
attribute [local irreducible] wops wopf Go.Ab.Fin
theorem impl_isOver_ok {fr : List Pc} {H : Heap} (a0 : Nat) (hs : Sep H (fr))  (K : Bool → Prop) (h : impl_isOver.wp a0 K) : OkQ Tryd.prog 114 [(.v (.flt .f32 a0))] H (fun r H2 => ∃ (y0 : Bool), K y0 ∧ r = (.v (.bool y0)) ∧ H = H2) := by
  unfold impl_isOver.wp at h
  refine of_body Tryd.f114 F.hm Tryd.func114 rfl Tryd.call114 (by kernel_rfl) (by simp) ?_
  refine fi_seq ?_
  refine fi_region ?_
  refine so_assign (v := (.v (.bool false))) rfl ?_
  refine so_nil ?_
  refine fi_seq ?_
  refine fi_region ?_
  refine so_move (v := (.v (.flt .f32 a0))) rfl ?_
  refine sv_callS (impl_IsFinite_ok a0 hs  _ h) (fun _ _ ⟨_, _, _, e⟩ => e) rfl rfl ?_
  clear h
  rintro _ _ ⟨y101, h, rfl, rfl⟩
  refine so_move (v := (.v (.bool y101))) rfl ?_
  replace h := ofT h; rcases h with ⟨c103, h⟩ | ⟨c103, h⟩
  · refine so_gyes rfl c103 ?_
    refine so_move (v := (.v (.flt .f32 a0))) rfl ?_
    refine so_gyes rfl c103 ?_
    refine so_bin rfl rfl ab_fgtr ?_
    refine so_pick_t (v := (.v (.bool (fcmp .gtr .f32 a0 (cz .f32 0))))) rfl c103 rfl ?_
    refine so_assign (v := (.v (.bool (fcmp .gtr .f32 a0 (cz .f32 0))))) rfl ?_
    refine so_nil ?_
    exact by_ret rfl ⟨_, h, rfl, rfl⟩
  · refine so_gno rfl c103 ?_
    refine so_gno rfl c103 ?_
    refine so_pick_f (v := (.v (.bool false))) rfl c103 rfl ?_
    refine so_assign (v := (.v (.bool false))) rfl ?_
    refine so_nil ?_
    exact by_ret rfl ⟨_, h, rfl, rfl⟩

end Go.Proofs.YtcgiboeilcdonaaDoor.G

namespace Go.Proofs.YtcgiboeilcdonaaDoor.G
open Go Go.Ab Go.Proofs Go.Proofs.YtcgiboeilcdonaaDoor
set_option maxRecDepth 100000
set_option linter.unusedVariables false
set_option linter.unusedSimpArgs false
set_option maxHeartbeats 1000000
attribute [local irreducible] wops wopf Go.Ab.Fin
theorem impl_within_ok {fr : List Pc} {H : Heap} (a0 : Int) (a1 : Int) (a2 : Int) (hs : Sep H (fr))  (K : Bool → Prop) (h : impl_within.wp a0 a1 a2 K) : OkQ Tryd.prog 96 [(.v (.int .i64 a0)), (.v (.int .i64 a1)), (.v (.int .i64 a2))] H (fun r H2 => ∃ (y0 : Bool), K y0 ∧ r = (.v (.bool y0)) ∧ H = H2) := by
  unfold impl_within.wp at h
  refine of_body Tryd.f96 F.hm Tryd.func96 rfl Tryd.call96 (by kernel_rfl) (by simp) ?_
  refine fi_seq ?_
  refine fi_region ?_
  refine so_assign (v := (.v (.bool false))) rfl ?_
  refine so_nil ?_
  refine fi_seq ?_
  refine fi_region ?_
  refine so_move (v := (.v (.int .i64 a0))) rfl ?_
  refine so_move (v := (.v (.int .i64 a1))) rfl ?_
  refine so_bin rfl rfl ab_geq ?_
  refine so_move (v := (.v (.bool (decide (a1 ≤ a0))))) rfl ?_
  replace h := ofP h; rcases h with ⟨c101, h⟩ | ⟨c101, h⟩
  · refine so_gyes rfl (decide_eq_true c101) ?_
    refine so_move (v := (.v (.int .i64 a0))) rfl ?_
    refine so_gyes rfl (decide_eq_true c101) ?_
    refine so_move (v := (.v (.int .i64 a2))) rfl ?_
    refine so_gyes rfl (decide_eq_true c101) ?_
    refine so_bin rfl rfl ab_leq ?_
    refine so_pick_t (v := (.v (.bool (decide (a0 ≤ a2))))) rfl (decide_eq_true c101) rfl ?_
    refine so_assign (v := (.v (.bool (decide (a0 ≤ a2))))) rfl ?_
    refine so_nil ?_
    exact by_ret rfl ⟨_, h, rfl, rfl⟩
  · refine so_gno rfl (decide_eq_false c101) ?_
    refine so_gno rfl (decide_eq_false c101) ?_
    refine so_gno rfl (decide_eq_false c101) ?_
    refine so_pick_f (v := (.v (.bool false))) rfl (decide_eq_false c101) rfl ?_
    refine so_assign (v := (.v (.bool false))) rfl ?_
    refine so_nil ?_
    exact by_ret rfl ⟨_, h, rfl, rfl⟩

end Go.Proofs.YtcgiboeilcdonaaDoor.G

namespace Go.Proofs.YtcgiboeilcdonaaDoor.G
open Go Go.Ab Go.Proofs Go.Proofs.YtcgiboeilcdonaaDoor
set_option maxRecDepth 100000
set_option linter.unusedVariables false
set_option linter.unusedSimpArgs false
set_option maxHeartbeats 1000000
attribute [local irreducible] wops wopf Go.Ab.Fin
theorem F74.ag48 : tagg Tryd.prog 48 = some false := by kernel_rfl
theorem F74.ag49 : tagg Tryd.prog 49 = some false := by kernel_rfl
theorem F74.fd54_0 : tfield Tryd.prog 54 0 = some (0, 1, false) := by kernel_rfl
theorem F74.fd54_1 : tfield Tryd.prog 54 1 = some (1, 1, false) := by kernel_rfl
theorem F74.inf54 : (Tryd.prog.info? 54).isSome = true := by kernel_rfl
theorem F74.sz48 : tsz Tryd.prog 48 = some 1 := by kernel_rfl
theorem F74.te157 : telem Tryd.prog 157 = some 48 := by kernel_rfl
theorem F74.ti48 : (telem Tryd.prog 48).isSome = true := by kernel_rfl
theorem F74.ze48 : tzero Tryd.prog 48 = some [.nilsl] := by kernel_rfl
theorem impl_ValidScheme_ok {fr : List Pc} {H : Heap} (v0 : AV) (l0 : List (Nat)) (a1 : Nat) (hs : Sep H (fr)) (g0 : ∀ H, Sep H fr → Shows H v0 1 (enc (eFlt .f32) l0)) (K : Bool → Prop) (h : impl_ValidScheme.wp l0 a1 K) : OkQ Tryd.prog 74 [(.g [v0, (.flt .f32 a1)])] H (fun r H2 => ∃ (y0 : Bool), K y0 ∧ r = (.v (.bool y0)) ∧ Sep H2 (fr)) := by
  unfold impl_ValidScheme.wp at h
  refine of_body Tryd.f74 F.hm Tryd.func74 rfl Tryd.call74 (by kernel_rfl) (by simp) ?_
  refine fi_seq ?_
  refine fi_region ?_
  refine sv_box hs rfl (c := [v0, (.flt .f32 a1)]) rfl F74.inf54 (stc (g0 _ hs).stor (stc rfl stn)) nofun (fun id101 H102 hs => ?_)
  refine so_assign (v := (.v (.bool false))) rfl ?_
  refine so_nil ?_
  refine fi_seq ?_
  refine fi_region ?_
  refine so_fieldAddr rfl F74.fd54_0 ?_
  refine sv_ld hs 0 rfl rfl rfl F74.ag48 ?_
  refine sv_len (g0 _ hs.tl) (fun _ => rfl) (by decide) rfl F74.ti48 ?_
  refine sv_callS (impl_within_ok (l0.length : Int) (1 : Int) (8 : Int) hs  _ h) (fun _ _ ⟨_, _, _, e⟩ => e) rfl rfl ?_
  clear h
  rintro _ _ ⟨y104, h, rfl, rfl⟩
  refine so_move (v := (.v (.bool y104))) rfl ?_
  replace h := ofT h; rcases h with ⟨c106, h⟩ | ⟨c106, h⟩
  · refine so_gyes rfl c106 ?_
    refine so_fieldAddr rfl F74.fd54_0 ?_
    refine so_gyes rfl c106 ?_
    refine sv_ld hs 0 rfl rfl rfl F74.ag48 ?_
    refine so_gyes rfl c106 ?_
    refine sd_bslice hs [[v0]] F74.te157 F74.sz48 F74.ze48 rfl rfl rfl (by simp) (fac (stc (g0 _ hs.tl).stor stn) fan) (by decide) rfl nofun (fun v107 H108 _ hs => ?_)
    refine so_gyes rfl c106 ?_
    refine sv_callS (impl_areFinite_ok v107 ([[v0]]) ([l0] : List (List (Nat))) hs (fun _ hs => ⟨hs.shows 0 rfl, by simp, ⟨⟨rfl, (g0 _ hs.tl.tl)⟩, trivial⟩⟩) _ h) (fun _ _ ⟨_, _, _, e⟩ => e) rfl rfl ?_
    clear h
    rintro _ _ ⟨y110, h, rfl, rfl⟩
    refine so_pick_t (v := (.v (.bool y110))) rfl c106 rfl ?_
    refine so_move (v := (.v (.bool y110))) rfl ?_
    replace h := ofT h; rcases h with ⟨c112, h⟩ | ⟨c112, h⟩
    · refine so_gyes rfl c112 ?_
      refine so_fieldAddr rfl F74.fd54_1 ?_
      refine so_gyes rfl c112 ?_
      refine sv_ld hs 1 rfl rfl rfl F74.ag49 ?_
      refine so_gyes rfl c112 ?_
      refine sv_callS (impl_isOver_ok a1 hs  _ h) (fun _ _ ⟨_, _, _, e⟩ => e) rfl rfl ?_
      clear h
      rintro _ _ ⟨y113, h, rfl, rfl⟩
      refine so_pick_t (v := (.v (.bool y113))) rfl c112 rfl ?_
      refine so_assign (v := (.v (.bool y113))) rfl ?_
      refine so_nil ?_
      exact by_ret rfl ⟨_, h, rfl, (Sep.del 0 (Sep.del 0 hs))⟩
    · refine so_gno rfl c112 ?_
      refine so_gno rfl c112 ?_
      refine so_gno rfl c112 ?_
      refine so_pick_f (v := (.v (.bool false))) rfl c112 rfl ?_
      refine so_assign (v := (.v (.bool false))) rfl ?_
      refine so_nil ?_
      exact by_ret rfl ⟨_, h, rfl, (Sep.del 0 (Sep.del 0 hs))⟩
  · refine so_gno rfl c106 ?_
    refine so_gno rfl c106 ?_
    refine so_gno rfl c106 ?_
    refine so_gno rfl c106 ?_
    refine so_pick_f (v := (.v (.bool false))) rfl c106 rfl ?_
    refine so_move (v := (.v (.bool false))) rfl ?_
    refine so_gno rfl rfl ?_
    refine so_gno rfl rfl ?_
    refine so_gno rfl rfl ?_
    refine so_pick_f (v := (.v (.bool false))) rfl rfl rfl ?_
    refine so_assign (v := (.v (.bool false))) rfl ?_
    refine so_nil ?_
    exact by_ret rfl ⟨_, h, rfl, (Sep.del 0 hs)⟩
theorem impl_ValidScheme_okS {fr : List Pc} {H : Heap} (v0 : AV) (l0 : List (Nat)) (a1 : Nat) (hs : Sep H fr) (g0 : ∀ H, Sep H fr → Shows H v0 1 (enc (eFlt .f32) l0)) (K : Bool → Prop) (h : impl_ValidScheme.wp l0 a1 K) : OkQ Tryd.prog 74 [(.g [v0, (.flt .f32 a1)])] H (fun r H2 => ∃ (y0 : Bool), K y0 ∧ r = (.v (.bool y0)) ∧ H = H2) := by
  obtain ⟨r, H2, h1, y0, hK, hr, hsep⟩ := impl_ValidScheme_ok (fr := came H) (H := H) v0 l0 a1 (came_sep H) (came_shows (g0 H hs)) K h
  have hk : H.n ≤ H2.n ∧ ∀ i, i < H.n → H2.f i = H.f i := hsep.1.2.1
  exact ⟨r, H, h1.forget hk.1 hk.2 (by subst hr; rfl), y0, hK, hr, rfl⟩

end Go.Proofs.YtcgiboeilcdonaaDoor.G

namespace Go.Proofs.YtcgiboeilcdonaaDoor.G
open Go Go.Ab Go.Proofs Go.Proofs.YtcgiboeilcdonaaDoor
set_option maxRecDepth 100000
set_option linter.unusedVariables false
set_option linter.unusedSimpArgs false
set_option maxHeartbeats 1000000
attribute [local irreducible] wops wopf Go.Ab.Fin
theorem strings_explode_ok {fr : List Pc} {H : Heap} (a0 : List UInt8) (a1 : Int) (hs : Sep H (fr))  (K : (List (List UInt8)) → Prop) (h : strings_explode.wp a0 a1 K) : OkQ Tryd.prog 175 [(.v (.str (pk a0))), (.v (.int .i64 a1))] H (fun r H2 => ∃ (y0 : List (List UInt8)), K y0 ∧ ∃ (w0_ : AV), r = (.v w0_) ∧ Sep H2 (Pc.osl w0_ 1 (enc eStr y0) :: fr)) := by
  unfold strings_explode.wp at h
  refine of_body Tryd.f175 F.hm Tryd.func175 rfl Tryd.call175 (by kernel_rfl) (by simp) ?_
  exact h.elim

end Go.Proofs.YtcgiboeilcdonaaDoor.G

namespace Go.Proofs.YtcgiboeilcdonaaDoor.G
open Go Go.Ab Go.Proofs Go.Proofs.YtcgiboeilcdonaaDoor
set_option maxRecDepth 100000
set_option linter.unusedVariables false
set_option linter.unusedSimpArgs false
set_option maxHeartbeats 1000000
attribute [local irreducible] wops wopf Go.Ab.Fin
theorem strings_Count_ok {fr : List Pc} {H : Heap} (a0 : List UInt8) (a1 : List UInt8) (hs : Sep H fr) (K : Int → Prop) (h : strings_Count.wp a0 a1 K) : OkQ Tryd.prog 176 [.v (.str (pk a0)), .v (.str (pk a1))] H (fun r H2 => ∃ (y0 : Int), K y0 ∧ r = (.v (.int .i64 y0)) ∧ H = H2) := by
  obtain ⟨c, rfl, h⟩ := h
  exact ⟨.v (.int .i64 ((Lib.countByte a0 c : Nat) : Int)), _, ok_lib [.string (pk a0), .string (pk [c])] (.int .i64 ((Lib.countByte a0 c : Nat) : Int)) Tryd.call176 (args_ss _ _) (fun β => rfl) (fun w => Any.strings_Count_one Tryd.lays138 (pk a0) c w), _, h, rfl, rfl⟩

end Go.Proofs.YtcgiboeilcdonaaDoor.G

namespace Go.Proofs.YtcgiboeilcdonaaDoor.G
open Go Go.Ab Go.Proofs Go.Proofs.YtcgiboeilcdonaaDoor
set_option maxRecDepth 100000
set_option linter.unusedVariables false
set_option linter.unusedSimpArgs false
set_option maxHeartbeats 1000000
attribute [local irreducible] wops wopf Go.Ab.Fin
theorem strings_Index_ok {fr : List Pc} {H : Heap} (a0 : List UInt8) (a1 : List UInt8) (hs : Sep H fr) (K : Int → Prop) (h : strings_Index.wp a0 a1 K) : OkQ Tryd.prog 95 [.v (.str (pk a0)), .v (.str (pk a1))] H (fun r H2 => ∃ (y0 : Int), K y0 ∧ r = (.v (.int .i64 y0)) ∧ H = H2) := by
  obtain ⟨c, rfl, h⟩ := h
  exact ⟨.v (.int .i64 (Lib.indexByte a0 c)), _, ok_lib [.string (pk a0), .string (pk [c])] (.int .i64 (Lib.indexByte a0 c)) Tryd.call95 (args_ss _ _) (fun β => rfl) (fun w => Any.strings_Index_one Tryd.lays143 (pk a0) c w), _, h, rfl, rfl⟩

end Go.Proofs.YtcgiboeilcdonaaDoor.G

namespace Go.Proofs.YtcgiboeilcdonaaDoor.G
open Go Go.Ab Go.Proofs Go.Proofs.YtcgiboeilcdonaaDoor
set_option maxRecDepth 100000
set_option linter.unusedVariables false
set_option linter.unusedSimpArgs false
set_option maxHeartbeats 1000000
attribute [local irreducible] wops wopf Go.Ab.Fin
theorem F160.by9 : tbytes Tryd.prog 9 = some 16 := by kernel_rfl
theorem F160.sr9 : tstr Tryd.prog 9 = true := by kernel_rfl
theorem F160.sz9 : tsz Tryd.prog 9 = some 1 := by kernel_rfl
theorem F160.te28 : telem Tryd.prog 28 = some 9 := by kernel_rfl
theorem F160.tl28 : (telem Tryd.prog 28).bind (tsz Tryd.prog) = some 1 := by kernel_rfl
theorem F160.ze9 : tzero Tryd.prog 9 = some [(.str (pk ([] : List UInt8)))] := by kernel_rfl
theorem strings_genSplit_ok {fr : List Pc} {H : Heap} (a0 : List UInt8) (a1 : List UInt8) (a2 : Int) (a3 : Int) (hs : Sep H (fr))  (K : (List (List UInt8)) → Prop) (h : strings_genSplit.wp a0 a1 a2 a3 K) : OkQ Tryd.prog 160 [(.v (.str (pk a0))), (.v (.str (pk a1))), (.v (.int .i64 a2)), (.v (.int .i64 a3))] H (fun r H2 => ∃ (y0 : List (List UInt8)), K y0 ∧ ∃ (w0_ : AV), r = (.v w0_) ∧ Sep H2 (rdp w0_ 1 (enc eStr y0) :: fr)) := by
  unfold strings_genSplit.wp at h
  refine of_body Tryd.f160 F.hm Tryd.func160 rfl Tryd.call160 (by kernel_rfl) (by simp) ?_
  refine fi_seq ?_
  refine fi_region ?_
  refine so_assign (v := (.v .nilsl)) rfl ?_
  refine so_nil ?_
  refine fi_seq ?_
  refine fi_seq ?_
  refine fi_region ?_
  refine so_move (v := (.v (.int .i64 a3))) rfl ?_
  refine so_bin rfl rfl ab_eql ?_
  refine so_nil ?_
  replace h := ofP h; rcases h with ⟨c101, h⟩ | ⟨c101, h⟩
  · refine fi_true rfl (decide_eq_true c101) ?_
    refine fi_seq ?_
    refine fi_region ?_
    refine so_assign (v := (.v .nilsl)) rfl ?_
    refine so_nil ?_
    exact by_ret rfl ⟨_, h, _, rfl, (Sep.tord (Sep.nil hs 1) (.inl ⟨rfl, rfl⟩) (fun _ h => h))⟩
  · refine fi_false rfl (decide_eq_false c101) ?_
    refine fi_skip ?_
    refine fi_seq ?_
    refine fi_seq ?_
    refine fi_region ?_
    refine so_move (v := (.v (.str (pk a1)))) rfl ?_
    refine so_bin rfl rfl ab_seql ?_
    refine so_nil ?_
    replace h := ofP h; rcases h with ⟨c102, h⟩ | ⟨c102, h⟩
    · refine fi_true rfl (decide_eq_true c102) ?_
      refine fi_seq ?_
      refine fi_region ?_
      refine so_move (v := (.v (.str (pk a0)))) rfl ?_
      refine so_move (v := (.v (.int .i64 a3))) rfl ?_
      refine sv_call (strings_explode_ok a0 a3 hs  _ h) rfl rfl nofun ?_
      clear h hs
      rintro _ H106 ⟨y103, h, v104, rfl, hs⟩
      refine so_assign (v := (.v v104)) rfl ?_
      refine so_nil ?_
      exact by_ret rfl ⟨_, h, _, rfl, (Sep.tord hs (hs.shows 0 rfl) (fun _ h => h))⟩
    · refine fi_false rfl (decide_eq_false c102) ?_
      refine fi_skip ?_
      refine fi_seq ?_
      refine fi_seq ?_
      refine fi_region ?_
      refine so_move (v := (.v (.int .i64 a3))) rfl ?_
      refine so_bin rfl rfl ab_lss ?_
      refine so_nil ?_
      replace h := ofP h; rcases h with ⟨c107, h⟩ | ⟨c107, h⟩
      · refine fi_true rfl (decide_eq_true c107) ?_
        refine fi_region ?_
        refine so_move (v := (.v (.str (pk a0)))) rfl ?_
        refine so_move (v := (.v (.str (pk a1)))) rfl ?_
        refine sv_callS (strings_Count_ok a0 a1 hs  _ h) (fun _ _ ⟨_, _, _, e⟩ => e) rfl rfl ?_
        clear h
        rintro _ _ ⟨y108, h, rfl, rfl⟩
        refine so_bin rfl rfl ab_add ?_
        refine so_assign (v := (.v (.int .i64 (IntKind.i64.wrap (y108 + (1 : Int)))))) rfl ?_
        refine so_nil ?_
        refine fi_seq ?_
        refine fi_region ?_
        refine so_move (v := (.v (.int .i64 (IntKind.i64.wrap (y108 + (1 : Int)))))) rfl ?_
        refine so_move (v := (.v (.str (pk a0)))) rfl ?_
        refine so_slen rfl F160.sr9 ?_
        refine so_bin rfl rfl ab_add ?_
        refine sv_min rfl rfl ?_
        refine so_assign (v := (.v (.int .i64 (mnI (IntKind.i64.wrap (y108 + (1 : Int))) (IntKind.i64.wrap ((a0.length : Int) + (1 : Int))))))) rfl ?_
        refine so_nil ?_
        refine fi_seq ?_
        refine fi_region ?_
        refine so_move (v := (.v (.int .i64 (mnI (IntKind.i64.wrap (y108 + (1 : Int))) (IntKind.i64.wrap ((a0.length : Int) + (1 : Int))))))) rfl ?_
        obtain ⟨c110, h⟩ := h
        refine sv_make hs eStr ([] : List UInt8) c110 (fun _ => rfl) rfl rfl F160.te28 F160.sz9 F160.by9 F160.ze9 rfl rfl nofun (fun v111 H112 nv111 hs => ?_)
        refine so_assign (v := (.v v111)) rfl ?_
        refine so_nil ?_
        refine fi_seq ?_
        refine fi_region ?_
        refine so_move (v := (.v (.int .i64 (mnI (IntKind.i64.wrap (y108 + (1 : Int))) (IntKind.i64.wrap ((a0.length : Int) + (1 : Int))))))) rfl ?_
        refine so_bin rfl rfl ab_sub ?_
        refine so_assign (v := (.v (.int .i64 (IntKind.i64.wrap ((mnI (IntKind.i64.wrap (y108 + (1 : Int))) (IntKind.i64.wrap ((a0.length : Int) + (1 : Int)))) - (1 : Int)))))) rfl ?_
        refine so_nil ?_
        refine fi_seq ?_
        refine fi_region ?_
        refine so_assign (v := (.v (.int .i64 (0 : Int)))) rfl ?_
        refine so_nil ?_
        refine fi_seq ?_
        refine fi_block ?_
        refine fi_loop ?_
        refine fi_at [(0, (.v (.str (pk a0)))), (1, (.v (.str (pk a1)))), (2, (.v (.int .i64 a2))), (3, (.v (.int .i64 (IntKind.i64.wrap ((mnI (IntKind.i64.wrap (y108 + (1 : Int))) (IntKind.i64.wrap ((a0.length : Int) + (1 : Int)))) - (1 : Int)))))), (9, (.v v111)), (10, (.v (.int .i64 (0 : Int))))] ⟨rfl, rfl, rfl, rfl, rfl, rfl, trivial⟩ ?_
        refine h (fun (a132 : List (List UInt8)) (sq133 : List UInt8) (i134 : Int) => ∀ (s : Nat → TV) (H : Heap), Sep H (Pc.osl v111 1 (enc eStr a132) :: fr) → Fin _ _ (updL s [(0, (.v (.str (pk sq133)))), (1, (.v (.str (pk a1)))), (2, (.v (.int .i64 a2))), (3, (.v (.int .i64 (IntKind.i64.wrap ((mnI (IntKind.i64.wrap (y108 + (1 : Int))) (IntKind.i64.wrap ((a0.length : Int) + (1 : Int)))) - (1 : Int)))))), (9, (.v v111)), (10, (.v (.int .i64 i134)))]) H _) ?_ _ _ hs
        intro a132 sq133 i134 h s149 H150 hs
        refine fi_inLoop ?_
        refine fi_seq ?_
        refine fi_seq ?_
        refine fi_region ?_
        refine so_move (v := (.v (.int .i64 i134))) rfl ?_
        refine so_move (v := (.v (.int .i64 (IntKind.i64.wrap ((mnI (IntKind.i64.wrap (y108 + (1 : Int))) (IntKind.i64.wrap ((a0.length : Int) + (1 : Int)))) - (1 : Int)))))) rfl ?_
        refine so_bin rfl rfl ab_lss ?_
        refine so_nil ?_
        replace h := ofP h; rcases h with ⟨c135, h⟩ | ⟨c135, h⟩
        · refine fi_true rfl (decide_eq_true c135) ?_
          refine fi_skip ?_
          refine fi_block ?_
          refine fi_seq ?_
          refine fi_region ?_
          refine so_move (v := (.v (.str (pk sq133)))) rfl ?_
          refine so_move (v := (.v (.str (pk a1)))) rfl ?_
          refine sv_callS (strings_Index_ok sq133 a1 hs  _ h) (fun _ _ ⟨_, _, _, e⟩ => e) rfl rfl ?_
          clear h
          rintro _ _ ⟨y136, h, rfl, rfl⟩
          refine so_assign (v := (.v (.int .i64 y136))) rfl ?_
          refine so_nil ?_
          refine fi_seq ?_
          refine fi_seq ?_
          refine fi_region ?_
          refine so_move (v := (.v (.int .i64 y136))) rfl ?_
          refine so_bin rfl rfl ab_lss ?_
          refine so_nil ?_
          replace h := ofP h; rcases h with ⟨c138, h⟩ | ⟨c138, h⟩
          · refine fi_true rfl (decide_eq_true c138) ?_
            refine fi_exit rfl ?_
            refine fi_seq ?_
            refine fi_region ?_
            refine so_move (v := (.v v111)) rfl ?_
            refine so_move (v := (.v (.int .i64 i134))) rfl ?_
            refine so_move (v := (.v (.str (pk sq133)))) rfl ?_
            obtain ⟨c139, h⟩ := h
            refine sv_idx (hs.shows 0 rfl) c139 (fun _ => rfl) (by decide) rfl rfl F160.tl28 ?_
            refine sv_set hs 0 rfl c139 sq133 (fun _ => rfl) (by decide) rfl rfl rfl rfl F160.sz9 nofun (fun H140 hs => ?_)
            refine so_nil ?_
            refine fi_seq ?_
            refine fi_region ?_
            refine so_move (v := (.v v111)) rfl ?_
            refine so_move (v := (.v (.int .i64 i134))) rfl ?_
            refine so_bin rfl rfl ab_add ?_
            obtain ⟨c141, h⟩ := h
            refine sv_slice (hs.shows 0 rfl) c141 (fun _ => rfl) (by decide) rfl rfl rfl rfl rfl F160.tl28 ?_
            refine so_assign (v := (.v (v111.cut 1 ((0 : Int)).toNat ((IntKind.i64.wrap (i134 + (1 : Int)))).toNat))) rfl ?_
            refine so_nil ?_
            exact by_ret rfl ⟨_, h, _, rfl, (Sep.tord hs (Shows.cut (e := eStr) (n := 1) (fun _ => rfl) (hs.shows 0 rfl) (by decide) (cutok c141)) (cut_row _ _ _ _))⟩
          · refine fi_false rfl (decide_eq_false c138) ?_
            refine fi_skip ?_
            refine fi_seq ?_
            refine fi_region ?_
            refine so_move (v := (.v v111)) rfl ?_
            refine so_move (v := (.v (.int .i64 i134))) rfl ?_
            refine so_move (v := (.v (.str (pk sq133)))) rfl ?_
            refine so_move (v := (.v (.int .i64 y136))) rfl ?_
            refine so_move (v := (.v (.int .i64 a2))) rfl ?_
            refine so_bin rfl rfl ab_add ?_
            obtain ⟨c142, h⟩ := h
            refine so_sslice rfl rfl rfl F160.sr9 rfl rfl c142 ?_
            obtain ⟨c143, h⟩ := h
            refine sv_idx (hs.shows 0 rfl) c143 (fun _ => rfl) (by decide) rfl rfl F160.tl28 ?_
            refine sv_set hs 0 rfl c143 ((sq133.drop ((0 : Int)).toNat).take (((IntKind.i64.wrap (y136 + a2))).toNat - ((0 : Int)).toNat)) (fun _ => rfl) (by decide) rfl rfl rfl rfl F160.sz9 nofun (fun H144 hs => ?_)
            refine so_nil ?_
            refine fi_seq ?_
            refine fi_region ?_
            refine so_move (v := (.v (.str (pk sq133)))) rfl ?_
            refine so_move (v := (.v (.int .i64 y136))) rfl ?_
            refine so_move (v := (.v (.str (pk a1)))) rfl ?_
            refine so_slen rfl F160.sr9 ?_
            refine so_bin rfl rfl ab_add ?_
            obtain ⟨c145, h⟩ := h
            refine so_sslice rfl rfl rfl F160.sr9 rfl rfl c145 ?_
            refine so_assign (v := (.v (.str (pk ((sq133.drop ((IntKind.i64.wrap (y136 + (a1.length : Int)))).toNat).take (((sq133.length : Int)).toNat - ((IntKind.i64.wrap (y136 + (a1.length : Int)))).toNat)))))) rfl ?_
            refine so_nil ?_
            refine fi_region ?_
            refine so_move (v := (.v (.int .i64 i134))) rfl ?_
            refine so_bin rfl rfl ab_add ?_
            refine so_assign (v := (.v (.int .i64 (IntKind.i64.wrap (i134 + (1 : Int)))))) rfl ?_
            refine so_nil ?_
            refine fi_inBlock ?_
            exact fi_at [(0, (.v (.str (pk ((sq133.drop ((IntKind.i64.wrap (y136 + (a1.length : Int)))).toNat).take (((sq133.length : Int)).toNat - ((IntKind.i64.wrap (y136 + (a1.length : Int)))).toNat)))))), (1, (.v (.str (pk a1)))), (2, (.v (.int .i64 a2))), (3, (.v (.int .i64 (IntKind.i64.wrap ((mnI (IntKind.i64.wrap (y108 + (1 : Int))) (IntKind.i64.wrap ((a0.length : Int) + (1 : Int)))) - (1 : Int)))))), (9, (.v v111)), (10, (.v (.int .i64 (IntKind.i64.wrap (i134 + (1 : Int))))))] ⟨rfl, rfl, rfl, rfl, rfl, rfl, trivial⟩ (h _ _  hs)
        · refine fi_false rfl (decide_eq_false c135) ?_
          refine fi_exit rfl ?_
          refine fi_seq ?_
          refine fi_region ?_
          refine so_move (v := (.v v111)) rfl ?_
          refine so_move (v := (.v (.int .i64 i134))) rfl ?_
          refine so_move (v := (.v (.str (pk sq133)))) rfl ?_
          obtain ⟨c146, h⟩ := h
          refine sv_idx (hs.shows 0 rfl) c146 (fun _ => rfl) (by decide) rfl rfl F160.tl28 ?_
          refine sv_set hs 0 rfl c146 sq133 (fun _ => rfl) (by decide) rfl rfl rfl rfl F160.sz9 nofun (fun H147 hs => ?_)
          refine so_nil ?_
          refine fi_seq ?_
          refine fi_region ?_
          refine so_move (v := (.v v111)) rfl ?_
          refine so_move (v := (.v (.int .i64 i134))) rfl ?_
          refine so_bin rfl rfl ab_add ?_
          obtain ⟨c148, h⟩ := h
          refine sv_slice (hs.shows 0 rfl) c148 (fun _ => rfl) (by decide) rfl rfl rfl rfl rfl F160.tl28 ?_
          refine so_assign (v := (.v (v111.cut 1 ((0 : Int)).toNat ((IntKind.i64.wrap (i134 + (1 : Int)))).toNat))) rfl ?_
          refine so_nil ?_
          exact by_ret rfl ⟨_, h, _, rfl, (Sep.tord hs (Shows.cut (e := eStr) (n := 1) (fun _ => rfl) (hs.shows 0 rfl) (by decide) (cutok c148)) (cut_row _ _ _ _))⟩
      · refine fi_false rfl (decide_eq_false c107) ?_
        refine fi_skip ?_
        refine fi_seq ?_
        refine fi_region ?_
        refine so_move (v := (.v (.int .i64 a3))) rfl ?_
        refine so_move (v := (.v (.str (pk a0)))) rfl ?_
        refine so_slen rfl F160.sr9 ?_
        refine so_bin rfl rfl ab_add ?_
        refine sv_min rfl rfl ?_
        refine so_assign (v := (.v (.int .i64 (mnI a3 (IntKind.i64.wrap ((a0.length : Int) + (1 : Int))))))) rfl ?_
        refine so_nil ?_
        refine fi_seq ?_
        refine fi_region ?_
        refine so_move (v := (.v (.int .i64 (mnI a3 (IntKind.i64.wrap ((a0.length : Int) + (1 : Int))))))) rfl ?_
        obtain ⟨c151, h⟩ := h
        refine sv_make hs eStr ([] : List UInt8) c151 (fun _ => rfl) rfl rfl F160.te28 F160.sz9 F160.by9 F160.ze9 rfl rfl nofun (fun v152 H153 nv152 hs => ?_)
        refine so_assign (v := (.v v152)) rfl ?_
        refine so_nil ?_
        refine fi_seq ?_
        refine fi_region ?_
        refine so_move (v := (.v (.int .i64 (mnI a3 (IntKind.i64.wrap ((a0.length : Int) + (1 : Int))))))) rfl ?_
        refine so_bin rfl rfl ab_sub ?_
        refine so_assign (v := (.v (.int .i64 (IntKind.i64.wrap ((mnI a3 (IntKind.i64.wrap ((a0.length : Int) + (1 : Int)))) - (1 : Int)))))) rfl ?_
        refine so_nil ?_
        refine fi_seq ?_
        refine fi_region ?_
        refine so_assign (v := (.v (.int .i64 (0 : Int)))) rfl ?_
        refine so_nil ?_
        refine fi_seq ?_
        refine fi_block ?_
        refine fi_loop ?_
        refine fi_at [(0, (.v (.str (pk a0)))), (1, (.v (.str (pk a1)))), (2, (.v (.int .i64 a2))), (3, (.v (.int .i64 (IntKind.i64.wrap ((mnI a3 (IntKind.i64.wrap ((a0.length : Int) + (1 : Int)))) - (1 : Int)))))), (9, (.v v152)), (10, (.v (.int .i64 (0 : Int))))] ⟨rfl, rfl, rfl, rfl, rfl, rfl, trivial⟩ ?_
        refine h (fun (a173 : List (List UInt8)) (sq174 : List UInt8) (i175 : Int) => ∀ (s : Nat → TV) (H : Heap), Sep H (Pc.osl v152 1 (enc eStr a173) :: fr) → Fin _ _ (updL s [(0, (.v (.str (pk sq174)))), (1, (.v (.str (pk a1)))), (2, (.v (.int .i64 a2))), (3, (.v (.int .i64 (IntKind.i64.wrap ((mnI a3 (IntKind.i64.wrap ((a0.length : Int) + (1 : Int)))) - (1 : Int)))))), (9, (.v v152)), (10, (.v (.int .i64 i175)))]) H _) ?_ _ _ hs
        intro a173 sq174 i175 h s190 H191 hs
        refine fi_inLoop ?_
        refine fi_seq ?_
        refine fi_seq ?_
        refine fi_region ?_
        refine so_move (v := (.v (.int .i64 i175))) rfl ?_
        refine so_move (v := (.v (.int .i64 (IntKind.i64.wrap ((mnI a3 (IntKind.i64.wrap ((a0.length : Int) + (1 : Int)))) - (1 : Int)))))) rfl ?_
        refine so_bin rfl rfl ab_lss ?_
        refine so_nil ?_
        replace h := ofP h; rcases h with ⟨c176, h⟩ | ⟨c176, h⟩
        · refine fi_true rfl (decide_eq_true c176) ?_
          refine fi_skip ?_
          refine fi_block ?_
          refine fi_seq ?_
          refine fi_region ?_
          refine so_move (v := (.v (.str (pk sq174)))) rfl ?_
          refine so_move (v := (.v (.str (pk a1)))) rfl ?_
          refine sv_callS (strings_Index_ok sq174 a1 hs  _ h) (fun _ _ ⟨_, _, _, e⟩ => e) rfl rfl ?_
          clear h
          rintro _ _ ⟨y177, h, rfl, rfl⟩
          refine so_assign (v := (.v (.int .i64 y177))) rfl ?_
          refine so_nil ?_
          refine fi_seq ?_
          refine fi_seq ?_
          refine fi_region ?_
          refine so_move (v := (.v (.int .i64 y177))) rfl ?_
          refine so_bin rfl rfl ab_lss ?_
          refine so_nil ?_
          replace h := ofP h; rcases h with ⟨c179, h⟩ | ⟨c179, h⟩
          · refine fi_true rfl (decide_eq_true c179) ?_
            refine fi_exit rfl ?_
            refine fi_seq ?_
            refine fi_region ?_
            refine so_move (v := (.v v152)) rfl ?_
            refine so_move (v := (.v (.int .i64 i175))) rfl ?_
            refine so_move (v := (.v (.str (pk sq174)))) rfl ?_
            obtain ⟨c180, h⟩ := h
            refine sv_idx (hs.shows 0 rfl) c180 (fun _ => rfl) (by decide) rfl rfl F160.tl28 ?_
            refine sv_set hs 0 rfl c180 sq174 (fun _ => rfl) (by decide) rfl rfl rfl rfl F160.sz9 nofun (fun H181 hs => ?_)
            refine so_nil ?_
            refine fi_seq ?_
            refine fi_region ?_
            refine so_move (v := (.v v152)) rfl ?_
            refine so_move (v := (.v (.int .i64 i175))) rfl ?_
            refine so_bin rfl rfl ab_add ?_
            obtain ⟨c182, h⟩ := h
            refine sv_slice (hs.shows 0 rfl) c182 (fun _ => rfl) (by decide) rfl rfl rfl rfl rfl F160.tl28 ?_
            refine so_assign (v := (.v (v152.cut 1 ((0 : Int)).toNat ((IntKind.i64.wrap (i175 + (1 : Int)))).toNat))) rfl ?_
            refine so_nil ?_
            exact by_ret rfl ⟨_, h, _, rfl, (Sep.tord hs (Shows.cut (e := eStr) (n := 1) (fun _ => rfl) (hs.shows 0 rfl) (by decide) (cutok c182)) (cut_row _ _ _ _))⟩
          · refine fi_false rfl (decide_eq_false c179) ?_
            refine fi_skip ?_
            refine fi_seq ?_
            refine fi_region ?_
            refine so_move (v := (.v v152)) rfl ?_
            refine so_move (v := (.v (.int .i64 i175))) rfl ?_
            refine so_move (v := (.v (.str (pk sq174)))) rfl ?_
            refine so_move (v := (.v (.int .i64 y177))) rfl ?_
            refine so_move (v := (.v (.int .i64 a2))) rfl ?_
            refine so_bin rfl rfl ab_add ?_
            obtain ⟨c183, h⟩ := h
            refine so_sslice rfl rfl rfl F160.sr9 rfl rfl c183 ?_
            obtain ⟨c184, h⟩ := h
            refine sv_idx (hs.shows 0 rfl) c184 (fun _ => rfl) (by decide) rfl rfl F160.tl28 ?_
            refine sv_set hs 0 rfl c184 ((sq174.drop ((0 : Int)).toNat).take (((IntKind.i64.wrap (y177 + a2))).toNat - ((0 : Int)).toNat)) (fun _ => rfl) (by decide) rfl rfl rfl rfl F160.sz9 nofun (fun H185 hs => ?_)
            refine so_nil ?_
            refine fi_seq ?_
            refine fi_region ?_
            refine so_move (v := (.v (.str (pk sq174)))) rfl ?_
            refine so_move (v := (.v (.int .i64 y177))) rfl ?_
            refine so_move (v := (.v (.str (pk a1)))) rfl ?_
            refine so_slen rfl F160.sr9 ?_
            refine so_bin rfl rfl ab_add ?_
            obtain ⟨c186, h⟩ := h
            refine so_sslice rfl rfl rfl F160.sr9 rfl rfl c186 ?_
            refine so_assign (v := (.v (.str (pk ((sq174.drop ((IntKind.i64.wrap (y177 + (a1.length : Int)))).toNat).take (((sq174.length : Int)).toNat - ((IntKind.i64.wrap (y177 + (a1.length : Int)))).toNat)))))) rfl ?_
            refine so_nil ?_
            refine fi_region ?_
            refine so_move (v := (.v (.int .i64 i175))) rfl ?_
            refine so_bin rfl rfl ab_add ?_
            refine so_assign (v := (.v (.int .i64 (IntKind.i64.wrap (i175 + (1 : Int)))))) rfl ?_
            refine so_nil ?_
            refine fi_inBlock ?_
            exact fi_at [(0, (.v (.str (pk ((sq174.drop ((IntKind.i64.wrap (y177 + (a1.length : Int)))).toNat).take (((sq174.length : Int)).toNat - ((IntKind.i64.wrap (y177 + (a1.length : Int)))).toNat)))))), (1, (.v (.str (pk a1)))), (2, (.v (.int .i64 a2))), (3, (.v (.int .i64 (IntKind.i64.wrap ((mnI a3 (IntKind.i64.wrap ((a0.length : Int) + (1 : Int)))) - (1 : Int)))))), (9, (.v v152)), (10, (.v (.int .i64 (IntKind.i64.wrap (i175 + (1 : Int))))))] ⟨rfl, rfl, rfl, rfl, rfl, rfl, trivial⟩ (h _ _  hs)
        · refine fi_false rfl (decide_eq_false c176) ?_
          refine fi_exit rfl ?_
          refine fi_seq ?_
          refine fi_region ?_
          refine so_move (v := (.v v152)) rfl ?_
          refine so_move (v := (.v (.int .i64 i175))) rfl ?_
          refine so_move (v := (.v (.str (pk sq174)))) rfl ?_
          obtain ⟨c187, h⟩ := h
          refine sv_idx (hs.shows 0 rfl) c187 (fun _ => rfl) (by decide) rfl rfl F160.tl28 ?_
          refine sv_set hs 0 rfl c187 sq174 (fun _ => rfl) (by decide) rfl rfl rfl rfl F160.sz9 nofun (fun H188 hs => ?_)
          refine so_nil ?_
          refine fi_seq ?_
          refine fi_region ?_
          refine so_move (v := (.v v152)) rfl ?_
          refine so_move (v := (.v (.int .i64 i175))) rfl ?_
          refine so_bin rfl rfl ab_add ?_
          obtain ⟨c189, h⟩ := h
          refine sv_slice (hs.shows 0 rfl) c189 (fun _ => rfl) (by decide) rfl rfl rfl rfl rfl F160.tl28 ?_
          refine so_assign (v := (.v (v152.cut 1 ((0 : Int)).toNat ((IntKind.i64.wrap (i175 + (1 : Int)))).toNat))) rfl ?_
          refine so_nil ?_
          exact by_ret rfl ⟨_, h, _, rfl, (Sep.tord hs (Shows.cut (e := eStr) (n := 1) (fun _ => rfl) (hs.shows 0 rfl) (by decide) (cutok c189)) (cut_row _ _ _ _))⟩

end Go.Proofs.YtcgiboeilcdonaaDoor.G

namespace Go.Proofs.YtcgiboeilcdonaaDoor.G
open Go Go.Ab Go.Proofs Go.Proofs.YtcgiboeilcdonaaDoor
set_option maxRecDepth 100000
set_option linter.unusedVariables false
set_option linter.unusedSimpArgs false
set_option maxHeartbeats 1000000
attribute [local irreducible] wops wopf Go.Ab.Fin
theorem strings_Split_ok {fr : List Pc} {H : Heap} (a0 : List UInt8) (a1 : List UInt8) (hs : Sep H (fr))  (K : (List (List UInt8)) → Prop) (h : strings_Split.wp a0 a1 K) : OkQ Tryd.prog 141 [(.v (.str (pk a0))), (.v (.str (pk a1)))] H (fun r H2 => ∃ (y0 : List (List UInt8)), K y0 ∧ ∃ (w0_ : AV), r = (.v w0_) ∧ Sep H2 (rdp w0_ 1 (enc eStr y0) :: fr)) := by
  unfold strings_Split.wp at h
  refine of_body Tryd.f141 F.hm Tryd.func141 rfl Tryd.call141 (by kernel_rfl) (by simp) ?_
  refine fi_seq ?_
  refine fi_region ?_
  refine so_assign (v := (.v .nilsl)) rfl ?_
  refine so_nil ?_
  refine fi_seq ?_
  refine fi_region ?_
  refine so_move (v := (.v (.str (pk a0)))) rfl ?_
  refine so_move (v := (.v (.str (pk a1)))) rfl ?_
  refine sv_call (strings_genSplit_ok a0 a1 (0 : Int) (-1 : Int) hs  _ h) rfl rfl nofun ?_
  clear h hs
  rintro _ H104 ⟨y101, h, v102, rfl, hs⟩
  refine so_assign (v := (.v v102)) rfl ?_
  refine so_nil ?_
  exact by_ret rfl ⟨_, h, _, rfl, hs⟩

end Go.Proofs.YtcgiboeilcdonaaDoor.G

namespace Go.Proofs.YtcgiboeilcdonaaDoor.G
open Go Go.Ab Go.Proofs Go.Proofs.YtcgiboeilcdonaaDoor
set_option maxRecDepth 100000
set_option linter.unusedVariables false
set_option linter.unusedSimpArgs false
set_option maxHeartbeats 1000000
attribute [local irreducible] wops wopf Go.Ab.Fin
theorem impl_pieces_ok {fr : List Pc} {H : Heap} (a0 : List UInt8) (hs : Sep H (fr))  (K : (List (List UInt8)) → Prop) (h : impl_pieces.wp a0 K) : OkQ Tryd.prog 120 [(.v (.str (pk a0)))] H (fun r H2 => ∃ (y0 : List (List UInt8)), K y0 ∧ ∃ (w0_ : AV), r = (.v w0_) ∧ Sep H2 (rdp w0_ 1 (enc eStr y0) :: fr)) := by
  unfold impl_pieces.wp at h
  refine of_body Tryd.f120 F.hm Tryd.func120 rfl Tryd.call120 (by kernel_rfl) (by simp) ?_
  refine fi_seq ?_
  refine fi_region ?_
  refine so_assign (v := (.v .nilsl)) rfl ?_
  refine so_nil ?_
  refine fi_seq ?_
  refine fi_seq ?_
  refine fi_region ?_
  refine so_move (v := (.v (.str (pk a0)))) rfl ?_
  refine so_bin rfl rfl ab_seql ?_
  refine so_nil ?_
  replace h := ofP h; rcases h with ⟨c101, h⟩ | ⟨c101, h⟩
  · refine fi_true rfl (decide_eq_true c101) ?_
    refine fi_seq ?_
    refine fi_region ?_
    refine so_assign (v := (.v .nilsl)) rfl ?_
    refine so_nil ?_
    exact by_ret rfl ⟨_, h, _, rfl, (Sep.tord (Sep.nil hs 1) (.inl ⟨rfl, rfl⟩) (fun _ h => h))⟩
  · refine fi_false rfl (decide_eq_false c101) ?_
    refine fi_skip ?_
    refine fi_seq ?_
    refine fi_region ?_
    refine so_move (v := (.v (.str (pk a0)))) rfl ?_
    refine sv_call (strings_Split_ok a0 ([44] : List UInt8) hs  _ h) rfl rfl nofun ?_
    clear h hs
    rintro _ H105 ⟨y102, h, v103, rfl, hs⟩
    refine so_assign (v := (.v v103)) rfl ?_
    refine so_nil ?_
    exact by_ret rfl ⟨_, h, _, rfl, hs⟩

end Go.Proofs.YtcgiboeilcdonaaDoor.G

namespace Go.Proofs.YtcgiboeilcdonaaDoor.G
open Go Go.Ab Go.Proofs Go.Proofs.YtcgiboeilcdonaaDoor
set_option maxRecDepth 100000
set_option linter.unusedVariables false
set_option linter.unusedSimpArgs false
set_option maxHeartbeats 1000000
attribute [local irreducible] wops wopf Go.Ab.Fin
theorem internal_strconv_lower_ok {fr : List Pc} {H : Heap} (a0 : Int) (hs : Sep H (fr))  (K : Int → Prop) (h : internal_strconv_lower.wp a0 K) : OkQ Tryd.prog 177 [(.v (.int .u8 a0))] H (fun r H2 => ∃ (y0 : Int), K y0 ∧ r = (.v (.int .u8 y0)) ∧ H = H2) := by
  unfold internal_strconv_lower.wp at h
  refine of_body Tryd.f177 F.hm Tryd.func177 rfl Tryd.call177 (by kernel_rfl) (by simp) ?_
  refine fi_seq ?_
  refine fi_region ?_
  refine so_assign (v := (.v (.int .u8 (0 : Int)))) rfl ?_
  refine so_nil ?_
  refine fi_seq ?_
  refine fi_region ?_
  refine so_move (v := (.v (.int .u8 a0))) rfl ?_
  refine so_bin rfl rfl ab_or ?_
  refine so_assign (v := (.v (.int .u8 (ibits .or .u8 a0 (32 : Int))))) rfl ?_
  refine so_nil ?_
  exact by_ret rfl ⟨_, h, rfl, rfl⟩

end Go.Proofs.YtcgiboeilcdonaaDoor.G

namespace Go.Proofs.YtcgiboeilcdonaaDoor.G
open Go Go.Ab Go.Proofs Go.Proofs.YtcgiboeilcdonaaDoor
set_option maxRecDepth 100000
set_option linter.unusedVariables false
set_option linter.unusedSimpArgs false
set_option maxHeartbeats 1000000
attribute [local irreducible] wops wopf Go.Ab.Fin
theorem internal_strconv_underscoreOK_ok {fr : List Pc} {H : Heap} (a0 : List UInt8) (hs : Sep H (fr))  (K : Bool → Prop) (h : internal_strconv_underscoreOK.wp a0 K) : OkQ Tryd.prog 178 [(.v (.str (pk a0)))] H (fun r H2 => ∃ (y0 : Bool), K y0 ∧ r = (.v (.bool y0)) ∧ Sep H2 (fr)) := by
  unfold internal_strconv_underscoreOK.wp at h
  refine of_body Tryd.f178 F.hm Tryd.func178 rfl Tryd.call178 (by kernel_rfl) (by simp) ?_
  exact h.elim

end Go.Proofs.YtcgiboeilcdonaaDoor.G

namespace Go.Proofs.YtcgiboeilcdonaaDoor.G
open Go Go.Ab Go.Proofs Go.Proofs.YtcgiboeilcdonaaDoor
set_option maxRecDepth 100000
set_option linter.unusedVariables false
set_option linter.unusedSimpArgs false
set_option maxHeartbeats 1000000
attribute [local irreducible] wops wopf Go.Ab.Fin
theorem F161.ag5 : tagg Tryd.prog 5 = some false := by kernel_rfl
theorem F161.it163 : tint Tryd.prog 163 = some .u64 := by kernel_rfl
theorem F161.it170 : tint Tryd.prog 170 = some .u64 := by kernel_rfl
theorem F161.it200 : tint Tryd.prog 200 = some .i64 := by kernel_rfl
theorem F161.it5 : tint Tryd.prog 5 = some .u8 := by kernel_rfl
theorem F161.ns72 : tstr Tryd.prog 72 = false := by kernel_rfl
theorem F161.te72 : telem Tryd.prog 72 = some 5 := by kernel_rfl
theorem F161.ti72 : (telem Tryd.prog 72).isSome = true := by kernel_rfl
theorem F161.tl72 : (telem Tryd.prog 72).bind (tsz Tryd.prog) = some 1 := by kernel_rfl
theorem F161.us3 : (Tryd.prog.underlying 3).isSome = true := by kernel_rfl
theorem F161.us5 : (Tryd.prog.underlying 5).isSome = true := by kernel_rfl
theorem F161.us9 : (Tryd.prog.underlying 9).isSome = true := by kernel_rfl
theorem internal_strconv_ParseUintC_ok {fr : List Pc} {H : Heap} (a0 : List UInt8) (hs : Sep H (fr))  (K : Int → IfV → Prop) (h : internal_strconv_ParseUintC.wp a0 K) : OkQ Tryd.prog 161 [(.v (.str (pk a0))), (.v (.int .i64 (16 : Int))), (.v (.int .i64 (32 : Int)))] H (fun r H2 => ∃ (y0 : Int) (y1 : IfV), K y0 y1 ∧ r = (.t [(.v (.int .u64 y0)), (.v (.ifc y1))]) ∧ Sep H2 (fr)) := by
  unfold internal_strconv_ParseUintC.wp at h
  refine of_body Tryd.f161 F.hm Tryd.func161 rfl Tryd.call161 (by kernel_rfl) (by simp) ?_
  refine fi_seq ?_
  refine fi_region ?_
  refine so_assign (v := (.v (.int .u64 (0 : Int)))) rfl ?_
  refine so_assign (v := (.v (.ifc IfV.nil))) rfl ?_
  refine so_nil ?_
  refine fi_seq ?_
  refine fi_seq ?_
  refine fi_region ?_
  refine so_move (v := (.v (.str (pk a0)))) rfl ?_
  refine so_bin rfl rfl ab_seql ?_
  refine so_nil ?_
  replace h := ofP h; rcases h with ⟨c101, h⟩ | ⟨c101, h⟩
  · refine fi_true rfl (decide_eq_true c101) ?_
    refine fi_seq ?_
    refine fi_region ?_
    refine so_mkif rfl F161.it200 ?_
    refine so_assign (v := (.v (.int .u64 (0 : Int)))) rfl ?_
    refine so_assign (v := (.v (.ifc (IfV.num 200 .i64 (2 : Int))))) rfl ?_
    refine so_nil ?_
    exact by_ret rfl ⟨_, _, h, rfl, hs⟩
  · refine fi_false rfl (decide_eq_false c101) ?_
    refine fi_skip ?_
    refine fi_seq ?_
    refine fi_region ?_
    refine so_move (v := (.v (.int .i64 (16 : Int)))) rfl ?_
    refine so_bin rfl rfl ab_eql ?_
    refine so_assign (v := (.v (.bool (decide ((16 : Int) = (0 : Int)))))) rfl ?_
    refine so_nil ?_
    refine fi_seq ?_
    refine fi_region ?_
    refine so_move (v := (.v (.str (pk a0)))) rfl ?_
    refine so_assign (v := (.v (.str (pk a0)))) rfl ?_
    refine so_nil ?_
    refine fi_seq ?_
    refine fi_block ?_
    refine fi_seq ?_
    refine fi_region ?_
    refine so_move (v := (.v (.int .i64 (16 : Int)))) rfl ?_
    refine so_bin rfl rfl ab_leq ?_
    refine so_move (v := (.v (.bool (decide ((2 : Int) ≤ (16 : Int)))))) rfl ?_
    refine so_gyes rfl (decide_eq_true (by decide)) ?_
    refine so_move (v := (.v (.int .i64 (16 : Int)))) rfl ?_
    refine so_gyes rfl (decide_eq_true (by decide)) ?_
    refine so_bin rfl rfl ab_leq ?_
    refine so_pick_t (v := (.v (.bool (decide ((16 : Int) ≤ (36 : Int)))))) rfl (decide_eq_true (by decide)) rfl ?_
    refine so_assign (v := (.v (.bool (decide ((16 : Int) ≤ (36 : Int)))))) rfl ?_
    refine so_nil ?_
    refine fi_true rfl (decide_eq_true (by decide)) ?_
    refine fi_skip ?_
    refine fi_inBlock ?_
    refine fi_seq ?_
    refine fi_seq ?_
    refine fi_region ?_
    refine so_move (v := (.v (.int .i64 (32 : Int)))) rfl ?_
    refine so_bin rfl rfl ab_eql ?_
    refine so_nil ?_
    refine fi_false rfl (decide_eq_false (by decide)) ?_
    refine fi_seq ?_
    refine fi_region ?_
    refine so_move (v := (.v (.int .i64 (32 : Int)))) rfl ?_
    refine so_bin rfl rfl ab_lss ?_
    refine so_move (v := (.v (.bool (decide ((32 : Int) < (0 : Int)))))) rfl ?_
    refine so_gyes rfl (decide_eq_false (by decide)) ?_
    refine so_move (v := (.v (.int .i64 (32 : Int)))) rfl ?_
    refine so_gyes rfl (decide_eq_false (by decide)) ?_
    refine so_bin rfl rfl ab_gtr ?_
    refine so_pick_f (v := (.v (.bool (decide ((64 : Int) < (32 : Int)))))) rfl (decide_eq_false (by decide)) rfl ?_
    refine so_nil ?_
    refine fi_false rfl (decide_eq_false (by decide)) ?_
    refine fi_skip ?_
    refine fi_seq ?_
    refine fi_region ?_
    refine so_assign (v := (.v (.int .u64 (0 : Int)))) rfl ?_
    refine so_nil ?_
    refine fi_seq ?_
    refine fi_seq ?_
    refine fi_region ?_
    refine so_move (v := (.v (.int .i64 (16 : Int)))) rfl ?_
    refine so_nil ?_
    refine fi_block ?_
    refine fi_seq ?_
    refine fi_region ?_
    refine so_bin rfl rfl ab_eql ?_
    refine so_assign (v := (.v (.bool (decide ((16 : Int) = (10 : Int)))))) rfl ?_
    refine so_nil ?_
    refine fi_false rfl (decide_eq_false (by decide)) ?_
    refine fi_seq ?_
    refine fi_region ?_
    refine so_bin rfl rfl ab_eql ?_
    refine so_assign (v := (.v (.bool (decide ((16 : Int) = (16 : Int)))))) rfl ?_
    refine so_nil ?_
    refine fi_true rfl (decide_eq_true (by decide)) ?_
    refine fi_region ?_
    refine so_assign (v := (.v (.int .u64 (1152921504606846976 : Int)))) rfl ?_
    refine so_nil ?_
    refine fi_inBlock ?_
    refine fi_seq ?_
    refine fi_region ?_
    refine so_move (v := (.v (.int .i64 (32 : Int)))) rfl ?_
    refine sv_ii rfl F161.us3 F161.it170 ?_
    obtain ⟨c102, h⟩ := h
    refine so_bin rfl rfl (ab_shl c102) ?_
    refine so_bin rfl rfl ab_sub ?_
    refine so_assign (v := (.v (.int .u64 (IntKind.u64.wrap ((IntKind.u64.wrap ((1 : Int) * (2 ^ (min ((IntKind.u64.wrap (32 : Int))).toNat IntKind.u64.bits)))) - (1 : Int)))))) rfl ?_
    refine so_nil ?_
    refine fi_seq ?_
    refine fi_region ?_
    refine so_assign (v := (.v (.bool false))) rfl ?_
    refine so_nil ?_
    refine fi_seq ?_
    refine fi_region ?_
    refine so_assign (v := (.v (.int .u64 (0 : Int)))) rfl ?_
    refine so_nil ?_
    refine fi_seq ?_
    refine fi_seq ?_
    refine fi_region ?_
    refine so_move (v := (.v (.str (pk a0)))) rfl ?_
    refine sv_sb hs rfl F161.us9 F161.ns72 F161.te72 F161.it5 nofun (fun v103 H104 nv103 hs => ?_)
    refine sv_len (hs.shows 0 rfl) (fun _ => rfl) (by decide) rfl F161.ti72 ?_
    refine so_move (v := (.v (.int .i64 (0 : Int)))) rfl ?_
    refine so_nil ?_
    refine fi_block ?_
    refine fi_loop ?_
    refine fi_at [(1, (.v (.int .i64 (16 : Int)))), (8, (.v (.bool (decide ((16 : Int) = (0 : Int)))))), (9, (.v (.str (pk a0)))), (10, (.v (.int .u64 (1152921504606846976 : Int)))), (11, (.v (.int .u64 (IntKind.u64.wrap ((IntKind.u64.wrap ((1 : Int) * (2 ^ (min ((IntKind.u64.wrap (32 : Int))).toNat IntKind.u64.bits)))) - (1 : Int)))))), (12, (.v (.bool false))), (13, (.v (.int .u64 (0 : Int)))), (99, (.v v103)), (100, (.v (.int .i64 ((nums a0).length : Int)))), (101, (.v (.int .i64 (0 : Int))))] ⟨rfl, rfl, rfl, rfl, rfl, rfl, rfl, rfl, rfl, rfl, trivial⟩ ?_
    refine h (fun (underscores107 : Bool) (n108 : Int) (x109 : Int) => ∀ (s : Nat → TV) (H : Heap), Sep H (Pc.osl v103 1 (enc (eInt .u8) (nums a0)) :: fr) → Fin _ _ (updL s [(1, (.v (.int .i64 (16 : Int)))), (8, (.v (.bool (decide ((16 : Int) = (0 : Int)))))), (9, (.v (.str (pk a0)))), (10, (.v (.int .u64 (1152921504606846976 : Int)))), (11, (.v (.int .u64 (IntKind.u64.wrap ((IntKind.u64.wrap ((1 : Int) * (2 ^ (min ((IntKind.u64.wrap (32 : Int))).toNat IntKind.u64.bits)))) - (1 : Int)))))), (12, (.v (.bool underscores107))), (13, (.v (.int .u64 n108))), (99, (.v v103)), (100, (.v (.int .i64 ((nums a0).length : Int)))), (101, (.v (.int .i64 x109)))]) H _) ?_ _ _ hs
    intro underscores107 n108 x109 h s177 H178 hs
    refine fi_inLoop ?_
    refine fi_seq ?_
    refine fi_region ?_
    refine so_bin rfl rfl ab_lss ?_
    refine so_nil ?_
    refine fi_seq ?_
    replace h := ofP h; rcases h with ⟨c110, h⟩ | ⟨c110, h⟩
    · refine fi_true rfl (decide_eq_true c110) ?_
      refine fi_skip ?_
      refine fi_seq ?_
      refine fi_block ?_
      refine fi_seq ?_
      refine fi_region ?_
      obtain ⟨c111, h⟩ := h
      refine sv_idx (hs.shows 0 rfl) c111 (fun _ => rfl) (by decide) rfl rfl F161.tl72 ?_
      refine sv_cell (hs.shows 0 rfl) c111 (0 : Int) 0 (fun x => (AV.int .u8 x)) (fun _ => rfl) (fun _ => rfl) rfl F161.ag5 ?_
      refine so_assign (v := (.v (.int .u8 ((nums a0).getD (x109).toNat (0 : Int))))) rfl ?_
      refine so_nil ?_
      refine fi_seq ?_
      refine fi_region ?_
      refine so_assign (v := (.v (.int .u8 (0 : Int)))) rfl ?_
      refine so_nil ?_
      refine fi_seq ?_
      refine fi_block ?_
      refine fi_seq ?_
      refine fi_region ?_
      refine so_move (v := (.v (.int .u8 ((nums a0).getD (x109).toNat (0 : Int))))) rfl ?_
      refine so_bin rfl rfl ab_eql ?_
      refine so_move (v := (.v (.bool (decide (((nums a0).getD (x109).toNat (0 : Int)) = (95 : Int)))))) rfl ?_
      replace h := ofP h; rcases h with ⟨c112, h⟩ | ⟨c112, h⟩
      · refine so_gyes rfl (decide_eq_true c112) ?_
        refine so_move (v := (.v (.bool (decide ((16 : Int) = (0 : Int)))))) rfl ?_
        refine so_pick_t (v := (.v (.bool (decide ((16 : Int) = (0 : Int)))))) rfl (decide_eq_true c112) rfl ?_
        refine so_assign (v := (.v (.bool (decide ((16 : Int) = (0 : Int)))))) rfl ?_
        refine so_nil ?_
        refine fi_false rfl (decide_eq_false (by decide)) ?_
        refine fi_seq ?_
        refine fi_region ?_
        refine so_move (v := (.v (.int .u8 ((nums a0).getD (x109).toNat (0 : Int))))) rfl ?_
        refine so_bin rfl rfl ab_leq ?_
        refine so_move (v := (.v (.bool (decide ((48 : Int) ≤ ((nums a0).getD (x109).toNat (0 : Int))))))) rfl ?_
        replace h := ofP h; rcases h with ⟨c113, h⟩ | ⟨c113, h⟩
        · refine so_gyes rfl (decide_eq_true c113) ?_
          refine so_move (v := (.v (.int .u8 ((nums a0).getD (x109).toNat (0 : Int))))) rfl ?_
          refine so_gyes rfl (decide_eq_true c113) ?_
          refine so_bin rfl rfl ab_leq ?_
          refine so_pick_t (v := (.v (.bool (decide (((nums a0).getD (x109).toNat (0 : Int)) ≤ (57 : Int)))))) rfl (decide_eq_true c113) rfl ?_
          refine so_assign (v := (.v (.bool (decide (((nums a0).getD (x109).toNat (0 : Int)) ≤ (57 : Int)))))) rfl ?_
          refine so_nil ?_
          replace h := ofP h; rcases h with ⟨c114, h⟩ | ⟨c114, h⟩
          · refine fi_true rfl (decide_eq_true c114) ?_
            refine fi_region ?_
            refine so_move (v := (.v (.int .u8 ((nums a0).getD (x109).toNat (0 : Int))))) rfl ?_
            refine so_bin rfl rfl ab_sub ?_
            refine so_assign (v := (.v (.int .u8 (IntKind.u8.wrap (((nums a0).getD (x109).toNat (0 : Int)) - (48 : Int)))))) rfl ?_
            refine so_nil ?_
            refine fi_inBlock ?_
            refine fi_seq ?_
            refine fi_seq ?_
            refine fi_region ?_
            refine so_move (v := (.v (.int .u8 (IntKind.u8.wrap (((nums a0).getD (x109).toNat (0 : Int)) - (48 : Int)))))) rfl ?_
            refine so_move (v := (.v (.int .i64 (16 : Int)))) rfl ?_
            refine sv_ii rfl F161.us3 F161.it5 ?_
            refine so_bin rfl rfl ab_geq ?_
            refine so_nil ?_
            replace h := ofP h; rcases h with ⟨c115, h⟩ | ⟨c115, h⟩
            · refine fi_true rfl (decide_eq_true c115) ?_
              refine fi_seq ?_
              refine fi_region ?_
              refine so_mkif rfl F161.it200 ?_
              refine so_assign (v := (.v (.int .u64 (0 : Int)))) rfl ?_
              refine so_assign (v := (.v (.ifc (IfV.num 200 .i64 (2 : Int))))) rfl ?_
              refine so_nil ?_
              exact by_ret rfl ⟨_, _, h, rfl, (Sep.del 0 hs)⟩
            · refine fi_false rfl (decide_eq_false c115) ?_
              refine fi_skip ?_
              refine fi_seq ?_
              refine fi_seq ?_
              refine fi_region ?_
              refine so_move (v := (.v (.int .u64 n108))) rfl ?_
              refine so_move (v := (.v (.int .u64 (1152921504606846976 : Int)))) rfl ?_
              refine so_bin rfl rfl ab_geq ?_
              refine so_nil ?_
              replace h := ofP h; rcases h with ⟨c116, h⟩ | ⟨c116, h⟩
              · refine fi_true rfl (decide_eq_true c116) ?_
                refine fi_seq ?_
                refine fi_region ?_
                refine so_move (v := (.v (.int .u64 (IntKind.u64.wrap ((IntKind.u64.wrap ((1 : Int) * (2 ^ (min ((IntKind.u64.wrap (32 : Int))).toNat IntKind.u64.bits)))) - (1 : Int)))))) rfl ?_
                refine so_mkif rfl F161.it200 ?_
                refine so_assign (v := (.v (.int .u64 (IntKind.u64.wrap ((IntKind.u64.wrap ((1 : Int) * (2 ^ (min ((IntKind.u64.wrap (32 : Int))).toNat IntKind.u64.bits)))) - (1 : Int)))))) rfl ?_
                refine so_assign (v := (.v (.ifc (IfV.num 200 .i64 (1 : Int))))) rfl ?_
                refine so_nil ?_
                exact by_ret rfl ⟨_, _, h, rfl, (Sep.del 0 hs)⟩
              · refine fi_false rfl (decide_eq_false c116) ?_
                refine fi_skip ?_
                refine fi_seq ?_
                refine fi_region ?_
                refine so_move (v := (.v (.int .u64 n108))) rfl ?_
                refine so_move (v := (.v (.int .i64 (16 : Int)))) rfl ?_
                refine sv_ii rfl F161.us3 F161.it163 ?_
                refine so_bin rfl rfl ab_mul ?_
                refine so_assign (v := (.v (.int .u64 (IntKind.u64.wrap (n108 * (IntKind.u64.wrap (16 : Int))))))) rfl ?_
                refine so_nil ?_
                refine fi_seq ?_
                refine fi_region ?_
                refine so_move (v := (.v (.int .u64 (IntKind.u64.wrap (n108 * (IntKind.u64.wrap (16 : Int))))))) rfl ?_
                refine so_move (v := (.v (.int .u8 (IntKind.u8.wrap (((nums a0).getD (x109).toNat (0 : Int)) - (48 : Int)))))) rfl ?_
                refine sv_ii rfl F161.us5 F161.it163 ?_
                refine so_bin rfl rfl ab_add ?_
                refine so_assign (v := (.v (.int .u64 (IntKind.u64.wrap ((IntKind.u64.wrap (n108 * (IntKind.u64.wrap (16 : Int)))) + (IntKind.u64.wrap (IntKind.u8.wrap (((nums a0).getD (x109).toNat (0 : Int)) - (48 : Int))))))))) rfl ?_
                refine so_nil ?_
                refine fi_seq ?_
                refine fi_seq ?_
                refine fi_region ?_
                refine so_move (v := (.v (.int .u64 (IntKind.u64.wrap ((IntKind.u64.wrap (n108 * (IntKind.u64.wrap (16 : Int)))) + (IntKind.u64.wrap (IntKind.u8.wrap (((nums a0).getD (x109).toNat (0 : Int)) - (48 : Int))))))))) rfl ?_
                refine so_move (v := (.v (.int .u64 (IntKind.u64.wrap (n108 * (IntKind.u64.wrap (16 : Int))))))) rfl ?_
                refine so_bin rfl rfl ab_lss ?_
                refine so_move (v := (.v (.bool (decide ((IntKind.u64.wrap ((IntKind.u64.wrap (n108 * (IntKind.u64.wrap (16 : Int)))) + (IntKind.u64.wrap (IntKind.u8.wrap (((nums a0).getD (x109).toNat (0 : Int)) - (48 : Int)))))) < (IntKind.u64.wrap (n108 * (IntKind.u64.wrap (16 : Int))))))))) rfl ?_
                replace h := ofP h; rcases h with ⟨c117, h⟩ | ⟨c117, h⟩
                · refine so_gno rfl (decide_eq_true c117) ?_
                  refine so_gno rfl (decide_eq_true c117) ?_
                  refine so_gno rfl (decide_eq_true c117) ?_
                  refine so_pick_t (v := (.v (.bool true))) rfl (decide_eq_true c117) rfl ?_
                  refine so_nil ?_
                  refine fi_true rfl rfl ?_
                  refine fi_seq ?_
                  refine fi_region ?_
                  refine so_move (v := (.v (.int .u64 (IntKind.u64.wrap ((IntKind.u64.wrap ((1 : Int) * (2 ^ (min ((IntKind.u64.wrap (32 : Int))).toNat IntKind.u64.bits)))) - (1 : Int)))))) rfl ?_
                  refine so_mkif rfl F161.it200 ?_
                  refine so_assign (v := (.v (.int .u64 (IntKind.u64.wrap ((IntKind.u64.wrap ((1 : Int) * (2 ^ (min ((IntKind.u64.wrap (32 : Int))).toNat IntKind.u64.bits)))) - (1 : Int)))))) rfl ?_
                  refine so_assign (v := (.v (.ifc (IfV.num 200 .i64 (1 : Int))))) rfl ?_
                  refine so_nil ?_
                  exact by_ret rfl ⟨_, _, h, rfl, (Sep.del 0 hs)⟩
                · refine so_gyes rfl (decide_eq_false c117) ?_
                  refine so_move (v := (.v (.int .u64 (IntKind.u64.wrap ((IntKind.u64.wrap (n108 * (IntKind.u64.wrap (16 : Int)))) + (IntKind.u64.wrap (IntKind.u8.wrap (((nums a0).getD (x109).toNat (0 : Int)) - (48 : Int))))))))) rfl ?_
                  refine so_gyes rfl (decide_eq_false c117) ?_
                  refine so_move (v := (.v (.int .u64 (IntKind.u64.wrap ((IntKind.u64.wrap ((1 : Int) * (2 ^ (min ((IntKind.u64.wrap (32 : Int))).toNat IntKind.u64.bits)))) - (1 : Int)))))) rfl ?_
                  refine so_gyes rfl (decide_eq_false c117) ?_
                  refine so_bin rfl rfl ab_gtr ?_
                  refine so_pick_f (v := (.v (.bool (decide ((IntKind.u64.wrap ((IntKind.u64.wrap ((1 : Int) * (2 ^ (min ((IntKind.u64.wrap (32 : Int))).toNat IntKind.u64.bits)))) - (1 : Int))) < (IntKind.u64.wrap ((IntKind.u64.wrap (n108 * (IntKind.u64.wrap (16 : Int)))) + (IntKind.u64.wrap (IntKind.u8.wrap (((nums a0).getD (x109).toNat (0 : Int)) - (48 : Int))))))))))) rfl (decide_eq_false c117) rfl ?_
                  refine so_nil ?_
                  replace h := ofP h; rcases h with ⟨c118, h⟩ | ⟨c118, h⟩
                  · refine fi_true rfl (decide_eq_true c118) ?_
                    refine fi_seq ?_
                    refine fi_region ?_
                    refine so_move (v := (.v (.int .u64 (IntKind.u64.wrap ((IntKind.u64.wrap ((1 : Int) * (2 ^ (min ((IntKind.u64.wrap (32 : Int))).toNat IntKind.u64.bits)))) - (1 : Int)))))) rfl ?_
                    refine so_mkif rfl F161.it200 ?_
                    refine so_assign (v := (.v (.int .u64 (IntKind.u64.wrap ((IntKind.u64.wrap ((1 : Int) * (2 ^ (min ((IntKind.u64.wrap (32 : Int))).toNat IntKind.u64.bits)))) - (1 : Int)))))) rfl ?_
                    refine so_assign (v := (.v (.ifc (IfV.num 200 .i64 (1 : Int))))) rfl ?_
                    refine so_nil ?_
                    exact by_ret rfl ⟨_, _, h, rfl, (Sep.del 0 hs)⟩
                  · refine fi_false rfl (decide_eq_false c118) ?_
                    refine fi_skip ?_
                    refine fi_region ?_
                    refine so_move (v := (.v (.int .u64 (IntKind.u64.wrap ((IntKind.u64.wrap (n108 * (IntKind.u64.wrap (16 : Int)))) + (IntKind.u64.wrap (IntKind.u8.wrap (((nums a0).getD (x109).toNat (0 : Int)) - (48 : Int))))))))) rfl ?_
                    refine so_assign (v := (.v (.int .u64 (IntKind.u64.wrap ((IntKind.u64.wrap (n108 * (IntKind.u64.wrap (16 : Int)))) + (IntKind.u64.wrap (IntKind.u8.wrap (((nums a0).getD (x109).toNat (0 : Int)) - (48 : Int))))))))) rfl ?_
                    refine so_nil ?_
                    refine fi_inBlock ?_
                    refine fi_region ?_
                    refine so_bin rfl rfl ab_add ?_
                    refine so_move (v := (.v (.int .i64 (IntKind.i64.wrap (x109 + (1 : Int)))))) rfl ?_
                    refine so_nil ?_
                    exact fi_at [(1, (.v (.int .i64 (16 : Int)))), (8, (.v (.bool (decide ((16 : Int) = (0 : Int)))))), (9, (.v (.str (pk a0)))), (10, (.v (.int .u64 (1152921504606846976 : Int)))), (11, (.v (.int .u64 (IntKind.u64.wrap ((IntKind.u64.wrap ((1 : Int) * (2 ^ (min ((IntKind.u64.wrap (32 : Int))).toNat IntKind.u64.bits)))) - (1 : Int)))))), (12, (.v (.bool underscores107))), (13, (.v (.int .u64 (IntKind.u64.wrap ((IntKind.u64.wrap (n108 * (IntKind.u64.wrap (16 : Int)))) + (IntKind.u64.wrap (IntKind.u8.wrap (((nums a0).getD (x109).toNat (0 : Int)) - (48 : Int))))))))), (99, (.v v103)), (100, (.v (.int .i64 ((nums a0).length : Int)))), (101, (.v (.int .i64 (IntKind.i64.wrap (x109 + (1 : Int))))))] ⟨rfl, rfl, rfl, rfl, rfl, rfl, rfl, rfl, rfl, rfl, trivial⟩ (h _ _  hs)
          · refine fi_false rfl (decide_eq_false c114) ?_
            refine fi_seq ?_
            refine fi_region ?_
            refine so_move (v := (.v (.int .u8 ((nums a0).getD (x109).toNat (0 : Int))))) rfl ?_
            refine sv_callS (internal_strconv_lower_ok ((nums a0).getD (x109).toNat (0 : Int)) hs  _ h) (fun _ _ ⟨_, _, _, e⟩ => e) rfl rfl ?_
            clear h
            rintro _ _ ⟨y119, h, rfl, rfl⟩
            refine so_bin rfl rfl ab_leq ?_
            refine so_move (v := (.v (.bool (decide ((97 : Int) ≤ y119))))) rfl ?_
            replace h := ofP h; rcases h with ⟨c121, h⟩ | ⟨c121, h⟩
            · refine so_gyes rfl (decide_eq_true c121) ?_
              refine so_move (v := (.v (.int .u8 ((nums a0).getD (x109).toNat (0 : Int))))) rfl ?_
              refine so_gyes rfl (decide_eq_true c121) ?_
              refine sv_callS (internal_strconv_lower_ok ((nums a0).getD (x109).toNat (0 : Int)) hs  _ h) (fun _ _ ⟨_, _, _, e⟩ => e) rfl rfl ?_
              clear h
              rintro _ _ ⟨y122, h, rfl, rfl⟩
              refine so_gyes rfl (decide_eq_true c121) ?_
              refine so_bin rfl rfl ab_leq ?_
              refine so_pick_t (v := (.v (.bool (decide (y122 ≤ (122 : Int)))))) rfl (decide_eq_true c121) rfl ?_
              refine so_assign (v := (.v (.bool (decide (y122 ≤ (122 : Int)))))) rfl ?_
              refine so_nil ?_
              replace h := ofP h; rcases h with ⟨c124, h⟩ | ⟨c124, h⟩
              · refine fi_true rfl (decide_eq_true c124) ?_
                refine fi_region ?_
                refine so_move (v := (.v (.int .u8 ((nums a0).getD (x109).toNat (0 : Int))))) rfl ?_
                refine sv_callS (internal_strconv_lower_ok ((nums a0).getD (x109).toNat (0 : Int)) hs  _ h) (fun _ _ ⟨_, _, _, e⟩ => e) rfl rfl ?_
                clear h
                rintro _ _ ⟨y125, h, rfl, rfl⟩
                refine so_bin rfl rfl ab_sub ?_
                refine so_bin rfl rfl ab_add ?_
                refine so_assign (v := (.v (.int .u8 (IntKind.u8.wrap ((IntKind.u8.wrap (y125 - (97 : Int))) + (10 : Int)))))) rfl ?_
                refine so_nil ?_
                refine fi_inBlock ?_
                refine fi_seq ?_
                refine fi_seq ?_
                refine fi_region ?_
                refine so_move (v := (.v (.int .u8 (IntKind.u8.wrap ((IntKind.u8.wrap (y125 - (97 : Int))) + (10 : Int)))))) rfl ?_
                refine so_move (v := (.v (.int .i64 (16 : Int)))) rfl ?_
                refine sv_ii rfl F161.us3 F161.it5 ?_
                refine so_bin rfl rfl ab_geq ?_
                refine so_nil ?_
                replace h := ofP h; rcases h with ⟨c127, h⟩ | ⟨c127, h⟩
                · refine fi_true rfl (decide_eq_true c127) ?_
                  refine fi_seq ?_
                  refine fi_region ?_
                  refine so_mkif rfl F161.it200 ?_
                  refine so_assign (v := (.v (.int .u64 (0 : Int)))) rfl ?_
                  refine so_assign (v := (.v (.ifc (IfV.num 200 .i64 (2 : Int))))) rfl ?_
                  refine so_nil ?_
                  exact by_ret rfl ⟨_, _, h, rfl, (Sep.del 0 hs)⟩
                · refine fi_false rfl (decide_eq_false c127) ?_
                  refine fi_skip ?_
                  refine fi_seq ?_
                  refine fi_seq ?_
                  refine fi_region ?_
                  refine so_move (v := (.v (.int .u64 n108))) rfl ?_
                  refine so_move (v := (.v (.int .u64 (1152921504606846976 : Int)))) rfl ?_
                  refine so_bin rfl rfl ab_geq ?_
                  refine so_nil ?_
                  replace h := ofP h; rcases h with ⟨c128, h⟩ | ⟨c128, h⟩
                  · refine fi_true rfl (decide_eq_true c128) ?_
                    refine fi_seq ?_
                    refine fi_region ?_
                    refine so_move (v := (.v (.int .u64 (IntKind.u64.wrap ((IntKind.u64.wrap ((1 : Int) * (2 ^ (min ((IntKind.u64.wrap (32 : Int))).toNat IntKind.u64.bits)))) - (1 : Int)))))) rfl ?_
                    refine so_mkif rfl F161.it200 ?_
                    refine so_assign (v := (.v (.int .u64 (IntKind.u64.wrap ((IntKind.u64.wrap ((1 : Int) * (2 ^ (min ((IntKind.u64.wrap (32 : Int))).toNat IntKind.u64.bits)))) - (1 : Int)))))) rfl ?_
                    refine so_assign (v := (.v (.ifc (IfV.num 200 .i64 (1 : Int))))) rfl ?_
                    refine so_nil ?_
                    exact by_ret rfl ⟨_, _, h, rfl, (Sep.del 0 hs)⟩
                  · refine fi_false rfl (decide_eq_false c128) ?_
                    refine fi_skip ?_
                    refine fi_seq ?_
                    refine fi_region ?_
                    refine so_move (v := (.v (.int .u64 n108))) rfl ?_
                    refine so_move (v := (.v (.int .i64 (16 : Int)))) rfl ?_
                    refine sv_ii rfl F161.us3 F161.it163 ?_
                    refine so_bin rfl rfl ab_mul ?_
                    refine so_assign (v := (.v (.int .u64 (IntKind.u64.wrap (n108 * (IntKind.u64.wrap (16 : Int))))))) rfl ?_
                    refine so_nil ?_
                    refine fi_seq ?_
                    refine fi_region ?_
                    refine so_move (v := (.v (.int .u64 (IntKind.u64.wrap (n108 * (IntKind.u64.wrap (16 : Int))))))) rfl ?_
                    refine so_move (v := (.v (.int .u8 (IntKind.u8.wrap ((IntKind.u8.wrap (y125 - (97 : Int))) + (10 : Int)))))) rfl ?_
                    refine sv_ii rfl F161.us5 F161.it163 ?_
                    refine so_bin rfl rfl ab_add ?_
                    refine so_assign (v := (.v (.int .u64 (IntKind.u64.wrap ((IntKind.u64.wrap (n108 * (IntKind.u64.wrap (16 : Int)))) + (IntKind.u64.wrap (IntKind.u8.wrap ((IntKind.u8.wrap (y125 - (97 : Int))) + (10 : Int))))))))) rfl ?_
                    refine so_nil ?_
                    refine fi_seq ?_
                    refine fi_seq ?_
                    refine fi_region ?_
                    refine so_move (v := (.v (.int .u64 (IntKind.u64.wrap ((IntKind.u64.wrap (n108 * (IntKind.u64.wrap (16 : Int)))) + (IntKind.u64.wrap (IntKind.u8.wrap ((IntKind.u8.wrap (y125 - (97 : Int))) + (10 : Int))))))))) rfl ?_
                    refine so_move (v := (.v (.int .u64 (IntKind.u64.wrap (n108 * (IntKind.u64.wrap (16 : Int))))))) rfl ?_
                    refine so_bin rfl rfl ab_lss ?_
                    refine so_move (v := (.v (.bool (decide ((IntKind.u64.wrap ((IntKind.u64.wrap (n108 * (IntKind.u64.wrap (16 : Int)))) + (IntKind.u64.wrap (IntKind.u8.wrap ((IntKind.u8.wrap (y125 - (97 : Int))) + (10 : Int)))))) < (IntKind.u64.wrap (n108 * (IntKind.u64.wrap (16 : Int))))))))) rfl ?_
                    replace h := ofP h; rcases h with ⟨c129, h⟩ | ⟨c129, h⟩
                    · refine so_gno rfl (decide_eq_true c129) ?_
                      refine so_gno rfl (decide_eq_true c129) ?_
                      refine so_gno rfl (decide_eq_true c129) ?_
                      refine so_pick_t (v := (.v (.bool true))) rfl (decide_eq_true c129) rfl ?_
                      refine so_nil ?_
                      refine fi_true rfl rfl ?_
                      refine fi_seq ?_
                      refine fi_region ?_
                      refine so_move (v := (.v (.int .u64 (IntKind.u64.wrap ((IntKind.u64.wrap ((1 : Int) * (2 ^ (min ((IntKind.u64.wrap (32 : Int))).toNat IntKind.u64.bits)))) - (1 : Int)))))) rfl ?_
                      refine so_mkif rfl F161.it200 ?_
                      refine so_assign (v := (.v (.int .u64 (IntKind.u64.wrap ((IntKind.u64.wrap ((1 : Int) * (2 ^ (min ((IntKind.u64.wrap (32 : Int))).toNat IntKind.u64.bits)))) - (1 : Int)))))) rfl ?_
                      refine so_assign (v := (.v (.ifc (IfV.num 200 .i64 (1 : Int))))) rfl ?_
                      refine so_nil ?_
                      exact by_ret rfl ⟨_, _, h, rfl, (Sep.del 0 hs)⟩
                    · refine so_gyes rfl (decide_eq_false c129) ?_
                      refine so_move (v := (.v (.int .u64 (IntKind.u64.wrap ((IntKind.u64.wrap (n108 * (IntKind.u64.wrap (16 : Int)))) + (IntKind.u64.wrap (IntKind.u8.wrap ((IntKind.u8.wrap (y125 - (97 : Int))) + (10 : Int))))))))) rfl ?_
                      refine so_gyes rfl (decide_eq_false c129) ?_
                      refine so_move (v := (.v (.int .u64 (IntKind.u64.wrap ((IntKind.u64.wrap ((1 : Int) * (2 ^ (min ((IntKind.u64.wrap (32 : Int))).toNat IntKind.u64.bits)))) - (1 : Int)))))) rfl ?_
                      refine so_gyes rfl (decide_eq_false c129) ?_
                      refine so_bin rfl rfl ab_gtr ?_
                      refine so_pick_f (v := (.v (.bool (decide ((IntKind.u64.wrap ((IntKind.u64.wrap ((1 : Int) * (2 ^ (min ((IntKind.u64.wrap (32 : Int))).toNat IntKind.u64.bits)))) - (1 : Int))) < (IntKind.u64.wrap ((IntKind.u64.wrap (n108 * (IntKind.u64.wrap (16 : Int)))) + (IntKind.u64.wrap (IntKind.u8.wrap ((IntKind.u8.wrap (y125 - (97 : Int))) + (10 : Int))))))))))) rfl (decide_eq_false c129) rfl ?_
                      refine so_nil ?_
                      replace h := ofP h; rcases h with ⟨c130, h⟩ | ⟨c130, h⟩
                      · refine fi_true rfl (decide_eq_true c130) ?_
                        refine fi_seq ?_
                        refine fi_region ?_
                        refine so_move (v := (.v (.int .u64 (IntKind.u64.wrap ((IntKind.u64.wrap ((1 : Int) * (2 ^ (min ((IntKind.u64.wrap (32 : Int))).toNat IntKind.u64.bits)))) - (1 : Int)))))) rfl ?_
                        refine so_mkif rfl F161.it200 ?_
                        refine so_assign (v := (.v (.int .u64 (IntKind.u64.wrap ((IntKind.u64.wrap ((1 : Int) * (2 ^ (min ((IntKind.u64.wrap (32 : Int))).toNat IntKind.u64.bits)))) - (1 : Int)))))) rfl ?_
                        refine so_assign (v := (.v (.ifc (IfV.num 200 .i64 (1 : Int))))) rfl ?_
                        refine so_nil ?_
                        exact by_ret rfl ⟨_, _, h, rfl, (Sep.del 0 hs)⟩
                      · refine fi_false rfl (decide_eq_false c130) ?_
                        refine fi_skip ?_
                        refine fi_region ?_
                        refine so_move (v := (.v (.int .u64 (IntKind.u64.wrap ((IntKind.u64.wrap (n108 * (IntKind.u64.wrap (16 : Int)))) + (IntKind.u64.wrap (IntKind.u8.wrap ((IntKind.u8.wrap (y125 - (97 : Int))) + (10 : Int))))))))) rfl ?_
                        refine so_assign (v := (.v (.int .u64 (IntKind.u64.wrap ((IntKind.u64.wrap (n108 * (IntKind.u64.wrap (16 : Int)))) + (IntKind.u64.wrap (IntKind.u8.wrap ((IntKind.u8.wrap (y125 - (97 : Int))) + (10 : Int))))))))) rfl ?_
                        refine so_nil ?_
                        refine fi_inBlock ?_
                        refine fi_region ?_
                        refine so_bin rfl rfl ab_add ?_
                        refine so_move (v := (.v (.int .i64 (IntKind.i64.wrap (x109 + (1 : Int)))))) rfl ?_
                        refine so_nil ?_
                        exact fi_at [(1, (.v (.int .i64 (16 : Int)))), (8, (.v (.bool (decide ((16 : Int) = (0 : Int)))))), (9, (.v (.str (pk a0)))), (10, (.v (.int .u64 (1152921504606846976 : Int)))), (11, (.v (.int .u64 (IntKind.u64.wrap ((IntKind.u64.wrap ((1 : Int) * (2 ^ (min ((IntKind.u64.wrap (32 : Int))).toNat IntKind.u64.bits)))) - (1 : Int)))))), (12, (.v (.bool underscores107))), (13, (.v (.int .u64 (IntKind.u64.wrap ((IntKind.u64.wrap (n108 * (IntKind.u64.wrap (16 : Int)))) + (IntKind.u64.wrap (IntKind.u8.wrap ((IntKind.u8.wrap (y125 - (97 : Int))) + (10 : Int))))))))), (99, (.v v103)), (100, (.v (.int .i64 ((nums a0).length : Int)))), (101, (.v (.int .i64 (IntKind.i64.wrap (x109 + (1 : Int))))))] ⟨rfl, rfl, rfl, rfl, rfl, rfl, rfl, rfl, rfl, rfl, trivial⟩ (h _ _  hs)
              · refine fi_false rfl (decide_eq_false c124) ?_
                refine fi_seq ?_
                refine fi_region ?_
                refine so_mkif rfl F161.it200 ?_
                refine so_assign (v := (.v (.int .u64 (0 : Int)))) rfl ?_
                refine so_assign (v := (.v (.ifc (IfV.num 200 .i64 (2 : Int))))) rfl ?_
                refine so_nil ?_
                exact by_ret rfl ⟨_, _, h, rfl, (Sep.del 0 hs)⟩
            · refine so_gno rfl (decide_eq_false c121) ?_
              refine so_gno rfl (decide_eq_false c121) ?_
              refine so_gno rfl (decide_eq_false c121) ?_
              refine so_pick_f (v := (.v (.bool false))) rfl (decide_eq_false c121) rfl ?_
              refine so_assign (v := (.v (.bool false))) rfl ?_
              refine so_nil ?_
              refine fi_false rfl rfl ?_
              refine fi_seq ?_
              refine fi_region ?_
              refine so_mkif rfl F161.it200 ?_
              refine so_assign (v := (.v (.int .u64 (0 : Int)))) rfl ?_
              refine so_assign (v := (.v (.ifc (IfV.num 200 .i64 (2 : Int))))) rfl ?_
              refine so_nil ?_
              exact by_ret rfl ⟨_, _, h, rfl, (Sep.del 0 hs)⟩
        · refine so_gno rfl (decide_eq_false c113) ?_
          refine so_gno rfl (decide_eq_false c113) ?_
          refine so_pick_f (v := (.v (.bool false))) rfl (decide_eq_false c113) rfl ?_
          refine so_assign (v := (.v (.bool false))) rfl ?_
          refine so_nil ?_
          refine fi_false rfl rfl ?_
          refine fi_seq ?_
          refine fi_region ?_
          refine so_move (v := (.v (.int .u8 ((nums a0).getD (x109).toNat (0 : Int))))) rfl ?_
          refine sv_callS (internal_strconv_lower_ok ((nums a0).getD (x109).toNat (0 : Int)) hs  _ h) (fun _ _ ⟨_, _, _, e⟩ => e) rfl rfl ?_
          clear h
          rintro _ _ ⟨y131, h, rfl, rfl⟩
          refine so_bin rfl rfl ab_leq ?_
          refine so_move (v := (.v (.bool (decide ((97 : Int) ≤ y131))))) rfl ?_
          replace h := ofP h; rcases h with ⟨c133, h⟩ | ⟨c133, h⟩
          · refine so_gyes rfl (decide_eq_true c133) ?_
            refine so_move (v := (.v (.int .u8 ((nums a0).getD (x109).toNat (0 : Int))))) rfl ?_
            refine so_gyes rfl (decide_eq_true c133) ?_
            refine sv_callS (internal_strconv_lower_ok ((nums a0).getD (x109).toNat (0 : Int)) hs  _ h) (fun _ _ ⟨_, _, _, e⟩ => e) rfl rfl ?_
            clear h
            rintro _ _ ⟨y134, h, rfl, rfl⟩
            refine so_gyes rfl (decide_eq_true c133) ?_
            refine so_bin rfl rfl ab_leq ?_
            refine so_pick_t (v := (.v (.bool (decide (y134 ≤ (122 : Int)))))) rfl (decide_eq_true c133) rfl ?_
            refine so_assign (v := (.v (.bool (decide (y134 ≤ (122 : Int)))))) rfl ?_
            refine so_nil ?_
            replace h := ofP h; rcases h with ⟨c136, h⟩ | ⟨c136, h⟩
            · refine fi_true rfl (decide_eq_true c136) ?_
              refine fi_region ?_
              refine so_move (v := (.v (.int .u8 ((nums a0).getD (x109).toNat (0 : Int))))) rfl ?_
              refine sv_callS (internal_strconv_lower_ok ((nums a0).getD (x109).toNat (0 : Int)) hs  _ h) (fun _ _ ⟨_, _, _, e⟩ => e) rfl rfl ?_
              clear h
              rintro _ _ ⟨y137, h, rfl, rfl⟩
              refine so_bin rfl rfl ab_sub ?_
              refine so_bin rfl rfl ab_add ?_
              refine so_assign (v := (.v (.int .u8 (IntKind.u8.wrap ((IntKind.u8.wrap (y137 - (97 : Int))) + (10 : Int)))))) rfl ?_
              refine so_nil ?_
              refine fi_inBlock ?_
              refine fi_seq ?_
              refine fi_seq ?_
              refine fi_region ?_
              refine so_move (v := (.v (.int .u8 (IntKind.u8.wrap ((IntKind.u8.wrap (y137 - (97 : Int))) + (10 : Int)))))) rfl ?_
              refine so_move (v := (.v (.int .i64 (16 : Int)))) rfl ?_
              refine sv_ii rfl F161.us3 F161.it5 ?_
              refine so_bin rfl rfl ab_geq ?_
              refine so_nil ?_
              replace h := ofP h; rcases h with ⟨c139, h⟩ | ⟨c139, h⟩
              · refine fi_true rfl (decide_eq_true c139) ?_
                refine fi_seq ?_
                refine fi_region ?_
                refine so_mkif rfl F161.it200 ?_
                refine so_assign (v := (.v (.int .u64 (0 : Int)))) rfl ?_
                refine so_assign (v := (.v (.ifc (IfV.num 200 .i64 (2 : Int))))) rfl ?_
                refine so_nil ?_
                exact by_ret rfl ⟨_, _, h, rfl, (Sep.del 0 hs)⟩
              · refine fi_false rfl (decide_eq_false c139) ?_
                refine fi_skip ?_
                refine fi_seq ?_
                refine fi_seq ?_
                refine fi_region ?_
                refine so_move (v := (.v (.int .u64 n108))) rfl ?_
                refine so_move (v := (.v (.int .u64 (1152921504606846976 : Int)))) rfl ?_
                refine so_bin rfl rfl ab_geq ?_
                refine so_nil ?_
                replace h := ofP h; rcases h with ⟨c140, h⟩ | ⟨c140, h⟩
                · refine fi_true rfl (decide_eq_true c140) ?_
                  refine fi_seq ?_
                  refine fi_region ?_
                  refine so_move (v := (.v (.int .u64 (IntKind.u64.wrap ((IntKind.u64.wrap ((1 : Int) * (2 ^ (min ((IntKind.u64.wrap (32 : Int))).toNat IntKind.u64.bits)))) - (1 : Int)))))) rfl ?_
                  refine so_mkif rfl F161.it200 ?_
                  refine so_assign (v := (.v (.int .u64 (IntKind.u64.wrap ((IntKind.u64.wrap ((1 : Int) * (2 ^ (min ((IntKind.u64.wrap (32 : Int))).toNat IntKind.u64.bits)))) - (1 : Int)))))) rfl ?_
                  refine so_assign (v := (.v (.ifc (IfV.num 200 .i64 (1 : Int))))) rfl ?_
                  refine so_nil ?_
                  exact by_ret rfl ⟨_, _, h, rfl, (Sep.del 0 hs)⟩
                · refine fi_false rfl (decide_eq_false c140) ?_
                  refine fi_skip ?_
                  refine fi_seq ?_
                  refine fi_region ?_
                  refine so_move (v := (.v (.int .u64 n108))) rfl ?_
                  refine so_move (v := (.v (.int .i64 (16 : Int)))) rfl ?_
                  refine sv_ii rfl F161.us3 F161.it163 ?_
                  refine so_bin rfl rfl ab_mul ?_
                  refine so_assign (v := (.v (.int .u64 (IntKind.u64.wrap (n108 * (IntKind.u64.wrap (16 : Int))))))) rfl ?_
                  refine so_nil ?_
                  refine fi_seq ?_
                  refine fi_region ?_
                  refine so_move (v := (.v (.int .u64 (IntKind.u64.wrap (n108 * (IntKind.u64.wrap (16 : Int))))))) rfl ?_
                  refine so_move (v := (.v (.int .u8 (IntKind.u8.wrap ((IntKind.u8.wrap (y137 - (97 : Int))) + (10 : Int)))))) rfl ?_
                  refine sv_ii rfl F161.us5 F161.it163 ?_
                  refine so_bin rfl rfl ab_add ?_
                  refine so_assign (v := (.v (.int .u64 (IntKind.u64.wrap ((IntKind.u64.wrap (n108 * (IntKind.u64.wrap (16 : Int)))) + (IntKind.u64.wrap (IntKind.u8.wrap ((IntKind.u8.wrap (y137 - (97 : Int))) + (10 : Int))))))))) rfl ?_
                  refine so_nil ?_
                  refine fi_seq ?_
                  refine fi_seq ?_
                  refine fi_region ?_
                  refine so_move (v := (.v (.int .u64 (IntKind.u64.wrap ((IntKind.u64.wrap (n108 * (IntKind.u64.wrap (16 : Int)))) + (IntKind.u64.wrap (IntKind.u8.wrap ((IntKind.u8.wrap (y137 - (97 : Int))) + (10 : Int))))))))) rfl ?_
                  refine so_move (v := (.v (.int .u64 (IntKind.u64.wrap (n108 * (IntKind.u64.wrap (16 : Int))))))) rfl ?_
                  refine so_bin rfl rfl ab_lss ?_
                  refine so_move (v := (.v (.bool (decide ((IntKind.u64.wrap ((IntKind.u64.wrap (n108 * (IntKind.u64.wrap (16 : Int)))) + (IntKind.u64.wrap (IntKind.u8.wrap ((IntKind.u8.wrap (y137 - (97 : Int))) + (10 : Int)))))) < (IntKind.u64.wrap (n108 * (IntKind.u64.wrap (16 : Int))))))))) rfl ?_
                  replace h := ofP h; rcases h with ⟨c141, h⟩ | ⟨c141, h⟩
                  · refine so_gno rfl (decide_eq_true c141) ?_
                    refine so_gno rfl (decide_eq_true c141) ?_
                    refine so_gno rfl (decide_eq_true c141) ?_
                    refine so_pick_t (v := (.v (.bool true))) rfl (decide_eq_true c141) rfl ?_
                    refine so_nil ?_
                    refine fi_true rfl rfl ?_
                    refine fi_seq ?_
                    refine fi_region ?_
                    refine so_move (v := (.v (.int .u64 (IntKind.u64.wrap ((IntKind.u64.wrap ((1 : Int) * (2 ^ (min ((IntKind.u64.wrap (32 : Int))).toNat IntKind.u64.bits)))) - (1 : Int)))))) rfl ?_
                    refine so_mkif rfl F161.it200 ?_
                    refine so_assign (v := (.v (.int .u64 (IntKind.u64.wrap ((IntKind.u64.wrap ((1 : Int) * (2 ^ (min ((IntKind.u64.wrap (32 : Int))).toNat IntKind.u64.bits)))) - (1 : Int)))))) rfl ?_
                    refine so_assign (v := (.v (.ifc (IfV.num 200 .i64 (1 : Int))))) rfl ?_
                    refine so_nil ?_
                    exact by_ret rfl ⟨_, _, h, rfl, (Sep.del 0 hs)⟩
                  · refine so_gyes rfl (decide_eq_false c141) ?_
                    refine so_move (v := (.v (.int .u64 (IntKind.u64.wrap ((IntKind.u64.wrap (n108 * (IntKind.u64.wrap (16 : Int)))) + (IntKind.u64.wrap (IntKind.u8.wrap ((IntKind.u8.wrap (y137 - (97 : Int))) + (10 : Int))))))))) rfl ?_
                    refine so_gyes rfl (decide_eq_false c141) ?_
                    refine so_move (v := (.v (.int .u64 (IntKind.u64.wrap ((IntKind.u64.wrap ((1 : Int) * (2 ^ (min ((IntKind.u64.wrap (32 : Int))).toNat IntKind.u64.bits)))) - (1 : Int)))))) rfl ?_
                    refine so_gyes rfl (decide_eq_false c141) ?_
                    refine so_bin rfl rfl ab_gtr ?_
                    refine so_pick_f (v := (.v (.bool (decide ((IntKind.u64.wrap ((IntKind.u64.wrap ((1 : Int) * (2 ^ (min ((IntKind.u64.wrap (32 : Int))).toNat IntKind.u64.bits)))) - (1 : Int))) < (IntKind.u64.wrap ((IntKind.u64.wrap (n108 * (IntKind.u64.wrap (16 : Int)))) + (IntKind.u64.wrap (IntKind.u8.wrap ((IntKind.u8.wrap (y137 - (97 : Int))) + (10 : Int))))))))))) rfl (decide_eq_false c141) rfl ?_
                    refine so_nil ?_
                    replace h := ofP h; rcases h with ⟨c142, h⟩ | ⟨c142, h⟩
                    · refine fi_true rfl (decide_eq_true c142) ?_
                      refine fi_seq ?_
                      refine fi_region ?_
                      refine so_move (v := (.v (.int .u64 (IntKind.u64.wrap ((IntKind.u64.wrap ((1 : Int) * (2 ^ (min ((IntKind.u64.wrap (32 : Int))).toNat IntKind.u64.bits)))) - (1 : Int)))))) rfl ?_
                      refine so_mkif rfl F161.it200 ?_
                      refine so_assign (v := (.v (.int .u64 (IntKind.u64.wrap ((IntKind.u64.wrap ((1 : Int) * (2 ^ (min ((IntKind.u64.wrap (32 : Int))).toNat IntKind.u64.bits)))) - (1 : Int)))))) rfl ?_
                      refine so_assign (v := (.v (.ifc (IfV.num 200 .i64 (1 : Int))))) rfl ?_
                      refine so_nil ?_
                      exact by_ret rfl ⟨_, _, h, rfl, (Sep.del 0 hs)⟩
                    · refine fi_false rfl (decide_eq_false c142) ?_
                      refine fi_skip ?_
                      refine fi_region ?_
                      refine so_move (v := (.v (.int .u64 (IntKind.u64.wrap ((IntKind.u64.wrap (n108 * (IntKind.u64.wrap (16 : Int)))) + (IntKind.u64.wrap (IntKind.u8.wrap ((IntKind.u8.wrap (y137 - (97 : Int))) + (10 : Int))))))))) rfl ?_
                      refine so_assign (v := (.v (.int .u64 (IntKind.u64.wrap ((IntKind.u64.wrap (n108 * (IntKind.u64.wrap (16 : Int)))) + (IntKind.u64.wrap (IntKind.u8.wrap ((IntKind.u8.wrap (y137 - (97 : Int))) + (10 : Int))))))))) rfl ?_
                      refine so_nil ?_
                      refine fi_inBlock ?_
                      refine fi_region ?_
                      refine so_bin rfl rfl ab_add ?_
                      refine so_move (v := (.v (.int .i64 (IntKind.i64.wrap (x109 + (1 : Int)))))) rfl ?_
                      refine so_nil ?_
                      exact fi_at [(1, (.v (.int .i64 (16 : Int)))), (8, (.v (.bool (decide ((16 : Int) = (0 : Int)))))), (9, (.v (.str (pk a0)))), (10, (.v (.int .u64 (1152921504606846976 : Int)))), (11, (.v (.int .u64 (IntKind.u64.wrap ((IntKind.u64.wrap ((1 : Int) * (2 ^ (min ((IntKind.u64.wrap (32 : Int))).toNat IntKind.u64.bits)))) - (1 : Int)))))), (12, (.v (.bool underscores107))), (13, (.v (.int .u64 (IntKind.u64.wrap ((IntKind.u64.wrap (n108 * (IntKind.u64.wrap (16 : Int)))) + (IntKind.u64.wrap (IntKind.u8.wrap ((IntKind.u8.wrap (y137 - (97 : Int))) + (10 : Int))))))))), (99, (.v v103)), (100, (.v (.int .i64 ((nums a0).length : Int)))), (101, (.v (.int .i64 (IntKind.i64.wrap (x109 + (1 : Int))))))] ⟨rfl, rfl, rfl, rfl, rfl, rfl, rfl, rfl, rfl, rfl, trivial⟩ (h _ _  hs)
            · refine fi_false rfl (decide_eq_false c136) ?_
              refine fi_seq ?_
              refine fi_region ?_
              refine so_mkif rfl F161.it200 ?_
              refine so_assign (v := (.v (.int .u64 (0 : Int)))) rfl ?_
              refine so_assign (v := (.v (.ifc (IfV.num 200 .i64 (2 : Int))))) rfl ?_
              refine so_nil ?_
              exact by_ret rfl ⟨_, _, h, rfl, (Sep.del 0 hs)⟩
          · refine so_gno rfl (decide_eq_false c133) ?_
            refine so_gno rfl (decide_eq_false c133) ?_
            refine so_gno rfl (decide_eq_false c133) ?_
            refine so_pick_f (v := (.v (.bool false))) rfl (decide_eq_false c133) rfl ?_
            refine so_assign (v := (.v (.bool false))) rfl ?_
            refine so_nil ?_
            refine fi_false rfl rfl ?_
            refine fi_seq ?_
            refine fi_region ?_
            refine so_mkif rfl F161.it200 ?_
            refine so_assign (v := (.v (.int .u64 (0 : Int)))) rfl ?_
            refine so_assign (v := (.v (.ifc (IfV.num 200 .i64 (2 : Int))))) rfl ?_
            refine so_nil ?_
            exact by_ret rfl ⟨_, _, h, rfl, (Sep.del 0 hs)⟩
      · refine so_gno rfl (decide_eq_false c112) ?_
        refine so_pick_f (v := (.v (.bool false))) rfl (decide_eq_false c112) rfl ?_
        refine so_assign (v := (.v (.bool false))) rfl ?_
        refine so_nil ?_
        refine fi_false rfl rfl ?_
        refine fi_seq ?_
        refine fi_region ?_
        refine so_move (v := (.v (.int .u8 ((nums a0).getD (x109).toNat (0 : Int))))) rfl ?_
        refine so_bin rfl rfl ab_leq ?_
        refine so_move (v := (.v (.bool (decide ((48 : Int) ≤ ((nums a0).getD (x109).toNat (0 : Int))))))) rfl ?_
        replace h := ofP h; rcases h with ⟨c143, h⟩ | ⟨c143, h⟩
        · refine so_gyes rfl (decide_eq_true c143) ?_
          refine so_move (v := (.v (.int .u8 ((nums a0).getD (x109).toNat (0 : Int))))) rfl ?_
          refine so_gyes rfl (decide_eq_true c143) ?_
          refine so_bin rfl rfl ab_leq ?_
          refine so_pick_t (v := (.v (.bool (decide (((nums a0).getD (x109).toNat (0 : Int)) ≤ (57 : Int)))))) rfl (decide_eq_true c143) rfl ?_
          refine so_assign (v := (.v (.bool (decide (((nums a0).getD (x109).toNat (0 : Int)) ≤ (57 : Int)))))) rfl ?_
          refine so_nil ?_
          replace h := ofP h; rcases h with ⟨c144, h⟩ | ⟨c144, h⟩
          · refine fi_true rfl (decide_eq_true c144) ?_
            refine fi_region ?_
            refine so_move (v := (.v (.int .u8 ((nums a0).getD (x109).toNat (0 : Int))))) rfl ?_
            refine so_bin rfl rfl ab_sub ?_
            refine so_assign (v := (.v (.int .u8 (IntKind.u8.wrap (((nums a0).getD (x109).toNat (0 : Int)) - (48 : Int)))))) rfl ?_
            refine so_nil ?_
            refine fi_inBlock ?_
            refine fi_seq ?_
            refine fi_seq ?_
            refine fi_region ?_
            refine so_move (v := (.v (.int .u8 (IntKind.u8.wrap (((nums a0).getD (x109).toNat (0 : Int)) - (48 : Int)))))) rfl ?_
            refine so_move (v := (.v (.int .i64 (16 : Int)))) rfl ?_
            refine sv_ii rfl F161.us3 F161.it5 ?_
            refine so_bin rfl rfl ab_geq ?_
            refine so_nil ?_
            replace h := ofP h; rcases h with ⟨c145, h⟩ | ⟨c145, h⟩
            · refine fi_true rfl (decide_eq_true c145) ?_
              refine fi_seq ?_
              refine fi_region ?_
              refine so_mkif rfl F161.it200 ?_
              refine so_assign (v := (.v (.int .u64 (0 : Int)))) rfl ?_
              refine so_assign (v := (.v (.ifc (IfV.num 200 .i64 (2 : Int))))) rfl ?_
              refine so_nil ?_
              exact by_ret rfl ⟨_, _, h, rfl, (Sep.del 0 hs)⟩
            · refine fi_false rfl (decide_eq_false c145) ?_
              refine fi_skip ?_
              refine fi_seq ?_
              refine fi_seq ?_
              refine fi_region ?_
              refine so_move (v := (.v (.int .u64 n108))) rfl ?_
              refine so_move (v := (.v (.int .u64 (1152921504606846976 : Int)))) rfl ?_
              refine so_bin rfl rfl ab_geq ?_
              refine so_nil ?_
              replace h := ofP h; rcases h with ⟨c146, h⟩ | ⟨c146, h⟩
              · refine fi_true rfl (decide_eq_true c146) ?_
                refine fi_seq ?_
                refine fi_region ?_
                refine so_move (v := (.v (.int .u64 (IntKind.u64.wrap ((IntKind.u64.wrap ((1 : Int) * (2 ^ (min ((IntKind.u64.wrap (32 : Int))).toNat IntKind.u64.bits)))) - (1 : Int)))))) rfl ?_
                refine so_mkif rfl F161.it200 ?_
                refine so_assign (v := (.v (.int .u64 (IntKind.u64.wrap ((IntKind.u64.wrap ((1 : Int) * (2 ^ (min ((IntKind.u64.wrap (32 : Int))).toNat IntKind.u64.bits)))) - (1 : Int)))))) rfl ?_
                refine so_assign (v := (.v (.ifc (IfV.num 200 .i64 (1 : Int))))) rfl ?_
                refine so_nil ?_
                exact by_ret rfl ⟨_, _, h, rfl, (Sep.del 0 hs)⟩
              · refine fi_false rfl (decide_eq_false c146) ?_
                refine fi_skip ?_
                refine fi_seq ?_
                refine fi_region ?_
                refine so_move (v := (.v (.int .u64 n108))) rfl ?_
                refine so_move (v := (.v (.int .i64 (16 : Int)))) rfl ?_
                refine sv_ii rfl F161.us3 F161.it163 ?_
                refine so_bin rfl rfl ab_mul ?_
                refine so_assign (v := (.v (.int .u64 (IntKind.u64.wrap (n108 * (IntKind.u64.wrap (16 : Int))))))) rfl ?_
                refine so_nil ?_
                refine fi_seq ?_
                refine fi_region ?_
                refine so_move (v := (.v (.int .u64 (IntKind.u64.wrap (n108 * (IntKind.u64.wrap (16 : Int))))))) rfl ?_
                refine so_move (v := (.v (.int .u8 (IntKind.u8.wrap (((nums a0).getD (x109).toNat (0 : Int)) - (48 : Int)))))) rfl ?_
                refine sv_ii rfl F161.us5 F161.it163 ?_
                refine so_bin rfl rfl ab_add ?_
                refine so_assign (v := (.v (.int .u64 (IntKind.u64.wrap ((IntKind.u64.wrap (n108 * (IntKind.u64.wrap (16 : Int)))) + (IntKind.u64.wrap (IntKind.u8.wrap (((nums a0).getD (x109).toNat (0 : Int)) - (48 : Int))))))))) rfl ?_
                refine so_nil ?_
                refine fi_seq ?_
                refine fi_seq ?_
                refine fi_region ?_
                refine so_move (v := (.v (.int .u64 (IntKind.u64.wrap ((IntKind.u64.wrap (n108 * (IntKind.u64.wrap (16 : Int)))) + (IntKind.u64.wrap (IntKind.u8.wrap (((nums a0).getD (x109).toNat (0 : Int)) - (48 : Int))))))))) rfl ?_
                refine so_move (v := (.v (.int .u64 (IntKind.u64.wrap (n108 * (IntKind.u64.wrap (16 : Int))))))) rfl ?_
                refine so_bin rfl rfl ab_lss ?_
                refine so_move (v := (.v (.bool (decide ((IntKind.u64.wrap ((IntKind.u64.wrap (n108 * (IntKind.u64.wrap (16 : Int)))) + (IntKind.u64.wrap (IntKind.u8.wrap (((nums a0).getD (x109).toNat (0 : Int)) - (48 : Int)))))) < (IntKind.u64.wrap (n108 * (IntKind.u64.wrap (16 : Int))))))))) rfl ?_
                replace h := ofP h; rcases h with ⟨c147, h⟩ | ⟨c147, h⟩
                · refine so_gno rfl (decide_eq_true c147) ?_
                  refine so_gno rfl (decide_eq_true c147) ?_
                  refine so_gno rfl (decide_eq_true c147) ?_
                  refine so_pick_t (v := (.v (.bool true))) rfl (decide_eq_true c147) rfl ?_
                  refine so_nil ?_
                  refine fi_true rfl rfl ?_
                  refine fi_seq ?_
                  refine fi_region ?_
                  refine so_move (v := (.v (.int .u64 (IntKind.u64.wrap ((IntKind.u64.wrap ((1 : Int) * (2 ^ (min ((IntKind.u64.wrap (32 : Int))).toNat IntKind.u64.bits)))) - (1 : Int)))))) rfl ?_
                  refine so_mkif rfl F161.it200 ?_
                  refine so_assign (v := (.v (.int .u64 (IntKind.u64.wrap ((IntKind.u64.wrap ((1 : Int) * (2 ^ (min ((IntKind.u64.wrap (32 : Int))).toNat IntKind.u64.bits)))) - (1 : Int)))))) rfl ?_
                  refine so_assign (v := (.v (.ifc (IfV.num 200 .i64 (1 : Int))))) rfl ?_
                  refine so_nil ?_
                  exact by_ret rfl ⟨_, _, h, rfl, (Sep.del 0 hs)⟩
                · refine so_gyes rfl (decide_eq_false c147) ?_
                  refine so_move (v := (.v (.int .u64 (IntKind.u64.wrap ((IntKind.u64.wrap (n108 * (IntKind.u64.wrap (16 : Int)))) + (IntKind.u64.wrap (IntKind.u8.wrap (((nums a0).getD (x109).toNat (0 : Int)) - (48 : Int))))))))) rfl ?_
                  refine so_gyes rfl (decide_eq_false c147) ?_
                  refine so_move (v := (.v (.int .u64 (IntKind.u64.wrap ((IntKind.u64.wrap ((1 : Int) * (2 ^ (min ((IntKind.u64.wrap (32 : Int))).toNat IntKind.u64.bits)))) - (1 : Int)))))) rfl ?_
                  refine so_gyes rfl (decide_eq_false c147) ?_
                  refine so_bin rfl rfl ab_gtr ?_
                  refine so_pick_f (v := (.v (.bool (decide ((IntKind.u64.wrap ((IntKind.u64.wrap ((1 : Int) * (2 ^ (min ((IntKind.u64.wrap (32 : Int))).toNat IntKind.u64.bits)))) - (1 : Int))) < (IntKind.u64.wrap ((IntKind.u64.wrap (n108 * (IntKind.u64.wrap (16 : Int)))) + (IntKind.u64.wrap (IntKind.u8.wrap (((nums a0).getD (x109).toNat (0 : Int)) - (48 : Int))))))))))) rfl (decide_eq_false c147) rfl ?_
                  refine so_nil ?_
                  replace h := ofP h; rcases h with ⟨c148, h⟩ | ⟨c148, h⟩
                  · refine fi_true rfl (decide_eq_true c148) ?_
                    refine fi_seq ?_
                    refine fi_region ?_
                    refine so_move (v := (.v (.int .u64 (IntKind.u64.wrap ((IntKind.u64.wrap ((1 : Int) * (2 ^ (min ((IntKind.u64.wrap (32 : Int))).toNat IntKind.u64.bits)))) - (1 : Int)))))) rfl ?_
                    refine so_mkif rfl F161.it200 ?_
                    refine so_assign (v := (.v (.int .u64 (IntKind.u64.wrap ((IntKind.u64.wrap ((1 : Int) * (2 ^ (min ((IntKind.u64.wrap (32 : Int))).toNat IntKind.u64.bits)))) - (1 : Int)))))) rfl ?_
                    refine so_assign (v := (.v (.ifc (IfV.num 200 .i64 (1 : Int))))) rfl ?_
                    refine so_nil ?_
                    exact by_ret rfl ⟨_, _, h, rfl, (Sep.del 0 hs)⟩
                  · refine fi_false rfl (decide_eq_false c148) ?_
                    refine fi_skip ?_
                    refine fi_region ?_
                    refine so_move (v := (.v (.int .u64 (IntKind.u64.wrap ((IntKind.u64.wrap (n108 * (IntKind.u64.wrap (16 : Int)))) + (IntKind.u64.wrap (IntKind.u8.wrap (((nums a0).getD (x109).toNat (0 : Int)) - (48 : Int))))))))) rfl ?_
                    refine so_assign (v := (.v (.int .u64 (IntKind.u64.wrap ((IntKind.u64.wrap (n108 * (IntKind.u64.wrap (16 : Int)))) + (IntKind.u64.wrap (IntKind.u8.wrap (((nums a0).getD (x109).toNat (0 : Int)) - (48 : Int))))))))) rfl ?_
                    refine so_nil ?_
                    refine fi_inBlock ?_
                    refine fi_region ?_
                    refine so_bin rfl rfl ab_add ?_
                    refine so_move (v := (.v (.int .i64 (IntKind.i64.wrap (x109 + (1 : Int)))))) rfl ?_
                    refine so_nil ?_
                    exact fi_at [(1, (.v (.int .i64 (16 : Int)))), (8, (.v (.bool (decide ((16 : Int) = (0 : Int)))))), (9, (.v (.str (pk a0)))), (10, (.v (.int .u64 (1152921504606846976 : Int)))), (11, (.v (.int .u64 (IntKind.u64.wrap ((IntKind.u64.wrap ((1 : Int) * (2 ^ (min ((IntKind.u64.wrap (32 : Int))).toNat IntKind.u64.bits)))) - (1 : Int)))))), (12, (.v (.bool underscores107))), (13, (.v (.int .u64 (IntKind.u64.wrap ((IntKind.u64.wrap (n108 * (IntKind.u64.wrap (16 : Int)))) + (IntKind.u64.wrap (IntKind.u8.wrap (((nums a0).getD (x109).toNat (0 : Int)) - (48 : Int))))))))), (99, (.v v103)), (100, (.v (.int .i64 ((nums a0).length : Int)))), (101, (.v (.int .i64 (IntKind.i64.wrap (x109 + (1 : Int))))))] ⟨rfl, rfl, rfl, rfl, rfl, rfl, rfl, rfl, rfl, rfl, trivial⟩ (h _ _  hs)
          · refine fi_false rfl (decide_eq_false c144) ?_
            refine fi_seq ?_
            refine fi_region ?_
            refine so_move (v := (.v (.int .u8 ((nums a0).getD (x109).toNat (0 : Int))))) rfl ?_
            refine sv_callS (internal_strconv_lower_ok ((nums a0).getD (x109).toNat (0 : Int)) hs  _ h) (fun _ _ ⟨_, _, _, e⟩ => e) rfl rfl ?_
            clear h
            rintro _ _ ⟨y149, h, rfl, rfl⟩
            refine so_bin rfl rfl ab_leq ?_
            refine so_move (v := (.v (.bool (decide ((97 : Int) ≤ y149))))) rfl ?_
            replace h := ofP h; rcases h with ⟨c151, h⟩ | ⟨c151, h⟩
            · refine so_gyes rfl (decide_eq_true c151) ?_
              refine so_move (v := (.v (.int .u8 ((nums a0).getD (x109).toNat (0 : Int))))) rfl ?_
              refine so_gyes rfl (decide_eq_true c151) ?_
              refine sv_callS (internal_strconv_lower_ok ((nums a0).getD (x109).toNat (0 : Int)) hs  _ h) (fun _ _ ⟨_, _, _, e⟩ => e) rfl rfl ?_
              clear h
              rintro _ _ ⟨y152, h, rfl, rfl⟩
              refine so_gyes rfl (decide_eq_true c151) ?_
              refine so_bin rfl rfl ab_leq ?_
              refine so_pick_t (v := (.v (.bool (decide (y152 ≤ (122 : Int)))))) rfl (decide_eq_true c151) rfl ?_
              refine so_assign (v := (.v (.bool (decide (y152 ≤ (122 : Int)))))) rfl ?_
              refine so_nil ?_
              replace h := ofP h; rcases h with ⟨c154, h⟩ | ⟨c154, h⟩
              · refine fi_true rfl (decide_eq_true c154) ?_
                refine fi_region ?_
                refine so_move (v := (.v (.int .u8 ((nums a0).getD (x109).toNat (0 : Int))))) rfl ?_
                refine sv_callS (internal_strconv_lower_ok ((nums a0).getD (x109).toNat (0 : Int)) hs  _ h) (fun _ _ ⟨_, _, _, e⟩ => e) rfl rfl ?_
                clear h
                rintro _ _ ⟨y155, h, rfl, rfl⟩
                refine so_bin rfl rfl ab_sub ?_
                refine so_bin rfl rfl ab_add ?_
                refine so_assign (v := (.v (.int .u8 (IntKind.u8.wrap ((IntKind.u8.wrap (y155 - (97 : Int))) + (10 : Int)))))) rfl ?_
                refine so_nil ?_
                refine fi_inBlock ?_
                refine fi_seq ?_
                refine fi_seq ?_
                refine fi_region ?_
                refine so_move (v := (.v (.int .u8 (IntKind.u8.wrap ((IntKind.u8.wrap (y155 - (97 : Int))) + (10 : Int)))))) rfl ?_
                refine so_move (v := (.v (.int .i64 (16 : Int)))) rfl ?_
                refine sv_ii rfl F161.us3 F161.it5 ?_
                refine so_bin rfl rfl ab_geq ?_
                refine so_nil ?_
                replace h := ofP h; rcases h with ⟨c157, h⟩ | ⟨c157, h⟩
                · refine fi_true rfl (decide_eq_true c157) ?_
                  refine fi_seq ?_
                  refine fi_region ?_
                  refine so_mkif rfl F161.it200 ?_
                  refine so_assign (v := (.v (.int .u64 (0 : Int)))) rfl ?_
                  refine so_assign (v := (.v (.ifc (IfV.num 200 .i64 (2 : Int))))) rfl ?_
                  refine so_nil ?_
                  exact by_ret rfl ⟨_, _, h, rfl, (Sep.del 0 hs)⟩
                · refine fi_false rfl (decide_eq_false c157) ?_
                  refine fi_skip ?_
                  refine fi_seq ?_
                  refine fi_seq ?_
                  refine fi_region ?_
                  refine so_move (v := (.v (.int .u64 n108))) rfl ?_
                  refine so_move (v := (.v (.int .u64 (1152921504606846976 : Int)))) rfl ?_
                  refine so_bin rfl rfl ab_geq ?_
                  refine so_nil ?_
                  replace h := ofP h; rcases h with ⟨c158, h⟩ | ⟨c158, h⟩
                  · refine fi_true rfl (decide_eq_true c158) ?_
                    refine fi_seq ?_
                    refine fi_region ?_
                    refine so_move (v := (.v (.int .u64 (IntKind.u64.wrap ((IntKind.u64.wrap ((1 : Int) * (2 ^ (min ((IntKind.u64.wrap (32 : Int))).toNat IntKind.u64.bits)))) - (1 : Int)))))) rfl ?_
                    refine so_mkif rfl F161.it200 ?_
                    refine so_assign (v := (.v (.int .u64 (IntKind.u64.wrap ((IntKind.u64.wrap ((1 : Int) * (2 ^ (min ((IntKind.u64.wrap (32 : Int))).toNat IntKind.u64.bits)))) - (1 : Int)))))) rfl ?_
                    refine so_assign (v := (.v (.ifc (IfV.num 200 .i64 (1 : Int))))) rfl ?_
                    refine so_nil ?_
                    exact by_ret rfl ⟨_, _, h, rfl, (Sep.del 0 hs)⟩
                  · refine fi_false rfl (decide_eq_false c158) ?_
                    refine fi_skip ?_
                    refine fi_seq ?_
                    refine fi_region ?_
                    refine so_move (v := (.v (.int .u64 n108))) rfl ?_
                    refine so_move (v := (.v (.int .i64 (16 : Int)))) rfl ?_
                    refine sv_ii rfl F161.us3 F161.it163 ?_
                    refine so_bin rfl rfl ab_mul ?_
                    refine so_assign (v := (.v (.int .u64 (IntKind.u64.wrap (n108 * (IntKind.u64.wrap (16 : Int))))))) rfl ?_
                    refine so_nil ?_
                    refine fi_seq ?_
                    refine fi_region ?_
                    refine so_move (v := (.v (.int .u64 (IntKind.u64.wrap (n108 * (IntKind.u64.wrap (16 : Int))))))) rfl ?_
                    refine so_move (v := (.v (.int .u8 (IntKind.u8.wrap ((IntKind.u8.wrap (y155 - (97 : Int))) + (10 : Int)))))) rfl ?_
                    refine sv_ii rfl F161.us5 F161.it163 ?_
                    refine so_bin rfl rfl ab_add ?_
                    refine so_assign (v := (.v (.int .u64 (IntKind.u64.wrap ((IntKind.u64.wrap (n108 * (IntKind.u64.wrap (16 : Int)))) + (IntKind.u64.wrap (IntKind.u8.wrap ((IntKind.u8.wrap (y155 - (97 : Int))) + (10 : Int))))))))) rfl ?_
                    refine so_nil ?_
                    refine fi_seq ?_
                    refine fi_seq ?_
                    refine fi_region ?_
                    refine so_move (v := (.v (.int .u64 (IntKind.u64.wrap ((IntKind.u64.wrap (n108 * (IntKind.u64.wrap (16 : Int)))) + (IntKind.u64.wrap (IntKind.u8.wrap ((IntKind.u8.wrap (y155 - (97 : Int))) + (10 : Int))))))))) rfl ?_
                    refine so_move (v := (.v (.int .u64 (IntKind.u64.wrap (n108 * (IntKind.u64.wrap (16 : Int))))))) rfl ?_
                    refine so_bin rfl rfl ab_lss ?_
                    refine so_move (v := (.v (.bool (decide ((IntKind.u64.wrap ((IntKind.u64.wrap (n108 * (IntKind.u64.wrap (16 : Int)))) + (IntKind.u64.wrap (IntKind.u8.wrap ((IntKind.u8.wrap (y155 - (97 : Int))) + (10 : Int)))))) < (IntKind.u64.wrap (n108 * (IntKind.u64.wrap (16 : Int))))))))) rfl ?_
                    replace h := ofP h; rcases h with ⟨c159, h⟩ | ⟨c159, h⟩
                    · refine so_gno rfl (decide_eq_true c159) ?_
                      refine so_gno rfl (decide_eq_true c159) ?_
                      refine so_gno rfl (decide_eq_true c159) ?_
                      refine so_pick_t (v := (.v (.bool true))) rfl (decide_eq_true c159) rfl ?_
                      refine so_nil ?_
                      refine fi_true rfl rfl ?_
                      refine fi_seq ?_
                      refine fi_region ?_
                      refine so_move (v := (.v (.int .u64 (IntKind.u64.wrap ((IntKind.u64.wrap ((1 : Int) * (2 ^ (min ((IntKind.u64.wrap (32 : Int))).toNat IntKind.u64.bits)))) - (1 : Int)))))) rfl ?_
                      refine so_mkif rfl F161.it200 ?_
                      refine so_assign (v := (.v (.int .u64 (IntKind.u64.wrap ((IntKind.u64.wrap ((1 : Int) * (2 ^ (min ((IntKind.u64.wrap (32 : Int))).toNat IntKind.u64.bits)))) - (1 : Int)))))) rfl ?_
                      refine so_assign (v := (.v (.ifc (IfV.num 200 .i64 (1 : Int))))) rfl ?_
                      refine so_nil ?_
                      exact by_ret rfl ⟨_, _, h, rfl, (Sep.del 0 hs)⟩
                    · refine so_gyes rfl (decide_eq_false c159) ?_
                      refine so_move (v := (.v (.int .u64 (IntKind.u64.wrap ((IntKind.u64.wrap (n108 * (IntKind.u64.wrap (16 : Int)))) + (IntKind.u64.wrap (IntKind.u8.wrap ((IntKind.u8.wrap (y155 - (97 : Int))) + (10 : Int))))))))) rfl ?_
                      refine so_gyes rfl (decide_eq_false c159) ?_
                      refine so_move (v := (.v (.int .u64 (IntKind.u64.wrap ((IntKind.u64.wrap ((1 : Int) * (2 ^ (min ((IntKind.u64.wrap (32 : Int))).toNat IntKind.u64.bits)))) - (1 : Int)))))) rfl ?_
                      refine so_gyes rfl (decide_eq_false c159) ?_
                      refine so_bin rfl rfl ab_gtr ?_
                      refine so_pick_f (v := (.v (.bool (decide ((IntKind.u64.wrap ((IntKind.u64.wrap ((1 : Int) * (2 ^ (min ((IntKind.u64.wrap (32 : Int))).toNat IntKind.u64.bits)))) - (1 : Int))) < (IntKind.u64.wrap ((IntKind.u64.wrap (n108 * (IntKind.u64.wrap (16 : Int)))) + (IntKind.u64.wrap (IntKind.u8.wrap ((IntKind.u8.wrap (y155 - (97 : Int))) + (10 : Int))))))))))) rfl (decide_eq_false c159) rfl ?_
                      refine so_nil ?_
                      replace h := ofP h; rcases h with ⟨c160, h⟩ | ⟨c160, h⟩
                      · refine fi_true rfl (decide_eq_true c160) ?_
                        refine fi_seq ?_
                        refine fi_region ?_
                        refine so_move (v := (.v (.int .u64 (IntKind.u64.wrap ((IntKind.u64.wrap ((1 : Int) * (2 ^ (min ((IntKind.u64.wrap (32 : Int))).toNat IntKind.u64.bits)))) - (1 : Int)))))) rfl ?_
                        refine so_mkif rfl F161.it200 ?_
                        refine so_assign (v := (.v (.int .u64 (IntKind.u64.wrap ((IntKind.u64.wrap ((1 : Int) * (2 ^ (min ((IntKind.u64.wrap (32 : Int))).toNat IntKind.u64.bits)))) - (1 : Int)))))) rfl ?_
                        refine so_assign (v := (.v (.ifc (IfV.num 200 .i64 (1 : Int))))) rfl ?_
                        refine so_nil ?_
                        exact by_ret rfl ⟨_, _, h, rfl, (Sep.del 0 hs)⟩
                      · refine fi_false rfl (decide_eq_false c160) ?_
                        refine fi_skip ?_
                        refine fi_region ?_
                        refine so_move (v := (.v (.int .u64 (IntKind.u64.wrap ((IntKind.u64.wrap (n108 * (IntKind.u64.wrap (16 : Int)))) + (IntKind.u64.wrap (IntKind.u8.wrap ((IntKind.u8.wrap (y155 - (97 : Int))) + (10 : Int))))))))) rfl ?_
                        refine so_assign (v := (.v (.int .u64 (IntKind.u64.wrap ((IntKind.u64.wrap (n108 * (IntKind.u64.wrap (16 : Int)))) + (IntKind.u64.wrap (IntKind.u8.wrap ((IntKind.u8.wrap (y155 - (97 : Int))) + (10 : Int))))))))) rfl ?_
                        refine so_nil ?_
                        refine fi_inBlock ?_
                        refine fi_region ?_
                        refine so_bin rfl rfl ab_add ?_
                        refine so_move (v := (.v (.int .i64 (IntKind.i64.wrap (x109 + (1 : Int)))))) rfl ?_
                        refine so_nil ?_
                        exact fi_at [(1, (.v (.int .i64 (16 : Int)))), (8, (.v (.bool (decide ((16 : Int) = (0 : Int)))))), (9, (.v (.str (pk a0)))), (10, (.v (.int .u64 (1152921504606846976 : Int)))), (11, (.v (.int .u64 (IntKind.u64.wrap ((IntKind.u64.wrap ((1 : Int) * (2 ^ (min ((IntKind.u64.wrap (32 : Int))).toNat IntKind.u64.bits)))) - (1 : Int)))))), (12, (.v (.bool underscores107))), (13, (.v (.int .u64 (IntKind.u64.wrap ((IntKind.u64.wrap (n108 * (IntKind.u64.wrap (16 : Int)))) + (IntKind.u64.wrap (IntKind.u8.wrap ((IntKind.u8.wrap (y155 - (97 : Int))) + (10 : Int))))))))), (99, (.v v103)), (100, (.v (.int .i64 ((nums a0).length : Int)))), (101, (.v (.int .i64 (IntKind.i64.wrap (x109 + (1 : Int))))))] ⟨rfl, rfl, rfl, rfl, rfl, rfl, rfl, rfl, rfl, rfl, trivial⟩ (h _ _  hs)
              · refine fi_false rfl (decide_eq_false c154) ?_
                refine fi_seq ?_
                refine fi_region ?_
                refine so_mkif rfl F161.it200 ?_
                refine so_assign (v := (.v (.int .u64 (0 : Int)))) rfl ?_
                refine so_assign (v := (.v (.ifc (IfV.num 200 .i64 (2 : Int))))) rfl ?_
                refine so_nil ?_
                exact by_ret rfl ⟨_, _, h, rfl, (Sep.del 0 hs)⟩
            · refine so_gno rfl (decide_eq_false c151) ?_
              refine so_gno rfl (decide_eq_false c151) ?_
              refine so_gno rfl (decide_eq_false c151) ?_
              refine so_pick_f (v := (.v (.bool false))) rfl (decide_eq_false c151) rfl ?_
              refine so_assign (v := (.v (.bool false))) rfl ?_
              refine so_nil ?_
              refine fi_false rfl rfl ?_
              refine fi_seq ?_
              refine fi_region ?_
              refine so_mkif rfl F161.it200 ?_
              refine so_assign (v := (.v (.int .u64 (0 : Int)))) rfl ?_
              refine so_assign (v := (.v (.ifc (IfV.num 200 .i64 (2 : Int))))) rfl ?_
              refine so_nil ?_
              exact by_ret rfl ⟨_, _, h, rfl, (Sep.del 0 hs)⟩
        · refine so_gno rfl (decide_eq_false c143) ?_
          refine so_gno rfl (decide_eq_false c143) ?_
          refine so_pick_f (v := (.v (.bool false))) rfl (decide_eq_false c143) rfl ?_
          refine so_assign (v := (.v (.bool false))) rfl ?_
          refine so_nil ?_
          refine fi_false rfl rfl ?_
          refine fi_seq ?_
          refine fi_region ?_
          refine so_move (v := (.v (.int .u8 ((nums a0).getD (x109).toNat (0 : Int))))) rfl ?_
          refine sv_callS (internal_strconv_lower_ok ((nums a0).getD (x109).toNat (0 : Int)) hs  _ h) (fun _ _ ⟨_, _, _, e⟩ => e) rfl rfl ?_
          clear h
          rintro _ _ ⟨y161, h, rfl, rfl⟩
          refine so_bin rfl rfl ab_leq ?_
          refine so_move (v := (.v (.bool (decide ((97 : Int) ≤ y161))))) rfl ?_
          replace h := ofP h; rcases h with ⟨c163, h⟩ | ⟨c163, h⟩
          · refine so_gyes rfl (decide_eq_true c163) ?_
            refine so_move (v := (.v (.int .u8 ((nums a0).getD (x109).toNat (0 : Int))))) rfl ?_
            refine so_gyes rfl (decide_eq_true c163) ?_
            refine sv_callS (internal_strconv_lower_ok ((nums a0).getD (x109).toNat (0 : Int)) hs  _ h) (fun _ _ ⟨_, _, _, e⟩ => e) rfl rfl ?_
            clear h
            rintro _ _ ⟨y164, h, rfl, rfl⟩
            refine so_gyes rfl (decide_eq_true c163) ?_
            refine so_bin rfl rfl ab_leq ?_
            refine so_pick_t (v := (.v (.bool (decide (y164 ≤ (122 : Int)))))) rfl (decide_eq_true c163) rfl ?_
            refine so_assign (v := (.v (.bool (decide (y164 ≤ (122 : Int)))))) rfl ?_
            refine so_nil ?_
            replace h := ofP h; rcases h with ⟨c166, h⟩ | ⟨c166, h⟩
            · refine fi_true rfl (decide_eq_true c166) ?_
              refine fi_region ?_
              refine so_move (v := (.v (.int .u8 ((nums a0).getD (x109).toNat (0 : Int))))) rfl ?_
              refine sv_callS (internal_strconv_lower_ok ((nums a0).getD (x109).toNat (0 : Int)) hs  _ h) (fun _ _ ⟨_, _, _, e⟩ => e) rfl rfl ?_
              clear h
              rintro _ _ ⟨y167, h, rfl, rfl⟩
              refine so_bin rfl rfl ab_sub ?_
              refine so_bin rfl rfl ab_add ?_
              refine so_assign (v := (.v (.int .u8 (IntKind.u8.wrap ((IntKind.u8.wrap (y167 - (97 : Int))) + (10 : Int)))))) rfl ?_
              refine so_nil ?_
              refine fi_inBlock ?_
              refine fi_seq ?_
              refine fi_seq ?_
              refine fi_region ?_
              refine so_move (v := (.v (.int .u8 (IntKind.u8.wrap ((IntKind.u8.wrap (y167 - (97 : Int))) + (10 : Int)))))) rfl ?_
              refine so_move (v := (.v (.int .i64 (16 : Int)))) rfl ?_
              refine sv_ii rfl F161.us3 F161.it5 ?_
              refine so_bin rfl rfl ab_geq ?_
              refine so_nil ?_
              replace h := ofP h; rcases h with ⟨c169, h⟩ | ⟨c169, h⟩
              · refine fi_true rfl (decide_eq_true c169) ?_
                refine fi_seq ?_
                refine fi_region ?_
                refine so_mkif rfl F161.it200 ?_
                refine so_assign (v := (.v (.int .u64 (0 : Int)))) rfl ?_
                refine so_assign (v := (.v (.ifc (IfV.num 200 .i64 (2 : Int))))) rfl ?_
                refine so_nil ?_
                exact by_ret rfl ⟨_, _, h, rfl, (Sep.del 0 hs)⟩
              · refine fi_false rfl (decide_eq_false c169) ?_
                refine fi_skip ?_
                refine fi_seq ?_
                refine fi_seq ?_
                refine fi_region ?_
                refine so_move (v := (.v (.int .u64 n108))) rfl ?_
                refine so_move (v := (.v (.int .u64 (1152921504606846976 : Int)))) rfl ?_
                refine so_bin rfl rfl ab_geq ?_
                refine so_nil ?_
                replace h := ofP h; rcases h with ⟨c170, h⟩ | ⟨c170, h⟩
                · refine fi_true rfl (decide_eq_true c170) ?_
                  refine fi_seq ?_
                  refine fi_region ?_
                  refine so_move (v := (.v (.int .u64 (IntKind.u64.wrap ((IntKind.u64.wrap ((1 : Int) * (2 ^ (min ((IntKind.u64.wrap (32 : Int))).toNat IntKind.u64.bits)))) - (1 : Int)))))) rfl ?_
                  refine so_mkif rfl F161.it200 ?_
                  refine so_assign (v := (.v (.int .u64 (IntKind.u64.wrap ((IntKind.u64.wrap ((1 : Int) * (2 ^ (min ((IntKind.u64.wrap (32 : Int))).toNat IntKind.u64.bits)))) - (1 : Int)))))) rfl ?_
                  refine so_assign (v := (.v (.ifc (IfV.num 200 .i64 (1 : Int))))) rfl ?_
                  refine so_nil ?_
                  exact by_ret rfl ⟨_, _, h, rfl, (Sep.del 0 hs)⟩
                · refine fi_false rfl (decide_eq_false c170) ?_
                  refine fi_skip ?_
                  refine fi_seq ?_
                  refine fi_region ?_
                  refine so_move (v := (.v (.int .u64 n108))) rfl ?_
                  refine so_move (v := (.v (.int .i64 (16 : Int)))) rfl ?_
                  refine sv_ii rfl F161.us3 F161.it163 ?_
                  refine so_bin rfl rfl ab_mul ?_
                  refine so_assign (v := (.v (.int .u64 (IntKind.u64.wrap (n108 * (IntKind.u64.wrap (16 : Int))))))) rfl ?_
                  refine so_nil ?_
                  refine fi_seq ?_
                  refine fi_region ?_
                  refine so_move (v := (.v (.int .u64 (IntKind.u64.wrap (n108 * (IntKind.u64.wrap (16 : Int))))))) rfl ?_
                  refine so_move (v := (.v (.int .u8 (IntKind.u8.wrap ((IntKind.u8.wrap (y167 - (97 : Int))) + (10 : Int)))))) rfl ?_
                  refine sv_ii rfl F161.us5 F161.it163 ?_
                  refine so_bin rfl rfl ab_add ?_
                  refine so_assign (v := (.v (.int .u64 (IntKind.u64.wrap ((IntKind.u64.wrap (n108 * (IntKind.u64.wrap (16 : Int)))) + (IntKind.u64.wrap (IntKind.u8.wrap ((IntKind.u8.wrap (y167 - (97 : Int))) + (10 : Int))))))))) rfl ?_
                  refine so_nil ?_
                  refine fi_seq ?_
                  refine fi_seq ?_
                  refine fi_region ?_
                  refine so_move (v := (.v (.int .u64 (IntKind.u64.wrap ((IntKind.u64.wrap (n108 * (IntKind.u64.wrap (16 : Int)))) + (IntKind.u64.wrap (IntKind.u8.wrap ((IntKind.u8.wrap (y167 - (97 : Int))) + (10 : Int))))))))) rfl ?_
                  refine so_move (v := (.v (.int .u64 (IntKind.u64.wrap (n108 * (IntKind.u64.wrap (16 : Int))))))) rfl ?_
                  refine so_bin rfl rfl ab_lss ?_
                  refine so_move (v := (.v (.bool (decide ((IntKind.u64.wrap ((IntKind.u64.wrap (n108 * (IntKind.u64.wrap (16 : Int)))) + (IntKind.u64.wrap (IntKind.u8.wrap ((IntKind.u8.wrap (y167 - (97 : Int))) + (10 : Int)))))) < (IntKind.u64.wrap (n108 * (IntKind.u64.wrap (16 : Int))))))))) rfl ?_
                  replace h := ofP h; rcases h with ⟨c171, h⟩ | ⟨c171, h⟩
                  · refine so_gno rfl (decide_eq_true c171) ?_
                    refine so_gno rfl (decide_eq_true c171) ?_
                    refine so_gno rfl (decide_eq_true c171) ?_
                    refine so_pick_t (v := (.v (.bool true))) rfl (decide_eq_true c171) rfl ?_
                    refine so_nil ?_
                    refine fi_true rfl rfl ?_
                    refine fi_seq ?_
                    refine fi_region ?_
                    refine so_move (v := (.v (.int .u64 (IntKind.u64.wrap ((IntKind.u64.wrap ((1 : Int) * (2 ^ (min ((IntKind.u64.wrap (32 : Int))).toNat IntKind.u64.bits)))) - (1 : Int)))))) rfl ?_
                    refine so_mkif rfl F161.it200 ?_
                    refine so_assign (v := (.v (.int .u64 (IntKind.u64.wrap ((IntKind.u64.wrap ((1 : Int) * (2 ^ (min ((IntKind.u64.wrap (32 : Int))).toNat IntKind.u64.bits)))) - (1 : Int)))))) rfl ?_
                    refine so_assign (v := (.v (.ifc (IfV.num 200 .i64 (1 : Int))))) rfl ?_
                    refine so_nil ?_
                    exact by_ret rfl ⟨_, _, h, rfl, (Sep.del 0 hs)⟩
                  · refine so_gyes rfl (decide_eq_false c171) ?_
                    refine so_move (v := (.v (.int .u64 (IntKind.u64.wrap ((IntKind.u64.wrap (n108 * (IntKind.u64.wrap (16 : Int)))) + (IntKind.u64.wrap (IntKind.u8.wrap ((IntKind.u8.wrap (y167 - (97 : Int))) + (10 : Int))))))))) rfl ?_
                    refine so_gyes rfl (decide_eq_false c171) ?_
                    refine so_move (v := (.v (.int .u64 (IntKind.u64.wrap ((IntKind.u64.wrap ((1 : Int) * (2 ^ (min ((IntKind.u64.wrap (32 : Int))).toNat IntKind.u64.bits)))) - (1 : Int)))))) rfl ?_
                    refine so_gyes rfl (decide_eq_false c171) ?_
                    refine so_bin rfl rfl ab_gtr ?_
                    refine so_pick_f (v := (.v (.bool (decide ((IntKind.u64.wrap ((IntKind.u64.wrap ((1 : Int) * (2 ^ (min ((IntKind.u64.wrap (32 : Int))).toNat IntKind.u64.bits)))) - (1 : Int))) < (IntKind.u64.wrap ((IntKind.u64.wrap (n108 * (IntKind.u64.wrap (16 : Int)))) + (IntKind.u64.wrap (IntKind.u8.wrap ((IntKind.u8.wrap (y167 - (97 : Int))) + (10 : Int))))))))))) rfl (decide_eq_false c171) rfl ?_
                    refine so_nil ?_
                    replace h := ofP h; rcases h with ⟨c172, h⟩ | ⟨c172, h⟩
                    · refine fi_true rfl (decide_eq_true c172) ?_
                      refine fi_seq ?_
                      refine fi_region ?_
                      refine so_move (v := (.v (.int .u64 (IntKind.u64.wrap ((IntKind.u64.wrap ((1 : Int) * (2 ^ (min ((IntKind.u64.wrap (32 : Int))).toNat IntKind.u64.bits)))) - (1 : Int)))))) rfl ?_
                      refine so_mkif rfl F161.it200 ?_
                      refine so_assign (v := (.v (.int .u64 (IntKind.u64.wrap ((IntKind.u64.wrap ((1 : Int) * (2 ^ (min ((IntKind.u64.wrap (32 : Int))).toNat IntKind.u64.bits)))) - (1 : Int)))))) rfl ?_
                      refine so_assign (v := (.v (.ifc (IfV.num 200 .i64 (1 : Int))))) rfl ?_
                      refine so_nil ?_
                      exact by_ret rfl ⟨_, _, h, rfl, (Sep.del 0 hs)⟩
                    · refine fi_false rfl (decide_eq_false c172) ?_
                      refine fi_skip ?_
                      refine fi_region ?_
                      refine so_move (v := (.v (.int .u64 (IntKind.u64.wrap ((IntKind.u64.wrap (n108 * (IntKind.u64.wrap (16 : Int)))) + (IntKind.u64.wrap (IntKind.u8.wrap ((IntKind.u8.wrap (y167 - (97 : Int))) + (10 : Int))))))))) rfl ?_
                      refine so_assign (v := (.v (.int .u64 (IntKind.u64.wrap ((IntKind.u64.wrap (n108 * (IntKind.u64.wrap (16 : Int)))) + (IntKind.u64.wrap (IntKind.u8.wrap ((IntKind.u8.wrap (y167 - (97 : Int))) + (10 : Int))))))))) rfl ?_
                      refine so_nil ?_
                      refine fi_inBlock ?_
                      refine fi_region ?_
                      refine so_bin rfl rfl ab_add ?_
                      refine so_move (v := (.v (.int .i64 (IntKind.i64.wrap (x109 + (1 : Int)))))) rfl ?_
                      refine so_nil ?_
                      exact fi_at [(1, (.v (.int .i64 (16 : Int)))), (8, (.v (.bool (decide ((16 : Int) = (0 : Int)))))), (9, (.v (.str (pk a0)))), (10, (.v (.int .u64 (1152921504606846976 : Int)))), (11, (.v (.int .u64 (IntKind.u64.wrap ((IntKind.u64.wrap ((1 : Int) * (2 ^ (min ((IntKind.u64.wrap (32 : Int))).toNat IntKind.u64.bits)))) - (1 : Int)))))), (12, (.v (.bool underscores107))), (13, (.v (.int .u64 (IntKind.u64.wrap ((IntKind.u64.wrap (n108 * (IntKind.u64.wrap (16 : Int)))) + (IntKind.u64.wrap (IntKind.u8.wrap ((IntKind.u8.wrap (y167 - (97 : Int))) + (10 : Int))))))))), (99, (.v v103)), (100, (.v (.int .i64 ((nums a0).length : Int)))), (101, (.v (.int .i64 (IntKind.i64.wrap (x109 + (1 : Int))))))] ⟨rfl, rfl, rfl, rfl, rfl, rfl, rfl, rfl, rfl, rfl, trivial⟩ (h _ _  hs)
            · refine fi_false rfl (decide_eq_false c166) ?_
              refine fi_seq ?_
              refine fi_region ?_
              refine so_mkif rfl F161.it200 ?_
              refine so_assign (v := (.v (.int .u64 (0 : Int)))) rfl ?_
              refine so_assign (v := (.v (.ifc (IfV.num 200 .i64 (2 : Int))))) rfl ?_
              refine so_nil ?_
              exact by_ret rfl ⟨_, _, h, rfl, (Sep.del 0 hs)⟩
          · refine so_gno rfl (decide_eq_false c163) ?_
            refine so_gno rfl (decide_eq_false c163) ?_
            refine so_gno rfl (decide_eq_false c163) ?_
            refine so_pick_f (v := (.v (.bool false))) rfl (decide_eq_false c163) rfl ?_
            refine so_assign (v := (.v (.bool false))) rfl ?_
            refine so_nil ?_
            refine fi_false rfl rfl ?_
            refine fi_seq ?_
            refine fi_region ?_
            refine so_mkif rfl F161.it200 ?_
            refine so_assign (v := (.v (.int .u64 (0 : Int)))) rfl ?_
            refine so_assign (v := (.v (.ifc (IfV.num 200 .i64 (2 : Int))))) rfl ?_
            refine so_nil ?_
            exact by_ret rfl ⟨_, _, h, rfl, (Sep.del 0 hs)⟩
    · refine fi_false rfl (decide_eq_false c110) ?_
      refine fi_exit rfl ?_
      refine fi_seq ?_
      refine fi_seq ?_
      refine fi_region ?_
      refine so_move (v := (.v (.bool underscores107))) rfl ?_
      refine so_move (v := (.v (.bool underscores107))) rfl ?_
      replace h := ofT h; rcases h with ⟨c173, h⟩ | ⟨c173, h⟩
      · refine so_gyes rfl c173 ?_
        refine so_move (v := (.v (.str (pk a0)))) rfl ?_
        refine so_gyes rfl c173 ?_
        refine sv_call (internal_strconv_underscoreOK_ok a0 hs  _ h) rfl rfl nofun ?_
        clear h hs
        rintro _ H175 ⟨y174, h, rfl, hs⟩
        refine so_gyes rfl c173 ?_
        refine so_un rfl au_not ?_
        refine so_pick_t (v := (.v (.bool (!y174)))) rfl c173 rfl ?_
        refine so_nil ?_
        replace h := ofT h; rcases h with ⟨c176, h⟩ | ⟨c176, h⟩
        · refine fi_false rfl (not_f c176) ?_
          refine fi_skip ?_
          refine fi_seq ?_
          refine fi_region ?_
          refine so_move (v := (.v (.int .u64 n108))) rfl ?_
          refine so_assign (v := (.v (.int .u64 n108))) rfl ?_
          refine so_assign (v := (.v (.ifc IfV.nil))) rfl ?_
          refine so_nil ?_
          exact by_ret rfl ⟨_, _, h, rfl, (Sep.del 0 hs)⟩
        · refine fi_true rfl (not_t c176) ?_
          refine fi_seq ?_
          refine fi_region ?_
          refine so_mkif rfl F161.it200 ?_
          refine so_assign (v := (.v (.int .u64 (0 : Int)))) rfl ?_
          refine so_assign (v := (.v (.ifc (IfV.num 200 .i64 (2 : Int))))) rfl ?_
          refine so_nil ?_
          exact by_ret rfl ⟨_, _, h, rfl, (Sep.del 0 hs)⟩
      · refine so_gno rfl c173 ?_
        refine so_gno rfl c173 ?_
        refine so_gno rfl c173 ?_
        refine so_pick_f (v := (.v (.bool false))) rfl c173 rfl ?_
        refine so_nil ?_
        refine fi_false rfl rfl ?_
        refine fi_skip ?_
        refine fi_seq ?_
        refine fi_region ?_
        refine so_move (v := (.v (.int .u64 n108))) rfl ?_
        refine so_assign (v := (.v (.int .u64 n108))) rfl ?_
        refine so_assign (v := (.v (.ifc IfV.nil))) rfl ?_
        refine so_nil ?_
        exact by_ret rfl ⟨_, _, h, rfl, (Sep.del 0 hs)⟩
theorem internal_strconv_ParseUintC_okS {fr : List Pc} {H : Heap} (a0 : List UInt8) (hs : Sep H fr)  (K : Int → IfV → Prop) (h : internal_strconv_ParseUintC.wp a0 K) : OkQ Tryd.prog 161 [(.v (.str (pk a0))), (.v (.int .i64 (16 : Int))), (.v (.int .i64 (32 : Int)))] H (fun r H2 => ∃ (y0 : Int) (y1 : IfV), K y0 y1 ∧ r = (.t [(.v (.int .u64 y0)), (.v (.ifc y1))]) ∧ H = H2) := by
  obtain ⟨r, H2, h1, y0, y1, hK, hr, hsep⟩ := internal_strconv_ParseUintC_ok (fr := came H) (H := H) a0 (came_sep H)  K h
  have hk : H.n ≤ H2.n ∧ ∀ i, i < H.n → H2.f i = H.f i := hsep.1.2.1
  exact ⟨r, H, h1.forget hk.1 hk.2 (by subst hr; rfl), y0, y1, hK, hr, rfl⟩
theorem internal_strconv_ParseUint_ok {fr : List Pc} {H : Heap} (a0 : List UInt8) (a1 : Int) (a2 : Int) (hs : Sep H fr) (K : Int → IfV → Prop) (h : internal_strconv_ParseUint.wp a0 a1 a2 K) : OkQ Tryd.prog 161 [.v (.str (pk a0)), .v (.int .i64 a1), .v (.int .i64 a2)] H (fun r H2 => ∃ (y0 : Int) (y1 : IfV), K y0 y1 ∧ r = (.t [(.v (.int .u64 y0)), (.v (.ifc y1))]) ∧ H = H2) := by
  obtain ⟨⟨rfl, rfl⟩, h⟩ := h
  exact internal_strconv_ParseUintC_okS a0 hs  K h

end Go.Proofs.YtcgiboeilcdonaaDoor.G

namespace Go.Proofs.YtcgiboeilcdonaaDoor.G
open Go Go.Ab Go.Proofs Go.Proofs.YtcgiboeilcdonaaDoor
set_option maxRecDepth 100000
set_option linter.unusedVariables false
set_option linter.unusedSimpArgs false
set_option maxHeartbeats 1000000
attribute [local irreducible] wops wopf Go.Ab.Fin
theorem strconv_toError_ok {fr : List Pc} {H : Heap} (a0 a1 : List UInt8) (a2 a3 : Int) (a4 : IfV) (hs : Sep H fr) (gt5 : ∀ H, Sep H fr → HasTab 5 F.tab5 H) (K : IfV → Prop) (h : strconv_toError.wp a0 a1 a2 a3 a4 K) : OkQ Tryd.prog 162 [.v (.str (pk a0)), .v (.str (pk a1)), .v (.int .i64 a2), .v (.int .i64 a3), .v (.ifc a4)] H (fun r H2 => ∃ (y0 : IfV), K y0 ∧ r = (.v (.ifc y0)) ∧ H = H2) := by
  obtain ⟨⟨rfl, hl⟩, h⟩ := h
  refine ⟨.v (.ifc .other), _, ok_libE Tryd.call162 (fun β w us hw ha => ?_), _, h, rfl, rfl⟩
  obtain ⟨o, ho1, ho2⟩ := (gt5 H hs).heap hw
  obtain ⟨ev, hv, hev⟩ := ho2 w ho1
  rw [args_err _ _ _ _ _ _ β us ha]
  exact (Any.strconv_toError_syntax Tryd.laysC245 (pk a0) (pk a1) a2 a3 ev w (by rw [pk_size]; exact Nat.le_trans hl (by decide)) hv hev).mono fun e w' ⟨N, he, _, _, hb⟩ => ⟨⟨_, he, fun β => ⟨_, _, rfl⟩⟩, hb⟩

end Go.Proofs.YtcgiboeilcdonaaDoor.G

namespace Go.Proofs.YtcgiboeilcdonaaDoor.G
open Go Go.Ab Go.Proofs Go.Proofs.YtcgiboeilcdonaaDoor
set_option maxRecDepth 100000
set_option linter.unusedVariables false
set_option linter.unusedSimpArgs false
set_option maxHeartbeats 1000000
attribute [local irreducible] wops wopf Go.Ab.Fin
theorem F142.if79 : tif Tryd.prog 79 = true := by kernel_rfl
theorem strconv_ParseUint_ok {fr : List Pc} {H : Heap} (a0 : List UInt8) (a1 : Int) (a2 : Int) (hs : Sep H (fr)) (gt5 : ∀ H, Sep H fr → HasTab 5 F.tab5 H) (K : Int → IfV → Prop) (h : strconv_ParseUint.wp a0 a1 a2 K) : OkQ Tryd.prog 142 [(.v (.str (pk a0))), (.v (.int .i64 a1)), (.v (.int .i64 a2))] H (fun r H2 => ∃ (y0 : Int) (y1 : IfV), K y0 y1 ∧ r = (.t [(.v (.int .u64 y0)), (.v (.ifc y1))]) ∧ H = H2) := by
  unfold strconv_ParseUint.wp at h
  refine of_body Tryd.f142 F.hm Tryd.func142 rfl Tryd.call142 (by kernel_rfl) (by simp) ?_
  refine fi_seq ?_
  refine fi_region ?_
  refine so_assign (v := (.v (.int .u64 (0 : Int)))) rfl ?_
  refine so_assign (v := (.v (.ifc IfV.nil))) rfl ?_
  refine so_nil ?_
  refine fi_seq ?_
  refine fi_region ?_
  refine so_move (v := (.v (.str (pk a0)))) rfl ?_
  refine so_move (v := (.v (.int .i64 a1))) rfl ?_
  refine so_move (v := (.v (.int .i64 a2))) rfl ?_
  refine sv_callS (internal_strconv_ParseUint_ok a0 a1 a2 hs  _ h) (fun _ _ ⟨_, _, _, _, e⟩ => e) rfl rfl ?_
  clear h
  rintro _ _ ⟨y101, y102, h, rfl, rfl⟩
  refine so_move (v := (.t [(.v (.int .u64 y101)), (.v (.ifc y102))])) rfl ?_
  refine so_extract rfl rfl rfl ?_
  refine so_extract rfl rfl rfl ?_
  refine so_assign (v := (.v (.int .u64 y101))) rfl ?_
  refine so_assign (v := (.v (.ifc y102))) rfl ?_
  refine so_nil ?_
  refine fi_seq ?_
  refine fi_seq ?_
  refine fi_region ?_
  refine so_move (v := (.v (.ifc y102))) rfl ?_
  refine so_ifc_ne rfl rfl F142.if79 ?_
  refine so_nil ?_
  replace h := ofT h; rcases h with ⟨c104, h⟩ | ⟨c104, h⟩
  · refine fi_false rfl (not_f c104) ?_
    refine fi_skip ?_
    refine fi_seq ?_
    refine fi_region ?_
    refine so_move (v := (.v (.int .u64 y101))) rfl ?_
    refine so_assign (v := (.v (.int .u64 y101))) rfl ?_
    refine so_assign (v := (.v (.ifc IfV.nil))) rfl ?_
    refine so_nil ?_
    exact by_ret rfl ⟨_, _, h, rfl, rfl⟩
  · refine fi_true rfl (not_t c104) ?_
    refine fi_seq ?_
    refine fi_region ?_
    refine so_move (v := (.v (.int .u64 y101))) rfl ?_
    refine so_move (v := (.v (.str (pk a0)))) rfl ?_
    refine so_move (v := (.v (.int .i64 a1))) rfl ?_
    refine so_move (v := (.v (.int .i64 a2))) rfl ?_
    refine so_move (v := (.v (.ifc y102))) rfl ?_
    refine sv_callS (strconv_toError_ok ([80, 97, 114, 115, 101, 85, 105, 110, 116] : List UInt8) a0 a1 a2 y102 hs (fun _ hs => gt5 _ hs) _ h) (fun _ _ ⟨_, _, _, e⟩ => e) rfl rfl ?_
    clear h
    rintro _ _ ⟨y105, h, rfl, rfl⟩
    refine so_assign (v := (.v (.int .u64 y101))) rfl ?_
    refine so_assign (v := (.v (.ifc y105))) rfl ?_
    refine so_nil ?_
    exact by_ret rfl ⟨_, _, h, rfl, rfl⟩

end Go.Proofs.YtcgiboeilcdonaaDoor.G

namespace Go.Proofs.YtcgiboeilcdonaaDoor.G
open Go Go.Ab Go.Proofs Go.Proofs.YtcgiboeilcdonaaDoor
set_option maxRecDepth 100000
set_option linter.unusedVariables false
set_option linter.unusedSimpArgs false
set_option maxHeartbeats 1000000
attribute [local irreducible] wops wopf Go.Ab.Fin
theorem F121.it167 : tint Tryd.prog 167 = some .u32 := by kernel_rfl
theorem F121.us163 : (Tryd.prog.underlying 163).isSome = true := by kernel_rfl
theorem impl_readHex_ok {fr : List Pc} {H : Heap} (a0 : List UInt8) (hs : Sep H (fr)) (gt5 : ∀ H, Sep H fr → HasTab 5 F.tab5 H) (K : Nat → Prop) (h : impl_readHex.wp a0 K) : OkQ Tryd.prog 121 [(.v (.str (pk a0)))] H (fun r H2 => ∃ (y0 : Nat), K y0 ∧ r = (.v (.flt .f32 y0)) ∧ H = H2) := by
  unfold impl_readHex.wp at h
  refine of_body Tryd.f121 F.hm Tryd.func121 rfl Tryd.call121 (by kernel_rfl) (by simp) ?_
  refine fi_seq ?_
  refine fi_region ?_
  refine so_assign (v := (.v (.flt .f32 (cz .f32 0)))) rfl ?_
  refine so_nil ?_
  refine fi_seq ?_
  refine fi_region ?_
  refine so_move (v := (.v (.str (pk a0)))) rfl ?_
  refine sv_callS (strconv_ParseUint_ok a0 (16 : Int) (32 : Int) hs (fun _ hs => gt5 _ hs) _ h) (fun _ _ ⟨_, _, _, _, e⟩ => e) rfl rfl ?_
  clear h
  rintro _ _ ⟨y101, y102, h, rfl, rfl⟩
  refine so_move (v := (.t [(.v (.int .u64 y101)), (.v (.ifc y102))])) rfl ?_
  refine so_extract rfl rfl rfl ?_
  refine so_extract rfl rfl rfl ?_
  refine so_assign (v := (.v (.int .u64 y101))) rfl ?_
  refine so_assign (v := (.v (.ifc y102))) rfl ?_
  refine so_nil ?_
  refine fi_seq ?_
  refine fi_region ?_
  refine so_move (v := (.v (.int .u64 y101))) rfl ?_
  refine sv_ii rfl F121.us163 F121.it167 ?_
  refine sv_callS (math_Float32frombits_ok (IntKind.u32.wrap y101) hs  _ h) (fun _ _ ⟨_, _, _, e⟩ => e) rfl rfl ?_
  clear h
  rintro _ _ ⟨y104, h, rfl, rfl⟩
  refine so_assign (v := (.v (.flt .f32 y104))) rfl ?_
  refine so_nil ?_
  exact by_ret rfl ⟨_, h, rfl, rfl⟩

end Go.Proofs.YtcgiboeilcdonaaDoor.G

namespace Go.Proofs.YtcgiboeilcdonaaDoor.G
open Go Go.Ab Go.Proofs Go.Proofs.YtcgiboeilcdonaaDoor
set_option maxRecDepth 100000
set_option linter.unusedVariables false
set_option linter.unusedSimpArgs false
set_option maxHeartbeats 1000000
attribute [local irreducible] wops wopf Go.Ab.Fin
theorem F136.it2 : tint Tryd.prog 2 = some .i64 := by kernel_rfl
theorem F136.us167 : (Tryd.prog.underlying 167).isSome = true := by kernel_rfl
theorem impl_BitsOf_ok {fr : List Pc} {H : Heap} (a0 : Nat) (hs : Sep H (fr))  (K : Int → Prop) (h : impl_BitsOf.wp a0 K) : OkQ Tryd.prog 136 [(.v (.flt .f32 a0))] H (fun r H2 => ∃ (y0 : Int), K y0 ∧ r = (.v (.int .i64 y0)) ∧ H = H2) := by
  unfold impl_BitsOf.wp at h
  refine of_body Tryd.f136 F.hm Tryd.func136 rfl Tryd.call136 (by kernel_rfl) (by simp) ?_
  refine fi_seq ?_
  refine fi_region ?_
  refine so_assign (v := (.v (.int .i64 (0 : Int)))) rfl ?_
  refine so_nil ?_
  refine fi_seq ?_
  refine fi_seq ?_
  refine fi_region ?_
  refine so_move (v := (.v (.flt .f32 a0))) rfl ?_
  refine so_move (v := (.v (.flt .f32 a0))) rfl ?_
  refine so_bin rfl rfl ab_fneq ?_
  refine so_nil ?_
  replace h := ofT h; rcases h with ⟨c101, h⟩ | ⟨c101, h⟩
  · refine fi_true rfl c101 ?_
    refine fi_seq ?_
    refine fi_region ?_
    refine so_assign (v := (.v (.int .i64 (2143289344 : Int)))) rfl ?_
    refine so_nil ?_
    exact by_ret rfl ⟨_, h, rfl, rfl⟩
  · refine fi_false rfl c101 ?_
    refine fi_skip ?_
    refine fi_seq ?_
    refine fi_region ?_
    refine so_move (v := (.v (.flt .f32 a0))) rfl ?_
    refine sv_callS (math_Float32bits_ok a0 hs  _ h) (fun _ _ ⟨_, _, _, e⟩ => e) rfl rfl ?_
    clear h
    rintro _ _ ⟨y102, h, rfl, rfl⟩
    refine sv_ii rfl F136.us167 F136.it2 ?_
    refine so_assign (v := (.v (.int .i64 (IntKind.i64.wrap y102)))) rfl ?_
    refine so_nil ?_
    exact by_ret rfl ⟨_, h, rfl, rfl⟩

end Go.Proofs.YtcgiboeilcdonaaDoor.G

namespace Go.Proofs.YtcgiboeilcdonaaDoor.G
open Go Go.Ab Go.Proofs Go.Proofs.YtcgiboeilcdonaaDoor
set_option maxRecDepth 100000
set_option linter.unusedVariables false
set_option linter.unusedSimpArgs false
set_option maxHeartbeats 1000000
attribute [local irreducible] wops wopf Go.Ab.Fin
theorem strings_Repeat_ok {fr : List Pc} {H : Heap} (a0 : List UInt8) (a1 : Int) (hs : Sep H fr) (K : List UInt8 → Prop) (h : strings_Repeat.wp a0 a1 K) : OkQ Tryd.prog 137 [.v (.str (pk a0)), .v (.int .i64 a1)] H (fun r H2 => ∃ (y0 : List UInt8), K y0 ∧ r = (.v (.str (pk y0))) ∧ H = H2) := by
  obtain ⟨c, rfl⟩ : ∃ c : Nat, a1 = (c : Int) := ⟨a1.toNat, by have := h.1.1; omega⟩
  exact ⟨.v (.str (pk (Lib.repeatL a0 c))), _, ok_lib2 [.string (pk a0), .int .i64 (c : Int)] (.string (pk (Lib.repeatL a0 c))) Tryd.call137 (args_si _ _ _) (fun β => rfl) (fun w => Any.strings_Repeat Tryd.lays105 Tryd.Builder_Extra_105 (pk a0) c w (by have := h.1.2.1; omega) (by rw [pk_size]; have := h.1.2.2; rw [Int.toNat_natCast] at this; exact Nat.le_trans this (by decide))), _, h.2, rfl, rfl⟩

end Go.Proofs.YtcgiboeilcdonaaDoor.G

namespace Go.Proofs.YtcgiboeilcdonaaDoor.G
open Go Go.Ab Go.Proofs Go.Proofs.YtcgiboeilcdonaaDoor
set_option maxRecDepth 100000
set_option linter.unusedVariables false
set_option linter.unusedSimpArgs false
set_option maxHeartbeats 1000000
attribute [local irreducible] wops wopf Go.Ab.Fin
theorem F150.sr9 : tstr Tryd.prog 9 = true := by kernel_rfl
theorem internal_strconv_small_ok {fr : List Pc} {H : Heap} (a0 : Int) (hs : Sep H (fr))  (K : (List UInt8) → Prop) (h : internal_strconv_small.wp a0 K) : OkQ Tryd.prog 150 [(.v (.int .i64 a0))] H (fun r H2 => ∃ (y0 : List UInt8), K y0 ∧ r = (.v (.str (pk y0))) ∧ H = H2) := by
  unfold internal_strconv_small.wp at h
  refine of_body Tryd.f150 F.hm Tryd.func150 rfl Tryd.call150 (by kernel_rfl) (by simp) ?_
  refine fi_seq ?_
  refine fi_region ?_
  refine so_assign (v := (.v (.str (pk ([] : List UInt8))))) rfl ?_
  refine so_nil ?_
  refine fi_seq ?_
  refine fi_seq ?_
  refine fi_region ?_
  refine so_move (v := (.v (.int .i64 a0))) rfl ?_
  refine so_bin rfl rfl ab_lss ?_
  refine so_nil ?_
  replace h := ofP h; rcases h with ⟨c101, h⟩ | ⟨c101, h⟩
  · refine fi_true rfl (decide_eq_true c101) ?_
    refine fi_seq ?_
    refine fi_region ?_
    refine so_move (v := (.v (.int .i64 a0))) rfl ?_
    refine so_move (v := (.v (.int .i64 a0))) rfl ?_
    refine so_bin rfl rfl ab_add ?_
    obtain ⟨c102, h⟩ := h
    refine so_sslice rfl rfl rfl F150.sr9 rfl rfl c102 ?_
    refine so_assign (v := (.v (.str (pk ((([48, 49, 50, 51, 52, 53, 54, 55, 56, 57, 97, 98, 99, 100, 101, 102, 103, 104, 105, 106, 107, 108, 109, 110, 111, 112, 113, 114, 115, 116, 117, 118, 119, 120, 121, 122] : List UInt8).drop (a0).toNat).take (((IntKind.i64.wrap (a0 + (1 : Int)))).toNat - (a0).toNat)))))) rfl ?_
    refine so_nil ?_
    exact by_ret rfl ⟨_, h, rfl, rfl⟩
  · refine fi_false rfl (decide_eq_false c101) ?_
    refine fi_skip ?_
    refine fi_seq ?_
    refine fi_region ?_
    refine so_move (v := (.v (.int .i64 a0))) rfl ?_
    refine so_bin rfl rfl ab_mul ?_
    refine so_move (v := (.v (.int .i64 a0))) rfl ?_
    refine so_bin rfl rfl ab_mul ?_
    refine so_bin rfl rfl ab_add ?_
    obtain ⟨c103, h⟩ := h
    refine so_sslice rfl rfl rfl F150.sr9 rfl rfl c103 ?_
    refine so_assign (v := (.v (.str (pk ((([48, 48, 48, 49, 48, 50, 48, 51, 48, 52, 48, 53, 48, 54, 48, 55, 48, 56, 48, 57, 49, 48, 49, 49, 49, 50, 49, 51, 49, 52, 49, 53, 49, 54, 49, 55, 49, 56, 49, 57, 50, 48, 50, 49, 50, 50, 50, 51, 50, 52, 50, 53, 50, 54, 50, 55, 50, 56, 50, 57, 51, 48, 51, 49, 51, 50, 51, 51, 51, 52, 51, 53, 51, 54, 51, 55, 51, 56, 51, 57, 52, 48, 52, 49, 52, 50, 52, 51, 52, 52, 52, 53, 52, 54, 52, 55, 52, 56, 52, 57, 53, 48, 53, 49, 53, 50, 53, 51, 53, 52, 53, 53, 53, 54, 53, 55, 53, 56, 53, 57, 54, 48, 54, 49, 54, 50, 54, 51, 54, 52, 54, 53, 54, 54, 54, 55, 54, 56, 54, 57, 55, 48, 55, 49, 55, 50, 55, 51, 55, 52, 55, 53, 55, 54, 55, 55, 55, 56, 55, 57, 56, 48, 56, 49, 56, 50, 56, 51, 56, 52, 56, 53, 56, 54, 56, 55, 56, 56, 56, 57, 57, 48, 57, 49, 57, 50, 57, 51, 57, 52, 57, 53, 57, 54, 57, 55, 57, 56, 57, 57] : List UInt8).drop ((IntKind.i64.wrap (a0 * (2 : Int)))).toNat).take (((IntKind.i64.wrap ((IntKind.i64.wrap (a0 * (2 : Int))) + (2 : Int)))).toNat - ((IntKind.i64.wrap (a0 * (2 : Int)))).toNat)))))) rfl ?_
    refine so_nil ?_
    exact by_ret rfl ⟨_, h, rfl, rfl⟩

end Go.Proofs.YtcgiboeilcdonaaDoor.G

namespace Go.Proofs.YtcgiboeilcdonaaDoor.G
open Go Go.Ab Go.Proofs Go.Proofs.YtcgiboeilcdonaaDoor
set_option maxRecDepth 100000
set_option linter.unusedVariables false
set_option linter.unusedSimpArgs false
set_option maxHeartbeats 1000000
attribute [local irreducible] wops wopf Go.Ab.Fin
theorem internal_strconv_isPowerOfTwo_ok {fr : List Pc} {H : Heap} (a0 : Int) (hs : Sep H (fr))  (K : Bool → Prop) (h : internal_strconv_isPowerOfTwo.wp a0 K) : OkQ Tryd.prog 168 [(.v (.int .i64 a0))] H (fun r H2 => ∃ (y0 : Bool), K y0 ∧ r = (.v (.bool y0)) ∧ H = H2) := by
  unfold internal_strconv_isPowerOfTwo.wp at h
  refine of_body Tryd.f168 F.hm Tryd.func168 rfl Tryd.call168 (by kernel_rfl) (by simp) ?_
  refine fi_seq ?_
  refine fi_region ?_
  refine so_assign (v := (.v (.bool false))) rfl ?_
  refine so_nil ?_
  refine fi_seq ?_
  refine fi_region ?_
  refine so_move (v := (.v (.int .i64 a0))) rfl ?_
  refine so_move (v := (.v (.int .i64 a0))) rfl ?_
  refine so_bin rfl rfl ab_sub ?_
  refine so_bin rfl rfl ab_and ?_
  refine so_bin rfl rfl ab_eql ?_
  refine so_assign (v := (.v (.bool (decide ((ibits .and .i64 a0 (IntKind.i64.wrap (a0 - (1 : Int)))) = (0 : Int)))))) rfl ?_
  refine so_nil ?_
  exact by_ret rfl ⟨_, h, rfl, rfl⟩

end Go.Proofs.YtcgiboeilcdonaaDoor.G

namespace Go.Proofs.YtcgiboeilcdonaaDoor.G
open Go Go.Ab Go.Proofs Go.Proofs.YtcgiboeilcdonaaDoor
set_option maxRecDepth 100000
set_option linter.unusedVariables false
set_option linter.unusedSimpArgs false
set_option maxHeartbeats 1000000
attribute [local irreducible] wops wopf Go.Ab.Fin
theorem math_bits_TrailingZeros_ok {fr : List Pc} {H : Heap} (a0 : Int) (hs : Sep H fr) (gt8 : ∀ H, Sep H fr → HasTab 8 F.tab8 H) (K : Int → Prop) (h : math_bits_TrailingZeros.wp a0 K) : OkQ Tryd.prog 169 [.v (.int .u64 a0)] H (fun r H2 => ∃ (y0 : Int), K y0 ∧ r = (.v (.int .i64 y0)) ∧ H = H2) := by
  obtain ⟨x, rfl⟩ : ∃ x : Nat, a0 = (x : Int) := ⟨a0.toNat, by have := h.1.1; omega⟩
  exact ⟨.v (.int .i64 ((Lib.ctz 64 x : Nat) : Int)), _, ok_libB (.int .i64 ((Lib.ctz 64 x : Nat) : Int)) Tryd.call169 (fun β => rfl) (fun β w us hw ha => by
    obtain ⟨o, ho1, ho2⟩ := (gt8 H hs).heap hw
    rw [args_i _ _ β us ha]
    exact (Any7.bits_TrailingZeros Tryd.lays727 x (by have := h.1.2; omega) w (fun _ => tab_bytes (by kernel_rfl) ho2 ho1)).mono fun e w' ⟨he, hw'⟩ => ⟨he, hw' ▸ Go.RowKit.Below.refl _ _⟩), _, h.2, rfl, rfl⟩

end Go.Proofs.YtcgiboeilcdonaaDoor.G

