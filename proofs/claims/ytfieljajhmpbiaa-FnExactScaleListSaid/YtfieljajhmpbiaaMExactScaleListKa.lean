/-
  The model ends so. Printed by a program of the session; nothing here is trusted.
-/
import Derived.Test.YtfieljajhmpbiaaProg
import Derived.KernelRfl
import Derived.Test.YtfieljajhmpbiaaMExactScaleListWa
namespace Go.Proofs.Ytfieljajhmpbiaa.F
open Go Go.Ab Go.Proofs
set_option maxRecDepth 100000
set_option linter.unusedVariables false
set_option linter.unusedSimpArgs false
set_option maxHeartbeats 1000000
theorem hm : Try.prog.follows .mixedOrders = true := by kernel_rfl
end Go.Proofs.Ytfieljajhmpbiaa.F

namespace Go.Proofs.Ytfieljajhmpbiaa.G
open Go Go.Ab Go.Proofs Go.Proofs.Ytfieljajhmpbiaa
set_option maxRecDepth 100000
set_option linter.unusedVariables false
set_option linter.unusedSimpArgs false
set_option maxHeartbeats 1000000
theorem F21.ag36 : tagg Try.prog 36 = some false := by kernel_rfl
theorem F21.by36 : tbytes Try.prog 36 = some 4 := by kernel_rfl
theorem F21.sz36 : tsz Try.prog 36 = some 1 := by kernel_rfl
theorem F21.te22 : telem Try.prog 22 = some 36 := by kernel_rfl
theorem F21.ti22 : (telem Try.prog 22).isSome = true := by kernel_rfl
theorem F21.tl22 : (telem Try.prog 22).bind (tsz Try.prog) = some 1 := by kernel_rfl
theorem F21.ze36 : tzero Try.prog 36 = some [(.flt .f32 (0 : Nat))] := by kernel_rfl
theorem laws_toFloat32S_ok {fr : List Pc} {H : Heap} (v0 : AV) (l0 : List (Nat)) (hs : Sep H (fr)) (g0 : ∀ H, Sep H fr → Shows H v0 1 (enc (eFlt .f32) l0)) (K : (List (Nat)) → Prop) (h : laws_toFloat32S.wp l0 K) : OkQ Try.prog 21 [(.v v0)] H (fun r H2 => ∃ (y0 : List (Nat)), K y0 ∧ ∃ (w0_ : AV), r = (.v w0_) ∧ Sep H2 (Pc.osl w0_ 1 (enc (eFlt .f32) y0) :: fr)) := by
  unfold laws_toFloat32S.wp at h
  refine of_body Try.f21 F.hm Try.func21 rfl Try.call21 (by kernel_rfl) (by simp) ?_
  refine fi_seq ?_
  refine fi_region ?_
  refine so_assign rfl ?_
  refine so_nil ?_
  refine fi_seq ?_
  refine fi_region ?_
  refine so_move rfl ?_
  refine sv_len (g0 _ hs) (fun _ => rfl) (by decide) rfl F21.ti22 ?_
  obtain ⟨c101, h⟩ := h
  refine sv_make hs (eFlt .f32) (0 : Nat) c101 (fun _ => rfl) rfl rfl F21.te22 F21.sz36 F21.by36 F21.ze36 rfl rfl nofun (fun v102 H103 nv102 hs => ?_)
  refine so_assign rfl ?_
  refine so_nil ?_
  refine fi_seq ?_
  refine fi_seq ?_
  refine fi_region ?_
  refine so_assign rfl ?_
  refine so_nil ?_
  refine fi_block ?_
  refine fi_loop ?_
  refine fi_at [(0, (.v v0)), (3, (.v v102)), (4, (.v (.int .i64 (0 : Int))))] ⟨rfl, rfl, rfl, trivial⟩ ?_
  refine h (fun (out112 : List (Nat)) (i113 : Int) => ∀ (s : Nat → TV) (H : Heap), Sep H (Pc.osl v102 1 (enc (eFlt .f32) out112) :: fr) → Fin _ _ (updL s [(0, (.v v0)), (3, (.v v102)), (4, (.v (.int .i64 i113)))]) H _) ?_ _ _ hs
  intro out112 i113 h s118 H119 hs
  refine fi_inLoop ?_
  refine fi_seq ?_
  refine fi_seq ?_
  refine fi_region ?_
  refine so_move rfl ?_
  refine so_move rfl ?_
  refine sv_len (g0 _ hs.tl) (fun _ => rfl) (by decide) rfl F21.ti22 ?_
  refine so_bin rfl rfl ab_lss ?_
  refine so_nil ?_
  replace h := ofP h; rcases h with ⟨c114, h⟩ | ⟨c114, h⟩
  · refine fi_true rfl (decide_eq_true c114) ?_
    refine fi_skip ?_
    refine fi_seq ?_
    refine fi_block ?_
    refine fi_region ?_
    refine so_move rfl ?_
    refine so_move rfl ?_
    refine so_move rfl ?_
    refine so_move rfl ?_
    obtain ⟨c115, h⟩ := h
    refine sv_idx (g0 _ hs.tl) c115 (fun _ => rfl) (by decide) rfl rfl F21.tl22 ?_
    refine sv_cell (g0 _ hs.tl) c115 (0 : Nat) 0 (fun x => (AV.flt .f32 x)) (fun _ => rfl) (fun _ => rfl) rfl F21.ag36 ?_
    obtain ⟨c116, h⟩ := h
    refine sv_idx (hs.shows 0 rfl) c116 (fun _ => rfl) (by decide) rfl rfl F21.tl22 ?_
    refine sv_set hs 0 rfl c116 (l0.getD (i113).toNat (0 : Nat)) (fun _ => rfl) (by decide) rfl rfl rfl rfl F21.sz36 nofun (fun H117 hs => ?_)
    refine so_nil ?_
    refine fi_inBlock ?_
    refine fi_region ?_
    refine so_move rfl ?_
    refine so_bin rfl rfl ab_add ?_
    refine so_assign rfl ?_
    refine so_nil ?_
    exact fi_at [(0, (.v v0)), (3, (.v v102)), (4, (.v (.int .i64 (IntKind.i64.wrap (i113 + (1 : Int))))))] ⟨rfl, rfl, rfl, trivial⟩ (h _ _  hs)
  · refine fi_false rfl (decide_eq_false c114) ?_
    refine fi_exit rfl ?_
    refine fi_seq ?_
    refine fi_region ?_
    refine so_move rfl ?_
    refine so_assign rfl ?_
    refine so_nil ?_
    exact by_ret rfl ⟨_, h, _, rfl, hs⟩

end Go.Proofs.Ytfieljajhmpbiaa.G

namespace Go.Proofs.Ytfieljajhmpbiaa.G
open Go Go.Ab Go.Proofs Go.Proofs.Ytfieljajhmpbiaa
set_option maxRecDepth 100000
set_option linter.unusedVariables false
set_option linter.unusedSimpArgs false
set_option maxHeartbeats 1000000
theorem F67.tb4 : tbool Try.prog 4 = true := by kernel_rfl
theorem laws_sameFloat_ok {fr : List Pc} {H : Heap} (a0 : Nat) (a1 : Nat) (hs : Sep H (fr))  (K : Bool → Prop) (h : laws_sameFloat.wp a0 a1 K) : OkQ Try.prog 67 [(.v (.flt .f64 a0)), (.v (.flt .f64 a1))] H (fun r H2 => ∃ (y0 : Bool), K y0 ∧ r = (.v (.bool y0)) ∧ Sep H2 (fr)) := by
  unfold laws_sameFloat.wp at h
  refine of_body Try.f67 F.hm Try.func67 rfl Try.call67 (by kernel_rfl) (by simp) ?_
  refine fi_seq ?_
  refine fi_region ?_
  refine so_assign rfl ?_
  refine so_nil ?_
  refine fi_seq ?_
  refine fi_seq ?_
  refine fi_region ?_
  refine so_move rfl ?_
  refine so_move rfl ?_
  refine so_bin rfl rfl ab_fneq ?_
  refine so_move rfl ?_
  replace h := ofT h; rcases h with ⟨c101, h⟩ | ⟨c101, h⟩
  · refine so_gno rfl c101 ?_
    refine so_gno rfl c101 ?_
    refine so_gno rfl c101 ?_
    refine so_pick_t rfl c101 rfl ?_
    refine so_nil ?_
    refine fi_true rfl rfl ?_
    refine fi_seq ?_
    refine fi_region ?_
    refine so_move rfl ?_
    refine so_move rfl ?_
    refine so_bin rfl rfl ab_fneq ?_
    refine so_move rfl ?_
    refine so_gyes rfl c101 ?_
    refine so_move rfl ?_
    refine so_gyes rfl c101 ?_
    refine so_move rfl ?_
    refine so_gyes rfl c101 ?_
    refine so_bin rfl rfl ab_fneq ?_
    refine so_pick_t rfl c101 rfl ?_
    refine so_assign rfl ?_
    refine so_nil ?_
    exact by_ret rfl ⟨_, h, rfl, hs⟩
  · refine so_gyes rfl c101 ?_
    refine so_move rfl ?_
    refine so_gyes rfl c101 ?_
    refine so_move rfl ?_
    refine so_gyes rfl c101 ?_
    refine so_bin rfl rfl ab_fneq ?_
    refine so_pick_f rfl c101 rfl ?_
    refine so_nil ?_
    replace h := ofT h; rcases h with ⟨c102, h⟩ | ⟨c102, h⟩
    · refine fi_true rfl c102 ?_
      refine fi_seq ?_
      refine fi_region ?_
      refine so_move rfl ?_
      refine so_move rfl ?_
      refine so_bin rfl rfl ab_fneq ?_
      refine so_move rfl ?_
      refine so_gno rfl c101 ?_
      refine so_gno rfl c101 ?_
      refine so_gno rfl c101 ?_
      refine so_pick_f rfl c101 rfl ?_
      refine so_assign rfl ?_
      refine so_nil ?_
      exact by_ret rfl ⟨_, h, rfl, hs⟩
    · refine fi_false rfl c102 ?_
      refine fi_skip ?_
      refine fi_seq ?_
      refine fi_seq ?_
      refine fi_region ?_
      refine so_move rfl ?_
      refine so_bin rfl rfl ab_feql ?_
      refine so_move rfl ?_
      replace h := ofT h; rcases h with ⟨c103, h⟩ | ⟨c103, h⟩
      · refine so_gyes rfl c103 ?_
        refine so_move rfl ?_
        refine so_gyes rfl c103 ?_
        refine so_bin rfl rfl ab_feql ?_
        refine so_pick_t rfl c103 rfl ?_
        refine so_nil ?_
        replace h := ofT h; rcases h with ⟨c104, h⟩ | ⟨c104, h⟩
        · refine fi_true rfl c104 ?_
          refine fi_seq ?_
          refine fi_region ?_
          refine so_move rfl ?_
          refine so_bin rfl rfl ab_fquo ?_
          refine so_bin rfl rfl ab_fgtr ?_
          refine so_move rfl ?_
          refine so_bin rfl rfl ab_fquo ?_
          refine so_bin rfl rfl ab_fgtr ?_
          refine so_bin rfl rfl (ab_beql F67.tb4) ?_
          refine so_assign rfl ?_
          refine so_nil ?_
          exact by_ret rfl ⟨_, h, rfl, hs⟩
        · refine fi_false rfl c104 ?_
          refine fi_skip ?_
          refine fi_seq ?_
          refine fi_region ?_
          refine so_move rfl ?_
          refine so_move rfl ?_
          refine so_bin rfl rfl ab_feql ?_
          refine so_assign rfl ?_
          refine so_nil ?_
          exact by_ret rfl ⟨_, h, rfl, hs⟩
      · refine so_gno rfl c103 ?_
        refine so_gno rfl c103 ?_
        refine so_pick_f rfl c103 rfl ?_
        refine so_nil ?_
        refine fi_false rfl rfl ?_
        refine fi_skip ?_
        refine fi_seq ?_
        refine fi_region ?_
        refine so_move rfl ?_
        refine so_move rfl ?_
        refine so_bin rfl rfl ab_feql ?_
        refine so_assign rfl ?_
        refine so_nil ?_
        exact by_ret rfl ⟨_, h, rfl, hs⟩

end Go.Proofs.Ytfieljajhmpbiaa.G

namespace Go.Proofs.Ytfieljajhmpbiaa.G
open Go Go.Ab Go.Proofs Go.Proofs.Ytfieljajhmpbiaa
set_option maxRecDepth 100000
set_option linter.unusedVariables false
set_option linter.unusedSimpArgs false
set_option maxHeartbeats 1000000
theorem F23.ag36 : tagg Try.prog 36 = some false := by kernel_rfl
theorem F23.fl94 : tflt Try.prog 94 = some .f64 := by kernel_rfl
theorem F23.in94 : tint Try.prog 94 = none := by kernel_rfl
theorem F23.ti22 : (telem Try.prog 22).isSome = true := by kernel_rfl
theorem F23.tl22 : (telem Try.prog 22).bind (tsz Try.prog) = some 1 := by kernel_rfl
theorem F23.us36 : (Try.prog.underlying 36).isSome = true := by kernel_rfl
theorem laws_eqFloat32S_ok {fr : List Pc} {H : Heap} (v0 : AV) (l0 : List (Nat)) (v1 : AV) (l1 : List (Nat)) (hs : Sep H (fr)) (g0 : ∀ H, Sep H fr → Shows H v0 1 (enc (eFlt .f32) l0)) (g1 : ∀ H, Sep H fr → Shows H v1 1 (enc (eFlt .f32) l1)) (K : Bool → Prop) (h : laws_eqFloat32S.wp l0 l1 K) : OkQ Try.prog 23 [(.v v0), (.v v1)] H (fun r H2 => ∃ (y0 : Bool), K y0 ∧ r = (.v (.bool y0)) ∧ Sep H2 (fr)) := by
  unfold laws_eqFloat32S.wp at h
  refine of_body Try.f23 F.hm Try.func23 rfl Try.call23 (by kernel_rfl) (by simp) ?_
  refine fi_seq ?_
  refine fi_region ?_
  refine so_assign rfl ?_
  refine so_nil ?_
  refine fi_seq ?_
  refine fi_seq ?_
  refine fi_region ?_
  refine so_move rfl ?_
  refine sv_len (g0 _ hs) (fun _ => rfl) (by decide) rfl F23.ti22 ?_
  refine so_move rfl ?_
  refine sv_len (g1 _ hs) (fun _ => rfl) (by decide) rfl F23.ti22 ?_
  refine so_bin rfl rfl ab_neq ?_
  refine so_nil ?_
  replace h := ofP h; rcases h with ⟨c101, h⟩ | ⟨c101, h⟩
  · refine fi_false rfl (not_f (decide_eq_true c101)) ?_
    refine fi_skip ?_
    refine fi_seq ?_
    refine fi_seq ?_
    refine fi_region ?_
    refine so_assign rfl ?_
    refine so_nil ?_
    refine fi_block ?_
    refine fi_loop ?_
    refine fi_at [(0, (.v v0)), (1, (.v v1)), (5, (.v (.int .i64 (0 : Int))))] ⟨rfl, rfl, rfl, trivial⟩ ?_
    refine h (fun (i103 : Int) => ∀ (s : Nat → TV) (H : Heap), Sep H (fr) → Fin _ _ (updL s [(0, (.v v0)), (1, (.v v1)), (5, (.v (.int .i64 i103)))]) H _) ?_ _ _ hs
    intro i103 h s110 H111 hs
    refine fi_inLoop ?_
    refine fi_seq ?_
    refine fi_seq ?_
    refine fi_region ?_
    refine so_move rfl ?_
    refine so_move rfl ?_
    refine sv_len (g0 _ hs) (fun _ => rfl) (by decide) rfl F23.ti22 ?_
    refine so_bin rfl rfl ab_lss ?_
    refine so_nil ?_
    replace h := ofP h; rcases h with ⟨c104, h⟩ | ⟨c104, h⟩
    · refine fi_true rfl (decide_eq_true c104) ?_
      refine fi_skip ?_
      refine fi_seq ?_
      refine fi_block ?_
      refine fi_seq ?_
      refine fi_region ?_
      refine so_move rfl ?_
      refine so_move rfl ?_
      obtain ⟨c105, h⟩ := h
      refine sv_idx (g0 _ hs) c105 (fun _ => rfl) (by decide) rfl rfl F23.tl22 ?_
      refine sv_cell (g0 _ hs) c105 (0 : Nat) 0 (fun x => (AV.flt .f32 x)) (fun _ => rfl) (fun _ => rfl) rfl F23.ag36 ?_
      refine sv_ffw rfl F23.us36 F23.in94 F23.fl94 ?_
      refine so_move rfl ?_
      refine so_move rfl ?_
      obtain ⟨c106, h⟩ := h
      refine sv_idx (g1 _ hs) c106 (fun _ => rfl) (by decide) rfl rfl F23.tl22 ?_
      refine sv_cell (g1 _ hs) c106 (0 : Nat) 0 (fun x => (AV.flt .f32 x)) (fun _ => rfl) (fun _ => rfl) rfl F23.ag36 ?_
      refine sv_ffw rfl F23.us36 F23.in94 F23.fl94 ?_
      refine sv_call (laws_sameFloat_ok (widen (l0.getD (i103).toNat (0 : Nat))) (widen (l1.getD (i103).toNat (0 : Nat))) hs  _ h) rfl rfl (fun _ => by kernel_rfl) ?_
      clear h hs
      rintro _ H108 ⟨y107, h, rfl, hs⟩
      refine so_un rfl au_not ?_
      refine so_nil ?_
      replace h := ofT h; rcases h with ⟨c109, h⟩ | ⟨c109, h⟩
      · refine fi_false rfl (not_f c109) ?_
        refine fi_skip ?_
        refine fi_inBlock ?_
        refine fi_region ?_
        refine so_move rfl ?_
        refine so_bin rfl rfl ab_add ?_
        refine so_assign rfl ?_
        refine so_nil ?_
        exact fi_at [(0, (.v v0)), (1, (.v v1)), (5, (.v (.int .i64 (IntKind.i64.wrap (i103 + (1 : Int))))))] ⟨rfl, rfl, rfl, trivial⟩ (h _ _  hs)
      · refine fi_true rfl (not_t c109) ?_
        refine fi_seq ?_
        refine fi_region ?_
        refine so_assign rfl ?_
        refine so_nil ?_
        exact by_ret rfl ⟨_, h, rfl, hs⟩
    · refine fi_false rfl (decide_eq_false c104) ?_
      refine fi_exit rfl ?_
      refine fi_seq ?_
      refine fi_region ?_
      refine so_assign rfl ?_
      refine so_nil ?_
      exact by_ret rfl ⟨_, h, rfl, hs⟩
  · refine fi_true rfl (not_t (decide_eq_false c101)) ?_
    refine fi_seq ?_
    refine fi_region ?_
    refine so_assign rfl ?_
    refine so_nil ?_
    exact by_ret rfl ⟨_, h, rfl, hs⟩

end Go.Proofs.Ytfieljajhmpbiaa.G

namespace Go.Proofs.Ytfieljajhmpbiaa.G
open Go Go.Ab Go.Proofs Go.Proofs.Ytfieljajhmpbiaa
set_option maxRecDepth 100000
set_option linter.unusedVariables false
set_option linter.unusedSimpArgs false
set_option maxHeartbeats 1000000
theorem F26.fl36 : tflt Try.prog 36 = some .f32 := by kernel_rfl
theorem F26.in36 : tint Try.prog 36 = none := by kernel_rfl
theorem F26.sz36 : tsz Try.prog 36 = some 1 := by kernel_rfl
theorem F26.ti22 : (telem Try.prog 22).isSome = true := by kernel_rfl
theorem F26.tl22 : (telem Try.prog 22).bind (tsz Try.prog) = some 1 := by kernel_rfl
theorem F26.us3 : (Try.prog.underlying 3).isSome = true := by kernel_rfl
theorem laws_markFloat32S_ok {fr : List Pc} {H : Heap} (v0 : AV) (l0 : List (Nat)) (a1 : Int) (hs : Sep H (Pc.osl v0 1 (enc (eFlt .f32) l0) :: fr))  (K : Int → (List (Nat)) → Prop) (h : laws_markFloat32S.wp l0 a1 K) : OkQ Try.prog 26 [(.v v0), (.v (.int .i64 a1))] H (fun r H2 => ∃ (y0 : Int) (y1 : List (Nat)), K y0 y1 ∧ r = (.v (.int .i64 y0)) ∧ Sep H2 (Pc.osl v0 1 (enc (eFlt .f32) y1) :: fr)) := by
  unfold laws_markFloat32S.wp at h
  refine of_body Try.f26 F.hm Try.func26 rfl Try.call26 (by kernel_rfl) (by simp) ?_
  refine fi_seq ?_
  refine fi_region ?_
  refine so_assign rfl ?_
  refine so_nil ?_
  refine fi_seq ?_
  refine fi_seq ?_
  refine fi_region ?_
  refine so_assign rfl ?_
  refine so_nil ?_
  refine fi_block ?_
  refine fi_loop ?_
  refine fi_at [(0, (.v v0)), (1, (.v (.int .i64 a1))), (5, (.v (.int .i64 (0 : Int))))] ⟨rfl, rfl, rfl, trivial⟩ ?_
  refine h (fun (a109 : List (Nat)) (k110 : Int) (i111 : Int) => ∀ (s : Nat → TV) (H : Heap), Sep H (Pc.osl v0 1 (enc (eFlt .f32) a109) :: fr) → Fin _ _ (updL s [(0, (.v v0)), (1, (.v (.int .i64 k110))), (5, (.v (.int .i64 i111)))]) H _) ?_ _ _ hs
  intro a109 k110 i111 h s115 H116 hs
  refine fi_inLoop ?_
  refine fi_seq ?_
  refine fi_seq ?_
  refine fi_region ?_
  refine so_move rfl ?_
  refine so_move rfl ?_
  refine sv_len (hs.shows 0 rfl) (fun _ => rfl) (by decide) rfl F26.ti22 ?_
  refine so_bin rfl rfl ab_lss ?_
  refine so_nil ?_
  replace h := ofP h; rcases h with ⟨c112, h⟩ | ⟨c112, h⟩
  · refine fi_true rfl (decide_eq_true c112) ?_
    refine fi_skip ?_
    refine fi_seq ?_
    refine fi_block ?_
    refine fi_seq ?_
    refine fi_region ?_
    refine so_move rfl ?_
    refine so_move rfl ?_
    refine so_move rfl ?_
    refine sv_if rfl F26.us3 F26.in36 F26.fl36 ?_
    obtain ⟨c113, h⟩ := h
    refine sv_idx (hs.shows 0 rfl) c113 (fun _ => rfl) (by decide) rfl rfl F26.tl22 ?_
    refine sv_set hs 0 rfl c113 (itof .f32 k110) (fun _ => rfl) (by decide) rfl rfl rfl rfl F26.sz36 nofun (fun H114 hs => ?_)
    refine so_nil ?_
    refine fi_region ?_
    refine so_move rfl ?_
    refine so_bin rfl rfl ab_add ?_
    refine so_assign rfl ?_
    refine so_nil ?_
    refine fi_inBlock ?_
    refine fi_region ?_
    refine so_move rfl ?_
    refine so_bin rfl rfl ab_add ?_
    refine so_assign rfl ?_
    refine so_nil ?_
    exact fi_at [(0, (.v v0)), (1, (.v (.int .i64 (IntKind.i64.wrap (k110 + (1 : Int)))))), (5, (.v (.int .i64 (IntKind.i64.wrap (i111 + (1 : Int))))))] ⟨rfl, rfl, rfl, trivial⟩ (h _ _  hs)
  · refine fi_false rfl (decide_eq_false c112) ?_
    refine fi_exit rfl ?_
    refine fi_seq ?_
    refine fi_region ?_
    refine so_move rfl ?_
    refine so_assign rfl ?_
    refine so_nil ?_
    exact by_ret rfl ⟨_, _, h, rfl, hs⟩

end Go.Proofs.Ytfieljajhmpbiaa.G

namespace Go.Proofs.Ytfieljajhmpbiaa.G
open Go Go.Ab Go.Proofs Go.Proofs.Ytfieljajhmpbiaa
set_option maxRecDepth 100000
set_option linter.unusedVariables false
set_option linter.unusedSimpArgs false
set_option maxHeartbeats 1000000
theorem spec_l01Finite_ok {fr : List Pc} {H : Heap} (a0 : Nat) (hs : Sep H (fr))  (K : Bool → Prop) (h : spec_l01Finite.wp a0 K) : OkQ Try.prog 121 [(.v (.flt .f32 a0))] H (fun r H2 => ∃ (y0 : Bool), K y0 ∧ r = (.v (.bool y0)) ∧ Sep H2 (fr)) := by
  unfold spec_l01Finite.wp at h
  refine of_body Try.f121 F.hm Try.func121 rfl Try.call121 (by kernel_rfl) (by simp) ?_
  refine fi_seq ?_
  refine fi_region ?_
  refine so_assign rfl ?_
  refine so_nil ?_
  refine fi_seq ?_
  refine fi_region ?_
  refine so_move rfl ?_
  refine so_move rfl ?_
  refine so_bin rfl rfl ab_fsub ?_
  refine so_bin rfl rfl ab_feql ?_
  refine so_assign rfl ?_
  refine so_nil ?_
  exact by_ret rfl ⟨_, h, rfl, hs⟩

end Go.Proofs.Ytfieljajhmpbiaa.G

namespace Go.Proofs.Ytfieljajhmpbiaa.G
open Go Go.Ab Go.Proofs Go.Proofs.Ytfieljajhmpbiaa
set_option maxRecDepth 100000
set_option linter.unusedVariables false
set_option linter.unusedSimpArgs false
set_option maxHeartbeats 1000000
theorem spec_l02Above_ok {fr : List Pc} {H : Heap} (a0 : Nat) (hs : Sep H (fr))  (K : Bool → Prop) (h : spec_l02Above.wp a0 K) : OkQ Try.prog 69 [(.v (.flt .f32 a0))] H (fun r H2 => ∃ (y0 : Bool), K y0 ∧ r = (.v (.bool y0)) ∧ Sep H2 (fr)) := by
  unfold spec_l02Above.wp at h
  refine of_body Try.f69 F.hm Try.func69 rfl Try.call69 (by kernel_rfl) (by simp) ?_
  refine fi_seq ?_
  refine fi_region ?_
  refine so_assign rfl ?_
  refine so_nil ?_
  refine fi_seq ?_
  refine fi_region ?_
  refine so_move rfl ?_
  refine sv_call (spec_l01Finite_ok a0 hs  _ h) rfl rfl nofun ?_
  clear h hs
  rintro _ H102 ⟨y101, h, rfl, hs⟩
  refine so_move rfl ?_
  replace h := ofT h; rcases h with ⟨c103, h⟩ | ⟨c103, h⟩
  · refine so_gyes rfl c103 ?_
    refine so_move rfl ?_
    refine so_gyes rfl c103 ?_
    refine so_bin rfl rfl ab_fgtr ?_
    refine so_pick_t rfl c103 rfl ?_
    refine so_assign rfl ?_
    refine so_nil ?_
    exact by_ret rfl ⟨_, h, rfl, hs⟩
  · refine so_gno rfl c103 ?_
    refine so_gno rfl c103 ?_
    refine so_pick_f rfl c103 rfl ?_
    refine so_assign rfl ?_
    refine so_nil ?_
    exact by_ret rfl ⟨_, h, rfl, hs⟩

end Go.Proofs.Ytfieljajhmpbiaa.G

namespace Go.Proofs.Ytfieljajhmpbiaa.G
open Go Go.Ab Go.Proofs Go.Proofs.Ytfieljajhmpbiaa
set_option maxRecDepth 100000
set_option linter.unusedVariables false
set_option linter.unusedSimpArgs false
set_option maxHeartbeats 1000000
theorem F71.ag36 : tagg Try.prog 36 = some false := by kernel_rfl
theorem F71.ti22 : (telem Try.prog 22).isSome = true := by kernel_rfl
theorem F71.tl22 : (telem Try.prog 22).bind (tsz Try.prog) = some 1 := by kernel_rfl
theorem spec_l02Finite_ok {fr : List Pc} {H : Heap} (v0 : AV) (l0 : List (Nat)) (hs : Sep H (fr)) (g0 : ∀ H, Sep H fr → Shows H v0 1 (enc (eFlt .f32) l0)) (K : Bool → Prop) (h : spec_l02Finite.wp l0 K) : OkQ Try.prog 71 [(.v v0)] H (fun r H2 => ∃ (y0 : Bool), K y0 ∧ r = (.v (.bool y0)) ∧ Sep H2 (fr)) := by
  unfold spec_l02Finite.wp at h
  refine of_body Try.f71 F.hm Try.func71 rfl Try.call71 (by kernel_rfl) (by simp) ?_
  refine fi_seq ?_
  refine fi_region ?_
  refine so_assign rfl ?_
  refine so_nil ?_
  refine fi_seq ?_
  refine fi_seq ?_
  refine fi_region ?_
  refine so_assign rfl ?_
  refine so_nil ?_
  refine fi_block ?_
  refine fi_loop ?_
  refine fi_at [(0, (.v v0)), (3, (.v (.int .i64 (0 : Int))))] ⟨rfl, rfl, trivial⟩ ?_
  refine h (fun (i102 : Int) => ∀ (s : Nat → TV) (H : Heap), Sep H (fr) → Fin _ _ (updL s [(0, (.v v0)), (3, (.v (.int .i64 i102)))]) H _) ?_ _ _ hs
  intro i102 h s108 H109 hs
  refine fi_inLoop ?_
  refine fi_seq ?_
  refine fi_seq ?_
  refine fi_region ?_
  refine so_move rfl ?_
  refine so_move rfl ?_
  refine sv_len (g0 _ hs) (fun _ => rfl) (by decide) rfl F71.ti22 ?_
  refine so_bin rfl rfl ab_lss ?_
  refine so_nil ?_
  replace h := ofP h; rcases h with ⟨c103, h⟩ | ⟨c103, h⟩
  · refine fi_true rfl (decide_eq_true c103) ?_
    refine fi_skip ?_
    refine fi_seq ?_
    refine fi_block ?_
    refine fi_seq ?_
    refine fi_region ?_
    refine so_move rfl ?_
    refine so_move rfl ?_
    obtain ⟨c104, h⟩ := h
    refine sv_idx (g0 _ hs) c104 (fun _ => rfl) (by decide) rfl rfl F71.tl22 ?_
    refine sv_cell (g0 _ hs) c104 (0 : Nat) 0 (fun x => (AV.flt .f32 x)) (fun _ => rfl) (fun _ => rfl) rfl F71.ag36 ?_
    refine sv_call (spec_l01Finite_ok (l0.getD (i102).toNat (0 : Nat)) hs  _ h) rfl rfl nofun ?_
    clear h hs
    rintro _ H106 ⟨y105, h, rfl, hs⟩
    refine so_un rfl au_not ?_
    refine so_nil ?_
    replace h := ofT h; rcases h with ⟨c107, h⟩ | ⟨c107, h⟩
    · refine fi_false rfl (not_f c107) ?_
      refine fi_skip ?_
      refine fi_inBlock ?_
      refine fi_region ?_
      refine so_move rfl ?_
      refine so_bin rfl rfl ab_add ?_
      refine so_assign rfl ?_
      refine so_nil ?_
      exact fi_at [(0, (.v v0)), (3, (.v (.int .i64 (IntKind.i64.wrap (i102 + (1 : Int))))))] ⟨rfl, rfl, trivial⟩ (h _ _  hs)
    · refine fi_true rfl (not_t c107) ?_
      refine fi_seq ?_
      refine fi_region ?_
      refine so_assign rfl ?_
      refine so_nil ?_
      exact by_ret rfl ⟨_, h, rfl, hs⟩
  · refine fi_false rfl (decide_eq_false c103) ?_
    refine fi_exit rfl ?_
    refine fi_seq ?_
    refine fi_region ?_
    refine so_assign rfl ?_
    refine so_nil ?_
    exact by_ret rfl ⟨_, h, rfl, hs⟩

end Go.Proofs.Ytfieljajhmpbiaa.G

namespace Go.Proofs.Ytfieljajhmpbiaa.G
open Go Go.Ab Go.Proofs Go.Proofs.Ytfieljajhmpbiaa
set_option maxRecDepth 100000
set_option linter.unusedVariables false
set_option linter.unusedSimpArgs false
set_option maxHeartbeats 1000000
theorem F78.ti22 : (telem Try.prog 22).isSome = true := by kernel_rfl
theorem spec_l02Is_ok {fr : List Pc} {H : Heap} (v0 : AV) (l0 : List (Nat)) (hs : Sep H (fr)) (g0 : ∀ H, Sep H fr → Shows H v0 1 (enc (eFlt .f32) l0)) (K : Bool → Prop) (h : spec_l02Is.wp l0 K) : OkQ Try.prog 78 [(.v v0)] H (fun r H2 => ∃ (y0 : Bool), K y0 ∧ r = (.v (.bool y0)) ∧ Sep H2 (fr)) := by
  unfold spec_l02Is.wp at h
  refine of_body Try.f78 F.hm Try.func78 rfl Try.call78 (by kernel_rfl) (by simp) ?_
  refine fi_seq ?_
  refine fi_region ?_
  refine so_assign rfl ?_
  refine so_nil ?_
  refine fi_seq ?_
  refine fi_region ?_
  refine so_move rfl ?_
  refine sv_len (g0 _ hs) (fun _ => rfl) (by decide) rfl F78.ti22 ?_
  refine so_bin rfl rfl ab_geq ?_
  refine so_move rfl ?_
  replace h := ofP h; rcases h with ⟨c101, h⟩ | ⟨c101, h⟩
  · refine so_gyes rfl (decide_eq_true c101) ?_
    refine so_move rfl ?_
    refine so_gyes rfl (decide_eq_true c101) ?_
    refine sv_len (g0 _ hs) (fun _ => rfl) (by decide) rfl F78.ti22 ?_
    refine so_gyes rfl (decide_eq_true c101) ?_
    refine so_bin rfl rfl ab_leq ?_
    refine so_pick_t rfl (decide_eq_true c101) rfl ?_
    refine so_move rfl ?_
    replace h := ofP h; rcases h with ⟨c102, h⟩ | ⟨c102, h⟩
    · refine so_gyes rfl (decide_eq_true c102) ?_
      refine so_move rfl ?_
      refine so_gyes rfl (decide_eq_true c102) ?_
      refine sv_call (spec_l02Finite_ok v0 l0 hs (fun _ hs => (g0 _ hs)) _ h) rfl rfl nofun ?_
      clear h hs
      rintro _ H104 ⟨y103, h, rfl, hs⟩
      refine so_pick_t rfl (decide_eq_true c102) rfl ?_
      refine so_assign rfl ?_
      refine so_nil ?_
      exact by_ret rfl ⟨_, h, rfl, hs⟩
    · refine so_gno rfl (decide_eq_false c102) ?_
      refine so_gno rfl (decide_eq_false c102) ?_
      refine so_pick_f rfl (decide_eq_false c102) rfl ?_
      refine so_assign rfl ?_
      refine so_nil ?_
      exact by_ret rfl ⟨_, h, rfl, hs⟩
  · refine so_gno rfl (decide_eq_false c101) ?_
    refine so_gno rfl (decide_eq_false c101) ?_
    refine so_gno rfl (decide_eq_false c101) ?_
    refine so_pick_f rfl (decide_eq_false c101) rfl ?_
    refine so_move rfl ?_
    refine so_gno rfl rfl ?_
    refine so_gno rfl rfl ?_
    refine so_pick_f rfl rfl rfl ?_
    refine so_assign rfl ?_
    refine so_nil ?_
    exact by_ret rfl ⟨_, h, rfl, hs⟩

end Go.Proofs.Ytfieljajhmpbiaa.G

namespace Go.Proofs.Ytfieljajhmpbiaa.G
open Go Go.Ab Go.Proofs Go.Proofs.Ytfieljajhmpbiaa
set_option maxRecDepth 100000
set_option linter.unusedVariables false
set_option linter.unusedSimpArgs false
set_option maxHeartbeats 1000000
theorem spec_l00In_ok {fr : List Pc} {H : Heap} (a0 : Int) (a1 : Int) (a2 : Int) (hs : Sep H (fr))  (K : Bool → Prop) (h : spec_l00In.wp a0 a1 a2 K) : OkQ Try.prog 118 [(.v (.int .i64 a0)), (.v (.int .i64 a1)), (.v (.int .i64 a2))] H (fun r H2 => ∃ (y0 : Bool), K y0 ∧ r = (.v (.bool y0)) ∧ Sep H2 (fr)) := by
  unfold spec_l00In.wp at h
  refine of_body Try.f118 F.hm Try.func118 rfl Try.call118 (by kernel_rfl) (by simp) ?_
  refine fi_seq ?_
  refine fi_region ?_
  refine so_assign rfl ?_
  refine so_nil ?_
  refine fi_seq ?_
  refine fi_region ?_
  refine so_move rfl ?_
  refine so_move rfl ?_
  refine so_bin rfl rfl ab_geq ?_
  refine so_move rfl ?_
  replace h := ofP h; rcases h with ⟨c101, h⟩ | ⟨c101, h⟩
  · refine so_gyes rfl (decide_eq_true c101) ?_
    refine so_move rfl ?_
    refine so_gyes rfl (decide_eq_true c101) ?_
    refine so_move rfl ?_
    refine so_gyes rfl (decide_eq_true c101) ?_
    refine so_bin rfl rfl ab_leq ?_
    refine so_pick_t rfl (decide_eq_true c101) rfl ?_
    refine so_assign rfl ?_
    refine so_nil ?_
    exact by_ret rfl ⟨_, h, rfl, hs⟩
  · refine so_gno rfl (decide_eq_false c101) ?_
    refine so_gno rfl (decide_eq_false c101) ?_
    refine so_gno rfl (decide_eq_false c101) ?_
    refine so_pick_f rfl (decide_eq_false c101) rfl ?_
    refine so_assign rfl ?_
    refine so_nil ?_
    exact by_ret rfl ⟨_, h, rfl, hs⟩

end Go.Proofs.Ytfieljajhmpbiaa.G

namespace Go.Proofs.Ytfieljajhmpbiaa.G
open Go Go.Ab Go.Proofs Go.Proofs.Ytfieljajhmpbiaa
set_option maxRecDepth 100000
set_option linter.unusedVariables false
set_option linter.unusedSimpArgs false
set_option maxHeartbeats 1000000
theorem F126.ag2 : tagg Try.prog 2 = some false := by kernel_rfl
theorem F126.ti43 : (telem Try.prog 43).isSome = true := by kernel_rfl
theorem F126.tl43 : (telem Try.prog 43).bind (tsz Try.prog) = some 1 := by kernel_rfl
theorem spec_l02Bound_ok {fr : List Pc} {H : Heap} (v0 : AV) (l0 : List (Int)) (a1 : Int) (hs : Sep H (fr)) (g0 : ∀ H, Sep H fr → Shows H v0 1 (enc (eInt .i64) l0)) (K : Bool → Prop) (h : spec_l02Bound.wp l0 a1 K) : OkQ Try.prog 126 [(.v v0), (.v (.int .i64 a1))] H (fun r H2 => ∃ (y0 : Bool), K y0 ∧ r = (.v (.bool y0)) ∧ Sep H2 (fr)) := by
  unfold spec_l02Bound.wp at h
  refine of_body Try.f126 F.hm Try.func126 rfl Try.call126 (by kernel_rfl) (by simp) ?_
  refine fi_seq ?_
  refine fi_region ?_
  refine so_assign rfl ?_
  refine so_nil ?_
  refine fi_seq ?_
  refine fi_seq ?_
  refine fi_region ?_
  refine so_assign rfl ?_
  refine so_nil ?_
  refine fi_block ?_
  refine fi_loop ?_
  refine fi_at [(0, (.v v0)), (1, (.v (.int .i64 a1))), (5, (.v (.int .i64 (0 : Int))))] ⟨rfl, rfl, rfl, trivial⟩ ?_
  refine h (fun (i102 : Int) => ∀ (s : Nat → TV) (H : Heap), Sep H (fr) → Fin _ _ (updL s [(0, (.v v0)), (1, (.v (.int .i64 a1))), (5, (.v (.int .i64 i102)))]) H _) ?_ _ _ hs
  intro i102 h s108 H109 hs
  refine fi_inLoop ?_
  refine fi_seq ?_
  refine fi_seq ?_
  refine fi_region ?_
  refine so_move rfl ?_
  refine so_move rfl ?_
  refine sv_len (g0 _ hs) (fun _ => rfl) (by decide) rfl F126.ti43 ?_
  refine so_bin rfl rfl ab_lss ?_
  refine so_nil ?_
  replace h := ofP h; rcases h with ⟨c103, h⟩ | ⟨c103, h⟩
  · refine fi_true rfl (decide_eq_true c103) ?_
    refine fi_skip ?_
    refine fi_seq ?_
    refine fi_block ?_
    refine fi_seq ?_
    refine fi_region ?_
    refine so_move rfl ?_
    refine so_move rfl ?_
    obtain ⟨c104, h⟩ := h
    refine sv_idx (g0 _ hs) c104 (fun _ => rfl) (by decide) rfl rfl F126.tl43 ?_
    refine sv_cell (g0 _ hs) c104 (0 : Int) 0 (fun x => (AV.int .i64 x)) (fun _ => rfl) (fun _ => rfl) rfl F126.ag2 ?_
    refine so_move rfl ?_
    refine so_un rfl au_neg ?_
    refine so_move rfl ?_
    refine sv_call (spec_l00In_ok (l0.getD (i102).toNat (0 : Int)) (IntKind.i64.wrap (0 - a1)) a1 hs  _ h) rfl rfl nofun ?_
    clear h hs
    rintro _ H106 ⟨y105, h, rfl, hs⟩
    refine so_un rfl au_not ?_
    refine so_nil ?_
    replace h := ofT h; rcases h with ⟨c107, h⟩ | ⟨c107, h⟩
    · refine fi_false rfl (not_f c107) ?_
      refine fi_skip ?_
      refine fi_inBlock ?_
      refine fi_region ?_
      refine so_move rfl ?_
      refine so_bin rfl rfl ab_add ?_
      refine so_assign rfl ?_
      refine so_nil ?_
      exact fi_at [(0, (.v v0)), (1, (.v (.int .i64 a1))), (5, (.v (.int .i64 (IntKind.i64.wrap (i102 + (1 : Int))))))] ⟨rfl, rfl, rfl, trivial⟩ (h _ _  hs)
    · refine fi_true rfl (not_t c107) ?_
      refine fi_seq ?_
      refine fi_region ?_
      refine so_assign rfl ?_
      refine so_nil ?_
      exact by_ret rfl ⟨_, h, rfl, hs⟩
  · refine fi_false rfl (decide_eq_false c103) ?_
    refine fi_exit rfl ?_
    refine fi_seq ?_
    refine fi_region ?_
    refine so_assign rfl ?_
    refine so_nil ?_
    exact by_ret rfl ⟨_, h, rfl, hs⟩

end Go.Proofs.Ytfieljajhmpbiaa.G

namespace Go.Proofs.Ytfieljajhmpbiaa.G
open Go Go.Ab Go.Proofs Go.Proofs.Ytfieljajhmpbiaa
set_option maxRecDepth 100000
set_option linter.unusedVariables false
set_option linter.unusedSimpArgs false
set_option maxHeartbeats 1000000
theorem F79.ti43 : (telem Try.prog 43).isSome = true := by kernel_rfl
theorem spec_l02Integers_ok {fr : List Pc} {H : Heap} (v0 : AV) (l0 : List (Int)) (hs : Sep H (fr)) (g0 : ∀ H, Sep H fr → Shows H v0 1 (enc (eInt .i64) l0)) (K : Bool → Prop) (h : spec_l02Integers.wp l0 K) : OkQ Try.prog 79 [(.v v0)] H (fun r H2 => ∃ (y0 : Bool), K y0 ∧ r = (.v (.bool y0)) ∧ Sep H2 (fr)) := by
  unfold spec_l02Integers.wp at h
  refine of_body Try.f79 F.hm Try.func79 rfl Try.call79 (by kernel_rfl) (by simp) ?_
  refine fi_seq ?_
  refine fi_region ?_
  refine so_assign rfl ?_
  refine so_nil ?_
  refine fi_seq ?_
  refine fi_region ?_
  refine so_move rfl ?_
  refine sv_len (g0 _ hs) (fun _ => rfl) (by decide) rfl F79.ti43 ?_
  refine so_bin rfl rfl ab_geq ?_
  refine so_move rfl ?_
  replace h := ofP h; rcases h with ⟨c101, h⟩ | ⟨c101, h⟩
  · refine so_gyes rfl (decide_eq_true c101) ?_
    refine so_move rfl ?_
    refine so_gyes rfl (decide_eq_true c101) ?_
    refine sv_len (g0 _ hs) (fun _ => rfl) (by decide) rfl F79.ti43 ?_
    refine so_gyes rfl (decide_eq_true c101) ?_
    refine so_bin rfl rfl ab_leq ?_
    refine so_pick_t rfl (decide_eq_true c101) rfl ?_
    refine so_move rfl ?_
    replace h := ofP h; rcases h with ⟨c102, h⟩ | ⟨c102, h⟩
    · refine so_gyes rfl (decide_eq_true c102) ?_
      refine so_move rfl ?_
      refine so_gyes rfl (decide_eq_true c102) ?_
      refine sv_call (spec_l02Bound_ok v0 l0 (1000000 : Int) hs (fun _ hs => (g0 _ hs)) _ h) rfl rfl nofun ?_
      clear h hs
      rintro _ H104 ⟨y103, h, rfl, hs⟩
      refine so_pick_t rfl (decide_eq_true c102) rfl ?_
      refine so_assign rfl ?_
      refine so_nil ?_
      exact by_ret rfl ⟨_, h, rfl, hs⟩
    · refine so_gno rfl (decide_eq_false c102) ?_
      refine so_gno rfl (decide_eq_false c102) ?_
      refine so_pick_f rfl (decide_eq_false c102) rfl ?_
      refine so_assign rfl ?_
      refine so_nil ?_
      exact by_ret rfl ⟨_, h, rfl, hs⟩
  · refine so_gno rfl (decide_eq_false c101) ?_
    refine so_gno rfl (decide_eq_false c101) ?_
    refine so_gno rfl (decide_eq_false c101) ?_
    refine so_pick_f rfl (decide_eq_false c101) rfl ?_
    refine so_move rfl ?_
    refine so_gno rfl rfl ?_
    refine so_gno rfl rfl ?_
    refine so_pick_f rfl rfl rfl ?_
    refine so_assign rfl ?_
    refine so_nil ?_
    exact by_ret rfl ⟨_, h, rfl, hs⟩

end Go.Proofs.Ytfieljajhmpbiaa.G

namespace Go.Proofs.Ytfieljajhmpbiaa.G
open Go Go.Ab Go.Proofs Go.Proofs.Ytfieljajhmpbiaa
set_option maxRecDepth 100000
set_option linter.unusedVariables false
set_option linter.unusedSimpArgs false
set_option maxHeartbeats 1000000
theorem F30.ag36 : tagg Try.prog 36 = some false := by kernel_rfl
theorem F30.it2 : tint Try.prog 2 = some .i64 := by kernel_rfl
theorem F30.sz2 : tsz Try.prog 2 = some 1 := by kernel_rfl
theorem F30.ta43_43 : tapp Try.prog 43 43 = some (1, 8) := by kernel_rfl
theorem F30.te43 : telem Try.prog 43 = some 2 := by kernel_rfl
theorem F30.ti22 : (telem Try.prog 22).isSome = true := by kernel_rfl
theorem F30.tl22 : (telem Try.prog 22).bind (tsz Try.prog) = some 1 := by kernel_rfl
theorem F30.us36 : (Try.prog.underlying 36).isSome = true := by kernel_rfl
theorem F30.ze2 : tzero Try.prog 2 = some [(.int .i64 (0 : Int))] := by kernel_rfl
theorem spec_ScaleList_ok {fr : List Pc} {H : Heap} (v0 : AV) (l0 : List (Nat)) (a1 : Nat) (hs : Sep H (fr)) (g0 : ∀ H, Sep H fr → Shows H v0 1 (enc (eFlt .f32) l0)) (K : (List (Int)) → Bool → Prop) (h : spec_ScaleList.wp l0 a1 K) : OkQ Try.prog 30 [(.v v0), (.v (.flt .f32 a1))] H (fun r H2 => ∃ (y0 : List (Int)) (y1 : Bool), K y0 y1 ∧ ∃ (w0_ : AV), r = (.t [(.v w0_), (.v (.bool y1))]) ∧ Sep H2 (Pc.osl w0_ 1 (enc (eInt .i64) y0) :: fr)) := by
  unfold spec_ScaleList.wp at h
  refine of_body Try.f30 F.hm Try.func30 rfl Try.call30 (by kernel_rfl) (by simp) ?_
  refine fi_seq ?_
  refine fi_region ?_
  refine so_assign rfl ?_
  refine so_assign rfl ?_
  refine so_nil ?_
  refine fi_seq ?_
  refine fi_seq ?_
  refine fi_region ?_
  refine so_move rfl ?_
  refine sv_call (spec_l02Is_ok v0 l0 hs (fun _ hs => (g0 _ hs)) _ h) rfl rfl nofun ?_
  clear h hs
  rintro _ H102 ⟨y101, h, rfl, hs⟩
  refine so_un rfl au_not ?_
  refine so_move rfl ?_
  replace h := ofT h; rcases h with ⟨c103, h⟩ | ⟨c103, h⟩
  · refine so_gyes rfl (not_f c103) ?_
    refine so_move rfl ?_
    refine so_gyes rfl (not_f c103) ?_
    refine sv_call (spec_l02Above_ok a1 hs  _ h) rfl rfl nofun ?_
    clear h hs
    rintro _ H105 ⟨y104, h, rfl, hs⟩
    refine so_gyes rfl (not_f c103) ?_
    refine so_un rfl au_not ?_
    refine so_pick_f rfl (not_f c103) rfl ?_
    refine so_nil ?_
    replace h := ofT h; rcases h with ⟨c106, h⟩ | ⟨c106, h⟩
    · refine fi_false rfl (not_f c106) ?_
      refine fi_skip ?_
      refine fi_seq ?_
      refine fi_region ?_
      refine sv_bslice hs (eInt .i64) ([] : List (Int)) [] F30.te43 F30.sz2 F30.ze2 rfl rfl rfl rfl (fun _ => rfl) rfl (by decide) nofun (fun v107 H108 nv107 hs => ?_)
      refine so_assign rfl ?_
      refine so_nil ?_
      refine fi_seq ?_
      refine fi_seq ?_
      refine fi_region ?_
      refine so_assign rfl ?_
      refine so_nil ?_
      refine fi_block ?_
      refine fi_loop ?_
      refine fi_at [(0, (.v v0)), (1, (.v (.flt .f32 a1))), (6, (.v v107)), (7, (.v (.int .i64 (0 : Int))))] ⟨rfl, rfl, rfl, rfl, trivial⟩ ?_
      refine h (fun (out129 : List (Int)) (i131 : Int) => ∀ (s : Nat → TV) (H : Heap) (v130 : AV) (nv130 : v130 ≠ .nilsl), Sep H (Pc.osl v130 1 (enc (eInt .i64) out129) :: fr) → Fin _ _ (updL s [(0, (.v v0)), (1, (.v (.flt .f32 a1))), (6, (.v v130)), (7, (.v (.int .i64 i131)))]) H _) ?_ _ _ _ nv107 hs
      intro out129 i131 h s146 H147 v130 nv130 hs
      refine fi_inLoop ?_
      refine fi_seq ?_
      refine fi_seq ?_
      refine fi_region ?_
      refine so_move rfl ?_
      refine so_move rfl ?_
      refine sv_len (g0 _ hs.tl) (fun _ => rfl) (by decide) rfl F30.ti22 ?_
      refine so_bin rfl rfl ab_lss ?_
      refine so_nil ?_
      replace h := ofP h; rcases h with ⟨c132, h⟩ | ⟨c132, h⟩
      · refine fi_true rfl (decide_eq_true c132) ?_
        refine fi_skip ?_
        refine fi_seq ?_
        refine fi_block ?_
        refine fi_seq ?_
        refine fi_region ?_
        refine so_move rfl ?_
        refine so_move rfl ?_
        obtain ⟨c133, h⟩ := h
        refine sv_idx (g0 _ hs.tl) c133 (fun _ => rfl) (by decide) rfl rfl F30.tl22 ?_
        refine sv_cell (g0 _ hs.tl) c133 (0 : Nat) 0 (fun x => (AV.flt .f32 x)) (fun _ => rfl) (fun _ => rfl) rfl F30.ag36 ?_
        refine so_move rfl ?_
        refine so_bin rfl rfl ab_fquo ?_
        refine so_assign rfl ?_
        refine so_nil ?_
        refine fi_seq ?_
        refine fi_seq ?_
        refine fi_region ?_
        refine so_move rfl ?_
        refine so_bin rfl rfl ab_fgtr ?_
        refine so_move rfl ?_
        replace h := ofT h; rcases h with ⟨c134, h⟩ | ⟨c134, h⟩
        · refine so_gyes rfl c134 ?_
          refine so_move rfl ?_
          refine so_gyes rfl c134 ?_
          refine so_bin rfl rfl ab_flss ?_
          refine so_pick_t rfl c134 rfl ?_
          refine so_un rfl au_not ?_
          refine so_nil ?_
          replace h := ofT h; rcases h with ⟨c135, h⟩ | ⟨c135, h⟩
          · refine fi_false rfl (not_f c135) ?_
            refine fi_skip ?_
            refine fi_region ?_
            refine so_move rfl ?_
            refine so_move rfl ?_
            obtain ⟨c136, h⟩ := h
            refine sv_fi c136 rfl F30.us36 F30.it2 ?_
            refine sv_bslice hs (eInt .i64) ([(ftoi .f32 (fop .quo .f32 (l0.getD (i131).toNat (0 : Nat)) a1) .i64)] : List (Int)) [[(.int .i64 (ftoi .f32 (fop .quo .f32 (l0.getD (i131).toNat (0 : Nat)) a1) .i64))]] F30.te43 F30.sz2 F30.ze2 rfl rfl rfl rfl (fun _ => rfl) rfl (by decide) nofun (fun v137 H138 nv137 hs => ?_)
            obtain ⟨c142, h⟩ := h
            refine sv_app hs 1 rfl (hs.shows 0 rfl) (fun _ => rfl) (by decide) F30.ta43_43 (by decide) c142 rfl rfl nofun (fun v140 H141 kv140 hs => ?_)
            replace hs := hs.del 0
            have nv140 := kv140 nv130
            refine so_assign rfl ?_
            refine so_nil ?_
            refine fi_inBlock ?_
            refine fi_region ?_
            refine so_move rfl ?_
            refine so_bin rfl rfl ab_add ?_
            refine so_assign rfl ?_
            refine so_nil ?_
            exact fi_at [(0, (.v v0)), (1, (.v (.flt .f32 a1))), (6, (.v v140)), (7, (.v (.int .i64 (IntKind.i64.wrap (i131 + (1 : Int))))))] ⟨rfl, rfl, rfl, rfl, trivial⟩ (h _ _ _ nv140 hs)
          · refine fi_true rfl (not_t c135) ?_
            refine fi_seq ?_
            refine fi_region ?_
            refine so_assign rfl ?_
            refine so_assign rfl ?_
            refine so_nil ?_
            exact by_ret rfl ⟨_, _, h, _, rfl, (Sep.nil (Sep.del 0 hs) 1)⟩
        · refine so_gno rfl c134 ?_
          refine so_gno rfl c134 ?_
          refine so_pick_f rfl c134 rfl ?_
          refine so_un rfl au_not ?_
          refine so_nil ?_
          refine fi_true rfl (not_t rfl) ?_
          refine fi_seq ?_
          refine fi_region ?_
          refine so_assign rfl ?_
          refine so_assign rfl ?_
          refine so_nil ?_
          exact by_ret rfl ⟨_, _, h, _, rfl, (Sep.nil (Sep.del 0 hs) 1)⟩
      · refine fi_false rfl (decide_eq_false c132) ?_
        refine fi_exit rfl ?_
        refine fi_seq ?_
        refine fi_seq ?_
        refine fi_region ?_
        refine so_move rfl ?_
        refine sv_call (spec_l02Integers_ok v130 out129 hs (fun _ hs => (hs.shows 0 rfl)) _ h) rfl rfl nofun ?_
        clear h hs
        rintro _ H144 ⟨y143, h, rfl, hs⟩
        refine so_un rfl au_not ?_
        refine so_nil ?_
        replace h := ofT h; rcases h with ⟨c145, h⟩ | ⟨c145, h⟩
        · refine fi_false rfl (not_f c145) ?_
          refine fi_skip ?_
          refine fi_seq ?_
          refine fi_region ?_
          refine so_move rfl ?_
          refine so_assign rfl ?_
          refine so_assign rfl ?_
          refine so_nil ?_
          exact by_ret rfl ⟨_, _, h, _, rfl, hs⟩
        · refine fi_true rfl (not_t c145) ?_
          refine fi_seq ?_
          refine fi_region ?_
          refine so_assign rfl ?_
          refine so_assign rfl ?_
          refine so_nil ?_
          exact by_ret rfl ⟨_, _, h, _, rfl, (Sep.nil (Sep.del 0 hs) 1)⟩
    · refine fi_true rfl (not_t c106) ?_
      refine fi_seq ?_
      refine fi_region ?_
      refine so_assign rfl ?_
      refine so_assign rfl ?_
      refine so_nil ?_
      exact by_ret rfl ⟨_, _, h, _, rfl, (Sep.nil hs 1)⟩
  · refine so_gno rfl (not_t c103) ?_
    refine so_gno rfl (not_t c103) ?_
    refine so_gno rfl (not_t c103) ?_
    refine so_pick_t rfl (not_t c103) rfl ?_
    refine so_nil ?_
    refine fi_true rfl rfl ?_
    refine fi_seq ?_
    refine fi_region ?_
    refine so_assign rfl ?_
    refine so_assign rfl ?_
    refine so_nil ?_
    exact by_ret rfl ⟨_, _, h, _, rfl, (Sep.nil hs 1)⟩

end Go.Proofs.Ytfieljajhmpbiaa.G

namespace Go.Proofs.Ytfieljajhmpbiaa.G
open Go Go.Ab Go.Proofs Go.Proofs.Ytfieljajhmpbiaa
set_option maxRecDepth 100000
set_option linter.unusedVariables false
set_option linter.unusedSimpArgs false
set_option maxHeartbeats 1000000
theorem impl_IsFinite_ok {fr : List Pc} {H : Heap} (a0 : Nat) (hs : Sep H (fr))  (K : Bool → Prop) (h : impl_IsFinite.wp a0 K) : OkQ Try.prog 123 [(.v (.flt .f32 a0))] H (fun r H2 => ∃ (y0 : Bool), K y0 ∧ r = (.v (.bool y0)) ∧ Sep H2 (fr)) := by
  unfold impl_IsFinite.wp at h
  refine of_body Try.f123 F.hm Try.func123 rfl Try.call123 (by kernel_rfl) (by simp) ?_
  refine fi_seq ?_
  refine fi_region ?_
  refine so_assign rfl ?_
  refine so_nil ?_
  refine fi_seq ?_
  refine fi_region ?_
  refine so_move rfl ?_
  refine so_move rfl ?_
  refine so_bin rfl rfl ab_fsub ?_
  refine so_bin rfl rfl ab_feql ?_
  refine so_assign rfl ?_
  refine so_nil ?_
  exact by_ret rfl ⟨_, h, rfl, hs⟩

end Go.Proofs.Ytfieljajhmpbiaa.G

namespace Go.Proofs.Ytfieljajhmpbiaa.G
open Go Go.Ab Go.Proofs Go.Proofs.Ytfieljajhmpbiaa
set_option maxRecDepth 100000
set_option linter.unusedVariables false
set_option linter.unusedSimpArgs false
set_option maxHeartbeats 1000000
theorem impl_isOver_ok {fr : List Pc} {H : Heap} (a0 : Nat) (hs : Sep H (fr))  (K : Bool → Prop) (h : impl_isOver.wp a0 K) : OkQ Try.prog 73 [(.v (.flt .f32 a0))] H (fun r H2 => ∃ (y0 : Bool), K y0 ∧ r = (.v (.bool y0)) ∧ Sep H2 (fr)) := by
  unfold impl_isOver.wp at h
  refine of_body Try.f73 F.hm Try.func73 rfl Try.call73 (by kernel_rfl) (by simp) ?_
  refine fi_seq ?_
  refine fi_region ?_
  refine so_assign rfl ?_
  refine so_nil ?_
  refine fi_seq ?_
  refine fi_region ?_
  refine so_move rfl ?_
  refine sv_call (impl_IsFinite_ok a0 hs  _ h) rfl rfl nofun ?_
  clear h hs
  rintro _ H102 ⟨y101, h, rfl, hs⟩
  refine so_move rfl ?_
  replace h := ofT h; rcases h with ⟨c103, h⟩ | ⟨c103, h⟩
  · refine so_gyes rfl c103 ?_
    refine so_move rfl ?_
    refine so_gyes rfl c103 ?_
    refine so_bin rfl rfl ab_fgtr ?_
    refine so_pick_t rfl c103 rfl ?_
    refine so_assign rfl ?_
    refine so_nil ?_
    exact by_ret rfl ⟨_, h, rfl, hs⟩
  · refine so_gno rfl c103 ?_
    refine so_gno rfl c103 ?_
    refine so_pick_f rfl c103 rfl ?_
    refine so_assign rfl ?_
    refine so_nil ?_
    exact by_ret rfl ⟨_, h, rfl, hs⟩

end Go.Proofs.Ytfieljajhmpbiaa.G

namespace Go.Proofs.Ytfieljajhmpbiaa.G
open Go Go.Ab Go.Proofs Go.Proofs.Ytfieljajhmpbiaa
set_option maxRecDepth 100000
set_option linter.unusedVariables false
set_option linter.unusedSimpArgs false
set_option maxHeartbeats 1000000
theorem F122.ag22 : tagg Try.prog 22 = some false := by kernel_rfl
theorem F122.ag36 : tagg Try.prog 36 = some false := by kernel_rfl
theorem F122.ti148 : (telem Try.prog 148).isSome = true := by kernel_rfl
theorem F122.ti22 : (telem Try.prog 22).isSome = true := by kernel_rfl
theorem F122.tl148 : (telem Try.prog 148).bind (tsz Try.prog) = some 1 := by kernel_rfl
theorem F122.tl22 : (telem Try.prog 22).bind (tsz Try.prog) = some 1 := by kernel_rfl
theorem impl_areFinite_ok {fr : List Pc} {H : Heap} (v0 : AV) (w0 : List (List AV)) (l0 : List (List (Nat))) (hs : Sep H (fr)) (g0 : ∀ H, Sep H fr → DSh H v0 1 R_LeFlt_f32_o l0 w0) (K : Bool → Prop) (h : impl_areFinite.wp l0 K) : OkQ Try.prog 122 [(.v v0)] H (fun r H2 => ∃ (y0 : Bool), K y0 ∧ r = (.v (.bool y0)) ∧ Sep H2 (fr)) := by
  unfold impl_areFinite.wp at h
  refine of_body Try.f122 F.hm Try.func122 rfl Try.call122 (by kernel_rfl) (by simp) ?_
  refine fi_seq ?_
  refine fi_region ?_
  refine so_assign rfl ?_
  refine so_nil ?_
  refine fi_seq ?_
  refine fi_seq ?_
  refine fi_region ?_
  refine so_move rfl ?_
  refine sd_len ((g0 _ hs) : DSh _ _ 1 R_LeFlt_f32_o l0 w0) (by decide) rfl F122.ti148 ?_
  refine so_move rfl ?_
  refine so_nil ?_
  refine fi_block ?_
  refine fi_loop ?_
  refine fi_at [(7, (.v v0)), (8, (.v (.int .i64 (l0.length : Int)))), (9, (.v (.int .i64 (0 : Int))))] ⟨rfl, rfl, rfl, trivial⟩ ?_
  refine h (fun (x102 : Int) => ∀ (s : Nat → TV) (H : Heap), Sep H (fr) → Fin _ _ (updL s [(7, (.v v0)), (8, (.v (.int .i64 (l0.length : Int)))), (9, (.v (.int .i64 x102)))]) H _) ?_ _ _ hs
  intro x102 h s114 H115 hs
  refine fi_inLoop ?_
  refine fi_seq ?_
  refine fi_region ?_
  refine so_bin rfl rfl ab_lss ?_
  refine so_nil ?_
  refine fi_seq ?_
  replace h := ofP h; rcases h with ⟨c103, h⟩ | ⟨c103, h⟩
  · refine fi_true rfl (decide_eq_true c103) ?_
    refine fi_skip ?_
    refine fi_seq ?_
    refine fi_block ?_
    refine fi_seq ?_
    refine fi_region ?_
    obtain ⟨c104, h⟩ := h
    refine sd_idx ((g0 _ hs) : DSh _ _ 1 R_LeFlt_f32_o l0 w0) c104 ([] : List (Nat)) (by decide) rfl rfl F122.tl148 ?_
    refine su_ld ((((g0 _ hs) : DSh _ _ 1 R_LeFlt_f32_o l0 w0)).at (by decide) c104 ([] : List (Nat))).2.2 0 (congrArg (fun c => c[0]?) ((((g0 _ hs) : DSh _ _ 1 R_LeFlt_f32_o l0 w0)).at (by decide) c104 ([] : List (Nat))).2.1.1) rfl F122.ag22 ?_
    refine so_assign rfl ?_
    refine so_nil ?_
    refine fi_seq ?_
    refine fi_region ?_
    refine so_move rfl ?_
    refine sv_len ((((g0 _ hs) : DSh _ _ 1 R_LeFlt_f32_o l0 w0)).at (by decide) c104 ([] : List (Nat))).2.1.2 (fun _ => rfl) (by decide) rfl F122.ti22 ?_
    refine so_move rfl ?_
    refine so_nil ?_
    refine fi_block ?_
    refine fi_loop ?_
    refine fi_at [(7, (.v v0)), (8, (.v (.int .i64 (l0.length : Int)))), (9, (.v (.int .i64 x102))), (13, (.v ((w0.getD (x102).toNat []).getD 0 .und))), (14, (.v (.int .i64 ((l0.getD (x102).toNat ([] : List (Nat))).length : Int)))), (15, (.v (.int .i64 (0 : Int))))] ⟨rfl, rfl, rfl, rfl, rfl, rfl, trivial⟩ ?_
    refine h (fun (x106 : Int) => ∀ (s : Nat → TV) (H : Heap), Sep H (fr) → Fin _ _ (updL s [(7, (.v v0)), (8, (.v (.int .i64 (l0.length : Int)))), (9, (.v (.int .i64 x102))), (13, (.v ((w0.getD (x102).toNat []).getD 0 .und))), (14, (.v (.int .i64 ((l0.getD (x102).toNat ([] : List (Nat))).length : Int)))), (15, (.v (.int .i64 x106)))]) H _) ?_ _ _ hs
    intro x106 h s112 H113 hs
    refine fi_inLoop ?_
    refine fi_seq ?_
    refine fi_region ?_
    refine so_bin rfl rfl ab_lss ?_
    refine so_nil ?_
    refine fi_seq ?_
    replace h := ofP h; rcases h with ⟨c107, h⟩ | ⟨c107, h⟩
    · refine fi_true rfl (decide_eq_true c107) ?_
      refine fi_skip ?_
      refine fi_seq ?_
      refine fi_block ?_
      refine fi_seq ?_
      refine fi_region ?_
      obtain ⟨c108, h⟩ := h
      refine sv_idx ((((g0 _ hs) : DSh _ _ 1 R_LeFlt_f32_o l0 w0)).at (by decide) c104 ([] : List (Nat))).2.1.2 c108 (fun _ => rfl) (by decide) rfl rfl F122.tl22 ?_
      refine sv_cell ((((g0 _ hs) : DSh _ _ 1 R_LeFlt_f32_o l0 w0)).at (by decide) c104 ([] : List (Nat))).2.1.2 c108 (0 : Nat) 0 (fun x => (AV.flt .f32 x)) (fun _ => rfl) (fun _ => rfl) rfl F122.ag36 ?_
      refine so_assign rfl ?_
      refine so_nil ?_
      refine fi_seq ?_
      refine fi_region ?_
      refine so_move rfl ?_
      refine sv_call (impl_IsFinite_ok ((l0.getD (x102).toNat ([] : List (Nat))).getD (x106).toNat (0 : Nat)) hs  _ h) rfl rfl nofun ?_
      clear h hs
      rintro _ H110 ⟨y109, h, rfl, hs⟩
      refine so_un rfl au_not ?_
      refine so_nil ?_
      replace h := ofT h; rcases h with ⟨c111, h⟩ | ⟨c111, h⟩
      · refine fi_false rfl (not_f c111) ?_
        refine fi_skip ?_
        refine fi_inBlock ?_
        refine fi_region ?_
        refine so_bin rfl rfl ab_add ?_
        refine so_move rfl ?_
        refine so_nil ?_
        exact fi_at [(7, (.v v0)), (8, (.v (.int .i64 (l0.length : Int)))), (9, (.v (.int .i64 x102))), (13, (.v ((w0.getD (x102).toNat []).getD 0 .und))), (14, (.v (.int .i64 ((l0.getD (x102).toNat ([] : List (Nat))).length : Int)))), (15, (.v (.int .i64 (IntKind.i64.wrap (x106 + (1 : Int))))))] ⟨rfl, rfl, rfl, rfl, rfl, rfl, trivial⟩ (h _ _  hs)
      · refine fi_true rfl (not_t c111) ?_
        refine fi_seq ?_
        refine fi_region ?_
        refine so_assign rfl ?_
        refine so_nil ?_
        exact by_ret rfl ⟨_, h, rfl, hs⟩
    · refine fi_false rfl (decide_eq_false c107) ?_
      refine fi_exit rfl ?_
      refine fi_inBlock ?_
      refine fi_region ?_
      refine so_bin rfl rfl ab_add ?_
      refine so_move rfl ?_
      refine so_nil ?_
      exact fi_at [(7, (.v v0)), (8, (.v (.int .i64 (l0.length : Int)))), (9, (.v (.int .i64 (IntKind.i64.wrap (x102 + (1 : Int))))))] ⟨rfl, rfl, rfl, trivial⟩ (h _ _  hs)
  · refine fi_false rfl (decide_eq_false c103) ?_
    refine fi_exit rfl ?_
    refine fi_seq ?_
    refine fi_region ?_
    refine so_assign rfl ?_
    refine so_nil ?_
    exact by_ret rfl ⟨_, h, rfl, hs⟩

end Go.Proofs.Ytfieljajhmpbiaa.G

namespace Go.Proofs.Ytfieljajhmpbiaa.G
open Go Go.Ab Go.Proofs Go.Proofs.Ytfieljajhmpbiaa
set_option maxRecDepth 100000
set_option linter.unusedVariables false
set_option linter.unusedSimpArgs false
set_option maxHeartbeats 1000000
theorem impl_within_ok {fr : List Pc} {H : Heap} (a0 : Int) (a1 : Int) (a2 : Int) (hs : Sep H (fr))  (K : Bool → Prop) (h : impl_within.wp a0 a1 a2 K) : OkQ Try.prog 63 [(.v (.int .i64 a0)), (.v (.int .i64 a1)), (.v (.int .i64 a2))] H (fun r H2 => ∃ (y0 : Bool), K y0 ∧ r = (.v (.bool y0)) ∧ Sep H2 (fr)) := by
  unfold impl_within.wp at h
  refine of_body Try.f63 F.hm Try.func63 rfl Try.call63 (by kernel_rfl) (by simp) ?_
  refine fi_seq ?_
  refine fi_region ?_
  refine so_assign rfl ?_
  refine so_nil ?_
  refine fi_seq ?_
  refine fi_region ?_
  refine so_move rfl ?_
  refine so_move rfl ?_
  refine so_bin rfl rfl ab_geq ?_
  refine so_move rfl ?_
  replace h := ofP h; rcases h with ⟨c101, h⟩ | ⟨c101, h⟩
  · refine so_gyes rfl (decide_eq_true c101) ?_
    refine so_move rfl ?_
    refine so_gyes rfl (decide_eq_true c101) ?_
    refine so_move rfl ?_
    refine so_gyes rfl (decide_eq_true c101) ?_
    refine so_bin rfl rfl ab_leq ?_
    refine so_pick_t rfl (decide_eq_true c101) rfl ?_
    refine so_assign rfl ?_
    refine so_nil ?_
    exact by_ret rfl ⟨_, h, rfl, hs⟩
  · refine so_gno rfl (decide_eq_false c101) ?_
    refine so_gno rfl (decide_eq_false c101) ?_
    refine so_gno rfl (decide_eq_false c101) ?_
    refine so_pick_f rfl (decide_eq_false c101) rfl ?_
    refine so_assign rfl ?_
    refine so_nil ?_
    exact by_ret rfl ⟨_, h, rfl, hs⟩

end Go.Proofs.Ytfieljajhmpbiaa.G

namespace Go.Proofs.Ytfieljajhmpbiaa.G
open Go Go.Ab Go.Proofs Go.Proofs.Ytfieljajhmpbiaa
set_option maxRecDepth 100000
set_option linter.unusedVariables false
set_option linter.unusedSimpArgs false
set_option maxHeartbeats 1000000
theorem F80.sz22 : tsz Try.prog 22 = some 1 := by kernel_rfl
theorem F80.te148 : telem Try.prog 148 = some 22 := by kernel_rfl
theorem F80.ti22 : (telem Try.prog 22).isSome = true := by kernel_rfl
theorem F80.ze22 : tzero Try.prog 22 = some [.nilsl] := by kernel_rfl
theorem impl_IsList_ok {fr : List Pc} {H : Heap} (v0 : AV) (l0 : List (Nat)) (hs : Sep H (fr)) (g0 : ∀ H, Sep H fr → Shows H v0 1 (enc (eFlt .f32) l0)) (K : Bool → Prop) (h : impl_IsList.wp l0 K) : OkQ Try.prog 80 [(.v v0)] H (fun r H2 => ∃ (y0 : Bool), K y0 ∧ r = (.v (.bool y0)) ∧ Sep H2 (fr)) := by
  unfold impl_IsList.wp at h
  refine of_body Try.f80 F.hm Try.func80 rfl Try.call80 (by kernel_rfl) (by simp) ?_
  refine fi_seq ?_
  refine fi_region ?_
  refine so_assign rfl ?_
  refine so_nil ?_
  refine fi_seq ?_
  refine fi_region ?_
  refine so_move rfl ?_
  refine sv_len (g0 _ hs) (fun _ => rfl) (by decide) rfl F80.ti22 ?_
  refine sv_call (impl_within_ok (l0.length : Int) (1 : Int) (128 : Int) hs  _ h) rfl rfl nofun ?_
  clear h hs
  rintro _ H102 ⟨y101, h, rfl, hs⟩
  refine so_move rfl ?_
  replace h := ofT h; rcases h with ⟨c103, h⟩ | ⟨c103, h⟩
  · refine so_gyes rfl c103 ?_
    refine so_move rfl ?_
    refine so_gyes rfl c103 ?_
    refine sd_bslice hs [[v0]] F80.te148 F80.sz22 F80.ze22 rfl rfl rfl (by simp) (fac (stc (g0 _ hs).stor stn) fan) (by decide) rfl nofun (fun v104 H105 _ hs => ?_)
    refine so_gyes rfl c103 ?_
    refine sv_call (impl_areFinite_ok v104 ([[v0]]) ([l0] : List (List (Nat))) hs (fun _ hs => ⟨hs.shows 0 rfl, by simp, ⟨⟨rfl, (g0 _ hs.tl)⟩, trivial⟩⟩) _ h) rfl rfl nofun ?_
    clear h hs
    rintro _ H108 ⟨y107, h, rfl, hs⟩
    refine so_pick_t rfl c103 rfl ?_
    refine so_assign rfl ?_
    refine so_nil ?_
    exact by_ret rfl ⟨_, h, rfl, (Sep.del 0 hs)⟩
  · refine so_gno rfl c103 ?_
    refine so_gno rfl c103 ?_
    refine so_gno rfl c103 ?_
    refine so_pick_f rfl c103 rfl ?_
    refine so_assign rfl ?_
    refine so_nil ?_
    exact by_ret rfl ⟨_, h, rfl, hs⟩

end Go.Proofs.Ytfieljajhmpbiaa.G

namespace Go.Proofs.Ytfieljajhmpbiaa.G
open Go Go.Ab Go.Proofs Go.Proofs.Ytfieljajhmpbiaa
set_option maxRecDepth 100000
set_option linter.unusedVariables false
set_option linter.unusedSimpArgs false
set_option maxHeartbeats 1000000
theorem impl_size_ok {fr : List Pc} {H : Heap} (a0 : Nat) (hs : Sep H (fr))  (K : Nat → Prop) (h : impl_size.wp a0 K) : OkQ Try.prog 81 [(.v (.flt .f32 a0))] H (fun r H2 => ∃ (y0 : Nat), K y0 ∧ r = (.v (.flt .f32 y0)) ∧ Sep H2 (fr)) := by
  unfold impl_size.wp at h
  refine of_body Try.f81 F.hm Try.func81 rfl Try.call81 (by kernel_rfl) (by simp) ?_
  refine fi_seq ?_
  refine fi_region ?_
  refine so_assign rfl ?_
  refine so_nil ?_
  refine fi_seq ?_
  refine fi_seq ?_
  refine fi_region ?_
  refine so_move rfl ?_
  refine so_bin rfl rfl ab_flss ?_
  refine so_nil ?_
  replace h := ofT h; rcases h with ⟨c101, h⟩ | ⟨c101, h⟩
  · refine fi_true rfl c101 ?_
    refine fi_seq ?_
    refine fi_region ?_
    refine so_move rfl ?_
    refine so_un rfl au_fneg' ?_
    refine so_assign rfl ?_
    refine so_nil ?_
    exact by_ret rfl ⟨_, h, rfl, hs⟩
  · refine fi_false rfl c101 ?_
    refine fi_skip ?_
    refine fi_seq ?_
    refine fi_seq ?_
    refine fi_region ?_
    refine so_move rfl ?_
    refine so_bin rfl rfl ab_feql ?_
    refine so_nil ?_
    replace h := ofT h; rcases h with ⟨c102, h⟩ | ⟨c102, h⟩
    · refine fi_true rfl c102 ?_
      refine fi_seq ?_
      refine fi_region ?_
      refine so_assign rfl ?_
      refine so_nil ?_
      exact by_ret rfl ⟨_, h, rfl, hs⟩
    · refine fi_false rfl c102 ?_
      refine fi_skip ?_
      refine fi_seq ?_
      refine fi_region ?_
      refine so_move rfl ?_
      refine so_assign rfl ?_
      refine so_nil ?_
      exact by_ret rfl ⟨_, h, rfl, hs⟩

end Go.Proofs.Ytfieljajhmpbiaa.G

namespace Go.Proofs.Ytfieljajhmpbiaa.G
open Go Go.Ab Go.Proofs Go.Proofs.Ytfieljajhmpbiaa
set_option maxRecDepth 100000
set_option linter.unusedVariables false
set_option linter.unusedSimpArgs false
set_option maxHeartbeats 1000000
theorem F31.ag36 : tagg Try.prog 36 = some false := by kernel_rfl
theorem F31.it2 : tint Try.prog 2 = some .i64 := by kernel_rfl
theorem F31.sz2 : tsz Try.prog 2 = some 1 := by kernel_rfl
theorem F31.ta43_43 : tapp Try.prog 43 43 = some (1, 8) := by kernel_rfl
theorem F31.te43 : telem Try.prog 43 = some 2 := by kernel_rfl
theorem F31.ti22 : (telem Try.prog 22).isSome = true := by kernel_rfl
theorem F31.tl22 : (telem Try.prog 22).bind (tsz Try.prog) = some 1 := by kernel_rfl
theorem F31.us36 : (Try.prog.underlying 36).isSome = true := by kernel_rfl
theorem F31.ze2 : tzero Try.prog 2 = some [(.int .i64 (0 : Int))] := by kernel_rfl
theorem impl_ScaleList_ok {fr : List Pc} {H : Heap} (v0 : AV) (l0 : List (Nat)) (a1 : Nat) (hs : Sep H (fr)) (g0 : ∀ H, Sep H fr → Shows H v0 1 (enc (eFlt .f32) l0)) (K : (List (Int)) → Bool → Prop) (h : impl_ScaleList.wp l0 a1 K) : OkQ Try.prog 31 [(.v v0), (.v (.flt .f32 a1))] H (fun r H2 => ∃ (y0 : List (Int)) (y1 : Bool), K y0 y1 ∧ ∃ (w0_ : AV), r = (.t [(.v w0_), (.v (.bool y1))]) ∧ Sep H2 (Pc.osl w0_ 1 (enc (eInt .i64) y0) :: fr)) := by
  unfold impl_ScaleList.wp at h
  refine of_body Try.f31 F.hm Try.func31 rfl Try.call31 (by kernel_rfl) (by simp) ?_
  refine fi_seq ?_
  refine fi_region ?_
  refine so_assign rfl ?_
  refine so_assign rfl ?_
  refine so_nil ?_
  refine fi_seq ?_
  refine fi_seq ?_
  refine fi_region ?_
  refine so_move rfl ?_
  refine sv_call (impl_IsList_ok v0 l0 hs (fun _ hs => (g0 _ hs)) _ h) rfl rfl nofun ?_
  clear h hs
  rintro _ H102 ⟨y101, h, rfl, hs⟩
  refine so_un rfl au_not ?_
  refine so_move rfl ?_
  replace h := ofT h; rcases h with ⟨c103, h⟩ | ⟨c103, h⟩
  · refine so_gyes rfl (not_f c103) ?_
    refine so_move rfl ?_
    refine so_gyes rfl (not_f c103) ?_
    refine sv_call (impl_isOver_ok a1 hs  _ h) rfl rfl nofun ?_
    clear h hs
    rintro _ H105 ⟨y104, h, rfl, hs⟩
    refine so_gyes rfl (not_f c103) ?_
    refine so_un rfl au_not ?_
    refine so_pick_f rfl (not_f c103) rfl ?_
    refine so_nil ?_
    replace h := ofT h; rcases h with ⟨c106, h⟩ | ⟨c106, h⟩
    · refine fi_false rfl (not_f c106) ?_
      refine fi_skip ?_
      refine fi_seq ?_
      refine fi_region ?_
      refine sv_bslice hs (eInt .i64) ([] : List (Int)) [] F31.te43 F31.sz2 F31.ze2 rfl rfl rfl rfl (fun _ => rfl) rfl (by decide) nofun (fun v107 H108 nv107 hs => ?_)
      refine so_assign rfl ?_
      refine so_nil ?_
      refine fi_seq ?_
      refine fi_seq ?_
      refine fi_region ?_
      refine so_move rfl ?_
      refine sv_len (g0 _ hs.tl) (fun _ => rfl) (by decide) rfl F31.ti22 ?_
      refine so_move rfl ?_
      refine so_nil ?_
      refine fi_block ?_
      refine fi_loop ?_
      refine fi_at [(1, (.v (.flt .f32 a1))), (6, (.v v107)), (19, (.v v0)), (20, (.v (.int .i64 (l0.length : Int)))), (21, (.v (.int .i64 (0 : Int))))] ⟨rfl, rfl, rfl, rfl, rfl, trivial⟩ ?_
      refine h (fun (out127 : List (Int)) (x129 : Int) => ∀ (s : Nat → TV) (H : Heap) (v128 : AV) (nv128 : v128 ≠ .nilsl), Sep H (Pc.osl v128 1 (enc (eInt .i64) out127) :: fr) → Fin _ _ (updL s [(1, (.v (.flt .f32 a1))), (6, (.v v128)), (19, (.v v0)), (20, (.v (.int .i64 (l0.length : Int)))), (21, (.v (.int .i64 x129)))]) H _) ?_ _ _ _ nv107 hs
      intro out127 x129 h s142 H143 v128 nv128 hs
      refine fi_inLoop ?_
      refine fi_seq ?_
      refine fi_region ?_
      refine so_bin rfl rfl ab_lss ?_
      refine so_nil ?_
      refine fi_seq ?_
      replace h := ofP h; rcases h with ⟨c130, h⟩ | ⟨c130, h⟩
      · refine fi_true rfl (decide_eq_true c130) ?_
        refine fi_skip ?_
        refine fi_seq ?_
        refine fi_block ?_
        refine fi_seq ?_
        refine fi_region ?_
        obtain ⟨c131, h⟩ := h
        refine sv_idx (g0 _ hs.tl) c131 (fun _ => rfl) (by decide) rfl rfl F31.tl22 ?_
        refine sv_cell (g0 _ hs.tl) c131 (0 : Nat) 0 (fun x => (AV.flt .f32 x)) (fun _ => rfl) (fun _ => rfl) rfl F31.ag36 ?_
        refine so_assign rfl ?_
        refine so_nil ?_
        refine fi_seq ?_
        refine fi_region ?_
        refine so_move rfl ?_
        refine so_move rfl ?_
        refine so_bin rfl rfl ab_fquo ?_
        refine so_assign rfl ?_
        refine so_nil ?_
        refine fi_seq ?_
        refine fi_seq ?_
        refine fi_region ?_
        refine so_move rfl ?_
        refine sv_call (impl_size_ok (fop .quo .f32 (l0.getD (x129).toNat (0 : Nat)) a1) hs  _ h) rfl rfl nofun ?_
        clear h hs
        rintro _ H133 ⟨y132, h, rfl, hs⟩
        refine so_bin rfl rfl ab_flss ?_
        refine so_un rfl au_not ?_
        refine so_nil ?_
        replace h := ofT h; rcases h with ⟨c134, h⟩ | ⟨c134, h⟩
        · refine fi_false rfl (not_f c134) ?_
          refine fi_skip ?_
          refine fi_region ?_
          refine so_move rfl ?_
          refine so_move rfl ?_
          obtain ⟨c135, h⟩ := h
          refine sv_fi c135 rfl F31.us36 F31.it2 ?_
          refine sv_bslice hs (eInt .i64) ([(ftoi .f32 (fop .quo .f32 (l0.getD (x129).toNat (0 : Nat)) a1) .i64)] : List (Int)) [[(.int .i64 (ftoi .f32 (fop .quo .f32 (l0.getD (x129).toNat (0 : Nat)) a1) .i64))]] F31.te43 F31.sz2 F31.ze2 rfl rfl rfl rfl (fun _ => rfl) rfl (by decide) nofun (fun v136 H137 nv136 hs => ?_)
          obtain ⟨c141, h⟩ := h
          refine sv_app hs 1 rfl (hs.shows 0 rfl) (fun _ => rfl) (by decide) F31.ta43_43 (by decide) c141 rfl rfl nofun (fun v139 H140 kv139 hs => ?_)
          replace hs := hs.del 0
          have nv139 := kv139 nv128
          refine so_assign rfl ?_
          refine so_nil ?_
          refine fi_inBlock ?_
          refine fi_region ?_
          refine so_bin rfl rfl ab_add ?_
          refine so_move rfl ?_
          refine so_nil ?_
          exact fi_at [(1, (.v (.flt .f32 a1))), (6, (.v v139)), (19, (.v v0)), (20, (.v (.int .i64 (l0.length : Int)))), (21, (.v (.int .i64 (IntKind.i64.wrap (x129 + (1 : Int))))))] ⟨rfl, rfl, rfl, rfl, rfl, trivial⟩ (h _ _ _ nv139 hs)
        · refine fi_true rfl (not_t c134) ?_
          refine fi_seq ?_
          refine fi_region ?_
          refine so_assign rfl ?_
          refine so_assign rfl ?_
          refine so_nil ?_
          exact by_ret rfl ⟨_, _, h, _, rfl, (Sep.nil (Sep.del 0 hs) 1)⟩
      · refine fi_false rfl (decide_eq_false c130) ?_
        refine fi_exit rfl ?_
        refine fi_seq ?_
        refine fi_region ?_
        refine so_move rfl ?_
        refine so_assign rfl ?_
        refine so_assign rfl ?_
        refine so_nil ?_
        exact by_ret rfl ⟨_, _, h, _, rfl, hs⟩
    · refine fi_true rfl (not_t c106) ?_
      refine fi_seq ?_
      refine fi_region ?_
      refine so_assign rfl ?_
      refine so_assign rfl ?_
      refine so_nil ?_
      exact by_ret rfl ⟨_, _, h, _, rfl, (Sep.nil hs 1)⟩
  · refine so_gno rfl (not_t c103) ?_
    refine so_gno rfl (not_t c103) ?_
    refine so_gno rfl (not_t c103) ?_
    refine so_pick_t rfl (not_t c103) rfl ?_
    refine so_nil ?_
    refine fi_true rfl rfl ?_
    refine fi_seq ?_
    refine fi_region ?_
    refine so_assign rfl ?_
    refine so_assign rfl ?_
    refine so_nil ?_
    exact by_ret rfl ⟨_, _, h, _, rfl, (Sep.nil hs 1)⟩

end Go.Proofs.Ytfieljajhmpbiaa.G

namespace Go.Proofs.Ytfieljajhmpbiaa.G
open Go Go.Ab Go.Proofs Go.Proofs.Ytfieljajhmpbiaa
set_option maxRecDepth 100000
set_option linter.unusedVariables false
set_option linter.unusedSimpArgs false
set_option maxHeartbeats 1000000
theorem F32.ag2 : tagg Try.prog 2 = some false := by kernel_rfl
theorem F32.ti43 : (telem Try.prog 43).isSome = true := by kernel_rfl
theorem F32.tl43 : (telem Try.prog 43).bind (tsz Try.prog) = some 1 := by kernel_rfl
theorem laws_eqInt64S_ok {fr : List Pc} {H : Heap} (v0 : AV) (l0 : List (Int)) (v1 : AV) (l1 : List (Int)) (hs : Sep H (fr)) (g0 : ∀ H, Sep H fr → Shows H v0 1 (enc (eInt .i64) l0)) (g1 : ∀ H, Sep H fr → Shows H v1 1 (enc (eInt .i64) l1)) (K : Bool → Prop) (h : laws_eqInt64S.wp l0 l1 K) : OkQ Try.prog 32 [(.v v0), (.v v1)] H (fun r H2 => ∃ (y0 : Bool), K y0 ∧ r = (.v (.bool y0)) ∧ Sep H2 (fr)) := by
  unfold laws_eqInt64S.wp at h
  refine of_body Try.f32 F.hm Try.func32 rfl Try.call32 (by kernel_rfl) (by simp) ?_
  refine fi_seq ?_
  refine fi_region ?_
  refine so_assign rfl ?_
  refine so_nil ?_
  refine fi_seq ?_
  refine fi_seq ?_
  refine fi_region ?_
  refine so_move rfl ?_
  refine sv_len (g0 _ hs) (fun _ => rfl) (by decide) rfl F32.ti43 ?_
  refine so_move rfl ?_
  refine sv_len (g1 _ hs) (fun _ => rfl) (by decide) rfl F32.ti43 ?_
  refine so_bin rfl rfl ab_neq ?_
  refine so_nil ?_
  replace h := ofP h; rcases h with ⟨c101, h⟩ | ⟨c101, h⟩
  · refine fi_false rfl (not_f (decide_eq_true c101)) ?_
    refine fi_skip ?_
    refine fi_seq ?_
    refine fi_seq ?_
    refine fi_region ?_
    refine so_assign rfl ?_
    refine so_nil ?_
    refine fi_block ?_
    refine fi_loop ?_
    refine fi_at [(0, (.v v0)), (1, (.v v1)), (5, (.v (.int .i64 (0 : Int))))] ⟨rfl, rfl, rfl, trivial⟩ ?_
    refine h (fun (i103 : Int) => ∀ (s : Nat → TV) (H : Heap), Sep H (fr) → Fin _ _ (updL s [(0, (.v v0)), (1, (.v v1)), (5, (.v (.int .i64 i103)))]) H _) ?_ _ _ hs
    intro i103 h s108 H109 hs
    refine fi_inLoop ?_
    refine fi_seq ?_
    refine fi_seq ?_
    refine fi_region ?_
    refine so_move rfl ?_
    refine so_move rfl ?_
    refine sv_len (g0 _ hs) (fun _ => rfl) (by decide) rfl F32.ti43 ?_
    refine so_bin rfl rfl ab_lss ?_
    refine so_nil ?_
    replace h := ofP h; rcases h with ⟨c104, h⟩ | ⟨c104, h⟩
    · refine fi_true rfl (decide_eq_true c104) ?_
      refine fi_skip ?_
      refine fi_seq ?_
      refine fi_block ?_
      refine fi_seq ?_
      refine fi_region ?_
      refine so_move rfl ?_
      refine so_move rfl ?_
      obtain ⟨c105, h⟩ := h
      refine sv_idx (g0 _ hs) c105 (fun _ => rfl) (by decide) rfl rfl F32.tl43 ?_
      refine sv_cell (g0 _ hs) c105 (0 : Int) 0 (fun x => (AV.int .i64 x)) (fun _ => rfl) (fun _ => rfl) rfl F32.ag2 ?_
      refine so_move rfl ?_
      refine so_move rfl ?_
      obtain ⟨c106, h⟩ := h
      refine sv_idx (g1 _ hs) c106 (fun _ => rfl) (by decide) rfl rfl F32.tl43 ?_
      refine sv_cell (g1 _ hs) c106 (0 : Int) 0 (fun x => (AV.int .i64 x)) (fun _ => rfl) (fun _ => rfl) rfl F32.ag2 ?_
      refine so_bin rfl rfl ab_neq ?_
      refine so_nil ?_
      replace h := ofP h; rcases h with ⟨c107, h⟩ | ⟨c107, h⟩
      · refine fi_false rfl (not_f (decide_eq_true c107)) ?_
        refine fi_skip ?_
        refine fi_inBlock ?_
        refine fi_region ?_
        refine so_move rfl ?_
        refine so_bin rfl rfl ab_add ?_
        refine so_assign rfl ?_
        refine so_nil ?_
        exact fi_at [(0, (.v v0)), (1, (.v v1)), (5, (.v (.int .i64 (IntKind.i64.wrap (i103 + (1 : Int))))))] ⟨rfl, rfl, rfl, trivial⟩ (h _ _  hs)
      · refine fi_true rfl (not_t (decide_eq_false c107)) ?_
        refine fi_seq ?_
        refine fi_region ?_
        refine so_assign rfl ?_
        refine so_nil ?_
        exact by_ret rfl ⟨_, h, rfl, hs⟩
    · refine fi_false rfl (decide_eq_false c104) ?_
      refine fi_exit rfl ?_
      refine fi_seq ?_
      refine fi_region ?_
      refine so_assign rfl ?_
      refine so_nil ?_
      exact by_ret rfl ⟨_, h, rfl, hs⟩
  · refine fi_true rfl (not_t (decide_eq_false c101)) ?_
    refine fi_seq ?_
    refine fi_region ?_
    refine so_assign rfl ?_
    refine so_nil ?_
    exact by_ret rfl ⟨_, h, rfl, hs⟩

end Go.Proofs.Ytfieljajhmpbiaa.G

namespace Go.Proofs.Ytfieljajhmpbiaa.G
open Go Go.Ab Go.Proofs Go.Proofs.Ytfieljajhmpbiaa
set_option maxRecDepth 100000
set_option linter.unusedVariables false
set_option linter.unusedSimpArgs false
set_option maxHeartbeats 1000000
theorem F33.sz2 : tsz Try.prog 2 = some 1 := by kernel_rfl
theorem F33.ti43 : (telem Try.prog 43).isSome = true := by kernel_rfl
theorem F33.tl43 : (telem Try.prog 43).bind (tsz Try.prog) = some 1 := by kernel_rfl
theorem laws_markInt64S_ok {fr : List Pc} {H : Heap} (v0 : AV) (l0 : List (Int)) (a1 : Int) (hs : Sep H (Pc.osl v0 1 (enc (eInt .i64) l0) :: fr))  (K : Int → (List (Int)) → Prop) (h : laws_markInt64S.wp l0 a1 K) : OkQ Try.prog 33 [(.v v0), (.v (.int .i64 a1))] H (fun r H2 => ∃ (y0 : Int) (y1 : List (Int)), K y0 y1 ∧ r = (.v (.int .i64 y0)) ∧ Sep H2 (Pc.osl v0 1 (enc (eInt .i64) y1) :: fr)) := by
  unfold laws_markInt64S.wp at h
  refine of_body Try.f33 F.hm Try.func33 rfl Try.call33 (by kernel_rfl) (by simp) ?_
  refine fi_seq ?_
  refine fi_region ?_
  refine so_assign rfl ?_
  refine so_nil ?_
  refine fi_seq ?_
  refine fi_seq ?_
  refine fi_region ?_
  refine so_assign rfl ?_
  refine so_nil ?_
  refine fi_block ?_
  refine fi_loop ?_
  refine fi_at [(0, (.v v0)), (1, (.v (.int .i64 a1))), (5, (.v (.int .i64 (0 : Int))))] ⟨rfl, rfl, rfl, trivial⟩ ?_
  refine h (fun (a109 : List (Int)) (k110 : Int) (i111 : Int) => ∀ (s : Nat → TV) (H : Heap), Sep H (Pc.osl v0 1 (enc (eInt .i64) a109) :: fr) → Fin _ _ (updL s [(0, (.v v0)), (1, (.v (.int .i64 k110))), (5, (.v (.int .i64 i111)))]) H _) ?_ _ _ hs
  intro a109 k110 i111 h s115 H116 hs
  refine fi_inLoop ?_
  refine fi_seq ?_
  refine fi_seq ?_
  refine fi_region ?_
  refine so_move rfl ?_
  refine so_move rfl ?_
  refine sv_len (hs.shows 0 rfl) (fun _ => rfl) (by decide) rfl F33.ti43 ?_
  refine so_bin rfl rfl ab_lss ?_
  refine so_nil ?_
  replace h := ofP h; rcases h with ⟨c112, h⟩ | ⟨c112, h⟩
  · refine fi_true rfl (decide_eq_true c112) ?_
    refine fi_skip ?_
    refine fi_seq ?_
    refine fi_block ?_
    refine fi_seq ?_
    refine fi_region ?_
    refine so_move rfl ?_
    refine so_move rfl ?_
    refine so_move rfl ?_
    obtain ⟨c113, h⟩ := h
    refine sv_idx (hs.shows 0 rfl) c113 (fun _ => rfl) (by decide) rfl rfl F33.tl43 ?_
    refine sv_set hs 0 rfl c113 k110 (fun _ => rfl) (by decide) rfl rfl rfl rfl F33.sz2 nofun (fun H114 hs => ?_)
    refine so_nil ?_
    refine fi_region ?_
    refine so_move rfl ?_
    refine so_bin rfl rfl ab_add ?_
    refine so_assign rfl ?_
    refine so_nil ?_
    refine fi_inBlock ?_
    refine fi_region ?_
    refine so_move rfl ?_
    refine so_bin rfl rfl ab_add ?_
    refine so_assign rfl ?_
    refine so_nil ?_
    exact fi_at [(0, (.v v0)), (1, (.v (.int .i64 (IntKind.i64.wrap (k110 + (1 : Int)))))), (5, (.v (.int .i64 (IntKind.i64.wrap (i111 + (1 : Int))))))] ⟨rfl, rfl, rfl, trivial⟩ (h _ _  hs)
  · refine fi_false rfl (decide_eq_false c112) ?_
    refine fi_exit rfl ?_
    refine fi_seq ?_
    refine fi_region ?_
    refine so_move rfl ?_
    refine so_assign rfl ?_
    refine so_nil ?_
    exact by_ret rfl ⟨_, _, h, rfl, hs⟩

end Go.Proofs.Ytfieljajhmpbiaa.G

namespace Go.Proofs.Ytfieljajhmpbiaa.G
open Go Go.Ab Go.Proofs Go.Proofs.Ytfieljajhmpbiaa
set_option maxRecDepth 100000
set_option linter.unusedVariables false
set_option linter.unusedSimpArgs false
set_option maxHeartbeats 1000000
theorem F34.ag2 : tagg Try.prog 2 = some false := by kernel_rfl
theorem F34.ti43 : (telem Try.prog 43).isSome = true := by kernel_rfl
theorem F34.tl43 : (telem Try.prog 43).bind (tsz Try.prog) = some 1 := by kernel_rfl
theorem laws_heldInt64S_ok {fr : List Pc} {H : Heap} (v0 : AV) (l0 : List (Int)) (a1 : Int) (hs : Sep H (fr)) (g0 : ∀ H, Sep H fr → Shows H v0 1 (enc (eInt .i64) l0)) (K : Int → Prop) (h : laws_heldInt64S.wp l0 a1 K) : OkQ Try.prog 34 [(.v v0), (.v (.int .i64 a1))] H (fun r H2 => ∃ (y0 : Int), K y0 ∧ r = (.v (.int .i64 y0)) ∧ Sep H2 (fr)) := by
  unfold laws_heldInt64S.wp at h
  refine of_body Try.f34 F.hm Try.func34 rfl Try.call34 (by kernel_rfl) (by simp) ?_
  refine fi_seq ?_
  refine fi_region ?_
  refine so_assign rfl ?_
  refine so_nil ?_
  refine fi_seq ?_
  refine fi_seq ?_
  refine fi_region ?_
  refine so_assign rfl ?_
  refine so_nil ?_
  refine fi_block ?_
  refine fi_loop ?_
  refine fi_at [(0, (.v v0)), (1, (.v (.int .i64 a1))), (5, (.v (.int .i64 (0 : Int))))] ⟨rfl, rfl, rfl, trivial⟩ ?_
  refine h (fun (k102 : Int) (i103 : Int) => ∀ (s : Nat → TV) (H : Heap), Sep H (fr) → Fin _ _ (updL s [(0, (.v v0)), (1, (.v (.int .i64 k102))), (5, (.v (.int .i64 i103)))]) H _) ?_ _ _ hs
  intro k102 i103 h s107 H108 hs
  refine fi_inLoop ?_
  refine fi_seq ?_
  refine fi_seq ?_
  refine fi_region ?_
  refine so_move rfl ?_
  refine so_move rfl ?_
  refine sv_len (g0 _ hs) (fun _ => rfl) (by decide) rfl F34.ti43 ?_
  refine so_bin rfl rfl ab_lss ?_
  refine so_nil ?_
  replace h := ofP h; rcases h with ⟨c104, h⟩ | ⟨c104, h⟩
  · refine fi_true rfl (decide_eq_true c104) ?_
    refine fi_skip ?_
    refine fi_seq ?_
    refine fi_block ?_
    refine fi_seq ?_
    refine fi_seq ?_
    refine fi_region ?_
    refine so_move rfl ?_
    refine so_move rfl ?_
    obtain ⟨c105, h⟩ := h
    refine sv_idx (g0 _ hs) c105 (fun _ => rfl) (by decide) rfl rfl F34.tl43 ?_
    refine sv_cell (g0 _ hs) c105 (0 : Int) 0 (fun x => (AV.int .i64 x)) (fun _ => rfl) (fun _ => rfl) rfl F34.ag2 ?_
    refine so_move rfl ?_
    refine so_bin rfl rfl ab_neq ?_
    refine so_nil ?_
    replace h := ofP h; rcases h with ⟨c106, h⟩ | ⟨c106, h⟩
    · refine fi_false rfl (not_f (decide_eq_true c106)) ?_
      refine fi_skip ?_
      refine fi_region ?_
      refine so_move rfl ?_
      refine so_bin rfl rfl ab_add ?_
      refine so_assign rfl ?_
      refine so_nil ?_
      refine fi_inBlock ?_
      refine fi_region ?_
      refine so_move rfl ?_
      refine so_bin rfl rfl ab_add ?_
      refine so_assign rfl ?_
      refine so_nil ?_
      exact fi_at [(0, (.v v0)), (1, (.v (.int .i64 (IntKind.i64.wrap (k102 + (1 : Int)))))), (5, (.v (.int .i64 (IntKind.i64.wrap (i103 + (1 : Int))))))] ⟨rfl, rfl, rfl, trivial⟩ (h _ _  hs)
    · refine fi_true rfl (not_t (decide_eq_false c106)) ?_
      refine fi_seq ?_
      refine fi_region ?_
      refine so_assign rfl ?_
      refine so_nil ?_
      exact by_ret rfl ⟨_, h, rfl, hs⟩
  · refine fi_false rfl (decide_eq_false c104) ?_
    refine fi_exit rfl ?_
    refine fi_seq ?_
    refine fi_region ?_
    refine so_move rfl ?_
    refine so_assign rfl ?_
    refine so_nil ?_
    exact by_ret rfl ⟨_, h, rfl, hs⟩

end Go.Proofs.Ytfieljajhmpbiaa.G

namespace Go.Proofs.Ytfieljajhmpbiaa.G
open Go Go.Ab Go.Proofs Go.Proofs.Ytfieljajhmpbiaa
set_option maxRecDepth 100000
set_option linter.unusedVariables false
set_option linter.unusedSimpArgs false
set_option maxHeartbeats 1000000
theorem F7.tb4 : tbool Try.prog 4 = true := by kernel_rfl
theorem F7.ti22 : (telem Try.prog 22).isSome = true := by kernel_rfl
theorem laws_FnExactScaleList_ok {fr : List Pc} {H : Heap} (v0 : AV) (l0 : List (Nat)) (a1 : Nat) (hs : Sep H (fr)) (g0 : ∀ H, Sep H fr → Shows H v0 1 (enc (eFlt .f32) l0)) (K : Bool → Prop) (h : laws_FnExactScaleList.wp l0 a1 K) : OkQ Try.prog 7 [(.v v0), (.v (.flt .f32 a1))] H (fun r H2 => ∃ (y0 : Bool), K y0 ∧ r = (.v (.bool y0)) ∧ Sep H2 (fr)) := by
  unfold laws_FnExactScaleList.wp at h
  refine of_body Try.f7 F.hm Try.func7 rfl Try.call7 (by kernel_rfl) (by simp) ?_
  refine fi_seq ?_
  refine fi_region ?_
  refine so_assign rfl ?_
  refine so_nil ?_
  refine fi_seq ?_
  refine fi_seq ?_
  refine fi_region ?_
  refine so_move rfl ?_
  refine sv_len (g0 _ hs) (fun _ => rfl) (by decide) rfl F7.ti22 ?_
  refine so_bin rfl rfl ab_gtr ?_
  refine so_nil ?_
  replace h := ofP h; rcases h with ⟨c101, h⟩ | ⟨c101, h⟩
  · refine fi_true rfl (decide_eq_true c101) ?_
    refine fi_seq ?_
    refine fi_region ?_
    refine so_assign rfl ?_
    refine so_nil ?_
    exact by_ret rfl ⟨_, h, rfl, hs⟩
  · refine fi_false rfl (decide_eq_false c101) ?_
    refine fi_skip ?_
    refine fi_seq ?_
    refine fi_region ?_
    refine so_move rfl ?_
    refine sv_call (laws_toFloat32S_ok v0 l0 hs (fun _ hs => (g0 _ hs)) _ h) rfl rfl nofun ?_
    clear h hs
    rintro _ H105 ⟨y102, h, v103, rfl, hs⟩
    refine so_move rfl ?_
    refine sv_call (spec_ScaleList_ok v103 y102 a1 hs (fun _ hs => (hs.shows 0 rfl)) _ h) rfl rfl nofun ?_
    clear h hs
    rintro _ H110 ⟨y106, y109, h, v107, rfl, hs⟩
    refine so_move rfl ?_
    refine so_extract rfl rfl rfl ?_
    refine so_extract rfl rfl rfl ?_
    refine so_assign rfl ?_
    refine so_assign rfl ?_
    refine so_nil ?_
    refine fi_seq ?_
    refine fi_region ?_
    refine so_move rfl ?_
    refine sv_call (laws_toFloat32S_ok v0 l0 hs (fun _ hs => (g0 _ hs.tl.tl)) _ h) rfl rfl nofun ?_
    clear h hs
    rintro _ H114 ⟨y111, h, v112, rfl, hs⟩
    refine so_assign rfl ?_
    refine so_nil ?_
    refine fi_seq ?_
    refine fi_region ?_
    refine so_move rfl ?_
    refine so_move rfl ?_
    refine sv_call (impl_ScaleList_ok v112 y111 a1 hs (fun _ hs => (hs.shows 0 rfl)) _ h) rfl rfl nofun ?_
    clear h hs
    rintro _ H119 ⟨y115, y118, h, v116, rfl, hs⟩
    refine so_move rfl ?_
    refine so_extract rfl rfl rfl ?_
    refine so_extract rfl rfl rfl ?_
    refine so_assign rfl ?_
    refine so_assign rfl ?_
    refine so_nil ?_
    refine fi_seq ?_
    refine fi_seq ?_
    refine fi_region ?_
    refine so_move rfl ?_
    refine so_move rfl ?_
    refine sv_call (laws_eqInt64S_ok v116 y115 v107 y106 hs (fun _ hs => (hs.shows 0 rfl)) (fun _ hs => (hs.shows 2 rfl)) _ h) rfl rfl nofun ?_
    clear h hs
    rintro _ H121 ⟨y120, h, rfl, hs⟩
    refine so_un rfl au_not ?_
    refine so_move rfl ?_
    replace h := ofT h; rcases h with ⟨c122, h⟩ | ⟨c122, h⟩
    · refine so_gyes rfl (not_f c122) ?_
      refine so_move rfl ?_
      refine so_gyes rfl (not_f c122) ?_
      refine so_move rfl ?_
      refine so_gyes rfl (not_f c122) ?_
      refine so_bin rfl rfl (ab_bneq F7.tb4) ?_
      refine so_pick_f rfl (not_f c122) rfl ?_
      refine so_nil ?_
      replace h := ofT h; rcases h with ⟨c123, h⟩ | ⟨c123, h⟩
      · refine fi_false rfl (not_f c123) ?_
        refine fi_skip ?_
        refine fi_seq ?_
        refine fi_seq ?_
        refine fi_region ?_
        refine so_move rfl ?_
        refine so_move rfl ?_
        refine sv_call (laws_toFloat32S_ok v0 l0 hs (fun _ hs => (g0 _ hs.tl.tl.tl.tl)) _ h) rfl rfl nofun ?_
        clear h hs
        rintro _ H127 ⟨y124, h, v125, rfl, hs⟩
        refine sv_call (laws_eqFloat32S_ok v112 y111 v125 y124 hs (fun _ hs => (hs.shows 2 rfl)) (fun _ hs => (hs.shows 0 rfl)) _ h) rfl rfl nofun ?_
        clear h hs
        rintro _ H129 ⟨y128, h, rfl, hs⟩
        refine so_un rfl au_not ?_
        refine so_nil ?_
        replace h := ofT h; rcases h with ⟨c130, h⟩ | ⟨c130, h⟩
        · refine fi_false rfl (not_f c130) ?_
          refine fi_skip ?_
          refine fi_seq ?_
          refine fi_region ?_
          refine so_assign rfl ?_
          refine so_nil ?_
          refine fi_seq ?_
          refine fi_region ?_
          refine so_move rfl ?_
          refine so_move rfl ?_
          replace hs := (Sep.front 2 hs rfl)
          refine sv_call (laws_markFloat32S_ok v112 y111 (1 : Int) hs  _ h) rfl rfl nofun ?_
          clear h hs
          rintro _ H133 ⟨y131, y132, h, rfl, hs⟩
          refine so_assign rfl ?_
          refine so_nil ?_
          refine fi_seq ?_
          refine fi_seq ?_
          refine fi_region ?_
          refine so_move rfl ?_
          refine so_bin rfl rfl ab_lss ?_
          refine so_move rfl ?_
          replace h := ofP h; rcases h with ⟨c134, h⟩ | ⟨c134, h⟩
          · refine so_gno rfl (decide_eq_true c134) ?_
            refine so_gno rfl (decide_eq_true c134) ?_
            refine so_gno rfl (decide_eq_true c134) ?_
            refine so_gno rfl (decide_eq_true c134) ?_
            refine so_pick_t rfl (decide_eq_true c134) rfl ?_
            refine so_move rfl ?_
            refine so_gno rfl rfl ?_
            refine so_gno rfl rfl ?_
            refine so_gno rfl rfl ?_
            refine so_pick_t rfl rfl rfl ?_
            refine so_nil ?_
            refine fi_true rfl rfl ?_
            refine fi_seq ?_
            refine fi_region ?_
            refine so_assign rfl ?_
            refine so_nil ?_
            exact by_ret rfl ⟨_, h, rfl, (Sep.del 0 (Sep.del 0 (Sep.del 0 (Sep.del 0 (Sep.del 0 hs)))))⟩
          · refine so_gyes rfl (decide_eq_false c134) ?_
            refine so_move rfl ?_
            refine so_gyes rfl (decide_eq_false c134) ?_
            refine so_move rfl ?_
            refine so_gyes rfl (decide_eq_false c134) ?_
            refine sv_call (laws_eqInt64S_ok v116 y115 v107 y106 hs (fun _ hs => (hs.shows 2 rfl)) (fun _ hs => (hs.shows 3 rfl)) _ h) rfl rfl nofun ?_
            clear h hs
            rintro _ H136 ⟨y135, h, rfl, hs⟩
            refine so_gyes rfl (decide_eq_false c134) ?_
            refine so_un rfl au_not ?_
            refine so_pick_f rfl (decide_eq_false c134) rfl ?_
            refine so_move rfl ?_
            replace h := ofT h; rcases h with ⟨c137, h⟩ | ⟨c137, h⟩
            · refine so_gyes rfl (not_f c137) ?_
              refine so_move rfl ?_
              refine so_gyes rfl (not_f c137) ?_
              refine so_move rfl ?_
              refine so_gyes rfl (not_f c137) ?_
              refine so_bin rfl rfl (ab_bneq F7.tb4) ?_
              refine so_pick_f rfl (not_f c137) rfl ?_
              refine so_nil ?_
              refine fi_false rfl (not_f c123) ?_
              refine fi_skip ?_
              refine fi_seq ?_
              refine fi_region ?_
              refine so_assign rfl ?_
              refine so_nil ?_
              refine fi_seq ?_
              refine fi_region ?_
              refine so_move rfl ?_
              refine so_move rfl ?_
              replace hs := (Sep.front 2 hs rfl)
              refine sv_call (laws_markInt64S_ok v116 y115 (1 : Int) hs  _ h) rfl rfl nofun ?_
              clear h hs
              rintro _ H140 ⟨y138, y139, h, rfl, hs⟩
              refine so_assign rfl ?_
              refine so_nil ?_
              refine fi_seq ?_
              refine fi_region ?_
              refine so_assign rfl ?_
              refine so_nil ?_
              refine fi_seq ?_
              refine fi_region ?_
              refine so_move rfl ?_
              refine so_move rfl ?_
              refine sv_call (laws_heldInt64S_ok v116 y139 (1 : Int) hs (fun _ hs => (hs.shows 0 rfl)) _ h) rfl rfl nofun ?_
              clear h hs
              rintro _ H142 ⟨y141, h, rfl, hs⟩
              refine so_assign rfl ?_
              refine so_nil ?_
              refine fi_seq ?_
              refine fi_seq ?_
              refine fi_region ?_
              refine so_move rfl ?_
              refine so_bin rfl rfl ab_lss ?_
              refine so_nil ?_
              replace h := ofP h; rcases h with ⟨c143, h⟩ | ⟨c143, h⟩
              · refine fi_true rfl (decide_eq_true c143) ?_
                refine fi_seq ?_
                refine fi_region ?_
                refine so_assign rfl ?_
                refine so_nil ?_
                exact by_ret rfl ⟨_, h, rfl, (Sep.del 0 (Sep.del 0 (Sep.del 0 (Sep.del 0 (Sep.del 0 hs)))))⟩
              · refine fi_false rfl (decide_eq_false c143) ?_
                refine fi_skip ?_
                refine fi_seq ?_
                refine fi_seq ?_
                refine fi_region ?_
                refine so_move rfl ?_
                refine so_move rfl ?_
                refine so_bin rfl rfl ab_neq ?_
                refine so_nil ?_
                replace h := ofP h; rcases h with ⟨c144, h⟩ | ⟨c144, h⟩
                · refine fi_false rfl (not_f (decide_eq_true c144)) ?_
                  refine fi_skip ?_
                  refine fi_seq ?_
                  refine fi_region ?_
                  refine so_move rfl ?_
                  refine sv_call (laws_toFloat32S_ok v0 l0 hs (fun _ hs => (g0 _ hs.tl.tl.tl.tl.tl)) _ h) rfl rfl nofun ?_
                  clear h hs
                  rintro _ H148 ⟨y145, h, v146, rfl, hs⟩
                  refine so_move rfl ?_
                  refine sv_call (impl_ScaleList_ok v146 y145 a1 hs (fun _ hs => (hs.shows 0 rfl)) _ h) rfl rfl nofun ?_
                  clear h hs
                  rintro _ H153 ⟨y149, y152, h, v150, rfl, hs⟩
                  refine so_move rfl ?_
                  refine so_extract rfl rfl rfl ?_
                  refine so_extract rfl rfl rfl ?_
                  refine so_assign rfl ?_
                  refine so_assign rfl ?_
                  refine so_nil ?_
                  refine fi_seq ?_
                  refine fi_seq ?_
                  refine fi_region ?_
                  refine so_move rfl ?_
                  refine so_move rfl ?_
                  refine sv_call (laws_eqInt64S_ok v150 y149 v107 y106 hs (fun _ hs => (hs.shows 0 rfl)) (fun _ hs => (hs.shows 5 rfl)) _ h) rfl rfl nofun ?_
                  clear h hs
                  rintro _ H155 ⟨y154, h, rfl, hs⟩
                  refine so_un rfl au_not ?_
                  refine so_move rfl ?_
                  replace h := ofT h; rcases h with ⟨c156, h⟩ | ⟨c156, h⟩
                  · refine so_gyes rfl (not_f c156) ?_
                    refine so_move rfl ?_
                    refine so_gyes rfl (not_f c156) ?_
                    refine so_move rfl ?_
                    refine so_gyes rfl (not_f c156) ?_
                    refine so_bin rfl rfl (ab_bneq F7.tb4) ?_
                    refine so_pick_f rfl (not_f c156) rfl ?_
                    refine so_nil ?_
                    replace h := ofT h; rcases h with ⟨c157, h⟩ | ⟨c157, h⟩
                    · refine fi_false rfl (not_f c157) ?_
                      refine fi_skip ?_
                      refine fi_seq ?_
                      refine fi_region ?_
                      refine so_assign rfl ?_
                      refine so_nil ?_
                      refine fi_seq ?_
                      refine fi_region ?_
                      refine so_move rfl ?_
                      refine so_move rfl ?_
                      refine sv_call (laws_heldInt64S_ok v116 y139 (1 : Int) hs (fun _ hs => (hs.shows 2 rfl)) _ h) rfl rfl nofun ?_
                      clear h hs
                      rintro _ H159 ⟨y158, h, rfl, hs⟩
                      refine so_assign rfl ?_
                      refine so_nil ?_
                      refine fi_seq ?_
                      refine fi_seq ?_
                      refine fi_region ?_
                      refine so_move rfl ?_
                      refine so_bin rfl rfl ab_lss ?_
                      refine so_nil ?_
                      replace h := ofP h; rcases h with ⟨c160, h⟩ | ⟨c160, h⟩
                      · refine fi_true rfl (decide_eq_true c160) ?_
                        refine fi_seq ?_
                        refine fi_region ?_
                        refine so_assign rfl ?_
                        refine so_nil ?_
                        exact by_ret rfl ⟨_, h, rfl, (Sep.del 0 (Sep.del 0 (Sep.del 0 (Sep.del 0 (Sep.del 0 (Sep.del 0 (Sep.del 0 hs)))))))⟩
                      · refine fi_false rfl (decide_eq_false c160) ?_
                        refine fi_skip ?_
                        refine fi_seq ?_
                        refine fi_seq ?_
                        refine fi_region ?_
                        refine so_move rfl ?_
                        refine so_move rfl ?_
                        refine so_bin rfl rfl ab_neq ?_
                        refine so_nil ?_
                        replace h := ofP h; rcases h with ⟨c161, h⟩ | ⟨c161, h⟩
                        · refine fi_false rfl (not_f (decide_eq_true c161)) ?_
                          refine fi_skip ?_
                          refine fi_seq ?_
                          refine fi_region ?_
                          refine so_assign rfl ?_
                          refine so_nil ?_
                          exact by_ret rfl ⟨_, h, rfl, (Sep.del 0 (Sep.del 0 (Sep.del 0 (Sep.del 0 (Sep.del 0 (Sep.del 0 (Sep.del 0 hs)))))))⟩
                        · refine fi_true rfl (not_t (decide_eq_false c161)) ?_
                          refine fi_seq ?_
                          refine fi_region ?_
                          refine so_assign rfl ?_
                          refine so_nil ?_
                          exact by_ret rfl ⟨_, h, rfl, (Sep.del 0 (Sep.del 0 (Sep.del 0 (Sep.del 0 (Sep.del 0 (Sep.del 0 (Sep.del 0 hs)))))))⟩
                    · refine fi_true rfl (not_t c157) ?_
                      refine fi_seq ?_
                      refine fi_region ?_
                      refine so_assign rfl ?_
                      refine so_nil ?_
                      exact by_ret rfl ⟨_, h, rfl, (Sep.del 0 (Sep.del 0 (Sep.del 0 (Sep.del 0 (Sep.del 0 (Sep.del 0 (Sep.del 0 hs)))))))⟩
                  · refine so_gno rfl (not_t c156) ?_
                    refine so_gno rfl (not_t c156) ?_
                    refine so_gno rfl (not_t c156) ?_
                    refine so_pick_t rfl (not_t c156) rfl ?_
                    refine so_nil ?_
                    refine fi_true rfl rfl ?_
                    refine fi_seq ?_
                    refine fi_region ?_
                    refine so_assign rfl ?_
                    refine so_nil ?_
                    exact by_ret rfl ⟨_, h, rfl, (Sep.del 0 (Sep.del 0 (Sep.del 0 (Sep.del 0 (Sep.del 0 (Sep.del 0 (Sep.del 0 hs)))))))⟩
                · refine fi_true rfl (not_t (decide_eq_false c144)) ?_
                  refine fi_seq ?_
                  refine fi_region ?_
                  refine so_assign rfl ?_
                  refine so_nil ?_
                  exact by_ret rfl ⟨_, h, rfl, (Sep.del 0 (Sep.del 0 (Sep.del 0 (Sep.del 0 (Sep.del 0 hs)))))⟩
            · refine so_gno rfl (not_t c137) ?_
              refine so_gno rfl (not_t c137) ?_
              refine so_gno rfl (not_t c137) ?_
              refine so_pick_t rfl (not_t c137) rfl ?_
              refine so_nil ?_
              refine fi_true rfl rfl ?_
              refine fi_seq ?_
              refine fi_region ?_
              refine so_assign rfl ?_
              refine so_nil ?_
              exact by_ret rfl ⟨_, h, rfl, (Sep.del 0 (Sep.del 0 (Sep.del 0 (Sep.del 0 (Sep.del 0 hs)))))⟩
        · refine fi_true rfl (not_t c130) ?_
          refine fi_seq ?_
          refine fi_region ?_
          refine so_assign rfl ?_
          refine so_nil ?_
          exact by_ret rfl ⟨_, h, rfl, (Sep.del 0 (Sep.del 0 (Sep.del 0 (Sep.del 0 (Sep.del 0 hs)))))⟩
      · refine fi_true rfl (not_t c123) ?_
        refine fi_seq ?_
        refine fi_region ?_
        refine so_assign rfl ?_
        refine so_nil ?_
        exact by_ret rfl ⟨_, h, rfl, (Sep.del 0 (Sep.del 0 (Sep.del 0 (Sep.del 0 hs))))⟩
    · refine so_gno rfl (not_t c122) ?_
      refine so_gno rfl (not_t c122) ?_
      refine so_gno rfl (not_t c122) ?_
      refine so_pick_t rfl (not_t c122) rfl ?_
      refine so_nil ?_
      refine fi_true rfl rfl ?_
      refine fi_seq ?_
      refine fi_region ?_
      refine so_assign rfl ?_
      refine so_nil ?_
      exact by_ret rfl ⟨_, h, rfl, (Sep.del 0 (Sep.del 0 (Sep.del 0 (Sep.del 0 hs))))⟩

end Go.Proofs.Ytfieljajhmpbiaa.G

