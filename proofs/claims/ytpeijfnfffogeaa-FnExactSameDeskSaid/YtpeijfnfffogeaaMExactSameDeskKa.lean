/-
  The model ends so. Printed by a program of the session; nothing here is trusted.
-/
import Derived.Test.YtpeijfnfffogeaaProg
import Derived.KernelRfl
import Derived.Test.YtpeijfnfffogeaaMExactSameDeskWa
namespace Go.Proofs.Ytpeijfnfffogeaa.F
open Go Go.Ab Go.Proofs
set_option maxRecDepth 100000
set_option linter.unusedVariables false
set_option linter.unusedSimpArgs false
set_option maxHeartbeats 1000000
theorem hm : Try.prog.follows .mixedOrders = true := by kernel_rfl
end Go.Proofs.Ytpeijfnfffogeaa.F

namespace Go.Proofs.Ytpeijfnfffogeaa.G
open Go Go.Ab Go.Proofs Go.Proofs.Ytpeijfnfffogeaa
set_option maxRecDepth 100000
set_option linter.unusedVariables false
set_option linter.unusedSimpArgs false
set_option maxHeartbeats 1000000
theorem F83.ti37 : (telem Try.prog 37).isSome = true := by kernel_rfl
theorem laws_szFloat32S_ok {fr : List Pc} {H : Heap} (v0 : AV) (l0 : List (Nat)) (a1 : Int) (hs : Sep H (fr)) (g0 : ∀ H, Sep H fr → Shows H v0 1 (enc (eFlt .f32) l0)) (K : Int → Prop) (h : laws_szFloat32S.wp l0 a1 K) : OkQ Try.prog 83 [(.v v0), (.v (.int .i64 a1))] H (fun r H2 => ∃ (y0 : Int), K y0 ∧ r = (.v (.int .i64 y0)) ∧ H = H2) := by
  unfold laws_szFloat32S.wp at h
  refine of_body Try.f83 F.hm Try.func83 rfl Try.call83 (by kernel_rfl) (by simp) ?_
  refine fi_seq ?_
  refine fi_region ?_
  refine so_assign rfl ?_
  refine so_nil ?_
  refine fi_seq ?_
  refine fi_region ?_
  refine so_move rfl ?_
  refine so_move rfl ?_
  refine sv_len (g0 _ hs) (fun _ => rfl) (by decide) rfl F83.ti37 ?_
  refine so_bin rfl rfl ab_sub ?_
  refine so_assign rfl ?_
  refine so_nil ?_
  refine fi_seq ?_
  refine fi_seq ?_
  refine fi_region ?_
  refine so_move rfl ?_
  refine so_bin rfl rfl ab_lss ?_
  refine so_nil ?_
  replace h := ofP h; rcases h with ⟨c101, h⟩ | ⟨c101, h⟩
  · refine fi_true rfl (decide_eq_true c101) ?_
    refine fi_seq ?_
    refine fi_region ?_
    refine so_assign rfl ?_
    refine so_nil ?_
    exact by_ret rfl ⟨_, h, rfl, rfl⟩
  · refine fi_false rfl (decide_eq_false c101) ?_
    refine fi_skip ?_
    refine fi_seq ?_
    refine fi_region ?_
    refine so_move rfl ?_
    refine so_assign rfl ?_
    refine so_nil ?_
    exact by_ret rfl ⟨_, h, rfl, rfl⟩

end Go.Proofs.Ytpeijfnfffogeaa.G

namespace Go.Proofs.Ytpeijfnfffogeaa.G
open Go Go.Ab Go.Proofs Go.Proofs.Ytpeijfnfffogeaa
set_option maxRecDepth 100000
set_option linter.unusedVariables false
set_option linter.unusedSimpArgs false
set_option maxHeartbeats 1000000
theorem F54.ag37 : tagg Try.prog 37 = some false := by kernel_rfl
theorem F54.fd39_0 : tfield Try.prog 39 0 = some (0, 1, false) := by kernel_rfl
theorem F54.inf39 : (Try.prog.info? 39).isSome = true := by kernel_rfl
theorem laws_szScheme_ok {fr : List Pc} {H : Heap} (v0 : AV) (l0 : List (Nat)) (a1 : Nat) (a2 : Int) (hs : Sep H (fr)) (g0 : ∀ H, Sep H fr → Shows H v0 1 (enc (eFlt .f32) l0)) (K : Int → Prop) (h : laws_szScheme.wp l0 a1 a2 K) : OkQ Try.prog 54 [(.g [v0, (.flt .f32 a1)]), (.v (.int .i64 a2))] H (fun r H2 => ∃ (y0 : Int), K y0 ∧ r = (.v (.int .i64 y0)) ∧ Sep H2 (fr)) := by
  unfold laws_szScheme.wp at h
  refine of_body Try.f54 F.hm Try.func54 rfl Try.call54 (by kernel_rfl) (by simp) ?_
  refine fi_seq ?_
  refine fi_region ?_
  refine sv_box hs rfl (c := [v0, (.flt .f32 a1)]) rfl F54.inf39 (stc (g0 _ hs).stor (stc rfl stn)) nofun (fun id101 H102 hs => ?_)
  refine so_assign rfl ?_
  refine so_nil ?_
  refine fi_seq ?_
  refine fi_region ?_
  refine so_fieldAddr rfl F54.fd39_0 ?_
  refine sv_ld hs 0 rfl rfl rfl F54.ag37 ?_
  refine so_move rfl ?_
  refine sv_callS (laws_szFloat32S_ok v0 l0 a2 hs (fun _ hs => (g0 _ hs.tl)) _ h) (fun _ _ ⟨_, _, _, e⟩ => e) rfl rfl ?_
  clear h
  rintro _ _ ⟨y104, h, rfl, rfl⟩
  refine so_assign rfl ?_
  refine so_nil ?_
  refine fi_seq ?_
  refine fi_seq ?_
  refine fi_region ?_
  refine so_move rfl ?_
  refine so_bin rfl rfl ab_lss ?_
  refine so_nil ?_
  replace h := ofP h; rcases h with ⟨c106, h⟩ | ⟨c106, h⟩
  · refine fi_true rfl (decide_eq_true c106) ?_
    refine fi_seq ?_
    refine fi_region ?_
    refine so_assign rfl ?_
    refine so_nil ?_
    exact by_ret rfl ⟨_, h, rfl, (Sep.del 0 hs)⟩
  · refine fi_false rfl (decide_eq_false c106) ?_
    refine fi_skip ?_
    refine fi_seq ?_
    refine fi_region ?_
    refine so_move rfl ?_
    refine so_assign rfl ?_
    refine so_nil ?_
    exact by_ret rfl ⟨_, h, rfl, (Sep.del 0 hs)⟩

end Go.Proofs.Ytpeijfnfffogeaa.G

namespace Go.Proofs.Ytpeijfnfffogeaa.G
open Go Go.Ab Go.Proofs Go.Proofs.Ytpeijfnfffogeaa
set_option maxRecDepth 100000
set_option linter.unusedVariables false
set_option linter.unusedSimpArgs false
set_option maxHeartbeats 1000000
theorem F84.ag37 : tagg Try.prog 37 = some false := by kernel_rfl
theorem F84.fd41_2 : tfield Try.prog 41 2 = some (2, 1, false) := by kernel_rfl
theorem F84.inf41 : (Try.prog.info? 41).isSome = true := by kernel_rfl
theorem laws_szPicture_ok {fr : List Pc} {H : Heap} (a0 : Int) (a1 : Int) (v2 : AV) (l2 : List (Nat)) (a3 : Int) (hs : Sep H (fr)) (g2 : ∀ H, Sep H fr → Shows H v2 1 (enc (eFlt .f32) l2)) (K : Int → Prop) (h : laws_szPicture.wp a0 a1 l2 a3 K) : OkQ Try.prog 84 [(.g [(.int .i64 a0), (.int .i64 a1), v2]), (.v (.int .i64 a3))] H (fun r H2 => ∃ (y0 : Int), K y0 ∧ r = (.v (.int .i64 y0)) ∧ Sep H2 (fr)) := by
  unfold laws_szPicture.wp at h
  refine of_body Try.f84 F.hm Try.func84 rfl Try.call84 (by kernel_rfl) (by simp) ?_
  refine fi_seq ?_
  refine fi_region ?_
  refine sv_box hs rfl (c := [(.int .i64 a0), (.int .i64 a1), v2]) rfl F84.inf41 (stc rfl (stc rfl (stc (g2 _ hs).stor stn))) nofun (fun id101 H102 hs => ?_)
  refine so_assign rfl ?_
  refine so_nil ?_
  refine fi_seq ?_
  refine fi_region ?_
  refine so_fieldAddr rfl F84.fd41_2 ?_
  refine sv_ld hs 0 rfl rfl rfl F84.ag37 ?_
  refine so_move rfl ?_
  refine sv_callS (laws_szFloat32S_ok v2 l2 a3 hs (fun _ hs => (g2 _ hs.tl)) _ h) (fun _ _ ⟨_, _, _, e⟩ => e) rfl rfl ?_
  clear h
  rintro _ _ ⟨y104, h, rfl, rfl⟩
  refine so_assign rfl ?_
  refine so_nil ?_
  refine fi_seq ?_
  refine fi_seq ?_
  refine fi_region ?_
  refine so_move rfl ?_
  refine so_bin rfl rfl ab_lss ?_
  refine so_nil ?_
  replace h := ofP h; rcases h with ⟨c106, h⟩ | ⟨c106, h⟩
  · refine fi_true rfl (decide_eq_true c106) ?_
    refine fi_seq ?_
    refine fi_region ?_
    refine so_assign rfl ?_
    refine so_nil ?_
    exact by_ret rfl ⟨_, h, rfl, (Sep.del 0 hs)⟩
  · refine fi_false rfl (decide_eq_false c106) ?_
    refine fi_skip ?_
    refine fi_seq ?_
    refine fi_region ?_
    refine so_move rfl ?_
    refine so_assign rfl ?_
    refine so_nil ?_
    exact by_ret rfl ⟨_, h, rfl, (Sep.del 0 hs)⟩

end Go.Proofs.Ytpeijfnfffogeaa.G

namespace Go.Proofs.Ytpeijfnfffogeaa.G
open Go Go.Ab Go.Proofs Go.Proofs.Ytpeijfnfffogeaa
set_option maxRecDepth 100000
set_option linter.unusedVariables false
set_option linter.unusedSimpArgs false
set_option maxHeartbeats 1000000
theorem F169.ti42 : (telem Try.prog 42).isSome = true := by kernel_rfl
theorem laws_szBoolS_ok {fr : List Pc} {H : Heap} (v0 : AV) (l0 : List (Bool)) (a1 : Int) (hs : Sep H (fr)) (g0 : ∀ H, Sep H fr → Shows H v0 1 (enc eBool l0)) (K : Int → Prop) (h : laws_szBoolS.wp l0 a1 K) : OkQ Try.prog 169 [(.v v0), (.v (.int .i64 a1))] H (fun r H2 => ∃ (y0 : Int), K y0 ∧ r = (.v (.int .i64 y0)) ∧ H = H2) := by
  unfold laws_szBoolS.wp at h
  refine of_body Try.f169 F.hm Try.func169 rfl Try.call169 (by kernel_rfl) (by simp) ?_
  refine fi_seq ?_
  refine fi_region ?_
  refine so_assign rfl ?_
  refine so_nil ?_
  refine fi_seq ?_
  refine fi_region ?_
  refine so_move rfl ?_
  refine so_move rfl ?_
  refine sv_len (g0 _ hs) (fun _ => rfl) (by decide) rfl F169.ti42 ?_
  refine so_bin rfl rfl ab_sub ?_
  refine so_assign rfl ?_
  refine so_nil ?_
  refine fi_seq ?_
  refine fi_seq ?_
  refine fi_region ?_
  refine so_move rfl ?_
  refine so_bin rfl rfl ab_lss ?_
  refine so_nil ?_
  replace h := ofP h; rcases h with ⟨c101, h⟩ | ⟨c101, h⟩
  · refine fi_true rfl (decide_eq_true c101) ?_
    refine fi_seq ?_
    refine fi_region ?_
    refine so_assign rfl ?_
    refine so_nil ?_
    exact by_ret rfl ⟨_, h, rfl, rfl⟩
  · refine fi_false rfl (decide_eq_false c101) ?_
    refine fi_skip ?_
    refine fi_seq ?_
    refine fi_region ?_
    refine so_move rfl ?_
    refine so_assign rfl ?_
    refine so_nil ?_
    exact by_ret rfl ⟨_, h, rfl, rfl⟩

end Go.Proofs.Ytpeijfnfffogeaa.G

namespace Go.Proofs.Ytpeijfnfffogeaa.G
open Go Go.Ab Go.Proofs Go.Proofs.Ytpeijfnfffogeaa
set_option maxRecDepth 100000
set_option linter.unusedVariables false
set_option linter.unusedSimpArgs false
set_option maxHeartbeats 1000000
theorem F85.ag42 : tagg Try.prog 42 = some false := by kernel_rfl
theorem F85.fd44_2 : tfield Try.prog 44 2 = some (2, 1, false) := by kernel_rfl
theorem F85.inf44 : (Try.prog.info? 44).isSome = true := by kernel_rfl
theorem laws_szCoded_ok {fr : List Pc} {H : Heap} (a0 : Int) (a1 : Int) (v2 : AV) (l2 : List (Bool)) (a3 : Int) (hs : Sep H (fr)) (g2 : ∀ H, Sep H fr → Shows H v2 1 (enc eBool l2)) (K : Int → Prop) (h : laws_szCoded.wp a0 a1 l2 a3 K) : OkQ Try.prog 85 [(.g [(.int .i64 a0), (.int .i64 a1), v2]), (.v (.int .i64 a3))] H (fun r H2 => ∃ (y0 : Int), K y0 ∧ r = (.v (.int .i64 y0)) ∧ Sep H2 (fr)) := by
  unfold laws_szCoded.wp at h
  refine of_body Try.f85 F.hm Try.func85 rfl Try.call85 (by kernel_rfl) (by simp) ?_
  refine fi_seq ?_
  refine fi_region ?_
  refine sv_box hs rfl (c := [(.int .i64 a0), (.int .i64 a1), v2]) rfl F85.inf44 (stc rfl (stc rfl (stc (g2 _ hs).stor stn))) nofun (fun id101 H102 hs => ?_)
  refine so_assign rfl ?_
  refine so_nil ?_
  refine fi_seq ?_
  refine fi_region ?_
  refine so_fieldAddr rfl F85.fd44_2 ?_
  refine sv_ld hs 0 rfl rfl rfl F85.ag42 ?_
  refine so_move rfl ?_
  refine sv_callS (laws_szBoolS_ok v2 l2 a3 hs (fun _ hs => (g2 _ hs.tl)) _ h) (fun _ _ ⟨_, _, _, e⟩ => e) rfl rfl ?_
  clear h
  rintro _ _ ⟨y104, h, rfl, rfl⟩
  refine so_assign rfl ?_
  refine so_nil ?_
  refine fi_seq ?_
  refine fi_seq ?_
  refine fi_region ?_
  refine so_move rfl ?_
  refine so_bin rfl rfl ab_lss ?_
  refine so_nil ?_
  replace h := ofP h; rcases h with ⟨c106, h⟩ | ⟨c106, h⟩
  · refine fi_true rfl (decide_eq_true c106) ?_
    refine fi_seq ?_
    refine fi_region ?_
    refine so_assign rfl ?_
    refine so_nil ?_
    exact by_ret rfl ⟨_, h, rfl, (Sep.del 0 hs)⟩
  · refine fi_false rfl (decide_eq_false c106) ?_
    refine fi_skip ?_
    refine fi_seq ?_
    refine fi_region ?_
    refine so_move rfl ?_
    refine so_assign rfl ?_
    refine so_nil ?_
    exact by_ret rfl ⟨_, h, rfl, (Sep.del 0 hs)⟩

end Go.Proofs.Ytpeijfnfffogeaa.G

namespace Go.Proofs.Ytpeijfnfffogeaa.G
open Go Go.Ab Go.Proofs Go.Proofs.Ytpeijfnfffogeaa
set_option maxRecDepth 100000
set_option linter.unusedVariables false
set_option linter.unusedSimpArgs false
set_option maxHeartbeats 1000000
theorem F22.ag37 : tagg Try.prog 37 = some false := by kernel_rfl
theorem F22.ag39 : tagg Try.prog 39 = some true := by kernel_rfl
theorem F22.ag41 : tagg Try.prog 41 = some true := by kernel_rfl
theorem F22.ag44 : tagg Try.prog 44 = some true := by kernel_rfl
theorem F22.fd46_0 : tfield Try.prog 46 0 = some (0, 1, false) := by kernel_rfl
theorem F22.fd46_1 : tfield Try.prog 46 1 = some (1, 2, true) := by kernel_rfl
theorem F22.fd46_2 : tfield Try.prog 46 2 = some (3, 3, true) := by kernel_rfl
theorem F22.fd46_3 : tfield Try.prog 46 3 = some (6, 3, true) := by kernel_rfl
theorem F22.inf46 : (Try.prog.info? 46).isSome = true := by kernel_rfl
theorem F22.sz39 : tsz Try.prog 39 = some 2 := by kernel_rfl
theorem F22.sz41 : tsz Try.prog 41 = some 3 := by kernel_rfl
theorem F22.sz44 : tsz Try.prog 44 = some 3 := by kernel_rfl
theorem laws_szDesk_ok {fr : List Pc} {H : Heap} (v0 : AV) (l0 : List (Nat)) (v1 : AV) (l1 : List (Nat)) (a2 : Nat) (a3 : Int) (a4 : Int) (v5 : AV) (l5 : List (Nat)) (a6 : Int) (a7 : Int) (v8 : AV) (l8 : List (Bool)) (a9 : Int) (hs : Sep H (fr)) (g0 : ∀ H, Sep H fr → Shows H v0 1 (enc (eFlt .f32) l0)) (g1 : ∀ H, Sep H fr → Shows H v1 1 (enc (eFlt .f32) l1)) (g5 : ∀ H, Sep H fr → Shows H v5 1 (enc (eFlt .f32) l5)) (g8 : ∀ H, Sep H fr → Shows H v8 1 (enc eBool l8)) (K : Int → Prop) (h : laws_szDesk.wp l0 l1 a2 a3 a4 l5 a6 a7 l8 a9 K) : OkQ Try.prog 22 [(.g [v0, v1, (.flt .f32 a2), (.int .i64 a3), (.int .i64 a4), v5, (.int .i64 a6), (.int .i64 a7), v8]), (.v (.int .i64 a9))] H (fun r H2 => ∃ (y0 : Int), K y0 ∧ r = (.v (.int .i64 y0)) ∧ Sep H2 (fr)) := by
  unfold laws_szDesk.wp at h
  refine of_body Try.f22 F.hm Try.func22 rfl Try.call22 (by kernel_rfl) (by simp) ?_
  refine fi_seq ?_
  refine fi_region ?_
  refine sv_box hs rfl (c := [v0, v1, (.flt .f32 a2), (.int .i64 a3), (.int .i64 a4), v5, (.int .i64 a6), (.int .i64 a7), v8]) rfl F22.inf46 (stc (g0 _ hs).stor (stc (g1 _ hs).stor (stc rfl (stc rfl (stc rfl (stc (g5 _ hs).stor (stc rfl (stc rfl (stc (g8 _ hs).stor stn))))))))) nofun (fun id101 H102 hs => ?_)
  refine so_assign rfl ?_
  refine so_nil ?_
  refine fi_seq ?_
  refine fi_region ?_
  refine so_fieldAddr rfl F22.fd46_0 ?_
  refine sv_ld hs 0 rfl rfl rfl F22.ag37 ?_
  refine so_move rfl ?_
  refine sv_callS (laws_szFloat32S_ok v0 l0 a9 hs (fun _ hs => (g0 _ hs.tl)) _ h) (fun _ _ ⟨_, _, _, e⟩ => e) rfl rfl ?_
  clear h
  rintro _ _ ⟨y104, h, rfl, rfl⟩
  refine so_assign rfl ?_
  refine so_nil ?_
  refine fi_seq ?_
  refine fi_seq ?_
  refine fi_region ?_
  refine so_move rfl ?_
  refine so_bin rfl rfl ab_lss ?_
  refine so_nil ?_
  replace h := ofP h; rcases h with ⟨c106, h⟩ | ⟨c106, h⟩
  · refine fi_true rfl (decide_eq_true c106) ?_
    refine fi_seq ?_
    refine fi_region ?_
    refine so_assign rfl ?_
    refine so_nil ?_
    exact by_ret rfl ⟨_, h, rfl, (Sep.del 0 hs)⟩
  · refine fi_false rfl (decide_eq_false c106) ?_
    refine fi_skip ?_
    refine fi_seq ?_
    refine fi_region ?_
    refine so_fieldAddr rfl F22.fd46_1 ?_
    refine sv_lds hs 0 rfl rfl (leb rfl) rfl F22.ag39 F22.sz39 ?_
    refine so_move rfl ?_
    refine sv_call (laws_szScheme_ok v1 l1 a2 y104 hs (fun _ hs => (g1 _ hs.tl)) _ h) rfl rfl nofun ?_
    clear h hs
    rintro _ H108 ⟨y107, h, rfl, hs⟩
    refine so_assign rfl ?_
    refine so_nil ?_
    refine fi_seq ?_
    refine fi_seq ?_
    refine fi_region ?_
    refine so_move rfl ?_
    refine so_bin rfl rfl ab_lss ?_
    refine so_nil ?_
    replace h := ofP h; rcases h with ⟨c109, h⟩ | ⟨c109, h⟩
    · refine fi_true rfl (decide_eq_true c109) ?_
      refine fi_seq ?_
      refine fi_region ?_
      refine so_assign rfl ?_
      refine so_nil ?_
      exact by_ret rfl ⟨_, h, rfl, (Sep.del 0 hs)⟩
    · refine fi_false rfl (decide_eq_false c109) ?_
      refine fi_skip ?_
      refine fi_seq ?_
      refine fi_region ?_
      refine so_fieldAddr rfl F22.fd46_2 ?_
      refine sv_lds hs 0 rfl rfl (leb rfl) rfl F22.ag41 F22.sz41 ?_
      refine so_move rfl ?_
      refine sv_call (laws_szPicture_ok a3 a4 v5 l5 y107 hs (fun _ hs => (g5 _ hs.tl)) _ h) rfl rfl nofun ?_
      clear h hs
      rintro _ H111 ⟨y110, h, rfl, hs⟩
      refine so_assign rfl ?_
      refine so_nil ?_
      refine fi_seq ?_
      refine fi_seq ?_
      refine fi_region ?_
      refine so_move rfl ?_
      refine so_bin rfl rfl ab_lss ?_
      refine so_nil ?_
      replace h := ofP h; rcases h with ⟨c112, h⟩ | ⟨c112, h⟩
      · refine fi_true rfl (decide_eq_true c112) ?_
        refine fi_seq ?_
        refine fi_region ?_
        refine so_assign rfl ?_
        refine so_nil ?_
        exact by_ret rfl ⟨_, h, rfl, (Sep.del 0 hs)⟩
      · refine fi_false rfl (decide_eq_false c112) ?_
        refine fi_skip ?_
        refine fi_seq ?_
        refine fi_region ?_
        refine so_fieldAddr rfl F22.fd46_3 ?_
        refine sv_lds hs 0 rfl rfl (leb rfl) rfl F22.ag44 F22.sz44 ?_
        refine so_move rfl ?_
        refine sv_call (laws_szCoded_ok a6 a7 v8 l8 y110 hs (fun _ hs => (g8 _ hs.tl)) _ h) rfl rfl nofun ?_
        clear h hs
        rintro _ H114 ⟨y113, h, rfl, hs⟩
        refine so_assign rfl ?_
        refine so_nil ?_
        refine fi_seq ?_
        refine fi_seq ?_
        refine fi_region ?_
        refine so_move rfl ?_
        refine so_bin rfl rfl ab_lss ?_
        refine so_nil ?_
        replace h := ofP h; rcases h with ⟨c115, h⟩ | ⟨c115, h⟩
        · refine fi_true rfl (decide_eq_true c115) ?_
          refine fi_seq ?_
          refine fi_region ?_
          refine so_assign rfl ?_
          refine so_nil ?_
          exact by_ret rfl ⟨_, h, rfl, (Sep.del 0 hs)⟩
        · refine fi_false rfl (decide_eq_false c115) ?_
          refine fi_skip ?_
          refine fi_seq ?_
          refine fi_region ?_
          refine so_move rfl ?_
          refine so_assign rfl ?_
          refine so_nil ?_
          exact by_ret rfl ⟨_, h, rfl, (Sep.del 0 hs)⟩

end Go.Proofs.Ytpeijfnfffogeaa.G

namespace Go.Proofs.Ytpeijfnfffogeaa.G
open Go Go.Ab Go.Proofs Go.Proofs.Ytpeijfnfffogeaa
set_option maxRecDepth 100000
set_option linter.unusedVariables false
set_option linter.unusedSimpArgs false
set_option maxHeartbeats 1000000
theorem F261.xb261 : Try.f261.body = none := rfl
theorem F261.xe261 : Extern.find Try.f261 = some Extern.MathFloatBits.float32bits := by rfl
theorem F261.xf261 : (Extern.findNext Try.f261).isNone = true := by kernel_rfl
theorem F261.xn261 : (Try.f261.name == "runtime.NumGoroutine") = false := by kernel_rfl
theorem math_Float32bits_ok {fr : List Pc} {H : Heap} (x : Nat) (hs : Sep H fr) (K : Int → Prop) (h : math_Float32bits.wp x K) : OkQ Try.prog 261 [(.v (.flt .f32 x))] H (fun r H2 => ∃ y0 : Int, K y0 ∧ r = (.v (.int .u32 y0)) ∧ H = H2) := ⟨_, _, f32bits_ok Try.func261 F261.xn261 F261.xb261 F261.xf261 F261.xe261 x h.1, _, h.2, rfl, rfl⟩

end Go.Proofs.Ytpeijfnfffogeaa.G

namespace Go.Proofs.Ytpeijfnfffogeaa.G
open Go Go.Ab Go.Proofs Go.Proofs.Ytpeijfnfffogeaa
set_option maxRecDepth 100000
set_option linter.unusedVariables false
set_option linter.unusedSimpArgs false
set_option maxHeartbeats 1000000
theorem F232.it2 : tint Try.prog 2 = some .i64 := by kernel_rfl
theorem F232.us240 : (Try.prog.underlying 240).isSome = true := by kernel_rfl
theorem spec_l01Bits_ok {fr : List Pc} {H : Heap} (a0 : Nat) (hs : Sep H (fr))  (K : Int → Prop) (h : spec_l01Bits.wp a0 K) : OkQ Try.prog 232 [(.v (.flt .f32 a0))] H (fun r H2 => ∃ (y0 : Int), K y0 ∧ r = (.v (.int .i64 y0)) ∧ H = H2) := by
  unfold spec_l01Bits.wp at h
  refine of_body Try.f232 F.hm Try.func232 rfl Try.call232 (by kernel_rfl) (by simp) ?_
  refine fi_seq ?_
  refine fi_region ?_
  refine so_assign rfl ?_
  refine so_nil ?_
  refine fi_seq ?_
  refine fi_seq ?_
  refine fi_region ?_
  refine so_move rfl ?_
  refine so_move rfl ?_
  refine so_bin rfl rfl ab_fneq ?_
  refine so_nil ?_
  replace h := ofT h; rcases h with ⟨c101, h⟩ | ⟨c101, h⟩
  · refine fi_true rfl c101 ?_
    refine fi_seq ?_
    refine fi_region ?_
    refine so_assign rfl ?_
    refine so_nil ?_
    exact by_ret rfl ⟨_, h, rfl, rfl⟩
  · refine fi_false rfl c101 ?_
    refine fi_skip ?_
    refine fi_seq ?_
    refine fi_region ?_
    refine so_move rfl ?_
    refine sv_callS (math_Float32bits_ok a0 hs  _ h) (fun _ _ ⟨_, _, _, e⟩ => e) rfl rfl ?_
    clear h
    rintro _ _ ⟨y102, h, rfl, rfl⟩
    refine sv_ii rfl F232.us240 F232.it2 ?_
    refine so_assign rfl ?_
    refine so_nil ?_
    exact by_ret rfl ⟨_, h, rfl, rfl⟩

end Go.Proofs.Ytpeijfnfffogeaa.G

namespace Go.Proofs.Ytpeijfnfffogeaa.G
open Go Go.Ab Go.Proofs Go.Proofs.Ytpeijfnfffogeaa
set_option maxRecDepth 100000
set_option linter.unusedVariables false
set_option linter.unusedSimpArgs false
set_option maxHeartbeats 1000000
theorem spec_l01Same_ok {fr : List Pc} {H : Heap} (a0 : Nat) (a1 : Nat) (hs : Sep H (fr))  (K : Bool → Prop) (h : spec_l01Same.wp a0 a1 K) : OkQ Try.prog 170 [(.v (.flt .f32 a0)), (.v (.flt .f32 a1))] H (fun r H2 => ∃ (y0 : Bool), K y0 ∧ r = (.v (.bool y0)) ∧ H = H2) := by
  unfold spec_l01Same.wp at h
  refine of_body Try.f170 F.hm Try.func170 rfl Try.call170 (by kernel_rfl) (by simp) ?_
  refine fi_seq ?_
  refine fi_region ?_
  refine so_assign rfl ?_
  refine so_nil ?_
  refine fi_seq ?_
  refine fi_region ?_
  refine so_move rfl ?_
  refine sv_callS (spec_l01Bits_ok a0 hs  _ h) (fun _ _ ⟨_, _, _, e⟩ => e) rfl rfl ?_
  clear h
  rintro _ _ ⟨y101, h, rfl, rfl⟩
  refine so_move rfl ?_
  refine sv_callS (spec_l01Bits_ok a1 hs  _ h) (fun _ _ ⟨_, _, _, e⟩ => e) rfl rfl ?_
  clear h
  rintro _ _ ⟨y103, h, rfl, rfl⟩
  refine so_bin rfl rfl ab_eql ?_
  refine so_assign rfl ?_
  refine so_nil ?_
  exact by_ret rfl ⟨_, h, rfl, rfl⟩

end Go.Proofs.Ytpeijfnfffogeaa.G

namespace Go.Proofs.Ytpeijfnfffogeaa.G
open Go Go.Ab Go.Proofs Go.Proofs.Ytpeijfnfffogeaa
set_option maxRecDepth 100000
set_option linter.unusedVariables false
set_option linter.unusedSimpArgs false
set_option maxHeartbeats 1000000
theorem F86.ag25 : tagg Try.prog 25 = some false := by kernel_rfl
theorem F86.ti37 : (telem Try.prog 37).isSome = true := by kernel_rfl
theorem F86.tl37 : (telem Try.prog 37).bind (tsz Try.prog) = some 1 := by kernel_rfl
theorem spec_l01SameAll_ok {fr : List Pc} {H : Heap} (v0 : AV) (l0 : List (Nat)) (v1 : AV) (l1 : List (Nat)) (hs : Sep H (fr)) (g0 : ∀ H, Sep H fr → Shows H v0 1 (enc (eFlt .f32) l0)) (g1 : ∀ H, Sep H fr → Shows H v1 1 (enc (eFlt .f32) l1)) (K : Bool → Prop) (h : spec_l01SameAll.wp l0 l1 K) : OkQ Try.prog 86 [(.v v0), (.v v1)] H (fun r H2 => ∃ (y0 : Bool), K y0 ∧ r = (.v (.bool y0)) ∧ H = H2) := by
  unfold spec_l01SameAll.wp at h
  refine of_body Try.f86 F.hm Try.func86 rfl Try.call86 (by kernel_rfl) (by simp) ?_
  refine fi_seq ?_
  refine fi_region ?_
  refine so_assign rfl ?_
  refine so_nil ?_
  refine fi_seq ?_
  refine fi_seq ?_
  refine fi_region ?_
  refine so_move rfl ?_
  refine sv_len (g0 _ hs) (fun _ => rfl) (by decide) rfl F86.ti37 ?_
  refine so_move rfl ?_
  refine sv_len (g1 _ hs) (fun _ => rfl) (by decide) rfl F86.ti37 ?_
  refine so_bin rfl rfl ab_neq ?_
  refine so_nil ?_
  replace h := ofP h; rcases h with ⟨c101, h⟩ | ⟨c101, h⟩
  · refine fi_false rfl (not_f (decide_eq_true c101)) ?_
    refine fi_skip ?_
    refine fi_seq ?_
    refine fi_seq ?_
    refine fi_region ?_
    refine so_assign rfl ?_
    refine so_nil ?_
    refine fi_block ?_
    refine fi_loop ?_
    refine fi_at [(0, (.v v0)), (1, (.v v1)), (5, (.v (.int .i64 (0 : Int))))] ⟨rfl, rfl, rfl, trivial⟩ ?_
    refine h (fun (i103 : Int) => ∀ (s : Nat → TV), Fin _ _ (updL s [(0, (.v v0)), (1, (.v v1)), (5, (.v (.int .i64 i103)))]) _ _) ?_ _
    intro i103 h s110
    refine fi_inLoop ?_
    refine fi_seq ?_
    refine fi_seq ?_
    refine fi_region ?_
    refine so_move rfl ?_
    refine so_move rfl ?_
    refine sv_len (g0 _ hs) (fun _ => rfl) (by decide) rfl F86.ti37 ?_
    refine so_bin rfl rfl ab_lss ?_
    refine so_nil ?_
    replace h := ofP h; rcases h with ⟨c104, h⟩ | ⟨c104, h⟩
    · refine fi_true rfl (decide_eq_true c104) ?_
      refine fi_skip ?_
      refine fi_seq ?_
      refine fi_block ?_
      refine fi_seq ?_
      refine fi_region ?_
      refine so_move rfl ?_
      refine so_move rfl ?_
      obtain ⟨c105, h⟩ := h
      refine sv_idx (g0 _ hs) c105 (fun _ => rfl) (by decide) rfl rfl F86.tl37 ?_
      refine sv_cell (g0 _ hs) c105 (0 : Nat) 0 (fun x => (AV.flt .f32 x)) (fun _ => rfl) (fun _ => rfl) rfl F86.ag25 ?_
      refine so_move rfl ?_
      refine so_move rfl ?_
      obtain ⟨c106, h⟩ := h
      refine sv_idx (g1 _ hs) c106 (fun _ => rfl) (by decide) rfl rfl F86.tl37 ?_
      refine sv_cell (g1 _ hs) c106 (0 : Nat) 0 (fun x => (AV.flt .f32 x)) (fun _ => rfl) (fun _ => rfl) rfl F86.ag25 ?_
      refine sv_callS (spec_l01Same_ok (l0.getD (i103).toNat (0 : Nat)) (l1.getD (i103).toNat (0 : Nat)) hs  _ h) (fun _ _ ⟨_, _, _, e⟩ => e) rfl rfl ?_
      clear h
      rintro _ _ ⟨y107, h, rfl, rfl⟩
      refine so_un rfl au_not ?_
      refine so_nil ?_
      replace h := ofT h; rcases h with ⟨c109, h⟩ | ⟨c109, h⟩
      · refine fi_false rfl (not_f c109) ?_
        refine fi_skip ?_
        refine fi_inBlock ?_
        refine fi_region ?_
        refine so_move rfl ?_
        refine so_bin rfl rfl ab_add ?_
        refine so_assign rfl ?_
        refine so_nil ?_
        exact fi_at [(0, (.v v0)), (1, (.v v1)), (5, (.v (.int .i64 (IntKind.i64.wrap (i103 + (1 : Int))))))] ⟨rfl, rfl, rfl, trivial⟩ (h _)
      · refine fi_true rfl (not_t c109) ?_
        refine fi_seq ?_
        refine fi_region ?_
        refine so_assign rfl ?_
        refine so_nil ?_
        exact by_ret rfl ⟨_, h, rfl, rfl⟩
    · refine fi_false rfl (decide_eq_false c104) ?_
      refine fi_exit rfl ?_
      refine fi_seq ?_
      refine fi_region ?_
      refine so_assign rfl ?_
      refine so_nil ?_
      exact by_ret rfl ⟨_, h, rfl, rfl⟩
  · refine fi_true rfl (not_t (decide_eq_false c101)) ?_
    refine fi_seq ?_
    refine fi_region ?_
    refine so_assign rfl ?_
    refine so_nil ?_
    exact by_ret rfl ⟨_, h, rfl, rfl⟩

end Go.Proofs.Ytpeijfnfffogeaa.G

namespace Go.Proofs.Ytpeijfnfffogeaa.G
open Go Go.Ab Go.Proofs Go.Proofs.Ytpeijfnfffogeaa
set_option maxRecDepth 100000
set_option linter.unusedVariables false
set_option linter.unusedSimpArgs false
set_option maxHeartbeats 1000000
theorem F87.ag25 : tagg Try.prog 25 = some false := by kernel_rfl
theorem F87.ag37 : tagg Try.prog 37 = some false := by kernel_rfl
theorem F87.fd49_0 : tfield Try.prog 49 0 = some (0, 1, false) := by kernel_rfl
theorem F87.fd49_1 : tfield Try.prog 49 1 = some (1, 1, false) := by kernel_rfl
theorem spec_l02Same_ok {fr : List Pc} {H : Heap} (i0 o0 : Nat) (v0 : AV) (l0 : List (Nat)) (a1 : Nat) (i2 o2 : Nat) (v2 : AV) (l2 : List (Nat)) (a3 : Nat) (hs : Sep H (fr)) (g0 : ∀ H, Sep H fr → Shows H v0 1 (enc (eFlt .f32) l0)) (q0 : ∀ H, Sep H fr → PtAt H i0 o0 [v0, (.flt .f32 a1)]) (g2 : ∀ H, Sep H fr → Shows H v2 1 (enc (eFlt .f32) l2)) (q2 : ∀ H, Sep H fr → PtAt H i2 o2 [v2, (.flt .f32 a3)]) (K : Bool → Prop) (h : spec_l02Same.wp l0 a1 l2 a3 K) : OkQ Try.prog 87 [(.v (.ptr i0 o0)), (.v (.ptr i2 o2))] H (fun r H2 => ∃ (y0 : Bool), K y0 ∧ r = (.v (.bool y0)) ∧ H = H2) := by
  unfold spec_l02Same.wp at h
  refine of_body Try.f87 F.hm Try.func87 rfl Try.call87 (by kernel_rfl) (by simp) ?_
  refine fi_seq ?_
  refine fi_region ?_
  refine so_assign rfl ?_
  refine so_nil ?_
  refine fi_seq ?_
  refine fi_region ?_
  refine so_move rfl ?_
  refine so_nilCheck rfl ?_
  refine so_fieldAddr rfl F87.fd49_0 ?_
  refine su_ld (q0 _ hs) 0 rfl rfl F87.ag37 ?_
  refine so_move rfl ?_
  refine so_nilCheck rfl ?_
  refine so_fieldAddr rfl F87.fd49_0 ?_
  refine su_ld (q2 _ hs) 0 rfl rfl F87.ag37 ?_
  refine sv_callS (spec_l01SameAll_ok v0 l0 v2 l2 hs (fun _ hs => (g0 _ hs)) (fun _ hs => (g2 _ hs)) _ h) (fun _ _ ⟨_, _, _, e⟩ => e) rfl rfl ?_
  clear h
  rintro _ _ ⟨y101, h, rfl, rfl⟩
  refine so_move rfl ?_
  replace h := ofT h; rcases h with ⟨c103, h⟩ | ⟨c103, h⟩
  · refine so_gyes rfl c103 ?_
    refine so_move rfl ?_
    refine so_gyes rfl c103 ?_
    refine so_nilCheck rfl ?_
    refine so_gyes rfl c103 ?_
    refine so_fieldAddr rfl F87.fd49_1 ?_
    refine so_gyes rfl c103 ?_
    refine su_ld (q0 _ hs) 1 rfl rfl F87.ag25 ?_
    refine so_gyes rfl c103 ?_
    refine so_move rfl ?_
    refine so_gyes rfl c103 ?_
    refine so_nilCheck rfl ?_
    refine so_gyes rfl c103 ?_
    refine so_fieldAddr rfl F87.fd49_1 ?_
    refine so_gyes rfl c103 ?_
    refine su_ld (q2 _ hs) 1 rfl rfl F87.ag25 ?_
    refine so_gyes rfl c103 ?_
    refine sv_callS (spec_l01Same_ok a1 a3 hs  _ h) (fun _ _ ⟨_, _, _, e⟩ => e) rfl rfl ?_
    clear h
    rintro _ _ ⟨y104, h, rfl, rfl⟩
    refine so_pick_t rfl c103 rfl ?_
    refine so_assign rfl ?_
    refine so_nil ?_
    exact by_ret rfl ⟨_, h, rfl, rfl⟩
  · refine so_gno rfl c103 ?_
    refine so_gno rfl c103 ?_
    refine so_gno rfl c103 ?_
    refine so_gno rfl c103 ?_
    refine so_gno rfl c103 ?_
    refine so_gno rfl c103 ?_
    refine so_gno rfl c103 ?_
    refine so_gno rfl c103 ?_
    refine so_gno rfl c103 ?_
    refine so_pick_f rfl c103 rfl ?_
    refine so_assign rfl ?_
    refine so_nil ?_
    exact by_ret rfl ⟨_, h, rfl, rfl⟩

end Go.Proofs.Ytpeijfnfffogeaa.G

namespace Go.Proofs.Ytpeijfnfffogeaa.G
open Go Go.Ab Go.Proofs Go.Proofs.Ytpeijfnfffogeaa
set_option maxRecDepth 100000
set_option linter.unusedVariables false
set_option linter.unusedSimpArgs false
set_option maxHeartbeats 1000000
theorem F88.ag2 : tagg Try.prog 2 = some false := by kernel_rfl
theorem F88.ag37 : tagg Try.prog 37 = some false := by kernel_rfl
theorem F88.fd50_0 : tfield Try.prog 50 0 = some (0, 1, false) := by kernel_rfl
theorem F88.fd50_1 : tfield Try.prog 50 1 = some (1, 1, false) := by kernel_rfl
theorem F88.fd50_2 : tfield Try.prog 50 2 = some (2, 1, false) := by kernel_rfl
theorem spec_l04Same_ok {fr : List Pc} {H : Heap} (i0 o0 : Nat) (a0 : Int) (a1 : Int) (v2 : AV) (l2 : List (Nat)) (i3 o3 : Nat) (a3 : Int) (a4 : Int) (v5 : AV) (l5 : List (Nat)) (hs : Sep H (fr)) (g2 : ∀ H, Sep H fr → Shows H v2 1 (enc (eFlt .f32) l2)) (q0 : ∀ H, Sep H fr → PtAt H i0 o0 [(.int .i64 a0), (.int .i64 a1), v2]) (g5 : ∀ H, Sep H fr → Shows H v5 1 (enc (eFlt .f32) l5)) (q3 : ∀ H, Sep H fr → PtAt H i3 o3 [(.int .i64 a3), (.int .i64 a4), v5]) (K : Bool → Prop) (h : spec_l04Same.wp a0 a1 l2 a3 a4 l5 K) : OkQ Try.prog 88 [(.v (.ptr i0 o0)), (.v (.ptr i3 o3))] H (fun r H2 => ∃ (y0 : Bool), K y0 ∧ r = (.v (.bool y0)) ∧ H = H2) := by
  unfold spec_l04Same.wp at h
  refine of_body Try.f88 F.hm Try.func88 rfl Try.call88 (by kernel_rfl) (by simp) ?_
  refine fi_seq ?_
  refine fi_region ?_
  refine so_assign rfl ?_
  refine so_nil ?_
  refine fi_seq ?_
  refine fi_region ?_
  refine so_move rfl ?_
  refine so_nilCheck rfl ?_
  refine so_fieldAddr rfl F88.fd50_0 ?_
  refine su_ld (q0 _ hs) 0 rfl rfl F88.ag2 ?_
  refine so_move rfl ?_
  refine so_nilCheck rfl ?_
  refine so_fieldAddr rfl F88.fd50_0 ?_
  refine su_ld (q3 _ hs) 0 rfl rfl F88.ag2 ?_
  refine so_bin rfl rfl ab_eql ?_
  refine so_move rfl ?_
  replace h := ofP h; rcases h with ⟨c101, h⟩ | ⟨c101, h⟩
  · refine so_gyes rfl (decide_eq_true c101) ?_
    refine so_move rfl ?_
    refine so_gyes rfl (decide_eq_true c101) ?_
    refine so_nilCheck rfl ?_
    refine so_gyes rfl (decide_eq_true c101) ?_
    refine so_fieldAddr rfl F88.fd50_1 ?_
    refine so_gyes rfl (decide_eq_true c101) ?_
    refine su_ld (q0 _ hs) 1 rfl rfl F88.ag2 ?_
    refine so_gyes rfl (decide_eq_true c101) ?_
    refine so_move rfl ?_
    refine so_gyes rfl (decide_eq_true c101) ?_
    refine so_nilCheck rfl ?_
    refine so_gyes rfl (decide_eq_true c101) ?_
    refine so_fieldAddr rfl F88.fd50_1 ?_
    refine so_gyes rfl (decide_eq_true c101) ?_
    refine su_ld (q3 _ hs) 1 rfl rfl F88.ag2 ?_
    refine so_gyes rfl (decide_eq_true c101) ?_
    refine so_bin rfl rfl ab_eql ?_
    refine so_pick_t rfl (decide_eq_true c101) rfl ?_
    refine so_move rfl ?_
    replace h := ofP h; rcases h with ⟨c102, h⟩ | ⟨c102, h⟩
    · refine so_gyes rfl (decide_eq_true c102) ?_
      refine so_move rfl ?_
      refine so_gyes rfl (decide_eq_true c102) ?_
      refine so_nilCheck rfl ?_
      refine so_gyes rfl (decide_eq_true c102) ?_
      refine so_fieldAddr rfl F88.fd50_2 ?_
      refine so_gyes rfl (decide_eq_true c102) ?_
      refine su_ld (q0 _ hs) 2 rfl rfl F88.ag37 ?_
      refine so_gyes rfl (decide_eq_true c102) ?_
      refine so_move rfl ?_
      refine so_gyes rfl (decide_eq_true c102) ?_
      refine so_nilCheck rfl ?_
      refine so_gyes rfl (decide_eq_true c102) ?_
      refine so_fieldAddr rfl F88.fd50_2 ?_
      refine so_gyes rfl (decide_eq_true c102) ?_
      refine su_ld (q3 _ hs) 2 rfl rfl F88.ag37 ?_
      refine so_gyes rfl (decide_eq_true c102) ?_
      refine sv_callS (spec_l01SameAll_ok v2 l2 v5 l5 hs (fun _ hs => (g2 _ hs)) (fun _ hs => (g5 _ hs)) _ h) (fun _ _ ⟨_, _, _, e⟩ => e) rfl rfl ?_
      clear h
      rintro _ _ ⟨y103, h, rfl, rfl⟩
      refine so_pick_t rfl (decide_eq_true c102) rfl ?_
      refine so_assign rfl ?_
      refine so_nil ?_
      exact by_ret rfl ⟨_, h, rfl, rfl⟩
    · refine so_gno rfl (decide_eq_false c102) ?_
      refine so_gno rfl (decide_eq_false c102) ?_
      refine so_gno rfl (decide_eq_false c102) ?_
      refine so_gno rfl (decide_eq_false c102) ?_
      refine so_gno rfl (decide_eq_false c102) ?_
      refine so_gno rfl (decide_eq_false c102) ?_
      refine so_gno rfl (decide_eq_false c102) ?_
      refine so_gno rfl (decide_eq_false c102) ?_
      refine so_gno rfl (decide_eq_false c102) ?_
      refine so_pick_f rfl (decide_eq_false c102) rfl ?_
      refine so_assign rfl ?_
      refine so_nil ?_
      exact by_ret rfl ⟨_, h, rfl, rfl⟩
  · refine so_gno rfl (decide_eq_false c101) ?_
    refine so_gno rfl (decide_eq_false c101) ?_
    refine so_gno rfl (decide_eq_false c101) ?_
    refine so_gno rfl (decide_eq_false c101) ?_
    refine so_gno rfl (decide_eq_false c101) ?_
    refine so_gno rfl (decide_eq_false c101) ?_
    refine so_gno rfl (decide_eq_false c101) ?_
    refine so_gno rfl (decide_eq_false c101) ?_
    refine so_gno rfl (decide_eq_false c101) ?_
    refine so_pick_f rfl (decide_eq_false c101) rfl ?_
    refine so_move rfl ?_
    refine so_gno rfl rfl ?_
    refine so_gno rfl rfl ?_
    refine so_gno rfl rfl ?_
    refine so_gno rfl rfl ?_
    refine so_gno rfl rfl ?_
    refine so_gno rfl rfl ?_
    refine so_gno rfl rfl ?_
    refine so_gno rfl rfl ?_
    refine so_gno rfl rfl ?_
    refine so_pick_f rfl rfl rfl ?_
    refine so_assign rfl ?_
    refine so_nil ?_
    exact by_ret rfl ⟨_, h, rfl, rfl⟩

end Go.Proofs.Ytpeijfnfffogeaa.G

namespace Go.Proofs.Ytpeijfnfffogeaa.G
open Go Go.Ab Go.Proofs Go.Proofs.Ytpeijfnfffogeaa
set_option maxRecDepth 100000
set_option linter.unusedVariables false
set_option linter.unusedSimpArgs false
set_option maxHeartbeats 1000000
theorem F171.ag4 : tagg Try.prog 4 = some false := by kernel_rfl
theorem F171.tb4 : tbool Try.prog 4 = true := by kernel_rfl
theorem F171.ti42 : (telem Try.prog 42).isSome = true := by kernel_rfl
theorem F171.tl42 : (telem Try.prog 42).bind (tsz Try.prog) = some 1 := by kernel_rfl
theorem spec_l06SameBits_ok {fr : List Pc} {H : Heap} (v0 : AV) (l0 : List (Bool)) (v1 : AV) (l1 : List (Bool)) (hs : Sep H (fr)) (g0 : ∀ H, Sep H fr → Shows H v0 1 (enc eBool l0)) (g1 : ∀ H, Sep H fr → Shows H v1 1 (enc eBool l1)) (K : Bool → Prop) (h : spec_l06SameBits.wp l0 l1 K) : OkQ Try.prog 171 [(.v v0), (.v v1)] H (fun r H2 => ∃ (y0 : Bool), K y0 ∧ r = (.v (.bool y0)) ∧ H = H2) := by
  unfold spec_l06SameBits.wp at h
  refine of_body Try.f171 F.hm Try.func171 rfl Try.call171 (by kernel_rfl) (by simp) ?_
  refine fi_seq ?_
  refine fi_region ?_
  refine so_assign rfl ?_
  refine so_nil ?_
  refine fi_seq ?_
  refine fi_seq ?_
  refine fi_region ?_
  refine so_move rfl ?_
  refine sv_len (g0 _ hs) (fun _ => rfl) (by decide) rfl F171.ti42 ?_
  refine so_move rfl ?_
  refine sv_len (g1 _ hs) (fun _ => rfl) (by decide) rfl F171.ti42 ?_
  refine so_bin rfl rfl ab_neq ?_
  refine so_nil ?_
  replace h := ofP h; rcases h with ⟨c101, h⟩ | ⟨c101, h⟩
  · refine fi_false rfl (not_f (decide_eq_true c101)) ?_
    refine fi_skip ?_
    refine fi_seq ?_
    refine fi_seq ?_
    refine fi_region ?_
    refine so_assign rfl ?_
    refine so_nil ?_
    refine fi_block ?_
    refine fi_loop ?_
    refine fi_at [(0, (.v v0)), (1, (.v v1)), (5, (.v (.int .i64 (0 : Int))))] ⟨rfl, rfl, rfl, trivial⟩ ?_
    refine h (fun (i103 : Int) => ∀ (s : Nat → TV), Fin _ _ (updL s [(0, (.v v0)), (1, (.v v1)), (5, (.v (.int .i64 i103)))]) _ _) ?_ _
    intro i103 h s108
    refine fi_inLoop ?_
    refine fi_seq ?_
    refine fi_seq ?_
    refine fi_region ?_
    refine so_move rfl ?_
    refine so_move rfl ?_
    refine sv_len (g0 _ hs) (fun _ => rfl) (by decide) rfl F171.ti42 ?_
    refine so_bin rfl rfl ab_lss ?_
    refine so_nil ?_
    replace h := ofP h; rcases h with ⟨c104, h⟩ | ⟨c104, h⟩
    · refine fi_true rfl (decide_eq_true c104) ?_
      refine fi_skip ?_
      refine fi_seq ?_
      refine fi_block ?_
      refine fi_seq ?_
      refine fi_region ?_
      refine so_move rfl ?_
      refine so_move rfl ?_
      obtain ⟨c105, h⟩ := h
      refine sv_idx (g0 _ hs) c105 (fun _ => rfl) (by decide) rfl rfl F171.tl42 ?_
      refine sv_cell (g0 _ hs) c105 false 0 (fun x => (AV.bool x)) (fun _ => rfl) (fun _ => rfl) rfl F171.ag4 ?_
      refine so_move rfl ?_
      refine so_move rfl ?_
      obtain ⟨c106, h⟩ := h
      refine sv_idx (g1 _ hs) c106 (fun _ => rfl) (by decide) rfl rfl F171.tl42 ?_
      refine sv_cell (g1 _ hs) c106 false 0 (fun x => (AV.bool x)) (fun _ => rfl) (fun _ => rfl) rfl F171.ag4 ?_
      refine so_bin rfl rfl (ab_bneq F171.tb4) ?_
      refine so_nil ?_
      replace h := ofT h; rcases h with ⟨c107, h⟩ | ⟨c107, h⟩
      · refine fi_false rfl (not_f c107) ?_
        refine fi_skip ?_
        refine fi_inBlock ?_
        refine fi_region ?_
        refine so_move rfl ?_
        refine so_bin rfl rfl ab_add ?_
        refine so_assign rfl ?_
        refine so_nil ?_
        exact fi_at [(0, (.v v0)), (1, (.v v1)), (5, (.v (.int .i64 (IntKind.i64.wrap (i103 + (1 : Int))))))] ⟨rfl, rfl, rfl, trivial⟩ (h _)
      · refine fi_true rfl (not_t c107) ?_
        refine fi_seq ?_
        refine fi_region ?_
        refine so_assign rfl ?_
        refine so_nil ?_
        exact by_ret rfl ⟨_, h, rfl, rfl⟩
    · refine fi_false rfl (decide_eq_false c104) ?_
      refine fi_exit rfl ?_
      refine fi_seq ?_
      refine fi_region ?_
      refine so_assign rfl ?_
      refine so_nil ?_
      exact by_ret rfl ⟨_, h, rfl, rfl⟩
  · refine fi_true rfl (not_t (decide_eq_false c101)) ?_
    refine fi_seq ?_
    refine fi_region ?_
    refine so_assign rfl ?_
    refine so_nil ?_
    exact by_ret rfl ⟨_, h, rfl, rfl⟩

end Go.Proofs.Ytpeijfnfffogeaa.G

namespace Go.Proofs.Ytpeijfnfffogeaa.G
open Go Go.Ab Go.Proofs Go.Proofs.Ytpeijfnfffogeaa
set_option maxRecDepth 100000
set_option linter.unusedVariables false
set_option linter.unusedSimpArgs false
set_option maxHeartbeats 1000000
theorem F89.ag2 : tagg Try.prog 2 = some false := by kernel_rfl
theorem F89.ag42 : tagg Try.prog 42 = some false := by kernel_rfl
theorem F89.fd51_0 : tfield Try.prog 51 0 = some (0, 1, false) := by kernel_rfl
theorem F89.fd51_1 : tfield Try.prog 51 1 = some (1, 1, false) := by kernel_rfl
theorem F89.fd51_2 : tfield Try.prog 51 2 = some (2, 1, false) := by kernel_rfl
theorem spec_l06Same_ok {fr : List Pc} {H : Heap} (i0 o0 : Nat) (a0 : Int) (a1 : Int) (v2 : AV) (l2 : List (Bool)) (i3 o3 : Nat) (a3 : Int) (a4 : Int) (v5 : AV) (l5 : List (Bool)) (hs : Sep H (fr)) (g2 : ∀ H, Sep H fr → Shows H v2 1 (enc eBool l2)) (q0 : ∀ H, Sep H fr → PtAt H i0 o0 [(.int .i64 a0), (.int .i64 a1), v2]) (g5 : ∀ H, Sep H fr → Shows H v5 1 (enc eBool l5)) (q3 : ∀ H, Sep H fr → PtAt H i3 o3 [(.int .i64 a3), (.int .i64 a4), v5]) (K : Bool → Prop) (h : spec_l06Same.wp a0 a1 l2 a3 a4 l5 K) : OkQ Try.prog 89 [(.v (.ptr i0 o0)), (.v (.ptr i3 o3))] H (fun r H2 => ∃ (y0 : Bool), K y0 ∧ r = (.v (.bool y0)) ∧ H = H2) := by
  unfold spec_l06Same.wp at h
  refine of_body Try.f89 F.hm Try.func89 rfl Try.call89 (by kernel_rfl) (by simp) ?_
  refine fi_seq ?_
  refine fi_region ?_
  refine so_assign rfl ?_
  refine so_nil ?_
  refine fi_seq ?_
  refine fi_region ?_
  refine so_move rfl ?_
  refine so_nilCheck rfl ?_
  refine so_fieldAddr rfl F89.fd51_0 ?_
  refine su_ld (q0 _ hs) 0 rfl rfl F89.ag2 ?_
  refine so_move rfl ?_
  refine so_nilCheck rfl ?_
  refine so_fieldAddr rfl F89.fd51_0 ?_
  refine su_ld (q3 _ hs) 0 rfl rfl F89.ag2 ?_
  refine so_bin rfl rfl ab_eql ?_
  refine so_move rfl ?_
  replace h := ofP h; rcases h with ⟨c101, h⟩ | ⟨c101, h⟩
  · refine so_gyes rfl (decide_eq_true c101) ?_
    refine so_move rfl ?_
    refine so_gyes rfl (decide_eq_true c101) ?_
    refine so_nilCheck rfl ?_
    refine so_gyes rfl (decide_eq_true c101) ?_
    refine so_fieldAddr rfl F89.fd51_1 ?_
    refine so_gyes rfl (decide_eq_true c101) ?_
    refine su_ld (q0 _ hs) 1 rfl rfl F89.ag2 ?_
    refine so_gyes rfl (decide_eq_true c101) ?_
    refine so_move rfl ?_
    refine so_gyes rfl (decide_eq_true c101) ?_
    refine so_nilCheck rfl ?_
    refine so_gyes rfl (decide_eq_true c101) ?_
    refine so_fieldAddr rfl F89.fd51_1 ?_
    refine so_gyes rfl (decide_eq_true c101) ?_
    refine su_ld (q3 _ hs) 1 rfl rfl F89.ag2 ?_
    refine so_gyes rfl (decide_eq_true c101) ?_
    refine so_bin rfl rfl ab_eql ?_
    refine so_pick_t rfl (decide_eq_true c101) rfl ?_
    refine so_move rfl ?_
    replace h := ofP h; rcases h with ⟨c102, h⟩ | ⟨c102, h⟩
    · refine so_gyes rfl (decide_eq_true c102) ?_
      refine so_move rfl ?_
      refine so_gyes rfl (decide_eq_true c102) ?_
      refine so_nilCheck rfl ?_
      refine so_gyes rfl (decide_eq_true c102) ?_
      refine so_fieldAddr rfl F89.fd51_2 ?_
      refine so_gyes rfl (decide_eq_true c102) ?_
      refine su_ld (q0 _ hs) 2 rfl rfl F89.ag42 ?_
      refine so_gyes rfl (decide_eq_true c102) ?_
      refine so_move rfl ?_
      refine so_gyes rfl (decide_eq_true c102) ?_
      refine so_nilCheck rfl ?_
      refine so_gyes rfl (decide_eq_true c102) ?_
      refine so_fieldAddr rfl F89.fd51_2 ?_
      refine so_gyes rfl (decide_eq_true c102) ?_
      refine su_ld (q3 _ hs) 2 rfl rfl F89.ag42 ?_
      refine so_gyes rfl (decide_eq_true c102) ?_
      refine sv_callS (spec_l06SameBits_ok v2 l2 v5 l5 hs (fun _ hs => (g2 _ hs)) (fun _ hs => (g5 _ hs)) _ h) (fun _ _ ⟨_, _, _, e⟩ => e) rfl rfl ?_
      clear h
      rintro _ _ ⟨y103, h, rfl, rfl⟩
      refine so_pick_t rfl (decide_eq_true c102) rfl ?_
      refine so_assign rfl ?_
      refine so_nil ?_
      exact by_ret rfl ⟨_, h, rfl, rfl⟩
    · refine so_gno rfl (decide_eq_false c102) ?_
      refine so_gno rfl (decide_eq_false c102) ?_
      refine so_gno rfl (decide_eq_false c102) ?_
      refine so_gno rfl (decide_eq_false c102) ?_
      refine so_gno rfl (decide_eq_false c102) ?_
      refine so_gno rfl (decide_eq_false c102) ?_
      refine so_gno rfl (decide_eq_false c102) ?_
      refine so_gno rfl (decide_eq_false c102) ?_
      refine so_gno rfl (decide_eq_false c102) ?_
      refine so_pick_f rfl (decide_eq_false c102) rfl ?_
      refine so_assign rfl ?_
      refine so_nil ?_
      exact by_ret rfl ⟨_, h, rfl, rfl⟩
  · refine so_gno rfl (decide_eq_false c101) ?_
    refine so_gno rfl (decide_eq_false c101) ?_
    refine so_gno rfl (decide_eq_false c101) ?_
    refine so_gno rfl (decide_eq_false c101) ?_
    refine so_gno rfl (decide_eq_false c101) ?_
    refine so_gno rfl (decide_eq_false c101) ?_
    refine so_gno rfl (decide_eq_false c101) ?_
    refine so_gno rfl (decide_eq_false c101) ?_
    refine so_gno rfl (decide_eq_false c101) ?_
    refine so_pick_f rfl (decide_eq_false c101) rfl ?_
    refine so_move rfl ?_
    refine so_gno rfl rfl ?_
    refine so_gno rfl rfl ?_
    refine so_gno rfl rfl ?_
    refine so_gno rfl rfl ?_
    refine so_gno rfl rfl ?_
    refine so_gno rfl rfl ?_
    refine so_gno rfl rfl ?_
    refine so_gno rfl rfl ?_
    refine so_gno rfl rfl ?_
    refine so_pick_f rfl rfl rfl ?_
    refine so_assign rfl ?_
    refine so_nil ?_
    exact by_ret rfl ⟨_, h, rfl, rfl⟩

end Go.Proofs.Ytpeijfnfffogeaa.G

namespace Go.Proofs.Ytpeijfnfffogeaa.G
open Go Go.Ab Go.Proofs Go.Proofs.Ytpeijfnfffogeaa
set_option maxRecDepth 100000
set_option linter.unusedVariables false
set_option linter.unusedSimpArgs false
set_option maxHeartbeats 1000000
theorem F23.ag37 : tagg Try.prog 37 = some false := by kernel_rfl
theorem F23.fd53_0 : tfield Try.prog 53 0 = some (0, 1, false) := by kernel_rfl
theorem F23.fd53_1 : tfield Try.prog 53 1 = some (1, 2, true) := by kernel_rfl
theorem F23.fd53_2 : tfield Try.prog 53 2 = some (3, 3, true) := by kernel_rfl
theorem F23.fd53_3 : tfield Try.prog 53 3 = some (6, 3, true) := by kernel_rfl
theorem F23.inf53 : (Try.prog.info? 53).isSome = true := by kernel_rfl
theorem spec_SameDesk_ok {fr : List Pc} {H : Heap} (v0 : AV) (l0 : List (Nat)) (v1 : AV) (l1 : List (Nat)) (a2 : Nat) (a3 : Int) (a4 : Int) (v5 : AV) (l5 : List (Nat)) (a6 : Int) (a7 : Int) (v8 : AV) (l8 : List (Bool)) (v9 : AV) (l9 : List (Nat)) (v10 : AV) (l10 : List (Nat)) (a11 : Nat) (a12 : Int) (a13 : Int) (v14 : AV) (l14 : List (Nat)) (a15 : Int) (a16 : Int) (v17 : AV) (l17 : List (Bool)) (hs : Sep H (fr)) (g0 : ∀ H, Sep H fr → Shows H v0 1 (enc (eFlt .f32) l0)) (g1 : ∀ H, Sep H fr → Shows H v1 1 (enc (eFlt .f32) l1)) (g5 : ∀ H, Sep H fr → Shows H v5 1 (enc (eFlt .f32) l5)) (g8 : ∀ H, Sep H fr → Shows H v8 1 (enc eBool l8)) (g9 : ∀ H, Sep H fr → Shows H v9 1 (enc (eFlt .f32) l9)) (g10 : ∀ H, Sep H fr → Shows H v10 1 (enc (eFlt .f32) l10)) (g14 : ∀ H, Sep H fr → Shows H v14 1 (enc (eFlt .f32) l14)) (g17 : ∀ H, Sep H fr → Shows H v17 1 (enc eBool l17)) (K : Bool → Prop) (h : spec_SameDesk.wp l0 l1 a2 a3 a4 l5 a6 a7 l8 l9 l10 a11 a12 a13 l14 a15 a16 l17 K) : OkQ Try.prog 23 [(.g [v0, v1, (.flt .f32 a2), (.int .i64 a3), (.int .i64 a4), v5, (.int .i64 a6), (.int .i64 a7), v8]), (.g [v9, v10, (.flt .f32 a11), (.int .i64 a12), (.int .i64 a13), v14, (.int .i64 a15), (.int .i64 a16), v17])] H (fun r H2 => ∃ (y0 : Bool), K y0 ∧ r = (.v (.bool y0)) ∧ Sep H2 (fr)) := by
  unfold spec_SameDesk.wp at h
  refine of_body Try.f23 F.hm Try.func23 rfl Try.call23 (by kernel_rfl) (by simp) ?_
  refine fi_seq ?_
  refine fi_region ?_
  refine sv_box hs rfl (c := [v0, v1, (.flt .f32 a2), (.int .i64 a3), (.int .i64 a4), v5, (.int .i64 a6), (.int .i64 a7), v8]) rfl F23.inf53 (stc (g0 _ hs).stor (stc (g1 _ hs).stor (stc rfl (stc rfl (stc rfl (stc (g5 _ hs).stor (stc rfl (stc rfl (stc (g8 _ hs).stor stn))))))))) nofun (fun id101 H102 hs => ?_)
  refine sv_box hs rfl (c := [v9, v10, (.flt .f32 a11), (.int .i64 a12), (.int .i64 a13), v14, (.int .i64 a15), (.int .i64 a16), v17]) rfl F23.inf53 (stc (g9 _ hs.tl).stor (stc (g10 _ hs.tl).stor (stc rfl (stc rfl (stc rfl (stc (g14 _ hs.tl).stor (stc rfl (stc rfl (stc (g17 _ hs.tl).stor stn))))))))) nofun (fun id104 H105 hs => ?_)
  refine so_assign rfl ?_
  refine so_nil ?_
  refine fi_seq ?_
  refine fi_region ?_
  refine so_fieldAddr rfl F23.fd53_0 ?_
  refine sv_ld hs 1 rfl rfl rfl F23.ag37 ?_
  refine so_fieldAddr rfl F23.fd53_0 ?_
  refine sv_ld hs 0 rfl rfl rfl F23.ag37 ?_
  refine sv_callS (spec_l01SameAll_ok v0 l0 v9 l9 hs (fun _ hs => (g0 _ hs.tl.tl)) (fun _ hs => (g9 _ hs.tl.tl)) _ h) (fun _ _ ⟨_, _, _, e⟩ => e) rfl rfl ?_
  clear h
  rintro _ _ ⟨y107, h, rfl, rfl⟩
  refine so_move rfl ?_
  replace h := ofT h; rcases h with ⟨c109, h⟩ | ⟨c109, h⟩
  · refine so_gyes rfl c109 ?_
    refine so_fieldAddr rfl F23.fd53_1 ?_
    refine so_gyes rfl c109 ?_
    refine so_fieldAddr rfl F23.fd53_1 ?_
    refine so_gyes rfl c109 ?_
    refine sv_callS (spec_l02Same_ok id101 1 v1 l1 a2 id104 1 v10 l10 a11 hs (fun _ hs => (g1 _ hs.tl.tl)) (fun _ hs => (hs.ptats 1 1 2 rfl rfl)) (fun _ hs => (g10 _ hs.tl.tl)) (fun _ hs => (hs.ptats 0 1 2 rfl rfl)) _ h) (fun _ _ ⟨_, _, _, e⟩ => e) rfl rfl ?_
    clear h
    rintro _ _ ⟨y110, h, rfl, rfl⟩
    refine so_pick_t rfl c109 rfl ?_
    refine so_move rfl ?_
    replace h := ofT h; rcases h with ⟨c112, h⟩ | ⟨c112, h⟩
    · refine so_gyes rfl c112 ?_
      refine so_fieldAddr rfl F23.fd53_2 ?_
      refine so_gyes rfl c112 ?_
      refine so_fieldAddr rfl F23.fd53_2 ?_
      refine so_gyes rfl c112 ?_
      refine sv_callS (spec_l04Same_ok id101 3 a3 a4 v5 l5 id104 3 a12 a13 v14 l14 hs (fun _ hs => (g5 _ hs.tl.tl)) (fun _ hs => (hs.ptats 1 3 3 rfl rfl)) (fun _ hs => (g14 _ hs.tl.tl)) (fun _ hs => (hs.ptats 0 3 3 rfl rfl)) _ h) (fun _ _ ⟨_, _, _, e⟩ => e) rfl rfl ?_
      clear h
      rintro _ _ ⟨y113, h, rfl, rfl⟩
      refine so_pick_t rfl c112 rfl ?_
      refine so_move rfl ?_
      replace h := ofT h; rcases h with ⟨c115, h⟩ | ⟨c115, h⟩
      · refine so_gyes rfl c115 ?_
        refine so_fieldAddr rfl F23.fd53_3 ?_
        refine so_gyes rfl c115 ?_
        refine so_fieldAddr rfl F23.fd53_3 ?_
        refine so_gyes rfl c115 ?_
        refine sv_callS (spec_l06Same_ok id101 6 a6 a7 v8 l8 id104 6 a15 a16 v17 l17 hs (fun _ hs => (g8 _ hs.tl.tl)) (fun _ hs => (hs.ptats 1 6 3 rfl rfl)) (fun _ hs => (g17 _ hs.tl.tl)) (fun _ hs => (hs.ptats 0 6 3 rfl rfl)) _ h) (fun _ _ ⟨_, _, _, e⟩ => e) rfl rfl ?_
        clear h
        rintro _ _ ⟨y116, h, rfl, rfl⟩
        refine so_pick_t rfl c115 rfl ?_
        refine so_assign rfl ?_
        refine so_nil ?_
        exact by_ret rfl ⟨_, h, rfl, (Sep.del 0 (Sep.del 0 hs))⟩
      · refine so_gno rfl c115 ?_
        refine so_gno rfl c115 ?_
        refine so_gno rfl c115 ?_
        refine so_pick_f rfl c115 rfl ?_
        refine so_assign rfl ?_
        refine so_nil ?_
        exact by_ret rfl ⟨_, h, rfl, (Sep.del 0 (Sep.del 0 hs))⟩
    · refine so_gno rfl c112 ?_
      refine so_gno rfl c112 ?_
      refine so_gno rfl c112 ?_
      refine so_pick_f rfl c112 rfl ?_
      refine so_move rfl ?_
      refine so_gno rfl rfl ?_
      refine so_gno rfl rfl ?_
      refine so_gno rfl rfl ?_
      refine so_pick_f rfl rfl rfl ?_
      refine so_assign rfl ?_
      refine so_nil ?_
      exact by_ret rfl ⟨_, h, rfl, (Sep.del 0 (Sep.del 0 hs))⟩
  · refine so_gno rfl c109 ?_
    refine so_gno rfl c109 ?_
    refine so_gno rfl c109 ?_
    refine so_pick_f rfl c109 rfl ?_
    refine so_move rfl ?_
    refine so_gno rfl rfl ?_
    refine so_gno rfl rfl ?_
    refine so_gno rfl rfl ?_
    refine so_pick_f rfl rfl rfl ?_
    refine so_move rfl ?_
    refine so_gno rfl rfl ?_
    refine so_gno rfl rfl ?_
    refine so_gno rfl rfl ?_
    refine so_pick_f rfl rfl rfl ?_
    refine so_assign rfl ?_
    refine so_nil ?_
    exact by_ret rfl ⟨_, h, rfl, (Sep.del 0 (Sep.del 0 hs))⟩

end Go.Proofs.Ytpeijfnfffogeaa.G

namespace Go.Proofs.Ytpeijfnfffogeaa.G
open Go Go.Ab Go.Proofs Go.Proofs.Ytpeijfnfffogeaa
set_option maxRecDepth 100000
set_option linter.unusedVariables false
set_option linter.unusedSimpArgs false
set_option maxHeartbeats 1000000
theorem F43.ag25 : tagg Try.prog 25 = some false := by kernel_rfl
theorem F43.by25 : tbytes Try.prog 25 = some 4 := by kernel_rfl
theorem F43.sz25 : tsz Try.prog 25 = some 1 := by kernel_rfl
theorem F43.te37 : telem Try.prog 37 = some 25 := by kernel_rfl
theorem F43.ti37 : (telem Try.prog 37).isSome = true := by kernel_rfl
theorem F43.tl37 : (telem Try.prog 37).bind (tsz Try.prog) = some 1 := by kernel_rfl
theorem F43.ze25 : tzero Try.prog 25 = some [(.flt .f32 (0 : Nat))] := by kernel_rfl
theorem laws_toFloat32S_ok {fr : List Pc} {H : Heap} (v0 : AV) (l0 : List (Nat)) (hs : Sep H (fr)) (g0 : ∀ H, Sep H fr → Shows H v0 1 (enc (eFlt .f32) l0)) (K : (List (Nat)) → Prop) (h : laws_toFloat32S.wp l0 K) : OkQ Try.prog 43 [(.v v0)] H (fun r H2 => ∃ (y0 : List (Nat)), K y0 ∧ ∃ (w0_ : AV), r = (.v w0_) ∧ Sep H2 (Pc.osl w0_ 1 (enc (eFlt .f32) y0) :: fr)) := by
  unfold laws_toFloat32S.wp at h
  refine of_body Try.f43 F.hm Try.func43 rfl Try.call43 (by kernel_rfl) (by simp) ?_
  refine fi_seq ?_
  refine fi_region ?_
  refine so_assign rfl ?_
  refine so_nil ?_
  refine fi_seq ?_
  refine fi_region ?_
  refine so_move rfl ?_
  refine sv_len (g0 _ hs) (fun _ => rfl) (by decide) rfl F43.ti37 ?_
  obtain ⟨c101, h⟩ := h
  refine sv_make hs (eFlt .f32) (0 : Nat) c101 (fun _ => rfl) rfl rfl F43.te37 F43.sz25 F43.by25 F43.ze25 rfl rfl nofun (fun v102 H103 nv102 hs => ?_)
  refine so_assign rfl ?_
  refine so_nil ?_
  refine fi_seq ?_
  refine fi_seq ?_
  refine fi_region ?_
  refine so_assign rfl ?_
  refine so_nil ?_
  refine fi_block ?_
  refine fi_loop ?_
  refine fi_at [(0, (.v v0)), (3, (.v v102)), (4, (.v (.int .i64 (0 : Int))))] ⟨rfl, rfl, rfl, trivial⟩ ?_
  refine h (fun (out112 : List (Nat)) (i113 : Int) => ∀ (s : Nat → TV) (H : Heap), Sep H (Pc.osl v102 1 (enc (eFlt .f32) out112) :: fr) → Fin _ _ (updL s [(0, (.v v0)), (3, (.v v102)), (4, (.v (.int .i64 i113)))]) H _) ?_ _ _ hs
  intro out112 i113 h s118 H119 hs
  refine fi_inLoop ?_
  refine fi_seq ?_
  refine fi_seq ?_
  refine fi_region ?_
  refine so_move rfl ?_
  refine so_move rfl ?_
  refine sv_len (g0 _ hs.tl) (fun _ => rfl) (by decide) rfl F43.ti37 ?_
  refine so_bin rfl rfl ab_lss ?_
  refine so_nil ?_
  replace h := ofP h; rcases h with ⟨c114, h⟩ | ⟨c114, h⟩
  · refine fi_true rfl (decide_eq_true c114) ?_
    refine fi_skip ?_
    refine fi_seq ?_
    refine fi_block ?_
    refine fi_region ?_
    refine so_move rfl ?_
    refine so_move rfl ?_
    refine so_move rfl ?_
    refine so_move rfl ?_
    obtain ⟨c115, h⟩ := h
    refine sv_idx (g0 _ hs.tl) c115 (fun _ => rfl) (by decide) rfl rfl F43.tl37 ?_
    refine sv_cell (g0 _ hs.tl) c115 (0 : Nat) 0 (fun x => (AV.flt .f32 x)) (fun _ => rfl) (fun _ => rfl) rfl F43.ag25 ?_
    obtain ⟨c116, h⟩ := h
    refine sv_idx (hs.shows 0 rfl) c116 (fun _ => rfl) (by decide) rfl rfl F43.tl37 ?_
    refine sv_set hs 0 rfl c116 (l0.getD (i113).toNat (0 : Nat)) (fun _ => rfl) (by decide) rfl rfl rfl rfl F43.sz25 nofun (fun H117 hs => ?_)
    refine so_nil ?_
    refine fi_inBlock ?_
    refine fi_region ?_
    refine so_move rfl ?_
    refine so_bin rfl rfl ab_add ?_
    refine so_assign rfl ?_
    refine so_nil ?_
    exact fi_at [(0, (.v v0)), (3, (.v v102)), (4, (.v (.int .i64 (IntKind.i64.wrap (i113 + (1 : Int))))))] ⟨rfl, rfl, rfl, trivial⟩ (h _ _  hs)
  · refine fi_false rfl (decide_eq_false c114) ?_
    refine fi_exit rfl ?_
    refine fi_seq ?_
    refine fi_region ?_
    refine so_move rfl ?_
    refine so_assign rfl ?_
    refine so_nil ?_
    exact by_ret rfl ⟨_, h, _, rfl, hs⟩

end Go.Proofs.Ytpeijfnfffogeaa.G

namespace Go.Proofs.Ytpeijfnfffogeaa.G
open Go Go.Ab Go.Proofs Go.Proofs.Ytpeijfnfffogeaa
set_option maxRecDepth 100000
set_option linter.unusedVariables false
set_option linter.unusedSimpArgs false
set_option maxHeartbeats 1000000
theorem F56.ag25 : tagg Try.prog 25 = some false := by kernel_rfl
theorem F56.ag37 : tagg Try.prog 37 = some false := by kernel_rfl
theorem F56.ag49 : tagg Try.prog 49 = some true := by kernel_rfl
theorem F56.fd39_0 : tfield Try.prog 39 0 = some (0, 1, false) := by kernel_rfl
theorem F56.fd39_1 : tfield Try.prog 39 1 = some (1, 1, false) := by kernel_rfl
theorem F56.fd49_0 : tfield Try.prog 49 0 = some (0, 1, false) := by kernel_rfl
theorem F56.fd49_1 : tfield Try.prog 49 1 = some (1, 1, false) := by kernel_rfl
theorem F56.inf39 : (Try.prog.info? 39).isSome = true := by kernel_rfl
theorem F56.sz25 : tsz Try.prog 25 = some 1 := by kernel_rfl
theorem F56.sz37 : tsz Try.prog 37 = some 1 := by kernel_rfl
theorem F56.sz49 : tsz Try.prog 49 = some 2 := by kernel_rfl
theorem F56.ze49 : tzero Try.prog 49 = some [.nilsl, (.flt .f32 (0 : Nat))] := by kernel_rfl
theorem laws_toScheme_ok {fr : List Pc} {H : Heap} (v0 : AV) (l0 : List (Nat)) (a1 : Nat) (hs : Sep H (fr)) (g0 : ∀ H, Sep H fr → Shows H v0 1 (enc (eFlt .f32) l0)) (K : (List (Nat)) → Nat → Prop) (h : laws_toScheme.wp l0 a1 K) : OkQ Try.prog 56 [(.g [v0, (.flt .f32 a1)])] H (fun r H2 => ∃ (y0 : List (Nat)) (y1 : Nat), K y0 y1 ∧ ∃ (w0_ : AV), r = (.g [w0_, (.flt .f32 y1)]) ∧ Sep H2 (Pc.osl w0_ 1 (enc (eFlt .f32) y0) :: fr)) := by
  unfold laws_toScheme.wp at h
  refine of_body Try.f56 F.hm Try.func56 rfl Try.call56 (by kernel_rfl) (by simp) ?_
  refine fi_seq ?_
  refine fi_region ?_
  refine sv_box hs rfl (c := [v0, (.flt .f32 a1)]) rfl F56.inf39 (stc (g0 _ hs).stor (stc rfl stn)) nofun (fun id101 H102 hs => ?_)
  refine sv_alloc hs F56.ze49 rfl nofun (fun id104 H105 hs => ?_)
  refine so_nil ?_
  refine fi_seq ?_
  refine fi_region ?_
  refine sv_alloc hs F56.ze49 rfl nofun (fun id107 H108 hs => ?_)
  refine so_nil ?_
  refine fi_seq ?_
  refine fi_region ?_
  refine so_fieldAddr rfl F56.fd39_0 ?_
  refine sv_ld hs 2 rfl rfl rfl F56.ag37 ?_
  refine sv_call (laws_toFloat32S_ok v0 l0 hs (fun _ hs => (g0 _ hs.tl.tl.tl)) _ h) rfl rfl nofun ?_
  clear h hs
  rintro _ H113 ⟨y110, h, v111, rfl, hs⟩
  refine so_fieldAddr rfl F56.fd49_0 ?_
  refine sv_st hs 1 rfl rfl rfl (c := [v111]) rfl F56.sz37 rfl (stc (hs.shows 0 rfl).stor stn) (leb rfl) (cs' := [v111, (.flt .f32 (0 : Nat))]) rfl nofun (fun H114 hs => ?_)
  refine so_nil ?_
  refine fi_seq ?_
  refine fi_region ?_
  refine so_fieldAddr rfl F56.fd39_1 ?_
  refine sv_ld hs 3 rfl rfl rfl F56.ag25 ?_
  refine so_fieldAddr rfl F56.fd49_1 ?_
  refine sv_st hs 1 rfl rfl rfl (c := [(.flt .f32 a1)]) rfl F56.sz25 rfl (stc rfl stn) (leb rfl) (cs' := [v111, (.flt .f32 a1)]) rfl nofun (fun H115 hs => ?_)
  refine so_nil ?_
  refine fi_seq ?_
  refine fi_region ?_
  refine sv_lds hs 1 rfl rfl (leb rfl) rfl F56.ag49 F56.sz49 ?_
  refine sv_st hs 2 rfl rfl rfl (c := [v111, (.flt .f32 a1)]) rfl F56.sz49 rfl (stc (hs.shows 0 rfl).stor (stc rfl stn)) (leb rfl) (cs' := [v111, (.flt .f32 a1)]) rfl nofun (fun H116 hs => ?_)
  refine so_nil ?_
  exact by_ret (res_mk (ar_cells rfl F56.ag49 F56.sz49 (hs.lds 2 rfl (leb rfl) rfl) ar_nil) rfl) ⟨_, _, h, _, rfl, (Sep.del 1 (Sep.del 1 (Sep.del 1 hs)))⟩

end Go.Proofs.Ytpeijfnfffogeaa.G

namespace Go.Proofs.Ytpeijfnfffogeaa.G
open Go Go.Ab Go.Proofs Go.Proofs.Ytpeijfnfffogeaa
set_option maxRecDepth 100000
set_option linter.unusedVariables false
set_option linter.unusedSimpArgs false
set_option maxHeartbeats 1000000
theorem F90.ag2 : tagg Try.prog 2 = some false := by kernel_rfl
theorem F90.ag37 : tagg Try.prog 37 = some false := by kernel_rfl
theorem F90.ag50 : tagg Try.prog 50 = some true := by kernel_rfl
theorem F90.fd41_0 : tfield Try.prog 41 0 = some (0, 1, false) := by kernel_rfl
theorem F90.fd41_1 : tfield Try.prog 41 1 = some (1, 1, false) := by kernel_rfl
theorem F90.fd41_2 : tfield Try.prog 41 2 = some (2, 1, false) := by kernel_rfl
theorem F90.fd50_0 : tfield Try.prog 50 0 = some (0, 1, false) := by kernel_rfl
theorem F90.fd50_1 : tfield Try.prog 50 1 = some (1, 1, false) := by kernel_rfl
theorem F90.fd50_2 : tfield Try.prog 50 2 = some (2, 1, false) := by kernel_rfl
theorem F90.inf41 : (Try.prog.info? 41).isSome = true := by kernel_rfl
theorem F90.sz2 : tsz Try.prog 2 = some 1 := by kernel_rfl
theorem F90.sz37 : tsz Try.prog 37 = some 1 := by kernel_rfl
theorem F90.sz50 : tsz Try.prog 50 = some 3 := by kernel_rfl
theorem F90.ze50 : tzero Try.prog 50 = some [(.int .i64 (0 : Int)), (.int .i64 (0 : Int)), .nilsl] := by kernel_rfl
theorem laws_toPicture_ok {fr : List Pc} {H : Heap} (a0 : Int) (a1 : Int) (v2 : AV) (l2 : List (Nat)) (hs : Sep H (fr)) (g2 : ∀ H, Sep H fr → Shows H v2 1 (enc (eFlt .f32) l2)) (K : Int → Int → (List (Nat)) → Prop) (h : laws_toPicture.wp a0 a1 l2 K) : OkQ Try.prog 90 [(.g [(.int .i64 a0), (.int .i64 a1), v2])] H (fun r H2 => ∃ (y0 : Int) (y1 : Int) (y2 : List (Nat)), K y0 y1 y2 ∧ ∃ (w0_ : AV), r = (.g [(.int .i64 y0), (.int .i64 y1), w0_]) ∧ Sep H2 (Pc.osl w0_ 1 (enc (eFlt .f32) y2) :: fr)) := by
  unfold laws_toPicture.wp at h
  refine of_body Try.f90 F.hm Try.func90 rfl Try.call90 (by kernel_rfl) (by simp) ?_
  refine fi_seq ?_
  refine fi_region ?_
  refine sv_box hs rfl (c := [(.int .i64 a0), (.int .i64 a1), v2]) rfl F90.inf41 (stc rfl (stc rfl (stc (g2 _ hs).stor stn))) nofun (fun id101 H102 hs => ?_)
  refine sv_alloc hs F90.ze50 rfl nofun (fun id104 H105 hs => ?_)
  refine so_nil ?_
  refine fi_seq ?_
  refine fi_region ?_
  refine sv_alloc hs F90.ze50 rfl nofun (fun id107 H108 hs => ?_)
  refine so_nil ?_
  refine fi_seq ?_
  refine fi_region ?_
  refine so_fieldAddr rfl F90.fd41_0 ?_
  refine sv_ld hs 2 rfl rfl rfl F90.ag2 ?_
  refine so_fieldAddr rfl F90.fd50_0 ?_
  refine sv_st hs 0 rfl rfl rfl (c := [(.int .i64 a0)]) rfl F90.sz2 rfl (stc rfl stn) (leb rfl) (cs' := [(.int .i64 a0), (.int .i64 (0 : Int)), .nilsl]) rfl nofun (fun H110 hs => ?_)
  refine so_nil ?_
  refine fi_seq ?_
  refine fi_region ?_
  refine so_fieldAddr rfl F90.fd41_1 ?_
  refine sv_ld hs 2 rfl rfl rfl F90.ag2 ?_
  refine so_fieldAddr rfl F90.fd50_1 ?_
  refine sv_st hs 0 rfl rfl rfl (c := [(.int .i64 a1)]) rfl F90.sz2 rfl (stc rfl stn) (leb rfl) (cs' := [(.int .i64 a0), (.int .i64 a1), .nilsl]) rfl nofun (fun H111 hs => ?_)
  refine so_nil ?_
  refine fi_seq ?_
  refine fi_region ?_
  refine so_fieldAddr rfl F90.fd41_2 ?_
  refine sv_ld hs 2 rfl rfl rfl F90.ag37 ?_
  refine sv_call (laws_toFloat32S_ok v2 l2 hs (fun _ hs => (g2 _ hs.tl.tl.tl)) _ h) rfl rfl nofun ?_
  clear h hs
  rintro _ H115 ⟨y112, h, v113, rfl, hs⟩
  refine so_fieldAddr rfl F90.fd50_2 ?_
  refine sv_st hs 1 rfl rfl rfl (c := [v113]) rfl F90.sz37 rfl (stc (hs.shows 0 rfl).stor stn) (leb rfl) (cs' := [(.int .i64 a0), (.int .i64 a1), v113]) rfl nofun (fun H116 hs => ?_)
  refine so_nil ?_
  refine fi_seq ?_
  refine fi_region ?_
  refine sv_lds hs 1 rfl rfl (leb rfl) rfl F90.ag50 F90.sz50 ?_
  refine sv_st hs 2 rfl rfl rfl (c := [(.int .i64 a0), (.int .i64 a1), v113]) rfl F90.sz50 rfl (stc rfl (stc rfl (stc (hs.shows 0 rfl).stor stn))) (leb rfl) (cs' := [(.int .i64 a0), (.int .i64 a1), v113]) rfl nofun (fun H117 hs => ?_)
  refine so_nil ?_
  exact by_ret (res_mk (ar_cells rfl F90.ag50 F90.sz50 (hs.lds 2 rfl (leb rfl) rfl) ar_nil) rfl) ⟨_, _, _, h, _, rfl, (Sep.del 1 (Sep.del 1 (Sep.del 1 hs)))⟩

end Go.Proofs.Ytpeijfnfffogeaa.G

namespace Go.Proofs.Ytpeijfnfffogeaa.G
open Go Go.Ab Go.Proofs Go.Proofs.Ytpeijfnfffogeaa
set_option maxRecDepth 100000
set_option linter.unusedVariables false
set_option linter.unusedSimpArgs false
set_option maxHeartbeats 1000000
theorem F44.ag4 : tagg Try.prog 4 = some false := by kernel_rfl
theorem F44.by4 : tbytes Try.prog 4 = some 1 := by kernel_rfl
theorem F44.sz4 : tsz Try.prog 4 = some 1 := by kernel_rfl
theorem F44.te42 : telem Try.prog 42 = some 4 := by kernel_rfl
theorem F44.ti42 : (telem Try.prog 42).isSome = true := by kernel_rfl
theorem F44.tl42 : (telem Try.prog 42).bind (tsz Try.prog) = some 1 := by kernel_rfl
theorem F44.ze4 : tzero Try.prog 4 = some [(.bool false)] := by kernel_rfl
theorem laws_toBoolS_ok {fr : List Pc} {H : Heap} (v0 : AV) (l0 : List (Bool)) (hs : Sep H (fr)) (g0 : ∀ H, Sep H fr → Shows H v0 1 (enc eBool l0)) (K : (List (Bool)) → Prop) (h : laws_toBoolS.wp l0 K) : OkQ Try.prog 44 [(.v v0)] H (fun r H2 => ∃ (y0 : List (Bool)), K y0 ∧ ∃ (w0_ : AV), r = (.v w0_) ∧ Sep H2 (Pc.osl w0_ 1 (enc eBool y0) :: fr)) := by
  unfold laws_toBoolS.wp at h
  refine of_body Try.f44 F.hm Try.func44 rfl Try.call44 (by kernel_rfl) (by simp) ?_
  refine fi_seq ?_
  refine fi_region ?_
  refine so_assign rfl ?_
  refine so_nil ?_
  refine fi_seq ?_
  refine fi_region ?_
  refine so_move rfl ?_
  refine sv_len (g0 _ hs) (fun _ => rfl) (by decide) rfl F44.ti42 ?_
  obtain ⟨c101, h⟩ := h
  refine sv_make hs eBool false c101 (fun _ => rfl) rfl rfl F44.te42 F44.sz4 F44.by4 F44.ze4 rfl rfl nofun (fun v102 H103 nv102 hs => ?_)
  refine so_assign rfl ?_
  refine so_nil ?_
  refine fi_seq ?_
  refine fi_seq ?_
  refine fi_region ?_
  refine so_assign rfl ?_
  refine so_nil ?_
  refine fi_block ?_
  refine fi_loop ?_
  refine fi_at [(0, (.v v0)), (3, (.v v102)), (4, (.v (.int .i64 (0 : Int))))] ⟨rfl, rfl, rfl, trivial⟩ ?_
  refine h (fun (out112 : List (Bool)) (i113 : Int) => ∀ (s : Nat → TV) (H : Heap), Sep H (Pc.osl v102 1 (enc eBool out112) :: fr) → Fin _ _ (updL s [(0, (.v v0)), (3, (.v v102)), (4, (.v (.int .i64 i113)))]) H _) ?_ _ _ hs
  intro out112 i113 h s118 H119 hs
  refine fi_inLoop ?_
  refine fi_seq ?_
  refine fi_seq ?_
  refine fi_region ?_
  refine so_move rfl ?_
  refine so_move rfl ?_
  refine sv_len (g0 _ hs.tl) (fun _ => rfl) (by decide) rfl F44.ti42 ?_
  refine so_bin rfl rfl ab_lss ?_
  refine so_nil ?_
  replace h := ofP h; rcases h with ⟨c114, h⟩ | ⟨c114, h⟩
  · refine fi_true rfl (decide_eq_true c114) ?_
    refine fi_skip ?_
    refine fi_seq ?_
    refine fi_block ?_
    refine fi_region ?_
    refine so_move rfl ?_
    refine so_move rfl ?_
    refine so_move rfl ?_
    refine so_move rfl ?_
    obtain ⟨c115, h⟩ := h
    refine sv_idx (g0 _ hs.tl) c115 (fun _ => rfl) (by decide) rfl rfl F44.tl42 ?_
    refine sv_cell (g0 _ hs.tl) c115 false 0 (fun x => (AV.bool x)) (fun _ => rfl) (fun _ => rfl) rfl F44.ag4 ?_
    obtain ⟨c116, h⟩ := h
    refine sv_idx (hs.shows 0 rfl) c116 (fun _ => rfl) (by decide) rfl rfl F44.tl42 ?_
    refine sv_set hs 0 rfl c116 (l0.getD (i113).toNat false) (fun _ => rfl) (by decide) rfl rfl rfl rfl F44.sz4 nofun (fun H117 hs => ?_)
    refine so_nil ?_
    refine fi_inBlock ?_
    refine fi_region ?_
    refine so_move rfl ?_
    refine so_bin rfl rfl ab_add ?_
    refine so_assign rfl ?_
    refine so_nil ?_
    exact fi_at [(0, (.v v0)), (3, (.v v102)), (4, (.v (.int .i64 (IntKind.i64.wrap (i113 + (1 : Int))))))] ⟨rfl, rfl, rfl, trivial⟩ (h _ _  hs)
  · refine fi_false rfl (decide_eq_false c114) ?_
    refine fi_exit rfl ?_
    refine fi_seq ?_
    refine fi_region ?_
    refine so_move rfl ?_
    refine so_assign rfl ?_
    refine so_nil ?_
    exact by_ret rfl ⟨_, h, _, rfl, hs⟩

end Go.Proofs.Ytpeijfnfffogeaa.G

namespace Go.Proofs.Ytpeijfnfffogeaa.G
open Go Go.Ab Go.Proofs Go.Proofs.Ytpeijfnfffogeaa
set_option maxRecDepth 100000
set_option linter.unusedVariables false
set_option linter.unusedSimpArgs false
set_option maxHeartbeats 1000000
theorem F91.ag2 : tagg Try.prog 2 = some false := by kernel_rfl
theorem F91.ag42 : tagg Try.prog 42 = some false := by kernel_rfl
theorem F91.ag51 : tagg Try.prog 51 = some true := by kernel_rfl
theorem F91.fd44_0 : tfield Try.prog 44 0 = some (0, 1, false) := by kernel_rfl
theorem F91.fd44_1 : tfield Try.prog 44 1 = some (1, 1, false) := by kernel_rfl
theorem F91.fd44_2 : tfield Try.prog 44 2 = some (2, 1, false) := by kernel_rfl
theorem F91.fd51_0 : tfield Try.prog 51 0 = some (0, 1, false) := by kernel_rfl
theorem F91.fd51_1 : tfield Try.prog 51 1 = some (1, 1, false) := by kernel_rfl
theorem F91.fd51_2 : tfield Try.prog 51 2 = some (2, 1, false) := by kernel_rfl
theorem F91.inf44 : (Try.prog.info? 44).isSome = true := by kernel_rfl
theorem F91.sz2 : tsz Try.prog 2 = some 1 := by kernel_rfl
theorem F91.sz42 : tsz Try.prog 42 = some 1 := by kernel_rfl
theorem F91.sz51 : tsz Try.prog 51 = some 3 := by kernel_rfl
theorem F91.ze51 : tzero Try.prog 51 = some [(.int .i64 (0 : Int)), (.int .i64 (0 : Int)), .nilsl] := by kernel_rfl
theorem laws_toCoded_ok {fr : List Pc} {H : Heap} (a0 : Int) (a1 : Int) (v2 : AV) (l2 : List (Bool)) (hs : Sep H (fr)) (g2 : ∀ H, Sep H fr → Shows H v2 1 (enc eBool l2)) (K : Int → Int → (List (Bool)) → Prop) (h : laws_toCoded.wp a0 a1 l2 K) : OkQ Try.prog 91 [(.g [(.int .i64 a0), (.int .i64 a1), v2])] H (fun r H2 => ∃ (y0 : Int) (y1 : Int) (y2 : List (Bool)), K y0 y1 y2 ∧ ∃ (w0_ : AV), r = (.g [(.int .i64 y0), (.int .i64 y1), w0_]) ∧ Sep H2 (Pc.osl w0_ 1 (enc eBool y2) :: fr)) := by
  unfold laws_toCoded.wp at h
  refine of_body Try.f91 F.hm Try.func91 rfl Try.call91 (by kernel_rfl) (by simp) ?_
  refine fi_seq ?_
  refine fi_region ?_
  refine sv_box hs rfl (c := [(.int .i64 a0), (.int .i64 a1), v2]) rfl F91.inf44 (stc rfl (stc rfl (stc (g2 _ hs).stor stn))) nofun (fun id101 H102 hs => ?_)
  refine sv_alloc hs F91.ze51 rfl nofun (fun id104 H105 hs => ?_)
  refine so_nil ?_
  refine fi_seq ?_
  refine fi_region ?_
  refine sv_alloc hs F91.ze51 rfl nofun (fun id107 H108 hs => ?_)
  refine so_nil ?_
  refine fi_seq ?_
  refine fi_region ?_
  refine so_fieldAddr rfl F91.fd44_0 ?_
  refine sv_ld hs 2 rfl rfl rfl F91.ag2 ?_
  refine so_fieldAddr rfl F91.fd51_0 ?_
  refine sv_st hs 0 rfl rfl rfl (c := [(.int .i64 a0)]) rfl F91.sz2 rfl (stc rfl stn) (leb rfl) (cs' := [(.int .i64 a0), (.int .i64 (0 : Int)), .nilsl]) rfl nofun (fun H110 hs => ?_)
  refine so_nil ?_
  refine fi_seq ?_
  refine fi_region ?_
  refine so_fieldAddr rfl F91.fd44_1 ?_
  refine sv_ld hs 2 rfl rfl rfl F91.ag2 ?_
  refine so_fieldAddr rfl F91.fd51_1 ?_
  refine sv_st hs 0 rfl rfl rfl (c := [(.int .i64 a1)]) rfl F91.sz2 rfl (stc rfl stn) (leb rfl) (cs' := [(.int .i64 a0), (.int .i64 a1), .nilsl]) rfl nofun (fun H111 hs => ?_)
  refine so_nil ?_
  refine fi_seq ?_
  refine fi_region ?_
  refine so_fieldAddr rfl F91.fd44_2 ?_
  refine sv_ld hs 2 rfl rfl rfl F91.ag42 ?_
  refine sv_call (laws_toBoolS_ok v2 l2 hs (fun _ hs => (g2 _ hs.tl.tl.tl)) _ h) rfl rfl nofun ?_
  clear h hs
  rintro _ H115 ⟨y112, h, v113, rfl, hs⟩
  refine so_fieldAddr rfl F91.fd51_2 ?_
  refine sv_st hs 1 rfl rfl rfl (c := [v113]) rfl F91.sz42 rfl (stc (hs.shows 0 rfl).stor stn) (leb rfl) (cs' := [(.int .i64 a0), (.int .i64 a1), v113]) rfl nofun (fun H116 hs => ?_)
  refine so_nil ?_
  refine fi_seq ?_
  refine fi_region ?_
  refine sv_lds hs 1 rfl rfl (leb rfl) rfl F91.ag51 F91.sz51 ?_
  refine sv_st hs 2 rfl rfl rfl (c := [(.int .i64 a0), (.int .i64 a1), v113]) rfl F91.sz51 rfl (stc rfl (stc rfl (stc (hs.shows 0 rfl).stor stn))) (leb rfl) (cs' := [(.int .i64 a0), (.int .i64 a1), v113]) rfl nofun (fun H117 hs => ?_)
  refine so_nil ?_
  exact by_ret (res_mk (ar_cells rfl F91.ag51 F91.sz51 (hs.lds 2 rfl (leb rfl) rfl) ar_nil) rfl) ⟨_, _, _, h, _, rfl, (Sep.del 1 (Sep.del 1 (Sep.del 1 hs)))⟩

end Go.Proofs.Ytpeijfnfffogeaa.G

namespace Go.Proofs.Ytpeijfnfffogeaa.G
open Go Go.Ab Go.Proofs Go.Proofs.Ytpeijfnfffogeaa
set_option maxRecDepth 100000
set_option linter.unusedVariables false
set_option linter.unusedSimpArgs false
set_option maxHeartbeats 1000000
theorem F24.ag37 : tagg Try.prog 37 = some false := by kernel_rfl
theorem F24.ag39 : tagg Try.prog 39 = some true := by kernel_rfl
theorem F24.ag41 : tagg Try.prog 41 = some true := by kernel_rfl
theorem F24.ag44 : tagg Try.prog 44 = some true := by kernel_rfl
theorem F24.ag53 : tagg Try.prog 53 = some true := by kernel_rfl
theorem F24.fd46_0 : tfield Try.prog 46 0 = some (0, 1, false) := by kernel_rfl
theorem F24.fd46_1 : tfield Try.prog 46 1 = some (1, 2, true) := by kernel_rfl
theorem F24.fd46_2 : tfield Try.prog 46 2 = some (3, 3, true) := by kernel_rfl
theorem F24.fd46_3 : tfield Try.prog 46 3 = some (6, 3, true) := by kernel_rfl
theorem F24.fd53_0 : tfield Try.prog 53 0 = some (0, 1, false) := by kernel_rfl
theorem F24.fd53_1 : tfield Try.prog 53 1 = some (1, 2, true) := by kernel_rfl
theorem F24.fd53_2 : tfield Try.prog 53 2 = some (3, 3, true) := by kernel_rfl
theorem F24.fd53_3 : tfield Try.prog 53 3 = some (6, 3, true) := by kernel_rfl
theorem F24.inf46 : (Try.prog.info? 46).isSome = true := by kernel_rfl
theorem F24.sz37 : tsz Try.prog 37 = some 1 := by kernel_rfl
theorem F24.sz39 : tsz Try.prog 39 = some 2 := by kernel_rfl
theorem F24.sz41 : tsz Try.prog 41 = some 3 := by kernel_rfl
theorem F24.sz44 : tsz Try.prog 44 = some 3 := by kernel_rfl
theorem F24.sz49 : tsz Try.prog 49 = some 2 := by kernel_rfl
theorem F24.sz50 : tsz Try.prog 50 = some 3 := by kernel_rfl
theorem F24.sz51 : tsz Try.prog 51 = some 3 := by kernel_rfl
theorem F24.sz53 : tsz Try.prog 53 = some 9 := by kernel_rfl
theorem F24.ze53 : tzero Try.prog 53 = some [.nilsl, .nilsl, (.flt .f32 (0 : Nat)), (.int .i64 (0 : Int)), (.int .i64 (0 : Int)), .nilsl, (.int .i64 (0 : Int)), (.int .i64 (0 : Int)), .nilsl] := by kernel_rfl
theorem laws_toDesk_ok {fr : List Pc} {H : Heap} (v0 : AV) (l0 : List (Nat)) (v1 : AV) (l1 : List (Nat)) (a2 : Nat) (a3 : Int) (a4 : Int) (v5 : AV) (l5 : List (Nat)) (a6 : Int) (a7 : Int) (v8 : AV) (l8 : List (Bool)) (hs : Sep H (fr)) (g0 : ∀ H, Sep H fr → Shows H v0 1 (enc (eFlt .f32) l0)) (g1 : ∀ H, Sep H fr → Shows H v1 1 (enc (eFlt .f32) l1)) (g5 : ∀ H, Sep H fr → Shows H v5 1 (enc (eFlt .f32) l5)) (g8 : ∀ H, Sep H fr → Shows H v8 1 (enc eBool l8)) (K : (List (Nat)) → (List (Nat)) → Nat → Int → Int → (List (Nat)) → Int → Int → (List (Bool)) → Prop) (h : laws_toDesk.wp l0 l1 a2 a3 a4 l5 a6 a7 l8 K) : OkQ Try.prog 24 [(.g [v0, v1, (.flt .f32 a2), (.int .i64 a3), (.int .i64 a4), v5, (.int .i64 a6), (.int .i64 a7), v8])] H (fun r H2 => ∃ (y0 : List (Nat)) (y1 : List (Nat)) (y2 : Nat) (y3 : Int) (y4 : Int) (y5 : List (Nat)) (y6 : Int) (y7 : Int) (y8 : List (Bool)), K y0 y1 y2 y3 y4 y5 y6 y7 y8 ∧ ∃ (w0_ : AV) (w1_ : AV) (w2_ : AV) (w3_ : AV), r = (.g [w0_, w1_, (.flt .f32 y2), (.int .i64 y3), (.int .i64 y4), w2_, (.int .i64 y6), (.int .i64 y7), w3_]) ∧ Sep H2 (Pc.osl w0_ 1 (enc (eFlt .f32) y0) :: Pc.osl w1_ 1 (enc (eFlt .f32) y1) :: Pc.osl w2_ 1 (enc (eFlt .f32) y5) :: Pc.osl w3_ 1 (enc eBool y8) :: fr)) := by
  unfold laws_toDesk.wp at h
  refine of_body Try.f24 F.hm Try.func24 rfl Try.call24 (by kernel_rfl) (by simp) ?_
  refine fi_seq ?_
  refine fi_region ?_
  refine sv_box hs rfl (c := [v0, v1, (.flt .f32 a2), (.int .i64 a3), (.int .i64 a4), v5, (.int .i64 a6), (.int .i64 a7), v8]) rfl F24.inf46 (stc (g0 _ hs).stor (stc (g1 _ hs).stor (stc rfl (stc rfl (stc rfl (stc (g5 _ hs).stor (stc rfl (stc rfl (stc (g8 _ hs).stor stn))))))))) nofun (fun id101 H102 hs => ?_)
  refine sv_alloc hs F24.ze53 rfl nofun (fun id104 H105 hs => ?_)
  refine so_nil ?_
  refine fi_seq ?_
  refine fi_region ?_
  refine sv_alloc hs F24.ze53 rfl nofun (fun id107 H108 hs => ?_)
  refine so_nil ?_
  refine fi_seq ?_
  refine fi_region ?_
  refine so_fieldAddr rfl F24.fd46_0 ?_
  refine sv_ld hs 2 rfl rfl rfl F24.ag37 ?_
  refine sv_call (laws_toFloat32S_ok v0 l0 hs (fun _ hs => (g0 _ hs.tl.tl.tl)) _ h) rfl rfl nofun ?_
  clear h hs
  rintro _ H113 ⟨y110, h, v111, rfl, hs⟩
  refine so_fieldAddr rfl F24.fd53_0 ?_
  refine sv_st hs 1 rfl rfl rfl (c := [v111]) rfl F24.sz37 rfl (stc (hs.shows 0 rfl).stor stn) (leb rfl) (cs' := [v111, .nilsl, (.flt .f32 (0 : Nat)), (.int .i64 (0 : Int)), (.int .i64 (0 : Int)), .nilsl, (.int .i64 (0 : Int)), (.int .i64 (0 : Int)), .nilsl]) rfl nofun (fun H114 hs => ?_)
  refine so_nil ?_
  refine fi_seq ?_
  refine fi_region ?_
  refine so_fieldAddr rfl F24.fd46_1 ?_
  refine sv_lds hs 3 rfl rfl (leb rfl) rfl F24.ag39 F24.sz39 ?_
  refine sv_call (laws_toScheme_ok v1 l1 a2 hs (fun _ hs => (g1 _ hs.tl.tl.tl.tl)) _ h) rfl rfl nofun ?_
  clear h hs
  rintro _ H119 ⟨y115, y118, h, v116, rfl, hs⟩
  refine so_fieldAddr rfl F24.fd53_1 ?_
  refine sv_st hs 2 rfl rfl rfl (c := [v116, (.flt .f32 y118)]) rfl F24.sz49 rfl (stc (hs.shows 0 rfl).stor (stc rfl stn)) (leb rfl) (cs' := [v111, v116, (.flt .f32 y118), (.int .i64 (0 : Int)), (.int .i64 (0 : Int)), .nilsl, (.int .i64 (0 : Int)), (.int .i64 (0 : Int)), .nilsl]) rfl nofun (fun H120 hs => ?_)
  refine so_nil ?_
  refine fi_seq ?_
  refine fi_region ?_
  refine so_fieldAddr rfl F24.fd46_2 ?_
  refine sv_lds hs 4 rfl rfl (leb rfl) rfl F24.ag41 F24.sz41 ?_
  refine sv_call (laws_toPicture_ok a3 a4 v5 l5 hs (fun _ hs => (g5 _ hs.tl.tl.tl.tl.tl)) _ h) rfl rfl nofun ?_
  clear h hs
  rintro _ H126 ⟨y121, y122, y123, h, v124, rfl, hs⟩
  refine so_fieldAddr rfl F24.fd53_2 ?_
  refine sv_st hs 3 rfl rfl rfl (c := [(.int .i64 y121), (.int .i64 y122), v124]) rfl F24.sz50 rfl (stc rfl (stc rfl (stc (hs.shows 0 rfl).stor stn))) (leb rfl) (cs' := [v111, v116, (.flt .f32 y118), (.int .i64 y121), (.int .i64 y122), v124, (.int .i64 (0 : Int)), (.int .i64 (0 : Int)), .nilsl]) rfl nofun (fun H127 hs => ?_)
  refine so_nil ?_
  refine fi_seq ?_
  refine fi_region ?_
  refine so_fieldAddr rfl F24.fd46_3 ?_
  refine sv_lds hs 5 rfl rfl (leb rfl) rfl F24.ag44 F24.sz44 ?_
  refine sv_call (laws_toCoded_ok a6 a7 v8 l8 hs (fun _ hs => (g8 _ hs.tl.tl.tl.tl.tl.tl)) _ h) rfl rfl nofun ?_
  clear h hs
  rintro _ H133 ⟨y128, y129, y130, h, v131, rfl, hs⟩
  refine so_fieldAddr rfl F24.fd53_3 ?_
  refine sv_st hs 4 rfl rfl rfl (c := [(.int .i64 y128), (.int .i64 y129), v131]) rfl F24.sz51 rfl (stc rfl (stc rfl (stc (hs.shows 0 rfl).stor stn))) (leb rfl) (cs' := [v111, v116, (.flt .f32 y118), (.int .i64 y121), (.int .i64 y122), v124, (.int .i64 y128), (.int .i64 y129), v131]) rfl nofun (fun H134 hs => ?_)
  refine so_nil ?_
  refine fi_seq ?_
  refine fi_region ?_
  refine sv_lds hs 4 rfl rfl (leb rfl) rfl F24.ag53 F24.sz53 ?_
  refine sv_st hs 5 rfl rfl rfl (c := [v111, v116, (.flt .f32 y118), (.int .i64 y121), (.int .i64 y122), v124, (.int .i64 y128), (.int .i64 y129), v131]) rfl F24.sz53 rfl (stc (hs.shows 3 rfl).stor (stc (hs.shows 2 rfl).stor (stc rfl (stc rfl (stc rfl (stc (hs.shows 1 rfl).stor (stc rfl (stc rfl (stc (hs.shows 0 rfl).stor stn))))))))) (leb rfl) (cs' := [v111, v116, (.flt .f32 y118), (.int .i64 y121), (.int .i64 y122), v124, (.int .i64 y128), (.int .i64 y129), v131]) rfl nofun (fun H135 hs => ?_)
  refine so_nil ?_
  exact by_ret (res_mk (ar_cells rfl F24.ag53 F24.sz53 (hs.lds 5 rfl (leb rfl) rfl) ar_nil) rfl) ⟨_, _, _, _, _, _, _, _, _, h, _, _, _, _, rfl, (Sep.front 3 (Sep.front 2 (Sep.front 1 (Sep.del 4 (Sep.del 4 (Sep.del 4 hs))) rfl) rfl) rfl)⟩

end Go.Proofs.Ytpeijfnfffogeaa.G

namespace Go.Proofs.Ytpeijfnfffogeaa.G
open Go Go.Ab Go.Proofs Go.Proofs.Ytpeijfnfffogeaa
set_option maxRecDepth 100000
set_option linter.unusedVariables false
set_option linter.unusedSimpArgs false
set_option maxHeartbeats 1000000
theorem F262.xb262 : Try.f262.body = none := rfl
theorem F262.xe262 : Extern.find Try.f262 = some Extern.MathFloatBits.float64bits := by rfl
theorem F262.xf262 : (Extern.findNext Try.f262).isNone = true := by kernel_rfl
theorem F262.xn262 : (Try.f262.name == "runtime.NumGoroutine") = false := by kernel_rfl
theorem math_Float64bits_ok {fr : List Pc} {H : Heap} (x : Nat) (hs : Sep H fr) (K : Int → Prop) (h : math_Float64bits.wp x K) : OkQ Try.prog 262 [(.v (.flt .f64 x))] H (fun r H2 => ∃ y0 : Int, K y0 ∧ r = (.v (.int .u64 y0)) ∧ H = H2) := ⟨_, _, f64bits_ok Try.func262 F262.xn262 F262.xb262 F262.xf262 F262.xe262 x h.1, _, h.2, rfl, rfl⟩

end Go.Proofs.Ytpeijfnfffogeaa.G

namespace Go.Proofs.Ytpeijfnfffogeaa.G
open Go Go.Ab Go.Proofs Go.Proofs.Ytpeijfnfffogeaa
set_option maxRecDepth 100000
set_option linter.unusedVariables false
set_option linter.unusedSimpArgs false
set_option maxHeartbeats 1000000
theorem F233.it2 : tint Try.prog 2 = some .i64 := by kernel_rfl
theorem F233.us227 : (Try.prog.underlying 227).isSome = true := by kernel_rfl
theorem math_Signbit_ok {fr : List Pc} {H : Heap} (a0 : Nat) (hs : Sep H (fr))  (K : Bool → Prop) (h : math_Signbit.wp a0 K) : OkQ Try.prog 233 [(.v (.flt .f64 a0))] H (fun r H2 => ∃ (y0 : Bool), K y0 ∧ r = (.v (.bool y0)) ∧ H = H2) := by
  unfold math_Signbit.wp at h
  refine of_body Try.f233 F.hm Try.func233 rfl Try.call233 (by kernel_rfl) (by simp) ?_
  refine fi_seq ?_
  refine fi_region ?_
  refine so_assign rfl ?_
  refine so_nil ?_
  refine fi_seq ?_
  refine fi_region ?_
  refine so_move rfl ?_
  refine sv_callS (math_Float64bits_ok a0 hs  _ h) (fun _ _ ⟨_, _, _, e⟩ => e) rfl rfl ?_
  clear h
  rintro _ _ ⟨y101, h, rfl, rfl⟩
  refine sv_ii rfl F233.us227 F233.it2 ?_
  refine so_bin rfl rfl ab_lss ?_
  refine so_assign rfl ?_
  refine so_nil ?_
  exact by_ret rfl ⟨_, h, rfl, rfl⟩

end Go.Proofs.Ytpeijfnfffogeaa.G

namespace Go.Proofs.Ytpeijfnfffogeaa.G
open Go Go.Ab Go.Proofs Go.Proofs.Ytpeijfnfffogeaa
set_option maxRecDepth 100000
set_option linter.unusedVariables false
set_option linter.unusedSimpArgs false
set_option maxHeartbeats 1000000
theorem F172.fl32 : tflt Try.prog 32 = some .f64 := by kernel_rfl
theorem F172.in32 : tint Try.prog 32 = none := by kernel_rfl
theorem F172.tb4 : tbool Try.prog 4 = true := by kernel_rfl
theorem F172.us25 : (Try.prog.underlying 25).isSome = true := by kernel_rfl
theorem impl_SameNumber_ok {fr : List Pc} {H : Heap} (a0 : Nat) (a1 : Nat) (hs : Sep H (fr))  (K : Bool → Prop) (h : impl_SameNumber.wp a0 a1 K) : OkQ Try.prog 172 [(.v (.flt .f32 a0)), (.v (.flt .f32 a1))] H (fun r H2 => ∃ (y0 : Bool), K y0 ∧ r = (.v (.bool y0)) ∧ H = H2) := by
  unfold impl_SameNumber.wp at h
  refine of_body Try.f172 F.hm Try.func172 rfl Try.call172 (by kernel_rfl) (by simp) ?_
  refine fi_seq ?_
  refine fi_region ?_
  refine so_assign rfl ?_
  refine so_nil ?_
  refine fi_seq ?_
  refine fi_seq ?_
  refine fi_region ?_
  refine so_move rfl ?_
  refine so_move rfl ?_
  refine so_bin rfl rfl ab_fneq ?_
  refine so_move rfl ?_
  replace h := ofT h; rcases h with ⟨c101, h⟩ | ⟨c101, h⟩
  · refine so_gno rfl c101 ?_
    refine so_gno rfl c101 ?_
    refine so_gno rfl c101 ?_
    refine so_pick_t rfl c101 rfl ?_
    refine so_nil ?_
    refine fi_true rfl rfl ?_
    refine fi_seq ?_
    refine fi_region ?_
    refine so_move rfl ?_
    refine so_move rfl ?_
    refine so_bin rfl rfl ab_fneq ?_
    refine so_move rfl ?_
    refine so_gyes rfl c101 ?_
    refine so_move rfl ?_
    refine so_gyes rfl c101 ?_
    refine so_move rfl ?_
    refine so_gyes rfl c101 ?_
    refine so_bin rfl rfl ab_fneq ?_
    refine so_pick_t rfl c101 rfl ?_
    refine so_assign rfl ?_
    refine so_nil ?_
    exact by_ret rfl ⟨_, h, rfl, rfl⟩
  · refine so_gyes rfl c101 ?_
    refine so_move rfl ?_
    refine so_gyes rfl c101 ?_
    refine so_move rfl ?_
    refine so_gyes rfl c101 ?_
    refine so_bin rfl rfl ab_fneq ?_
    refine so_pick_f rfl c101 rfl ?_
    refine so_nil ?_
    replace h := ofT h; rcases h with ⟨c102, h⟩ | ⟨c102, h⟩
    · refine fi_true rfl c102 ?_
      refine fi_seq ?_
      refine fi_region ?_
      refine so_move rfl ?_
      refine so_move rfl ?_
      refine so_bin rfl rfl ab_fneq ?_
      refine so_move rfl ?_
      refine so_gno rfl c101 ?_
      refine so_gno rfl c101 ?_
      refine so_gno rfl c101 ?_
      refine so_pick_f rfl c101 rfl ?_
      refine so_assign rfl ?_
      refine so_nil ?_
      exact by_ret rfl ⟨_, h, rfl, rfl⟩
    · refine fi_false rfl c102 ?_
      refine fi_skip ?_
      refine fi_seq ?_
      refine fi_region ?_
      refine so_move rfl ?_
      refine so_move rfl ?_
      refine so_bin rfl rfl ab_feql ?_
      refine so_move rfl ?_
      replace h := ofT h; rcases h with ⟨c103, h⟩ | ⟨c103, h⟩
      · refine so_gyes rfl c103 ?_
        refine so_move rfl ?_
        refine so_gyes rfl c103 ?_
        refine sv_ffw rfl F172.us25 F172.in32 F172.fl32 ?_
        refine so_gyes rfl c103 ?_
        refine sv_callS (math_Signbit_ok (widen a0) hs  _ h) (fun _ _ ⟨_, _, _, e⟩ => e) rfl rfl ?_
        clear h
        rintro _ _ ⟨y104, h, rfl, rfl⟩
        refine so_gyes rfl c103 ?_
        refine so_move rfl ?_
        refine so_gyes rfl c103 ?_
        refine sv_ffw rfl F172.us25 F172.in32 F172.fl32 ?_
        refine so_gyes rfl c103 ?_
        refine sv_callS (math_Signbit_ok (widen a1) hs  _ h) (fun _ _ ⟨_, _, _, e⟩ => e) rfl rfl ?_
        clear h
        rintro _ _ ⟨y106, h, rfl, rfl⟩
        refine so_gyes rfl c103 ?_
        refine so_bin rfl rfl (ab_beql F172.tb4) ?_
        refine so_pick_t rfl c103 rfl ?_
        refine so_assign rfl ?_
        refine so_nil ?_
        exact by_ret rfl ⟨_, h, rfl, rfl⟩
      · refine so_gno rfl c103 ?_
        refine so_gno rfl c103 ?_
        refine so_gno rfl c103 ?_
        refine so_gno rfl c103 ?_
        refine so_gno rfl c103 ?_
        refine so_gno rfl c103 ?_
        refine so_gno rfl c103 ?_
        refine so_pick_f rfl c103 rfl ?_
        refine so_assign rfl ?_
        refine so_nil ?_
        exact by_ret rfl ⟨_, h, rfl, rfl⟩

end Go.Proofs.Ytpeijfnfffogeaa.G

namespace Go.Proofs.Ytpeijfnfffogeaa.G
open Go Go.Ab Go.Proofs Go.Proofs.Ytpeijfnfffogeaa
set_option maxRecDepth 100000
set_option linter.unusedVariables false
set_option linter.unusedSimpArgs false
set_option maxHeartbeats 1000000
theorem F92.ag25 : tagg Try.prog 25 = some false := by kernel_rfl
theorem F92.ti37 : (telem Try.prog 37).isSome = true := by kernel_rfl
theorem F92.tl37 : (telem Try.prog 37).bind (tsz Try.prog) = some 1 := by kernel_rfl
theorem impl_sameNumbers_ok {fr : List Pc} {H : Heap} (v0 : AV) (l0 : List (Nat)) (v1 : AV) (l1 : List (Nat)) (hs : Sep H (fr)) (g0 : ∀ H, Sep H fr → Shows H v0 1 (enc (eFlt .f32) l0)) (g1 : ∀ H, Sep H fr → Shows H v1 1 (enc (eFlt .f32) l1)) (K : Bool → Prop) (h : impl_sameNumbers.wp l0 l1 K) : OkQ Try.prog 92 [(.v v0), (.v v1)] H (fun r H2 => ∃ (y0 : Bool), K y0 ∧ r = (.v (.bool y0)) ∧ H = H2) := by
  unfold impl_sameNumbers.wp at h
  refine of_body Try.f92 F.hm Try.func92 rfl Try.call92 (by kernel_rfl) (by simp) ?_
  refine fi_seq ?_
  refine fi_region ?_
  refine so_assign rfl ?_
  refine so_nil ?_
  refine fi_seq ?_
  refine fi_seq ?_
  refine fi_region ?_
  refine so_move rfl ?_
  refine sv_len (g0 _ hs) (fun _ => rfl) (by decide) rfl F92.ti37 ?_
  refine so_move rfl ?_
  refine sv_len (g1 _ hs) (fun _ => rfl) (by decide) rfl F92.ti37 ?_
  refine so_bin rfl rfl ab_neq ?_
  refine so_nil ?_
  replace h := ofP h; rcases h with ⟨c101, h⟩ | ⟨c101, h⟩
  · refine fi_false rfl (not_f (decide_eq_true c101)) ?_
    refine fi_skip ?_
    refine fi_seq ?_
    refine fi_seq ?_
    refine fi_region ?_
    refine so_move rfl ?_
    refine sv_len (g0 _ hs) (fun _ => rfl) (by decide) rfl F92.ti37 ?_
    refine so_move rfl ?_
    refine so_nil ?_
    refine fi_block ?_
    refine fi_loop ?_
    refine fi_at [(0, (.v v0)), (1, (.v v1)), (12, (.v (.int .i64 (l0.length : Int)))), (13, (.v (.int .i64 (0 : Int))))] ⟨rfl, rfl, rfl, rfl, trivial⟩ ?_
    refine h (fun (x103 : Int) => ∀ (s : Nat → TV), Fin _ _ (updL s [(0, (.v v0)), (1, (.v v1)), (12, (.v (.int .i64 (l0.length : Int)))), (13, (.v (.int .i64 x103)))]) _ _) ?_ _
    intro x103 h s110
    refine fi_inLoop ?_
    refine fi_seq ?_
    refine fi_region ?_
    refine so_bin rfl rfl ab_lss ?_
    refine so_nil ?_
    refine fi_seq ?_
    replace h := ofP h; rcases h with ⟨c104, h⟩ | ⟨c104, h⟩
    · refine fi_true rfl (decide_eq_true c104) ?_
      refine fi_skip ?_
      refine fi_seq ?_
      refine fi_block ?_
      refine fi_seq ?_
      refine fi_region ?_
      refine so_move rfl ?_
      refine so_assign rfl ?_
      refine so_nil ?_
      refine fi_seq ?_
      refine fi_region ?_
      refine so_move rfl ?_
      refine so_move rfl ?_
      obtain ⟨c105, h⟩ := h
      refine sv_idx (g0 _ hs) c105 (fun _ => rfl) (by decide) rfl rfl F92.tl37 ?_
      refine sv_cell (g0 _ hs) c105 (0 : Nat) 0 (fun x => (AV.flt .f32 x)) (fun _ => rfl) (fun _ => rfl) rfl F92.ag25 ?_
      refine so_move rfl ?_
      refine so_move rfl ?_
      obtain ⟨c106, h⟩ := h
      refine sv_idx (g1 _ hs) c106 (fun _ => rfl) (by decide) rfl rfl F92.tl37 ?_
      refine sv_cell (g1 _ hs) c106 (0 : Nat) 0 (fun x => (AV.flt .f32 x)) (fun _ => rfl) (fun _ => rfl) rfl F92.ag25 ?_
      refine sv_callS (impl_SameNumber_ok (l0.getD (x103).toNat (0 : Nat)) (l1.getD (x103).toNat (0 : Nat)) hs  _ h) (fun _ _ ⟨_, _, _, e⟩ => e) rfl rfl ?_
      clear h
      rintro _ _ ⟨y107, h, rfl, rfl⟩
      refine so_un rfl au_not ?_
      refine so_nil ?_
      replace h := ofT h; rcases h with ⟨c109, h⟩ | ⟨c109, h⟩
      · refine fi_false rfl (not_f c109) ?_
        refine fi_skip ?_
        refine fi_inBlock ?_
        refine fi_region ?_
        refine so_bin rfl rfl ab_add ?_
        refine so_move rfl ?_
        refine so_nil ?_
        exact fi_at [(0, (.v v0)), (1, (.v v1)), (12, (.v (.int .i64 (l0.length : Int)))), (13, (.v (.int .i64 (IntKind.i64.wrap (x103 + (1 : Int))))))] ⟨rfl, rfl, rfl, rfl, trivial⟩ (h _)
      · refine fi_true rfl (not_t c109) ?_
        refine fi_seq ?_
        refine fi_region ?_
        refine so_assign rfl ?_
        refine so_nil ?_
        exact by_ret rfl ⟨_, h, rfl, rfl⟩
    · refine fi_false rfl (decide_eq_false c104) ?_
      refine fi_exit rfl ?_
      refine fi_seq ?_
      refine fi_region ?_
      refine so_assign rfl ?_
      refine so_nil ?_
      exact by_ret rfl ⟨_, h, rfl, rfl⟩
  · refine fi_true rfl (not_t (decide_eq_false c101)) ?_
    refine fi_seq ?_
    refine fi_region ?_
    refine so_assign rfl ?_
    refine so_nil ?_
    exact by_ret rfl ⟨_, h, rfl, rfl⟩

end Go.Proofs.Ytpeijfnfffogeaa.G

namespace Go.Proofs.Ytpeijfnfffogeaa.G
open Go Go.Ab Go.Proofs Go.Proofs.Ytpeijfnfffogeaa
set_option maxRecDepth 100000
set_option linter.unusedVariables false
set_option linter.unusedSimpArgs false
set_option maxHeartbeats 1000000
theorem F93.ag25 : tagg Try.prog 25 = some false := by kernel_rfl
theorem F93.ag37 : tagg Try.prog 37 = some false := by kernel_rfl
theorem F93.fd49_0 : tfield Try.prog 49 0 = some (0, 1, false) := by kernel_rfl
theorem F93.fd49_1 : tfield Try.prog 49 1 = some (1, 1, false) := by kernel_rfl
theorem F93.inf49 : (Try.prog.info? 49).isSome = true := by kernel_rfl
theorem impl_SameScheme_ok {fr : List Pc} {H : Heap} (v0 : AV) (l0 : List (Nat)) (a1 : Nat) (v2 : AV) (l2 : List (Nat)) (a3 : Nat) (hs : Sep H (fr)) (g0 : ∀ H, Sep H fr → Shows H v0 1 (enc (eFlt .f32) l0)) (g2 : ∀ H, Sep H fr → Shows H v2 1 (enc (eFlt .f32) l2)) (K : Bool → Prop) (h : impl_SameScheme.wp l0 a1 l2 a3 K) : OkQ Try.prog 93 [(.g [v0, (.flt .f32 a1)]), (.g [v2, (.flt .f32 a3)])] H (fun r H2 => ∃ (y0 : Bool), K y0 ∧ r = (.v (.bool y0)) ∧ Sep H2 (fr)) := by
  unfold impl_SameScheme.wp at h
  refine of_body Try.f93 F.hm Try.func93 rfl Try.call93 (by kernel_rfl) (by simp) ?_
  refine fi_seq ?_
  refine fi_region ?_
  refine sv_box hs rfl (c := [v0, (.flt .f32 a1)]) rfl F93.inf49 (stc (g0 _ hs).stor (stc rfl stn)) nofun (fun id101 H102 hs => ?_)
  refine sv_box hs rfl (c := [v2, (.flt .f32 a3)]) rfl F93.inf49 (stc (g2 _ hs.tl).stor (stc rfl stn)) nofun (fun id104 H105 hs => ?_)
  refine so_assign rfl ?_
  refine so_nil ?_
  refine fi_seq ?_
  refine fi_region ?_
  refine so_fieldAddr rfl F93.fd49_0 ?_
  refine sv_ld hs 1 rfl rfl rfl F93.ag37 ?_
  refine so_fieldAddr rfl F93.fd49_0 ?_
  refine sv_ld hs 0 rfl rfl rfl F93.ag37 ?_
  refine sv_callS (impl_sameNumbers_ok v0 l0 v2 l2 hs (fun _ hs => (g0 _ hs.tl.tl)) (fun _ hs => (g2 _ hs.tl.tl)) _ h) (fun _ _ ⟨_, _, _, e⟩ => e) rfl rfl ?_
  clear h
  rintro _ _ ⟨y107, h, rfl, rfl⟩
  refine so_move rfl ?_
  replace h := ofT h; rcases h with ⟨c109, h⟩ | ⟨c109, h⟩
  · refine so_gyes rfl c109 ?_
    refine so_fieldAddr rfl F93.fd49_1 ?_
    refine so_gyes rfl c109 ?_
    refine sv_ld hs 1 rfl rfl rfl F93.ag25 ?_
    refine so_gyes rfl c109 ?_
    refine so_fieldAddr rfl F93.fd49_1 ?_
    refine so_gyes rfl c109 ?_
    refine sv_ld hs 0 rfl rfl rfl F93.ag25 ?_
    refine so_gyes rfl c109 ?_
    refine sv_callS (impl_SameNumber_ok a1 a3 hs  _ h) (fun _ _ ⟨_, _, _, e⟩ => e) rfl rfl ?_
    clear h
    rintro _ _ ⟨y110, h, rfl, rfl⟩
    refine so_pick_t rfl c109 rfl ?_
    refine so_assign rfl ?_
    refine so_nil ?_
    exact by_ret rfl ⟨_, h, rfl, (Sep.del 0 (Sep.del 0 hs))⟩
  · refine so_gno rfl c109 ?_
    refine so_gno rfl c109 ?_
    refine so_gno rfl c109 ?_
    refine so_gno rfl c109 ?_
    refine so_gno rfl c109 ?_
    refine so_pick_f rfl c109 rfl ?_
    refine so_assign rfl ?_
    refine so_nil ?_
    exact by_ret rfl ⟨_, h, rfl, (Sep.del 0 (Sep.del 0 hs))⟩

end Go.Proofs.Ytpeijfnfffogeaa.G

namespace Go.Proofs.Ytpeijfnfffogeaa.G
open Go Go.Ab Go.Proofs Go.Proofs.Ytpeijfnfffogeaa
set_option maxRecDepth 100000
set_option linter.unusedVariables false
set_option linter.unusedSimpArgs false
set_option maxHeartbeats 1000000
theorem F94.ag2 : tagg Try.prog 2 = some false := by kernel_rfl
theorem F94.ag37 : tagg Try.prog 37 = some false := by kernel_rfl
theorem F94.fd50_0 : tfield Try.prog 50 0 = some (0, 1, false) := by kernel_rfl
theorem F94.fd50_1 : tfield Try.prog 50 1 = some (1, 1, false) := by kernel_rfl
theorem F94.fd50_2 : tfield Try.prog 50 2 = some (2, 1, false) := by kernel_rfl
theorem F94.inf50 : (Try.prog.info? 50).isSome = true := by kernel_rfl
theorem impl_SamePicture_ok {fr : List Pc} {H : Heap} (a0 : Int) (a1 : Int) (v2 : AV) (l2 : List (Nat)) (a3 : Int) (a4 : Int) (v5 : AV) (l5 : List (Nat)) (hs : Sep H (fr)) (g2 : ∀ H, Sep H fr → Shows H v2 1 (enc (eFlt .f32) l2)) (g5 : ∀ H, Sep H fr → Shows H v5 1 (enc (eFlt .f32) l5)) (K : Bool → Prop) (h : impl_SamePicture.wp a0 a1 l2 a3 a4 l5 K) : OkQ Try.prog 94 [(.g [(.int .i64 a0), (.int .i64 a1), v2]), (.g [(.int .i64 a3), (.int .i64 a4), v5])] H (fun r H2 => ∃ (y0 : Bool), K y0 ∧ r = (.v (.bool y0)) ∧ Sep H2 (fr)) := by
  unfold impl_SamePicture.wp at h
  refine of_body Try.f94 F.hm Try.func94 rfl Try.call94 (by kernel_rfl) (by simp) ?_
  refine fi_seq ?_
  refine fi_region ?_
  refine sv_box hs rfl (c := [(.int .i64 a0), (.int .i64 a1), v2]) rfl F94.inf50 (stc rfl (stc rfl (stc (g2 _ hs).stor stn))) nofun (fun id101 H102 hs => ?_)
  refine sv_box hs rfl (c := [(.int .i64 a3), (.int .i64 a4), v5]) rfl F94.inf50 (stc rfl (stc rfl (stc (g5 _ hs.tl).stor stn))) nofun (fun id104 H105 hs => ?_)
  refine so_assign rfl ?_
  refine so_nil ?_
  refine fi_seq ?_
  refine fi_region ?_
  refine so_fieldAddr rfl F94.fd50_0 ?_
  refine sv_ld hs 1 rfl rfl rfl F94.ag2 ?_
  refine so_fieldAddr rfl F94.fd50_0 ?_
  refine sv_ld hs 0 rfl rfl rfl F94.ag2 ?_
  refine so_bin rfl rfl ab_eql ?_
  refine so_move rfl ?_
  replace h := ofP h; rcases h with ⟨c107, h⟩ | ⟨c107, h⟩
  · refine so_gyes rfl (decide_eq_true c107) ?_
    refine so_fieldAddr rfl F94.fd50_1 ?_
    refine so_gyes rfl (decide_eq_true c107) ?_
    refine sv_ld hs 1 rfl rfl rfl F94.ag2 ?_
    refine so_gyes rfl (decide_eq_true c107) ?_
    refine so_fieldAddr rfl F94.fd50_1 ?_
    refine so_gyes rfl (decide_eq_true c107) ?_
    refine sv_ld hs 0 rfl rfl rfl F94.ag2 ?_
    refine so_gyes rfl (decide_eq_true c107) ?_
    refine so_bin rfl rfl ab_eql ?_
    refine so_pick_t rfl (decide_eq_true c107) rfl ?_
    refine so_move rfl ?_
    replace h := ofP h; rcases h with ⟨c108, h⟩ | ⟨c108, h⟩
    · refine so_gyes rfl (decide_eq_true c108) ?_
      refine so_fieldAddr rfl F94.fd50_2 ?_
      refine so_gyes rfl (decide_eq_true c108) ?_
      refine sv_ld hs 1 rfl rfl rfl F94.ag37 ?_
      refine so_gyes rfl (decide_eq_true c108) ?_
      refine so_fieldAddr rfl F94.fd50_2 ?_
      refine so_gyes rfl (decide_eq_true c108) ?_
      refine sv_ld hs 0 rfl rfl rfl F94.ag37 ?_
      refine so_gyes rfl (decide_eq_true c108) ?_
      refine sv_callS (impl_sameNumbers_ok v2 l2 v5 l5 hs (fun _ hs => (g2 _ hs.tl.tl)) (fun _ hs => (g5 _ hs.tl.tl)) _ h) (fun _ _ ⟨_, _, _, e⟩ => e) rfl rfl ?_
      clear h
      rintro _ _ ⟨y109, h, rfl, rfl⟩
      refine so_pick_t rfl (decide_eq_true c108) rfl ?_
      refine so_assign rfl ?_
      refine so_nil ?_
      exact by_ret rfl ⟨_, h, rfl, (Sep.del 0 (Sep.del 0 hs))⟩
    · refine so_gno rfl (decide_eq_false c108) ?_
      refine so_gno rfl (decide_eq_false c108) ?_
      refine so_gno rfl (decide_eq_false c108) ?_
      refine so_gno rfl (decide_eq_false c108) ?_
      refine so_gno rfl (decide_eq_false c108) ?_
      refine so_pick_f rfl (decide_eq_false c108) rfl ?_
      refine so_assign rfl ?_
      refine so_nil ?_
      exact by_ret rfl ⟨_, h, rfl, (Sep.del 0 (Sep.del 0 hs))⟩
  · refine so_gno rfl (decide_eq_false c107) ?_
    refine so_gno rfl (decide_eq_false c107) ?_
    refine so_gno rfl (decide_eq_false c107) ?_
    refine so_gno rfl (decide_eq_false c107) ?_
    refine so_gno rfl (decide_eq_false c107) ?_
    refine so_pick_f rfl (decide_eq_false c107) rfl ?_
    refine so_move rfl ?_
    refine so_gno rfl rfl ?_
    refine so_gno rfl rfl ?_
    refine so_gno rfl rfl ?_
    refine so_gno rfl rfl ?_
    refine so_gno rfl rfl ?_
    refine so_pick_f rfl rfl rfl ?_
    refine so_assign rfl ?_
    refine so_nil ?_
    exact by_ret rfl ⟨_, h, rfl, (Sep.del 0 (Sep.del 0 hs))⟩

end Go.Proofs.Ytpeijfnfffogeaa.G

namespace Go.Proofs.Ytpeijfnfffogeaa.G
open Go Go.Ab Go.Proofs Go.Proofs.Ytpeijfnfffogeaa
set_option maxRecDepth 100000
set_option linter.unusedVariables false
set_option linter.unusedSimpArgs false
set_option maxHeartbeats 1000000
theorem F95.ag2 : tagg Try.prog 2 = some false := by kernel_rfl
theorem F95.ag4 : tagg Try.prog 4 = some false := by kernel_rfl
theorem F95.ag42 : tagg Try.prog 42 = some false := by kernel_rfl
theorem F95.fd51_0 : tfield Try.prog 51 0 = some (0, 1, false) := by kernel_rfl
theorem F95.fd51_1 : tfield Try.prog 51 1 = some (1, 1, false) := by kernel_rfl
theorem F95.fd51_2 : tfield Try.prog 51 2 = some (2, 1, false) := by kernel_rfl
theorem F95.inf51 : (Try.prog.info? 51).isSome = true := by kernel_rfl
theorem F95.tb4 : tbool Try.prog 4 = true := by kernel_rfl
theorem F95.ti42 : (telem Try.prog 42).isSome = true := by kernel_rfl
theorem F95.tl42 : (telem Try.prog 42).bind (tsz Try.prog) = some 1 := by kernel_rfl
theorem impl_SameCoded_ok {fr : List Pc} {H : Heap} (a0 : Int) (a1 : Int) (v2 : AV) (l2 : List (Bool)) (a3 : Int) (a4 : Int) (v5 : AV) (l5 : List (Bool)) (hs : Sep H (fr)) (g2 : ∀ H, Sep H fr → Shows H v2 1 (enc eBool l2)) (g5 : ∀ H, Sep H fr → Shows H v5 1 (enc eBool l5)) (K : Bool → Prop) (h : impl_SameCoded.wp a0 a1 l2 a3 a4 l5 K) : OkQ Try.prog 95 [(.g [(.int .i64 a0), (.int .i64 a1), v2]), (.g [(.int .i64 a3), (.int .i64 a4), v5])] H (fun r H2 => ∃ (y0 : Bool), K y0 ∧ r = (.v (.bool y0)) ∧ Sep H2 (fr)) := by
  unfold impl_SameCoded.wp at h
  refine of_body Try.f95 F.hm Try.func95 rfl Try.call95 (by kernel_rfl) (by simp) ?_
  refine fi_seq ?_
  refine fi_region ?_
  refine sv_box hs rfl (c := [(.int .i64 a0), (.int .i64 a1), v2]) rfl F95.inf51 (stc rfl (stc rfl (stc (g2 _ hs).stor stn))) nofun (fun id101 H102 hs => ?_)
  refine sv_box hs rfl (c := [(.int .i64 a3), (.int .i64 a4), v5]) rfl F95.inf51 (stc rfl (stc rfl (stc (g5 _ hs.tl).stor stn))) nofun (fun id104 H105 hs => ?_)
  refine so_assign rfl ?_
  refine so_nil ?_
  refine fi_seq ?_
  refine fi_seq ?_
  refine fi_region ?_
  refine so_fieldAddr rfl F95.fd51_0 ?_
  refine sv_ld hs 1 rfl rfl rfl F95.ag2 ?_
  refine so_fieldAddr rfl F95.fd51_0 ?_
  refine sv_ld hs 0 rfl rfl rfl F95.ag2 ?_
  refine so_bin rfl rfl ab_neq ?_
  refine so_move rfl ?_
  replace h := ofP h; rcases h with ⟨c107, h⟩ | ⟨c107, h⟩
  · refine so_gyes rfl (not_f (decide_eq_true c107)) ?_
    refine so_fieldAddr rfl F95.fd51_1 ?_
    refine so_gyes rfl (not_f (decide_eq_true c107)) ?_
    refine sv_ld hs 1 rfl rfl rfl F95.ag2 ?_
    refine so_gyes rfl (not_f (decide_eq_true c107)) ?_
    refine so_fieldAddr rfl F95.fd51_1 ?_
    refine so_gyes rfl (not_f (decide_eq_true c107)) ?_
    refine sv_ld hs 0 rfl rfl rfl F95.ag2 ?_
    refine so_gyes rfl (not_f (decide_eq_true c107)) ?_
    refine so_bin rfl rfl ab_neq ?_
    refine so_pick_f rfl (not_f (decide_eq_true c107)) rfl ?_
    refine so_move rfl ?_
    replace h := ofP h; rcases h with ⟨c108, h⟩ | ⟨c108, h⟩
    · refine so_gyes rfl (not_f (decide_eq_true c108)) ?_
      refine so_fieldAddr rfl F95.fd51_2 ?_
      refine so_gyes rfl (not_f (decide_eq_true c108)) ?_
      refine sv_ld hs 1 rfl rfl rfl F95.ag42 ?_
      refine so_gyes rfl (not_f (decide_eq_true c108)) ?_
      refine sv_len (g2 _ hs.tl.tl) (fun _ => rfl) (by decide) rfl F95.ti42 ?_
      refine so_gyes rfl (not_f (decide_eq_true c108)) ?_
      refine so_fieldAddr rfl F95.fd51_2 ?_
      refine so_gyes rfl (not_f (decide_eq_true c108)) ?_
      refine sv_ld hs 0 rfl rfl rfl F95.ag42 ?_
      refine so_gyes rfl (not_f (decide_eq_true c108)) ?_
      refine sv_len (g5 _ hs.tl.tl) (fun _ => rfl) (by decide) rfl F95.ti42 ?_
      refine so_gyes rfl (not_f (decide_eq_true c108)) ?_
      refine so_bin rfl rfl ab_neq ?_
      refine so_pick_f rfl (not_f (decide_eq_true c108)) rfl ?_
      refine so_nil ?_
      replace h := ofP h; rcases h with ⟨c109, h⟩ | ⟨c109, h⟩
      · refine fi_false rfl (not_f (decide_eq_true c109)) ?_
        refine fi_skip ?_
        refine fi_seq ?_
        refine fi_seq ?_
        refine fi_region ?_
        refine so_fieldAddr rfl F95.fd51_2 ?_
        refine sv_ld hs 1 rfl rfl rfl F95.ag42 ?_
        refine sv_len (g2 _ hs.tl.tl) (fun _ => rfl) (by decide) rfl F95.ti42 ?_
        refine so_move rfl ?_
        refine so_nil ?_
        refine fi_block ?_
        refine fi_loop ?_
        replace hs := hs.del 1
        refine fi_at [(3, (.v (.ptr id104 0))), (29, (.v v2)), (30, (.v (.int .i64 (l2.length : Int)))), (31, (.v (.int .i64 (0 : Int))))] ⟨rfl, rfl, rfl, rfl, trivial⟩ ?_
        refine h (fun (x111 : Int) => ∀ (s : Nat → TV) (H : Heap), Sep H (Pc.box id104 [(.int .i64 a3), (.int .i64 a4), v5] :: fr) → Fin _ _ (updL s [(3, (.v (.ptr id104 0))), (29, (.v v2)), (30, (.v (.int .i64 (l2.length : Int)))), (31, (.v (.int .i64 x111)))]) H _) ?_ _ _ hs
        intro x111 h s116 H117 hs
        refine fi_inLoop ?_
        refine fi_seq ?_
        refine fi_region ?_
        refine so_bin rfl rfl ab_lss ?_
        refine so_nil ?_
        refine fi_seq ?_
        replace h := ofP h; rcases h with ⟨c112, h⟩ | ⟨c112, h⟩
        · refine fi_true rfl (decide_eq_true c112) ?_
          refine fi_skip ?_
          refine fi_seq ?_
          refine fi_block ?_
          refine fi_seq ?_
          refine fi_region ?_
          refine so_move rfl ?_
          obtain ⟨c113, h⟩ := h
          refine sv_idx (g2 _ hs.tl) c113 (fun _ => rfl) (by decide) rfl rfl F95.tl42 ?_
          refine sv_cell (g2 _ hs.tl) c113 false 0 (fun x => (AV.bool x)) (fun _ => rfl) (fun _ => rfl) rfl F95.ag4 ?_
          refine so_assign rfl ?_
          refine so_assign rfl ?_
          refine so_nil ?_
          refine fi_seq ?_
          refine fi_region ?_
          refine so_move rfl ?_
          refine so_fieldAddr rfl F95.fd51_2 ?_
          refine sv_ld hs 0 rfl rfl rfl F95.ag42 ?_
          refine so_move rfl ?_
          obtain ⟨c114, h⟩ := h
          refine sv_idx (g5 _ hs.tl) c114 (fun _ => rfl) (by decide) rfl rfl F95.tl42 ?_
          refine sv_cell (g5 _ hs.tl) c114 false 0 (fun x => (AV.bool x)) (fun _ => rfl) (fun _ => rfl) rfl F95.ag4 ?_
          refine so_bin rfl rfl (ab_bneq F95.tb4) ?_
          refine so_nil ?_
          replace h := ofT h; rcases h with ⟨c115, h⟩ | ⟨c115, h⟩
          · refine fi_false rfl (not_f c115) ?_
            refine fi_skip ?_
            refine fi_inBlock ?_
            refine fi_region ?_
            refine so_bin rfl rfl ab_add ?_
            refine so_move rfl ?_
            refine so_nil ?_
            exact fi_at [(3, (.v (.ptr id104 0))), (29, (.v v2)), (30, (.v (.int .i64 (l2.length : Int)))), (31, (.v (.int .i64 (IntKind.i64.wrap (x111 + (1 : Int))))))] ⟨rfl, rfl, rfl, rfl, trivial⟩ (h _ _  hs)
          · refine fi_true rfl (not_t c115) ?_
            refine fi_seq ?_
            refine fi_region ?_
            refine so_assign rfl ?_
            refine so_nil ?_
            exact by_ret rfl ⟨_, h, rfl, (Sep.del 0 hs)⟩
        · refine fi_false rfl (decide_eq_false c112) ?_
          refine fi_exit rfl ?_
          refine fi_seq ?_
          refine fi_region ?_
          refine so_assign rfl ?_
          refine so_nil ?_
          exact by_ret rfl ⟨_, h, rfl, (Sep.del 0 hs)⟩
      · refine fi_true rfl (not_t (decide_eq_false c109)) ?_
        refine fi_seq ?_
        refine fi_region ?_
        refine so_assign rfl ?_
        refine so_nil ?_
        exact by_ret rfl ⟨_, h, rfl, (Sep.del 0 (Sep.del 0 hs))⟩
    · refine so_gno rfl (not_t (decide_eq_false c108)) ?_
      refine so_gno rfl (not_t (decide_eq_false c108)) ?_
      refine so_gno rfl (not_t (decide_eq_false c108)) ?_
      refine so_gno rfl (not_t (decide_eq_false c108)) ?_
      refine so_gno rfl (not_t (decide_eq_false c108)) ?_
      refine so_gno rfl (not_t (decide_eq_false c108)) ?_
      refine so_gno rfl (not_t (decide_eq_false c108)) ?_
      refine so_pick_t rfl (not_t (decide_eq_false c108)) rfl ?_
      refine so_nil ?_
      refine fi_true rfl rfl ?_
      refine fi_seq ?_
      refine fi_region ?_
      refine so_assign rfl ?_
      refine so_nil ?_
      exact by_ret rfl ⟨_, h, rfl, (Sep.del 0 (Sep.del 0 hs))⟩
  · refine so_gno rfl (not_t (decide_eq_false c107)) ?_
    refine so_gno rfl (not_t (decide_eq_false c107)) ?_
    refine so_gno rfl (not_t (decide_eq_false c107)) ?_
    refine so_gno rfl (not_t (decide_eq_false c107)) ?_
    refine so_gno rfl (not_t (decide_eq_false c107)) ?_
    refine so_pick_t rfl (not_t (decide_eq_false c107)) rfl ?_
    refine so_move rfl ?_
    refine so_gno rfl rfl ?_
    refine so_gno rfl rfl ?_
    refine so_gno rfl rfl ?_
    refine so_gno rfl rfl ?_
    refine so_gno rfl rfl ?_
    refine so_gno rfl rfl ?_
    refine so_gno rfl rfl ?_
    refine so_pick_t rfl rfl rfl ?_
    refine so_nil ?_
    refine fi_true rfl rfl ?_
    refine fi_seq ?_
    refine fi_region ?_
    refine so_assign rfl ?_
    refine so_nil ?_
    exact by_ret rfl ⟨_, h, rfl, (Sep.del 0 (Sep.del 0 hs))⟩

end Go.Proofs.Ytpeijfnfffogeaa.G

namespace Go.Proofs.Ytpeijfnfffogeaa.G
open Go Go.Ab Go.Proofs Go.Proofs.Ytpeijfnfffogeaa
set_option maxRecDepth 100000
set_option linter.unusedVariables false
set_option linter.unusedSimpArgs false
set_option maxHeartbeats 1000000
theorem F25.ag37 : tagg Try.prog 37 = some false := by kernel_rfl
theorem F25.ag49 : tagg Try.prog 49 = some true := by kernel_rfl
theorem F25.ag50 : tagg Try.prog 50 = some true := by kernel_rfl
theorem F25.ag51 : tagg Try.prog 51 = some true := by kernel_rfl
theorem F25.fd53_0 : tfield Try.prog 53 0 = some (0, 1, false) := by kernel_rfl
theorem F25.fd53_1 : tfield Try.prog 53 1 = some (1, 2, true) := by kernel_rfl
theorem F25.fd53_2 : tfield Try.prog 53 2 = some (3, 3, true) := by kernel_rfl
theorem F25.fd53_3 : tfield Try.prog 53 3 = some (6, 3, true) := by kernel_rfl
theorem F25.inf53 : (Try.prog.info? 53).isSome = true := by kernel_rfl
theorem F25.sz49 : tsz Try.prog 49 = some 2 := by kernel_rfl
theorem F25.sz50 : tsz Try.prog 50 = some 3 := by kernel_rfl
theorem F25.sz51 : tsz Try.prog 51 = some 3 := by kernel_rfl
theorem impl_SameDesk_ok {fr : List Pc} {H : Heap} (v0 : AV) (l0 : List (Nat)) (v1 : AV) (l1 : List (Nat)) (a2 : Nat) (a3 : Int) (a4 : Int) (v5 : AV) (l5 : List (Nat)) (a6 : Int) (a7 : Int) (v8 : AV) (l8 : List (Bool)) (v9 : AV) (l9 : List (Nat)) (v10 : AV) (l10 : List (Nat)) (a11 : Nat) (a12 : Int) (a13 : Int) (v14 : AV) (l14 : List (Nat)) (a15 : Int) (a16 : Int) (v17 : AV) (l17 : List (Bool)) (hs : Sep H (fr)) (g0 : ∀ H, Sep H fr → Shows H v0 1 (enc (eFlt .f32) l0)) (g1 : ∀ H, Sep H fr → Shows H v1 1 (enc (eFlt .f32) l1)) (g5 : ∀ H, Sep H fr → Shows H v5 1 (enc (eFlt .f32) l5)) (g8 : ∀ H, Sep H fr → Shows H v8 1 (enc eBool l8)) (g9 : ∀ H, Sep H fr → Shows H v9 1 (enc (eFlt .f32) l9)) (g10 : ∀ H, Sep H fr → Shows H v10 1 (enc (eFlt .f32) l10)) (g14 : ∀ H, Sep H fr → Shows H v14 1 (enc (eFlt .f32) l14)) (g17 : ∀ H, Sep H fr → Shows H v17 1 (enc eBool l17)) (K : Bool → Prop) (h : impl_SameDesk.wp l0 l1 a2 a3 a4 l5 a6 a7 l8 l9 l10 a11 a12 a13 l14 a15 a16 l17 K) : OkQ Try.prog 25 [(.g [v0, v1, (.flt .f32 a2), (.int .i64 a3), (.int .i64 a4), v5, (.int .i64 a6), (.int .i64 a7), v8]), (.g [v9, v10, (.flt .f32 a11), (.int .i64 a12), (.int .i64 a13), v14, (.int .i64 a15), (.int .i64 a16), v17])] H (fun r H2 => ∃ (y0 : Bool), K y0 ∧ r = (.v (.bool y0)) ∧ Sep H2 (fr)) := by
  unfold impl_SameDesk.wp at h
  refine of_body Try.f25 F.hm Try.func25 rfl Try.call25 (by kernel_rfl) (by simp) ?_
  refine fi_seq ?_
  refine fi_region ?_
  refine sv_box hs rfl (c := [v0, v1, (.flt .f32 a2), (.int .i64 a3), (.int .i64 a4), v5, (.int .i64 a6), (.int .i64 a7), v8]) rfl F25.inf53 (stc (g0 _ hs).stor (stc (g1 _ hs).stor (stc rfl (stc rfl (stc rfl (stc (g5 _ hs).stor (stc rfl (stc rfl (stc (g8 _ hs).stor stn))))))))) nofun (fun id101 H102 hs => ?_)
  refine sv_box hs rfl (c := [v9, v10, (.flt .f32 a11), (.int .i64 a12), (.int .i64 a13), v14, (.int .i64 a15), (.int .i64 a16), v17]) rfl F25.inf53 (stc (g9 _ hs.tl).stor (stc (g10 _ hs.tl).stor (stc rfl (stc rfl (stc rfl (stc (g14 _ hs.tl).stor (stc rfl (stc rfl (stc (g17 _ hs.tl).stor stn))))))))) nofun (fun id104 H105 hs => ?_)
  refine so_assign rfl ?_
  refine so_nil ?_
  refine fi_seq ?_
  refine fi_region ?_
  refine so_fieldAddr rfl F25.fd53_0 ?_
  refine sv_ld hs 1 rfl rfl rfl F25.ag37 ?_
  refine so_fieldAddr rfl F25.fd53_0 ?_
  refine sv_ld hs 0 rfl rfl rfl F25.ag37 ?_
  refine sv_callS (impl_sameNumbers_ok v0 l0 v9 l9 hs (fun _ hs => (g0 _ hs.tl.tl)) (fun _ hs => (g9 _ hs.tl.tl)) _ h) (fun _ _ ⟨_, _, _, e⟩ => e) rfl rfl ?_
  clear h
  rintro _ _ ⟨y107, h, rfl, rfl⟩
  refine so_move rfl ?_
  replace h := ofT h; rcases h with ⟨c109, h⟩ | ⟨c109, h⟩
  · refine so_gyes rfl c109 ?_
    refine so_fieldAddr rfl F25.fd53_1 ?_
    refine so_gyes rfl c109 ?_
    refine sv_lds hs 1 rfl rfl (leb rfl) rfl F25.ag49 F25.sz49 ?_
    refine so_gyes rfl c109 ?_
    refine so_fieldAddr rfl F25.fd53_1 ?_
    refine so_gyes rfl c109 ?_
    refine sv_lds hs 0 rfl rfl (leb rfl) rfl F25.ag49 F25.sz49 ?_
    refine so_gyes rfl c109 ?_
    refine sv_call (impl_SameScheme_ok v1 l1 a2 v10 l10 a11 hs (fun _ hs => (g1 _ hs.tl.tl)) (fun _ hs => (g10 _ hs.tl.tl)) _ h) rfl rfl nofun ?_
    clear h hs
    rintro _ H111 ⟨y110, h, rfl, hs⟩
    refine so_pick_t rfl c109 rfl ?_
    refine so_move rfl ?_
    replace h := ofT h; rcases h with ⟨c112, h⟩ | ⟨c112, h⟩
    · refine so_gyes rfl c112 ?_
      refine so_fieldAddr rfl F25.fd53_2 ?_
      refine so_gyes rfl c112 ?_
      refine sv_lds hs 1 rfl rfl (leb rfl) rfl F25.ag50 F25.sz50 ?_
      refine so_gyes rfl c112 ?_
      refine so_fieldAddr rfl F25.fd53_2 ?_
      refine so_gyes rfl c112 ?_
      refine sv_lds hs 0 rfl rfl (leb rfl) rfl F25.ag50 F25.sz50 ?_
      refine so_gyes rfl c112 ?_
      refine sv_call (impl_SamePicture_ok a3 a4 v5 l5 a12 a13 v14 l14 hs (fun _ hs => (g5 _ hs.tl.tl)) (fun _ hs => (g14 _ hs.tl.tl)) _ h) rfl rfl nofun ?_
      clear h hs
      rintro _ H114 ⟨y113, h, rfl, hs⟩
      refine so_pick_t rfl c112 rfl ?_
      refine so_move rfl ?_
      replace h := ofT h; rcases h with ⟨c115, h⟩ | ⟨c115, h⟩
      · refine so_gyes rfl c115 ?_
        refine so_fieldAddr rfl F25.fd53_3 ?_
        refine so_gyes rfl c115 ?_
        refine sv_lds hs 1 rfl rfl (leb rfl) rfl F25.ag51 F25.sz51 ?_
        refine so_gyes rfl c115 ?_
        refine so_fieldAddr rfl F25.fd53_3 ?_
        refine so_gyes rfl c115 ?_
        refine sv_lds hs 0 rfl rfl (leb rfl) rfl F25.ag51 F25.sz51 ?_
        refine so_gyes rfl c115 ?_
        refine sv_call (impl_SameCoded_ok a6 a7 v8 l8 a15 a16 v17 l17 hs (fun _ hs => (g8 _ hs.tl.tl)) (fun _ hs => (g17 _ hs.tl.tl)) _ h) rfl rfl nofun ?_
        clear h hs
        rintro _ H117 ⟨y116, h, rfl, hs⟩
        refine so_pick_t rfl c115 rfl ?_
        refine so_assign rfl ?_
        refine so_nil ?_
        exact by_ret rfl ⟨_, h, rfl, (Sep.del 0 (Sep.del 0 hs))⟩
      · refine so_gno rfl c115 ?_
        refine so_gno rfl c115 ?_
        refine so_gno rfl c115 ?_
        refine so_gno rfl c115 ?_
        refine so_gno rfl c115 ?_
        refine so_pick_f rfl c115 rfl ?_
        refine so_assign rfl ?_
        refine so_nil ?_
        exact by_ret rfl ⟨_, h, rfl, (Sep.del 0 (Sep.del 0 hs))⟩
    · refine so_gno rfl c112 ?_
      refine so_gno rfl c112 ?_
      refine so_gno rfl c112 ?_
      refine so_gno rfl c112 ?_
      refine so_gno rfl c112 ?_
      refine so_pick_f rfl c112 rfl ?_
      refine so_move rfl ?_
      refine so_gno rfl rfl ?_
      refine so_gno rfl rfl ?_
      refine so_gno rfl rfl ?_
      refine so_gno rfl rfl ?_
      refine so_gno rfl rfl ?_
      refine so_pick_f rfl rfl rfl ?_
      refine so_assign rfl ?_
      refine so_nil ?_
      exact by_ret rfl ⟨_, h, rfl, (Sep.del 0 (Sep.del 0 hs))⟩
  · refine so_gno rfl c109 ?_
    refine so_gno rfl c109 ?_
    refine so_gno rfl c109 ?_
    refine so_gno rfl c109 ?_
    refine so_gno rfl c109 ?_
    refine so_pick_f rfl c109 rfl ?_
    refine so_move rfl ?_
    refine so_gno rfl rfl ?_
    refine so_gno rfl rfl ?_
    refine so_gno rfl rfl ?_
    refine so_gno rfl rfl ?_
    refine so_gno rfl rfl ?_
    refine so_pick_f rfl rfl rfl ?_
    refine so_move rfl ?_
    refine so_gno rfl rfl ?_
    refine so_gno rfl rfl ?_
    refine so_gno rfl rfl ?_
    refine so_gno rfl rfl ?_
    refine so_gno rfl rfl ?_
    refine so_pick_f rfl rfl rfl ?_
    refine so_assign rfl ?_
    refine so_nil ?_
    exact by_ret rfl ⟨_, h, rfl, (Sep.del 0 (Sep.del 0 hs))⟩

end Go.Proofs.Ytpeijfnfffogeaa.G

namespace Go.Proofs.Ytpeijfnfffogeaa.G
open Go Go.Ab Go.Proofs Go.Proofs.Ytpeijfnfffogeaa
set_option maxRecDepth 100000
set_option linter.unusedVariables false
set_option linter.unusedSimpArgs false
set_option maxHeartbeats 1000000
theorem F17.tb4 : tbool Try.prog 4 = true := by kernel_rfl
theorem laws_sameFloat_ok {fr : List Pc} {H : Heap} (a0 : Nat) (a1 : Nat) (hs : Sep H (fr))  (K : Bool → Prop) (h : laws_sameFloat.wp a0 a1 K) : OkQ Try.prog 17 [(.v (.flt .f64 a0)), (.v (.flt .f64 a1))] H (fun r H2 => ∃ (y0 : Bool), K y0 ∧ r = (.v (.bool y0)) ∧ H = H2) := by
  unfold laws_sameFloat.wp at h
  refine of_body Try.f17 F.hm Try.func17 rfl Try.call17 (by kernel_rfl) (by simp) ?_
  refine fi_seq ?_
  refine fi_region ?_
  refine so_assign rfl ?_
  refine so_nil ?_
  refine fi_seq ?_
  refine fi_seq ?_
  refine fi_region ?_
  refine so_move rfl ?_
  refine so_move rfl ?_
  refine so_bin rfl rfl ab_fneq ?_
  refine so_move rfl ?_
  replace h := ofT h; rcases h with ⟨c101, h⟩ | ⟨c101, h⟩
  · refine so_gno rfl c101 ?_
    refine so_gno rfl c101 ?_
    refine so_gno rfl c101 ?_
    refine so_pick_t rfl c101 rfl ?_
    refine so_nil ?_
    refine fi_true rfl rfl ?_
    refine fi_seq ?_
    refine fi_region ?_
    refine so_move rfl ?_
    refine so_move rfl ?_
    refine so_bin rfl rfl ab_fneq ?_
    refine so_move rfl ?_
    refine so_gyes rfl c101 ?_
    refine so_move rfl ?_
    refine so_gyes rfl c101 ?_
    refine so_move rfl ?_
    refine so_gyes rfl c101 ?_
    refine so_bin rfl rfl ab_fneq ?_
    refine so_pick_t rfl c101 rfl ?_
    refine so_assign rfl ?_
    refine so_nil ?_
    exact by_ret rfl ⟨_, h, rfl, rfl⟩
  · refine so_gyes rfl c101 ?_
    refine so_move rfl ?_
    refine so_gyes rfl c101 ?_
    refine so_move rfl ?_
    refine so_gyes rfl c101 ?_
    refine so_bin rfl rfl ab_fneq ?_
    refine so_pick_f rfl c101 rfl ?_
    refine so_nil ?_
    replace h := ofT h; rcases h with ⟨c102, h⟩ | ⟨c102, h⟩
    · refine fi_true rfl c102 ?_
      refine fi_seq ?_
      refine fi_region ?_
      refine so_move rfl ?_
      refine so_move rfl ?_
      refine so_bin rfl rfl ab_fneq ?_
      refine so_move rfl ?_
      refine so_gno rfl c101 ?_
      refine so_gno rfl c101 ?_
      refine so_gno rfl c101 ?_
      refine so_pick_f rfl c101 rfl ?_
      refine so_assign rfl ?_
      refine so_nil ?_
      exact by_ret rfl ⟨_, h, rfl, rfl⟩
    · refine fi_false rfl c102 ?_
      refine fi_skip ?_
      refine fi_seq ?_
      refine fi_seq ?_
      refine fi_region ?_
      refine so_move rfl ?_
      refine so_bin rfl rfl ab_feql ?_
      refine so_move rfl ?_
      replace h := ofT h; rcases h with ⟨c103, h⟩ | ⟨c103, h⟩
      · refine so_gyes rfl c103 ?_
        refine so_move rfl ?_
        refine so_gyes rfl c103 ?_
        refine so_bin rfl rfl ab_feql ?_
        refine so_pick_t rfl c103 rfl ?_
        refine so_nil ?_
        replace h := ofT h; rcases h with ⟨c104, h⟩ | ⟨c104, h⟩
        · refine fi_true rfl c104 ?_
          refine fi_seq ?_
          refine fi_region ?_
          refine so_move rfl ?_
          refine so_bin rfl rfl ab_fquo ?_
          refine so_bin rfl rfl ab_fgtr ?_
          refine so_move rfl ?_
          refine so_bin rfl rfl ab_fquo ?_
          refine so_bin rfl rfl ab_fgtr ?_
          refine so_bin rfl rfl (ab_beql F17.tb4) ?_
          refine so_assign rfl ?_
          refine so_nil ?_
          exact by_ret rfl ⟨_, h, rfl, rfl⟩
        · refine fi_false rfl c104 ?_
          refine fi_skip ?_
          refine fi_seq ?_
          refine fi_region ?_
          refine so_move rfl ?_
          refine so_move rfl ?_
          refine so_bin rfl rfl ab_feql ?_
          refine so_assign rfl ?_
          refine so_nil ?_
          exact by_ret rfl ⟨_, h, rfl, rfl⟩
      · refine so_gno rfl c103 ?_
        refine so_gno rfl c103 ?_
        refine so_pick_f rfl c103 rfl ?_
        refine so_nil ?_
        refine fi_false rfl rfl ?_
        refine fi_skip ?_
        refine fi_seq ?_
        refine fi_region ?_
        refine so_move rfl ?_
        refine so_move rfl ?_
        refine so_bin rfl rfl ab_feql ?_
        refine so_assign rfl ?_
        refine so_nil ?_
        exact by_ret rfl ⟨_, h, rfl, rfl⟩

end Go.Proofs.Ytpeijfnfffogeaa.G

namespace Go.Proofs.Ytpeijfnfffogeaa.G
open Go Go.Ab Go.Proofs Go.Proofs.Ytpeijfnfffogeaa
set_option maxRecDepth 100000
set_option linter.unusedVariables false
set_option linter.unusedSimpArgs false
set_option maxHeartbeats 1000000
theorem F47.ag25 : tagg Try.prog 25 = some false := by kernel_rfl
theorem F47.fl32 : tflt Try.prog 32 = some .f64 := by kernel_rfl
theorem F47.in32 : tint Try.prog 32 = none := by kernel_rfl
theorem F47.ti37 : (telem Try.prog 37).isSome = true := by kernel_rfl
theorem F47.tl37 : (telem Try.prog 37).bind (tsz Try.prog) = some 1 := by kernel_rfl
theorem F47.us25 : (Try.prog.underlying 25).isSome = true := by kernel_rfl
theorem laws_eqFloat32S_ok {fr : List Pc} {H : Heap} (v0 : AV) (l0 : List (Nat)) (v1 : AV) (l1 : List (Nat)) (hs : Sep H (fr)) (g0 : ∀ H, Sep H fr → Shows H v0 1 (enc (eFlt .f32) l0)) (g1 : ∀ H, Sep H fr → Shows H v1 1 (enc (eFlt .f32) l1)) (K : Bool → Prop) (h : laws_eqFloat32S.wp l0 l1 K) : OkQ Try.prog 47 [(.v v0), (.v v1)] H (fun r H2 => ∃ (y0 : Bool), K y0 ∧ r = (.v (.bool y0)) ∧ H = H2) := by
  unfold laws_eqFloat32S.wp at h
  refine of_body Try.f47 F.hm Try.func47 rfl Try.call47 (by kernel_rfl) (by simp) ?_
  refine fi_seq ?_
  refine fi_region ?_
  refine so_assign rfl ?_
  refine so_nil ?_
  refine fi_seq ?_
  refine fi_seq ?_
  refine fi_region ?_
  refine so_move rfl ?_
  refine sv_len (g0 _ hs) (fun _ => rfl) (by decide) rfl F47.ti37 ?_
  refine so_move rfl ?_
  refine sv_len (g1 _ hs) (fun _ => rfl) (by decide) rfl F47.ti37 ?_
  refine so_bin rfl rfl ab_neq ?_
  refine so_nil ?_
  replace h := ofP h; rcases h with ⟨c101, h⟩ | ⟨c101, h⟩
  · refine fi_false rfl (not_f (decide_eq_true c101)) ?_
    refine fi_skip ?_
    refine fi_seq ?_
    refine fi_seq ?_
    refine fi_region ?_
    refine so_assign rfl ?_
    refine so_nil ?_
    refine fi_block ?_
    refine fi_loop ?_
    refine fi_at [(0, (.v v0)), (1, (.v v1)), (5, (.v (.int .i64 (0 : Int))))] ⟨rfl, rfl, rfl, trivial⟩ ?_
    refine h (fun (i103 : Int) => ∀ (s : Nat → TV), Fin _ _ (updL s [(0, (.v v0)), (1, (.v v1)), (5, (.v (.int .i64 i103)))]) _ _) ?_ _
    intro i103 h s110
    refine fi_inLoop ?_
    refine fi_seq ?_
    refine fi_seq ?_
    refine fi_region ?_
    refine so_move rfl ?_
    refine so_move rfl ?_
    refine sv_len (g0 _ hs) (fun _ => rfl) (by decide) rfl F47.ti37 ?_
    refine so_bin rfl rfl ab_lss ?_
    refine so_nil ?_
    replace h := ofP h; rcases h with ⟨c104, h⟩ | ⟨c104, h⟩
    · refine fi_true rfl (decide_eq_true c104) ?_
      refine fi_skip ?_
      refine fi_seq ?_
      refine fi_block ?_
      refine fi_seq ?_
      refine fi_region ?_
      refine so_move rfl ?_
      refine so_move rfl ?_
      obtain ⟨c105, h⟩ := h
      refine sv_idx (g0 _ hs) c105 (fun _ => rfl) (by decide) rfl rfl F47.tl37 ?_
      refine sv_cell (g0 _ hs) c105 (0 : Nat) 0 (fun x => (AV.flt .f32 x)) (fun _ => rfl) (fun _ => rfl) rfl F47.ag25 ?_
      refine sv_ffw rfl F47.us25 F47.in32 F47.fl32 ?_
      refine so_move rfl ?_
      refine so_move rfl ?_
      obtain ⟨c106, h⟩ := h
      refine sv_idx (g1 _ hs) c106 (fun _ => rfl) (by decide) rfl rfl F47.tl37 ?_
      refine sv_cell (g1 _ hs) c106 (0 : Nat) 0 (fun x => (AV.flt .f32 x)) (fun _ => rfl) (fun _ => rfl) rfl F47.ag25 ?_
      refine sv_ffw rfl F47.us25 F47.in32 F47.fl32 ?_
      refine sv_callS (laws_sameFloat_ok (widen (l0.getD (i103).toNat (0 : Nat))) (widen (l1.getD (i103).toNat (0 : Nat))) hs  _ h) (fun _ _ ⟨_, _, _, e⟩ => e) rfl rfl ?_
      clear h
      rintro _ _ ⟨y107, h, rfl, rfl⟩
      refine so_un rfl au_not ?_
      refine so_nil ?_
      replace h := ofT h; rcases h with ⟨c109, h⟩ | ⟨c109, h⟩
      · refine fi_false rfl (not_f c109) ?_
        refine fi_skip ?_
        refine fi_inBlock ?_
        refine fi_region ?_
        refine so_move rfl ?_
        refine so_bin rfl rfl ab_add ?_
        refine so_assign rfl ?_
        refine so_nil ?_
        exact fi_at [(0, (.v v0)), (1, (.v v1)), (5, (.v (.int .i64 (IntKind.i64.wrap (i103 + (1 : Int))))))] ⟨rfl, rfl, rfl, trivial⟩ (h _)
      · refine fi_true rfl (not_t c109) ?_
        refine fi_seq ?_
        refine fi_region ?_
        refine so_assign rfl ?_
        refine so_nil ?_
        exact by_ret rfl ⟨_, h, rfl, rfl⟩
    · refine fi_false rfl (decide_eq_false c104) ?_
      refine fi_exit rfl ?_
      refine fi_seq ?_
      refine fi_region ?_
      refine so_assign rfl ?_
      refine so_nil ?_
      exact by_ret rfl ⟨_, h, rfl, rfl⟩
  · refine fi_true rfl (not_t (decide_eq_false c101)) ?_
    refine fi_seq ?_
    refine fi_region ?_
    refine so_assign rfl ?_
    refine so_nil ?_
    exact by_ret rfl ⟨_, h, rfl, rfl⟩

end Go.Proofs.Ytpeijfnfffogeaa.G

namespace Go.Proofs.Ytpeijfnfffogeaa.G
open Go Go.Ab Go.Proofs Go.Proofs.Ytpeijfnfffogeaa
set_option maxRecDepth 100000
set_option linter.unusedVariables false
set_option linter.unusedSimpArgs false
set_option maxHeartbeats 1000000
theorem F58.ag25 : tagg Try.prog 25 = some false := by kernel_rfl
theorem F58.ag37 : tagg Try.prog 37 = some false := by kernel_rfl
theorem F58.fd49_0 : tfield Try.prog 49 0 = some (0, 1, false) := by kernel_rfl
theorem F58.fd49_1 : tfield Try.prog 49 1 = some (1, 1, false) := by kernel_rfl
theorem F58.fl32 : tflt Try.prog 32 = some .f64 := by kernel_rfl
theorem F58.in32 : tint Try.prog 32 = none := by kernel_rfl
theorem F58.inf49 : (Try.prog.info? 49).isSome = true := by kernel_rfl
theorem F58.us25 : (Try.prog.underlying 25).isSome = true := by kernel_rfl
theorem laws_eqScheme_ok {fr : List Pc} {H : Heap} (v0 : AV) (l0 : List (Nat)) (a1 : Nat) (v2 : AV) (l2 : List (Nat)) (a3 : Nat) (hs : Sep H (fr)) (g0 : ∀ H, Sep H fr → Shows H v0 1 (enc (eFlt .f32) l0)) (g2 : ∀ H, Sep H fr → Shows H v2 1 (enc (eFlt .f32) l2)) (K : Bool → Prop) (h : laws_eqScheme.wp l0 a1 l2 a3 K) : OkQ Try.prog 58 [(.g [v0, (.flt .f32 a1)]), (.g [v2, (.flt .f32 a3)])] H (fun r H2 => ∃ (y0 : Bool), K y0 ∧ r = (.v (.bool y0)) ∧ Sep H2 (fr)) := by
  unfold laws_eqScheme.wp at h
  refine of_body Try.f58 F.hm Try.func58 rfl Try.call58 (by kernel_rfl) (by simp) ?_
  refine fi_seq ?_
  refine fi_region ?_
  refine sv_box hs rfl (c := [v0, (.flt .f32 a1)]) rfl F58.inf49 (stc (g0 _ hs).stor (stc rfl stn)) nofun (fun id101 H102 hs => ?_)
  refine sv_box hs rfl (c := [v2, (.flt .f32 a3)]) rfl F58.inf49 (stc (g2 _ hs.tl).stor (stc rfl stn)) nofun (fun id104 H105 hs => ?_)
  refine so_assign rfl ?_
  refine so_nil ?_
  refine fi_seq ?_
  refine fi_seq ?_
  refine fi_region ?_
  refine so_fieldAddr rfl F58.fd49_0 ?_
  refine sv_ld hs 1 rfl rfl rfl F58.ag37 ?_
  refine so_fieldAddr rfl F58.fd49_0 ?_
  refine sv_ld hs 0 rfl rfl rfl F58.ag37 ?_
  refine sv_callS (laws_eqFloat32S_ok v0 l0 v2 l2 hs (fun _ hs => (g0 _ hs.tl.tl)) (fun _ hs => (g2 _ hs.tl.tl)) _ h) (fun _ _ ⟨_, _, _, e⟩ => e) rfl rfl ?_
  clear h
  rintro _ _ ⟨y107, h, rfl, rfl⟩
  refine so_un rfl au_not ?_
  refine so_nil ?_
  replace h := ofT h; rcases h with ⟨c109, h⟩ | ⟨c109, h⟩
  · refine fi_false rfl (not_f c109) ?_
    refine fi_skip ?_
    refine fi_seq ?_
    refine fi_seq ?_
    refine fi_region ?_
    refine so_fieldAddr rfl F58.fd49_1 ?_
    refine sv_ld hs 1 rfl rfl rfl F58.ag25 ?_
    refine sv_ffw rfl F58.us25 F58.in32 F58.fl32 ?_
    refine so_fieldAddr rfl F58.fd49_1 ?_
    refine sv_ld hs 0 rfl rfl rfl F58.ag25 ?_
    refine sv_ffw rfl F58.us25 F58.in32 F58.fl32 ?_
    refine sv_callS (laws_sameFloat_ok (widen a1) (widen a3) hs  _ h) (fun _ _ ⟨_, _, _, e⟩ => e) rfl rfl ?_
    clear h
    rintro _ _ ⟨y110, h, rfl, rfl⟩
    refine so_un rfl au_not ?_
    refine so_nil ?_
    replace h := ofT h; rcases h with ⟨c112, h⟩ | ⟨c112, h⟩
    · refine fi_false rfl (not_f c112) ?_
      refine fi_skip ?_
      refine fi_seq ?_
      refine fi_region ?_
      refine so_assign rfl ?_
      refine so_nil ?_
      exact by_ret rfl ⟨_, h, rfl, (Sep.del 0 (Sep.del 0 hs))⟩
    · refine fi_true rfl (not_t c112) ?_
      refine fi_seq ?_
      refine fi_region ?_
      refine so_assign rfl ?_
      refine so_nil ?_
      exact by_ret rfl ⟨_, h, rfl, (Sep.del 0 (Sep.del 0 hs))⟩
  · refine fi_true rfl (not_t c109) ?_
    refine fi_seq ?_
    refine fi_region ?_
    refine so_assign rfl ?_
    refine so_nil ?_
    exact by_ret rfl ⟨_, h, rfl, (Sep.del 0 (Sep.del 0 hs))⟩

end Go.Proofs.Ytpeijfnfffogeaa.G

namespace Go.Proofs.Ytpeijfnfffogeaa.G
open Go Go.Ab Go.Proofs Go.Proofs.Ytpeijfnfffogeaa
set_option maxRecDepth 100000
set_option linter.unusedVariables false
set_option linter.unusedSimpArgs false
set_option maxHeartbeats 1000000
theorem F96.ag2 : tagg Try.prog 2 = some false := by kernel_rfl
theorem F96.ag37 : tagg Try.prog 37 = some false := by kernel_rfl
theorem F96.fd50_0 : tfield Try.prog 50 0 = some (0, 1, false) := by kernel_rfl
theorem F96.fd50_1 : tfield Try.prog 50 1 = some (1, 1, false) := by kernel_rfl
theorem F96.fd50_2 : tfield Try.prog 50 2 = some (2, 1, false) := by kernel_rfl
theorem F96.inf50 : (Try.prog.info? 50).isSome = true := by kernel_rfl
theorem laws_eqPicture_ok {fr : List Pc} {H : Heap} (a0 : Int) (a1 : Int) (v2 : AV) (l2 : List (Nat)) (a3 : Int) (a4 : Int) (v5 : AV) (l5 : List (Nat)) (hs : Sep H (fr)) (g2 : ∀ H, Sep H fr → Shows H v2 1 (enc (eFlt .f32) l2)) (g5 : ∀ H, Sep H fr → Shows H v5 1 (enc (eFlt .f32) l5)) (K : Bool → Prop) (h : laws_eqPicture.wp a0 a1 l2 a3 a4 l5 K) : OkQ Try.prog 96 [(.g [(.int .i64 a0), (.int .i64 a1), v2]), (.g [(.int .i64 a3), (.int .i64 a4), v5])] H (fun r H2 => ∃ (y0 : Bool), K y0 ∧ r = (.v (.bool y0)) ∧ Sep H2 (fr)) := by
  unfold laws_eqPicture.wp at h
  refine of_body Try.f96 F.hm Try.func96 rfl Try.call96 (by kernel_rfl) (by simp) ?_
  refine fi_seq ?_
  refine fi_region ?_
  refine sv_box hs rfl (c := [(.int .i64 a0), (.int .i64 a1), v2]) rfl F96.inf50 (stc rfl (stc rfl (stc (g2 _ hs).stor stn))) nofun (fun id101 H102 hs => ?_)
  refine sv_box hs rfl (c := [(.int .i64 a3), (.int .i64 a4), v5]) rfl F96.inf50 (stc rfl (stc rfl (stc (g5 _ hs.tl).stor stn))) nofun (fun id104 H105 hs => ?_)
  refine so_assign rfl ?_
  refine so_nil ?_
  refine fi_seq ?_
  refine fi_seq ?_
  refine fi_region ?_
  refine so_fieldAddr rfl F96.fd50_0 ?_
  refine sv_ld hs 1 rfl rfl rfl F96.ag2 ?_
  refine so_fieldAddr rfl F96.fd50_0 ?_
  refine sv_ld hs 0 rfl rfl rfl F96.ag2 ?_
  refine so_bin rfl rfl ab_neq ?_
  refine so_nil ?_
  replace h := ofP h; rcases h with ⟨c107, h⟩ | ⟨c107, h⟩
  · refine fi_false rfl (not_f (decide_eq_true c107)) ?_
    refine fi_skip ?_
    refine fi_seq ?_
    refine fi_seq ?_
    refine fi_region ?_
    refine so_fieldAddr rfl F96.fd50_1 ?_
    refine sv_ld hs 1 rfl rfl rfl F96.ag2 ?_
    refine so_fieldAddr rfl F96.fd50_1 ?_
    refine sv_ld hs 0 rfl rfl rfl F96.ag2 ?_
    refine so_bin rfl rfl ab_neq ?_
    refine so_nil ?_
    replace h := ofP h; rcases h with ⟨c108, h⟩ | ⟨c108, h⟩
    · refine fi_false rfl (not_f (decide_eq_true c108)) ?_
      refine fi_skip ?_
      refine fi_seq ?_
      refine fi_seq ?_
      refine fi_region ?_
      refine so_fieldAddr rfl F96.fd50_2 ?_
      refine sv_ld hs 1 rfl rfl rfl F96.ag37 ?_
      refine so_fieldAddr rfl F96.fd50_2 ?_
      refine sv_ld hs 0 rfl rfl rfl F96.ag37 ?_
      refine sv_callS (laws_eqFloat32S_ok v2 l2 v5 l5 hs (fun _ hs => (g2 _ hs.tl.tl)) (fun _ hs => (g5 _ hs.tl.tl)) _ h) (fun _ _ ⟨_, _, _, e⟩ => e) rfl rfl ?_
      clear h
      rintro _ _ ⟨y109, h, rfl, rfl⟩
      refine so_un rfl au_not ?_
      refine so_nil ?_
      replace h := ofT h; rcases h with ⟨c111, h⟩ | ⟨c111, h⟩
      · refine fi_false rfl (not_f c111) ?_
        refine fi_skip ?_
        refine fi_seq ?_
        refine fi_region ?_
        refine so_assign rfl ?_
        refine so_nil ?_
        exact by_ret rfl ⟨_, h, rfl, (Sep.del 0 (Sep.del 0 hs))⟩
      · refine fi_true rfl (not_t c111) ?_
        refine fi_seq ?_
        refine fi_region ?_
        refine so_assign rfl ?_
        refine so_nil ?_
        exact by_ret rfl ⟨_, h, rfl, (Sep.del 0 (Sep.del 0 hs))⟩
    · refine fi_true rfl (not_t (decide_eq_false c108)) ?_
      refine fi_seq ?_
      refine fi_region ?_
      refine so_assign rfl ?_
      refine so_nil ?_
      exact by_ret rfl ⟨_, h, rfl, (Sep.del 0 (Sep.del 0 hs))⟩
  · refine fi_true rfl (not_t (decide_eq_false c107)) ?_
    refine fi_seq ?_
    refine fi_region ?_
    refine so_assign rfl ?_
    refine so_nil ?_
    exact by_ret rfl ⟨_, h, rfl, (Sep.del 0 (Sep.del 0 hs))⟩

end Go.Proofs.Ytpeijfnfffogeaa.G

namespace Go.Proofs.Ytpeijfnfffogeaa.G
open Go Go.Ab Go.Proofs Go.Proofs.Ytpeijfnfffogeaa
set_option maxRecDepth 100000
set_option linter.unusedVariables false
set_option linter.unusedSimpArgs false
set_option maxHeartbeats 1000000
theorem F48.ag4 : tagg Try.prog 4 = some false := by kernel_rfl
theorem F48.tb4 : tbool Try.prog 4 = true := by kernel_rfl
theorem F48.ti42 : (telem Try.prog 42).isSome = true := by kernel_rfl
theorem F48.tl42 : (telem Try.prog 42).bind (tsz Try.prog) = some 1 := by kernel_rfl
theorem laws_eqBoolS_ok {fr : List Pc} {H : Heap} (v0 : AV) (l0 : List (Bool)) (v1 : AV) (l1 : List (Bool)) (hs : Sep H (fr)) (g0 : ∀ H, Sep H fr → Shows H v0 1 (enc eBool l0)) (g1 : ∀ H, Sep H fr → Shows H v1 1 (enc eBool l1)) (K : Bool → Prop) (h : laws_eqBoolS.wp l0 l1 K) : OkQ Try.prog 48 [(.v v0), (.v v1)] H (fun r H2 => ∃ (y0 : Bool), K y0 ∧ r = (.v (.bool y0)) ∧ H = H2) := by
  unfold laws_eqBoolS.wp at h
  refine of_body Try.f48 F.hm Try.func48 rfl Try.call48 (by kernel_rfl) (by simp) ?_
  refine fi_seq ?_
  refine fi_region ?_
  refine so_assign rfl ?_
  refine so_nil ?_
  refine fi_seq ?_
  refine fi_seq ?_
  refine fi_region ?_
  refine so_move rfl ?_
  refine sv_len (g0 _ hs) (fun _ => rfl) (by decide) rfl F48.ti42 ?_
  refine so_move rfl ?_
  refine sv_len (g1 _ hs) (fun _ => rfl) (by decide) rfl F48.ti42 ?_
  refine so_bin rfl rfl ab_neq ?_
  refine so_nil ?_
  replace h := ofP h; rcases h with ⟨c101, h⟩ | ⟨c101, h⟩
  · refine fi_false rfl (not_f (decide_eq_true c101)) ?_
    refine fi_skip ?_
    refine fi_seq ?_
    refine fi_seq ?_
    refine fi_region ?_
    refine so_assign rfl ?_
    refine so_nil ?_
    refine fi_block ?_
    refine fi_loop ?_
    refine fi_at [(0, (.v v0)), (1, (.v v1)), (5, (.v (.int .i64 (0 : Int))))] ⟨rfl, rfl, rfl, trivial⟩ ?_
    refine h (fun (i103 : Int) => ∀ (s : Nat → TV), Fin _ _ (updL s [(0, (.v v0)), (1, (.v v1)), (5, (.v (.int .i64 i103)))]) _ _) ?_ _
    intro i103 h s108
    refine fi_inLoop ?_
    refine fi_seq ?_
    refine fi_seq ?_
    refine fi_region ?_
    refine so_move rfl ?_
    refine so_move rfl ?_
    refine sv_len (g0 _ hs) (fun _ => rfl) (by decide) rfl F48.ti42 ?_
    refine so_bin rfl rfl ab_lss ?_
    refine so_nil ?_
    replace h := ofP h; rcases h with ⟨c104, h⟩ | ⟨c104, h⟩
    · refine fi_true rfl (decide_eq_true c104) ?_
      refine fi_skip ?_
      refine fi_seq ?_
      refine fi_block ?_
      refine fi_seq ?_
      refine fi_region ?_
      refine so_move rfl ?_
      refine so_move rfl ?_
      obtain ⟨c105, h⟩ := h
      refine sv_idx (g0 _ hs) c105 (fun _ => rfl) (by decide) rfl rfl F48.tl42 ?_
      refine sv_cell (g0 _ hs) c105 false 0 (fun x => (AV.bool x)) (fun _ => rfl) (fun _ => rfl) rfl F48.ag4 ?_
      refine so_move rfl ?_
      refine so_move rfl ?_
      obtain ⟨c106, h⟩ := h
      refine sv_idx (g1 _ hs) c106 (fun _ => rfl) (by decide) rfl rfl F48.tl42 ?_
      refine sv_cell (g1 _ hs) c106 false 0 (fun x => (AV.bool x)) (fun _ => rfl) (fun _ => rfl) rfl F48.ag4 ?_
      refine so_bin rfl rfl (ab_bneq F48.tb4) ?_
      refine so_nil ?_
      replace h := ofT h; rcases h with ⟨c107, h⟩ | ⟨c107, h⟩
      · refine fi_false rfl (not_f c107) ?_
        refine fi_skip ?_
        refine fi_inBlock ?_
        refine fi_region ?_
        refine so_move rfl ?_
        refine so_bin rfl rfl ab_add ?_
        refine so_assign rfl ?_
        refine so_nil ?_
        exact fi_at [(0, (.v v0)), (1, (.v v1)), (5, (.v (.int .i64 (IntKind.i64.wrap (i103 + (1 : Int))))))] ⟨rfl, rfl, rfl, trivial⟩ (h _)
      · refine fi_true rfl (not_t c107) ?_
        refine fi_seq ?_
        refine fi_region ?_
        refine so_assign rfl ?_
        refine so_nil ?_
        exact by_ret rfl ⟨_, h, rfl, rfl⟩
    · refine fi_false rfl (decide_eq_false c104) ?_
      refine fi_exit rfl ?_
      refine fi_seq ?_
      refine fi_region ?_
      refine so_assign rfl ?_
      refine so_nil ?_
      exact by_ret rfl ⟨_, h, rfl, rfl⟩
  · refine fi_true rfl (not_t (decide_eq_false c101)) ?_
    refine fi_seq ?_
    refine fi_region ?_
    refine so_assign rfl ?_
    refine so_nil ?_
    exact by_ret rfl ⟨_, h, rfl, rfl⟩

end Go.Proofs.Ytpeijfnfffogeaa.G

namespace Go.Proofs.Ytpeijfnfffogeaa.G
open Go Go.Ab Go.Proofs Go.Proofs.Ytpeijfnfffogeaa
set_option maxRecDepth 100000
set_option linter.unusedVariables false
set_option linter.unusedSimpArgs false
set_option maxHeartbeats 1000000
theorem F97.ag2 : tagg Try.prog 2 = some false := by kernel_rfl
theorem F97.ag42 : tagg Try.prog 42 = some false := by kernel_rfl
theorem F97.fd51_0 : tfield Try.prog 51 0 = some (0, 1, false) := by kernel_rfl
theorem F97.fd51_1 : tfield Try.prog 51 1 = some (1, 1, false) := by kernel_rfl
theorem F97.fd51_2 : tfield Try.prog 51 2 = some (2, 1, false) := by kernel_rfl
theorem F97.inf51 : (Try.prog.info? 51).isSome = true := by kernel_rfl
theorem laws_eqCoded_ok {fr : List Pc} {H : Heap} (a0 : Int) (a1 : Int) (v2 : AV) (l2 : List (Bool)) (a3 : Int) (a4 : Int) (v5 : AV) (l5 : List (Bool)) (hs : Sep H (fr)) (g2 : ∀ H, Sep H fr → Shows H v2 1 (enc eBool l2)) (g5 : ∀ H, Sep H fr → Shows H v5 1 (enc eBool l5)) (K : Bool → Prop) (h : laws_eqCoded.wp a0 a1 l2 a3 a4 l5 K) : OkQ Try.prog 97 [(.g [(.int .i64 a0), (.int .i64 a1), v2]), (.g [(.int .i64 a3), (.int .i64 a4), v5])] H (fun r H2 => ∃ (y0 : Bool), K y0 ∧ r = (.v (.bool y0)) ∧ Sep H2 (fr)) := by
  unfold laws_eqCoded.wp at h
  refine of_body Try.f97 F.hm Try.func97 rfl Try.call97 (by kernel_rfl) (by simp) ?_
  refine fi_seq ?_
  refine fi_region ?_
  refine sv_box hs rfl (c := [(.int .i64 a0), (.int .i64 a1), v2]) rfl F97.inf51 (stc rfl (stc rfl (stc (g2 _ hs).stor stn))) nofun (fun id101 H102 hs => ?_)
  refine sv_box hs rfl (c := [(.int .i64 a3), (.int .i64 a4), v5]) rfl F97.inf51 (stc rfl (stc rfl (stc (g5 _ hs.tl).stor stn))) nofun (fun id104 H105 hs => ?_)
  refine so_assign rfl ?_
  refine so_nil ?_
  refine fi_seq ?_
  refine fi_seq ?_
  refine fi_region ?_
  refine so_fieldAddr rfl F97.fd51_0 ?_
  refine sv_ld hs 1 rfl rfl rfl F97.ag2 ?_
  refine so_fieldAddr rfl F97.fd51_0 ?_
  refine sv_ld hs 0 rfl rfl rfl F97.ag2 ?_
  refine so_bin rfl rfl ab_neq ?_
  refine so_nil ?_
  replace h := ofP h; rcases h with ⟨c107, h⟩ | ⟨c107, h⟩
  · refine fi_false rfl (not_f (decide_eq_true c107)) ?_
    refine fi_skip ?_
    refine fi_seq ?_
    refine fi_seq ?_
    refine fi_region ?_
    refine so_fieldAddr rfl F97.fd51_1 ?_
    refine sv_ld hs 1 rfl rfl rfl F97.ag2 ?_
    refine so_fieldAddr rfl F97.fd51_1 ?_
    refine sv_ld hs 0 rfl rfl rfl F97.ag2 ?_
    refine so_bin rfl rfl ab_neq ?_
    refine so_nil ?_
    replace h := ofP h; rcases h with ⟨c108, h⟩ | ⟨c108, h⟩
    · refine fi_false rfl (not_f (decide_eq_true c108)) ?_
      refine fi_skip ?_
      refine fi_seq ?_
      refine fi_seq ?_
      refine fi_region ?_
      refine so_fieldAddr rfl F97.fd51_2 ?_
      refine sv_ld hs 1 rfl rfl rfl F97.ag42 ?_
      refine so_fieldAddr rfl F97.fd51_2 ?_
      refine sv_ld hs 0 rfl rfl rfl F97.ag42 ?_
      refine sv_callS (laws_eqBoolS_ok v2 l2 v5 l5 hs (fun _ hs => (g2 _ hs.tl.tl)) (fun _ hs => (g5 _ hs.tl.tl)) _ h) (fun _ _ ⟨_, _, _, e⟩ => e) rfl rfl ?_
      clear h
      rintro _ _ ⟨y109, h, rfl, rfl⟩
      refine so_un rfl au_not ?_
      refine so_nil ?_
      replace h := ofT h; rcases h with ⟨c111, h⟩ | ⟨c111, h⟩
      · refine fi_false rfl (not_f c111) ?_
        refine fi_skip ?_
        refine fi_seq ?_
        refine fi_region ?_
        refine so_assign rfl ?_
        refine so_nil ?_
        exact by_ret rfl ⟨_, h, rfl, (Sep.del 0 (Sep.del 0 hs))⟩
      · refine fi_true rfl (not_t c111) ?_
        refine fi_seq ?_
        refine fi_region ?_
        refine so_assign rfl ?_
        refine so_nil ?_
        exact by_ret rfl ⟨_, h, rfl, (Sep.del 0 (Sep.del 0 hs))⟩
    · refine fi_true rfl (not_t (decide_eq_false c108)) ?_
      refine fi_seq ?_
      refine fi_region ?_
      refine so_assign rfl ?_
      refine so_nil ?_
      exact by_ret rfl ⟨_, h, rfl, (Sep.del 0 (Sep.del 0 hs))⟩
  · refine fi_true rfl (not_t (decide_eq_false c107)) ?_
    refine fi_seq ?_
    refine fi_region ?_
    refine so_assign rfl ?_
    refine so_nil ?_
    exact by_ret rfl ⟨_, h, rfl, (Sep.del 0 (Sep.del 0 hs))⟩

end Go.Proofs.Ytpeijfnfffogeaa.G

namespace Go.Proofs.Ytpeijfnfffogeaa.G
open Go Go.Ab Go.Proofs Go.Proofs.Ytpeijfnfffogeaa
set_option maxRecDepth 100000
set_option linter.unusedVariables false
set_option linter.unusedSimpArgs false
set_option maxHeartbeats 1000000
theorem F26.ag37 : tagg Try.prog 37 = some false := by kernel_rfl
theorem F26.ag49 : tagg Try.prog 49 = some true := by kernel_rfl
theorem F26.ag50 : tagg Try.prog 50 = some true := by kernel_rfl
theorem F26.ag51 : tagg Try.prog 51 = some true := by kernel_rfl
theorem F26.fd53_0 : tfield Try.prog 53 0 = some (0, 1, false) := by kernel_rfl
theorem F26.fd53_1 : tfield Try.prog 53 1 = some (1, 2, true) := by kernel_rfl
theorem F26.fd53_2 : tfield Try.prog 53 2 = some (3, 3, true) := by kernel_rfl
theorem F26.fd53_3 : tfield Try.prog 53 3 = some (6, 3, true) := by kernel_rfl
theorem F26.inf53 : (Try.prog.info? 53).isSome = true := by kernel_rfl
theorem F26.sz49 : tsz Try.prog 49 = some 2 := by kernel_rfl
theorem F26.sz50 : tsz Try.prog 50 = some 3 := by kernel_rfl
theorem F26.sz51 : tsz Try.prog 51 = some 3 := by kernel_rfl
theorem laws_eqDesk_ok {fr : List Pc} {H : Heap} (v0 : AV) (l0 : List (Nat)) (v1 : AV) (l1 : List (Nat)) (a2 : Nat) (a3 : Int) (a4 : Int) (v5 : AV) (l5 : List (Nat)) (a6 : Int) (a7 : Int) (v8 : AV) (l8 : List (Bool)) (v9 : AV) (l9 : List (Nat)) (v10 : AV) (l10 : List (Nat)) (a11 : Nat) (a12 : Int) (a13 : Int) (v14 : AV) (l14 : List (Nat)) (a15 : Int) (a16 : Int) (v17 : AV) (l17 : List (Bool)) (hs : Sep H (fr)) (g0 : ∀ H, Sep H fr → Shows H v0 1 (enc (eFlt .f32) l0)) (g1 : ∀ H, Sep H fr → Shows H v1 1 (enc (eFlt .f32) l1)) (g5 : ∀ H, Sep H fr → Shows H v5 1 (enc (eFlt .f32) l5)) (g8 : ∀ H, Sep H fr → Shows H v8 1 (enc eBool l8)) (g9 : ∀ H, Sep H fr → Shows H v9 1 (enc (eFlt .f32) l9)) (g10 : ∀ H, Sep H fr → Shows H v10 1 (enc (eFlt .f32) l10)) (g14 : ∀ H, Sep H fr → Shows H v14 1 (enc (eFlt .f32) l14)) (g17 : ∀ H, Sep H fr → Shows H v17 1 (enc eBool l17)) (K : Bool → Prop) (h : laws_eqDesk.wp l0 l1 a2 a3 a4 l5 a6 a7 l8 l9 l10 a11 a12 a13 l14 a15 a16 l17 K) : OkQ Try.prog 26 [(.g [v0, v1, (.flt .f32 a2), (.int .i64 a3), (.int .i64 a4), v5, (.int .i64 a6), (.int .i64 a7), v8]), (.g [v9, v10, (.flt .f32 a11), (.int .i64 a12), (.int .i64 a13), v14, (.int .i64 a15), (.int .i64 a16), v17])] H (fun r H2 => ∃ (y0 : Bool), K y0 ∧ r = (.v (.bool y0)) ∧ Sep H2 (fr)) := by
  unfold laws_eqDesk.wp at h
  refine of_body Try.f26 F.hm Try.func26 rfl Try.call26 (by kernel_rfl) (by simp) ?_
  refine fi_seq ?_
  refine fi_region ?_
  refine sv_box hs rfl (c := [v0, v1, (.flt .f32 a2), (.int .i64 a3), (.int .i64 a4), v5, (.int .i64 a6), (.int .i64 a7), v8]) rfl F26.inf53 (stc (g0 _ hs).stor (stc (g1 _ hs).stor (stc rfl (stc rfl (stc rfl (stc (g5 _ hs).stor (stc rfl (stc rfl (stc (g8 _ hs).stor stn))))))))) nofun (fun id101 H102 hs => ?_)
  refine sv_box hs rfl (c := [v9, v10, (.flt .f32 a11), (.int .i64 a12), (.int .i64 a13), v14, (.int .i64 a15), (.int .i64 a16), v17]) rfl F26.inf53 (stc (g9 _ hs.tl).stor (stc (g10 _ hs.tl).stor (stc rfl (stc rfl (stc rfl (stc (g14 _ hs.tl).stor (stc rfl (stc rfl (stc (g17 _ hs.tl).stor stn))))))))) nofun (fun id104 H105 hs => ?_)
  refine so_assign rfl ?_
  refine so_nil ?_
  refine fi_seq ?_
  refine fi_seq ?_
  refine fi_region ?_
  refine so_fieldAddr rfl F26.fd53_0 ?_
  refine sv_ld hs 1 rfl rfl rfl F26.ag37 ?_
  refine so_fieldAddr rfl F26.fd53_0 ?_
  refine sv_ld hs 0 rfl rfl rfl F26.ag37 ?_
  refine sv_callS (laws_eqFloat32S_ok v0 l0 v9 l9 hs (fun _ hs => (g0 _ hs.tl.tl)) (fun _ hs => (g9 _ hs.tl.tl)) _ h) (fun _ _ ⟨_, _, _, e⟩ => e) rfl rfl ?_
  clear h
  rintro _ _ ⟨y107, h, rfl, rfl⟩
  refine so_un rfl au_not ?_
  refine so_nil ?_
  replace h := ofT h; rcases h with ⟨c109, h⟩ | ⟨c109, h⟩
  · refine fi_false rfl (not_f c109) ?_
    refine fi_skip ?_
    refine fi_seq ?_
    refine fi_seq ?_
    refine fi_region ?_
    refine so_fieldAddr rfl F26.fd53_1 ?_
    refine sv_lds hs 1 rfl rfl (leb rfl) rfl F26.ag49 F26.sz49 ?_
    refine so_fieldAddr rfl F26.fd53_1 ?_
    refine sv_lds hs 0 rfl rfl (leb rfl) rfl F26.ag49 F26.sz49 ?_
    refine sv_call (laws_eqScheme_ok v1 l1 a2 v10 l10 a11 hs (fun _ hs => (g1 _ hs.tl.tl)) (fun _ hs => (g10 _ hs.tl.tl)) _ h) rfl rfl nofun ?_
    clear h hs
    rintro _ H111 ⟨y110, h, rfl, hs⟩
    refine so_un rfl au_not ?_
    refine so_nil ?_
    replace h := ofT h; rcases h with ⟨c112, h⟩ | ⟨c112, h⟩
    · refine fi_false rfl (not_f c112) ?_
      refine fi_skip ?_
      refine fi_seq ?_
      refine fi_seq ?_
      refine fi_region ?_
      refine so_fieldAddr rfl F26.fd53_2 ?_
      refine sv_lds hs 1 rfl rfl (leb rfl) rfl F26.ag50 F26.sz50 ?_
      refine so_fieldAddr rfl F26.fd53_2 ?_
      refine sv_lds hs 0 rfl rfl (leb rfl) rfl F26.ag50 F26.sz50 ?_
      refine sv_call (laws_eqPicture_ok a3 a4 v5 l5 a12 a13 v14 l14 hs (fun _ hs => (g5 _ hs.tl.tl)) (fun _ hs => (g14 _ hs.tl.tl)) _ h) rfl rfl nofun ?_
      clear h hs
      rintro _ H114 ⟨y113, h, rfl, hs⟩
      refine so_un rfl au_not ?_
      refine so_nil ?_
      replace h := ofT h; rcases h with ⟨c115, h⟩ | ⟨c115, h⟩
      · refine fi_false rfl (not_f c115) ?_
        refine fi_skip ?_
        refine fi_seq ?_
        refine fi_seq ?_
        refine fi_region ?_
        refine so_fieldAddr rfl F26.fd53_3 ?_
        refine sv_lds hs 1 rfl rfl (leb rfl) rfl F26.ag51 F26.sz51 ?_
        refine so_fieldAddr rfl F26.fd53_3 ?_
        refine sv_lds hs 0 rfl rfl (leb rfl) rfl F26.ag51 F26.sz51 ?_
        refine sv_call (laws_eqCoded_ok a6 a7 v8 l8 a15 a16 v17 l17 hs (fun _ hs => (g8 _ hs.tl.tl)) (fun _ hs => (g17 _ hs.tl.tl)) _ h) rfl rfl nofun ?_
        clear h hs
        rintro _ H117 ⟨y116, h, rfl, hs⟩
        refine so_un rfl au_not ?_
        refine so_nil ?_
        replace h := ofT h; rcases h with ⟨c118, h⟩ | ⟨c118, h⟩
        · refine fi_false rfl (not_f c118) ?_
          refine fi_skip ?_
          refine fi_seq ?_
          refine fi_region ?_
          refine so_assign rfl ?_
          refine so_nil ?_
          exact by_ret rfl ⟨_, h, rfl, (Sep.del 0 (Sep.del 0 hs))⟩
        · refine fi_true rfl (not_t c118) ?_
          refine fi_seq ?_
          refine fi_region ?_
          refine so_assign rfl ?_
          refine so_nil ?_
          exact by_ret rfl ⟨_, h, rfl, (Sep.del 0 (Sep.del 0 hs))⟩
      · refine fi_true rfl (not_t c115) ?_
        refine fi_seq ?_
        refine fi_region ?_
        refine so_assign rfl ?_
        refine so_nil ?_
        exact by_ret rfl ⟨_, h, rfl, (Sep.del 0 (Sep.del 0 hs))⟩
    · refine fi_true rfl (not_t c112) ?_
      refine fi_seq ?_
      refine fi_region ?_
      refine so_assign rfl ?_
      refine so_nil ?_
      exact by_ret rfl ⟨_, h, rfl, (Sep.del 0 (Sep.del 0 hs))⟩
  · refine fi_true rfl (not_t c109) ?_
    refine fi_seq ?_
    refine fi_region ?_
    refine so_assign rfl ?_
    refine so_nil ?_
    exact by_ret rfl ⟨_, h, rfl, (Sep.del 0 (Sep.del 0 hs))⟩

end Go.Proofs.Ytpeijfnfffogeaa.G

namespace Go.Proofs.Ytpeijfnfffogeaa.G
open Go Go.Ab Go.Proofs Go.Proofs.Ytpeijfnfffogeaa
set_option maxRecDepth 100000
set_option linter.unusedVariables false
set_option linter.unusedSimpArgs false
set_option maxHeartbeats 1000000
theorem F4.ag46 : tagg Try.prog 46 = some true := by kernel_rfl
theorem F4.ag53 : tagg Try.prog 53 = some true := by kernel_rfl
theorem F4.inf46 : (Try.prog.info? 46).isSome = true := by kernel_rfl
theorem F4.sz46 : tsz Try.prog 46 = some 9 := by kernel_rfl
theorem F4.sz53 : tsz Try.prog 53 = some 9 := by kernel_rfl
theorem F4.tb4 : tbool Try.prog 4 = true := by kernel_rfl
theorem F4.ze53 : tzero Try.prog 53 = some [.nilsl, .nilsl, (.flt .f32 (0 : Nat)), (.int .i64 (0 : Int)), (.int .i64 (0 : Int)), .nilsl, (.int .i64 (0 : Int)), (.int .i64 (0 : Int)), .nilsl] := by kernel_rfl
theorem laws_FnExactSameDesk_ok {fr : List Pc} {H : Heap} (v0 : AV) (l0 : List (Nat)) (v1 : AV) (l1 : List (Nat)) (a2 : Nat) (a3 : Int) (a4 : Int) (v5 : AV) (l5 : List (Nat)) (a6 : Int) (a7 : Int) (v8 : AV) (l8 : List (Bool)) (v9 : AV) (l9 : List (Nat)) (v10 : AV) (l10 : List (Nat)) (a11 : Nat) (a12 : Int) (a13 : Int) (v14 : AV) (l14 : List (Nat)) (a15 : Int) (a16 : Int) (v17 : AV) (l17 : List (Bool)) (hs : Sep H (fr)) (g0 : ∀ H, Sep H fr → Shows H v0 1 (enc (eFlt .f32) l0)) (g1 : ∀ H, Sep H fr → Shows H v1 1 (enc (eFlt .f32) l1)) (g5 : ∀ H, Sep H fr → Shows H v5 1 (enc (eFlt .f32) l5)) (g8 : ∀ H, Sep H fr → Shows H v8 1 (enc eBool l8)) (g9 : ∀ H, Sep H fr → Shows H v9 1 (enc (eFlt .f32) l9)) (g10 : ∀ H, Sep H fr → Shows H v10 1 (enc (eFlt .f32) l10)) (g14 : ∀ H, Sep H fr → Shows H v14 1 (enc (eFlt .f32) l14)) (g17 : ∀ H, Sep H fr → Shows H v17 1 (enc eBool l17)) (K : Bool → Prop) (h : laws_FnExactSameDesk.wp l0 l1 a2 a3 a4 l5 a6 a7 l8 l9 l10 a11 a12 a13 l14 a15 a16 l17 K) : OkQ Try.prog 4 [(.g [v0, v1, (.flt .f32 a2), (.int .i64 a3), (.int .i64 a4), v5, (.int .i64 a6), (.int .i64 a7), v8]), (.g [v9, v10, (.flt .f32 a11), (.int .i64 a12), (.int .i64 a13), v14, (.int .i64 a15), (.int .i64 a16), v17])] H (fun r H2 => ∃ (y0 : Bool), K y0 ∧ r = (.v (.bool y0)) ∧ Sep H2 (fr)) := by
  unfold laws_FnExactSameDesk.wp at h
  refine of_body Try.f4 F.hm Try.func4 rfl Try.call4 (by kernel_rfl) (by simp) ?_
  refine fi_seq ?_
  refine fi_region ?_
  refine sv_box hs rfl (c := [v0, v1, (.flt .f32 a2), (.int .i64 a3), (.int .i64 a4), v5, (.int .i64 a6), (.int .i64 a7), v8]) rfl F4.inf46 (stc (g0 _ hs).stor (stc (g1 _ hs).stor (stc rfl (stc rfl (stc rfl (stc (g5 _ hs).stor (stc rfl (stc rfl (stc (g8 _ hs).stor stn))))))))) nofun (fun id101 H102 hs => ?_)
  refine sv_box hs rfl (c := [v9, v10, (.flt .f32 a11), (.int .i64 a12), (.int .i64 a13), v14, (.int .i64 a15), (.int .i64 a16), v17]) rfl F4.inf46 (stc (g9 _ hs.tl).stor (stc (g10 _ hs.tl).stor (stc rfl (stc rfl (stc rfl (stc (g14 _ hs.tl).stor (stc rfl (stc rfl (stc (g17 _ hs.tl).stor stn))))))))) nofun (fun id104 H105 hs => ?_)
  refine so_assign rfl ?_
  refine so_nil ?_
  refine fi_seq ?_
  refine fi_region ?_
  refine so_assign rfl ?_
  refine so_nil ?_
  refine fi_seq ?_
  refine fi_region ?_
  refine sv_lds hs 1 rfl rfl (leb rfl) rfl F4.ag46 F4.sz46 ?_
  refine so_move rfl ?_
  refine sv_call (laws_szDesk_ok v0 l0 v1 l1 a2 a3 a4 v5 l5 a6 a7 v8 l8 (1048576 : Int) hs (fun _ hs => (g0 _ hs.tl.tl)) (fun _ hs => (g1 _ hs.tl.tl)) (fun _ hs => (g5 _ hs.tl.tl)) (fun _ hs => (g8 _ hs.tl.tl)) _ h) rfl rfl nofun ?_
  clear h hs
  rintro _ H108 ⟨y107, h, rfl, hs⟩
  refine so_assign rfl ?_
  refine so_nil ?_
  refine fi_seq ?_
  refine fi_seq ?_
  refine fi_region ?_
  refine so_move rfl ?_
  refine so_bin rfl rfl ab_lss ?_
  refine so_nil ?_
  replace h := ofP h; rcases h with ⟨c109, h⟩ | ⟨c109, h⟩
  · refine fi_true rfl (decide_eq_true c109) ?_
    refine fi_seq ?_
    refine fi_region ?_
    refine so_assign rfl ?_
    refine so_nil ?_
    exact by_ret rfl ⟨_, h, rfl, (Sep.del 0 (Sep.del 0 hs))⟩
  · refine fi_false rfl (decide_eq_false c109) ?_
    refine fi_skip ?_
    refine fi_seq ?_
    refine fi_region ?_
    refine sv_lds hs 0 rfl rfl (leb rfl) rfl F4.ag46 F4.sz46 ?_
    refine so_move rfl ?_
    refine sv_call (laws_szDesk_ok v9 l9 v10 l10 a11 a12 a13 v14 l14 a15 a16 v17 l17 y107 hs (fun _ hs => (g9 _ hs.tl.tl)) (fun _ hs => (g10 _ hs.tl.tl)) (fun _ hs => (g14 _ hs.tl.tl)) (fun _ hs => (g17 _ hs.tl.tl)) _ h) rfl rfl nofun ?_
    clear h hs
    rintro _ H111 ⟨y110, h, rfl, hs⟩
    refine so_assign rfl ?_
    refine so_nil ?_
    refine fi_seq ?_
    refine fi_seq ?_
    refine fi_region ?_
    refine so_move rfl ?_
    refine so_bin rfl rfl ab_lss ?_
    refine so_nil ?_
    replace h := ofP h; rcases h with ⟨c112, h⟩ | ⟨c112, h⟩
    · refine fi_true rfl (decide_eq_true c112) ?_
      refine fi_seq ?_
      refine fi_region ?_
      refine so_assign rfl ?_
      refine so_nil ?_
      exact by_ret rfl ⟨_, h, rfl, (Sep.del 0 (Sep.del 0 hs))⟩
    · refine fi_false rfl (decide_eq_false c112) ?_
      refine fi_skip ?_
      refine fi_seq ?_
      refine fi_free [2] ?_
      refine wf_same (by decide +kernel) (by kernel_rfl) ?_
      refine sv_lds hs 1 rfl rfl (leb rfl) rfl F4.ag46 F4.sz46 ?_
      refine so_end ⟨rfl, ?_⟩
      have hs0_ := hs
      refine wf_chg (by kernel_rfl) ?_
      refine sv_call (laws_toDesk_ok v0 l0 v1 l1 a2 a3 a4 v5 l5 a6 a7 v8 l8 hs (fun _ hs => (g0 _ hs.tl.tl)) (fun _ hs => (g1 _ hs.tl.tl)) (fun _ hs => (g5 _ hs.tl.tl)) (fun _ hs => (g8 _ hs.tl.tl)) _ h) rfl rfl nofun ?_
      clear h
      rintro _ H130 ⟨y113, y116, y119, y120, y121, y122, y125, y126, y127, h, v114, v117, v123, v128, rfl, hs⟩
      refine so_end ⟨fan, ?_⟩
      refine wf_free (.g [v9, v10, (.flt .f32 a11), (.int .i64 a12), (.int .i64 a13), v14, (.int .i64 a15), (.int .i64 a16), v17]) rfl (by kernel_rfl) (stepr (i := 0) rfl (by refine sv_lds hs 4 rfl rfl (leb rfl) rfl F4.ag46 F4.sz46 ?_; exact so_end ⟨rfl, rfl⟩)) (fac (.inr (stepr (i := 0) rfl (by refine sv_lds hs0_ 0 rfl rfl (leb rfl) rfl F4.ag46 F4.sz46 ?_; exact so_end ⟨rfl, rfl⟩))) fan) ?_
      have hs1_ := hs
      refine wf_chg (by kernel_rfl) ?_
      refine sv_call (laws_toDesk_ok v9 l9 v10 l10 a11 a12 a13 v14 l14 a15 a16 v17 l17 hs (fun _ hs => (g9 _ hs.tl.tl.tl.tl.tl.tl)) (fun _ hs => (g10 _ hs.tl.tl.tl.tl.tl.tl)) (fun _ hs => (g14 _ hs.tl.tl.tl.tl.tl.tl)) (fun _ hs => (g17 _ hs.tl.tl.tl.tl.tl.tl)) _ h) rfl rfl nofun ?_
      clear h
      rintro _ H148 ⟨y131, y134, y137, y138, y139, y140, y143, y144, y145, h, v132, v135, v141, v146, rfl, hs⟩
      refine so_end ⟨(fac (.inl ⟨3, by kernel_rfl⟩) fan), ?_⟩
      have hs2_ := hs
      refine wf_chg (by kernel_rfl) ?_
      refine sv_call (spec_SameDesk_ok v114 y113 v117 y116 y119 y120 y121 v123 y122 y125 y126 v128 y127 v132 y131 v135 y134 y137 y138 y139 v141 y140 y143 y144 v146 y145 hs (fun _ hs => (hs.shows 4 rfl)) (fun _ hs => (hs.shows 5 rfl)) (fun _ hs => (hs.shows 6 rfl)) (fun _ hs => (hs.shows 7 rfl)) (fun _ hs => (hs.shows 0 rfl)) (fun _ hs => (hs.shows 1 rfl)) (fun _ hs => (hs.shows 2 rfl)) (fun _ hs => (hs.shows 3 rfl)) _ h) rfl rfl nofun ?_
      clear h
      rintro _ H150 ⟨y149, h, rfl, hs⟩
      refine so_end ⟨(fac (.inl ⟨3, by kernel_rfl⟩) fan), ?_⟩
      refine wf_pure rfl (by kernel_rfl) ?_
      refine so_assign rfl ?_
      refine so_end ?_
      refine wf_nil ?_
      refine fi_seq ?_
      refine fi_region ?_
      refine sv_lds hs 9 rfl rfl (leb rfl) rfl F4.ag46 F4.sz46 ?_
      refine sv_call (laws_toDesk_ok v0 l0 v1 l1 a2 a3 a4 v5 l5 a6 a7 v8 l8 hs (fun _ hs => (g0 _ hs.tl.tl.tl.tl.tl.tl.tl.tl.tl.tl)) (fun _ hs => (g1 _ hs.tl.tl.tl.tl.tl.tl.tl.tl.tl.tl)) (fun _ hs => (g5 _ hs.tl.tl.tl.tl.tl.tl.tl.tl.tl.tl)) (fun _ hs => (g8 _ hs.tl.tl.tl.tl.tl.tl.tl.tl.tl.tl)) _ h) rfl rfl nofun ?_
      clear h hs
      rintro _ H168 ⟨y151, y154, y157, y158, y159, y160, y163, y164, y165, h, v152, v155, v161, v166, rfl, hs⟩
      refine sv_alloc hs F4.ze53 rfl nofun (fun id169 H170 hs => ?_)
      refine sv_st hs 0 rfl rfl rfl (c := [v152, v155, (.flt .f32 y157), (.int .i64 y158), (.int .i64 y159), v161, (.int .i64 y163), (.int .i64 y164), v166]) rfl F4.sz53 rfl (stc (hs.shows 1 rfl).stor (stc (hs.shows 2 rfl).stor (stc rfl (stc rfl (stc rfl (stc (hs.shows 3 rfl).stor (stc rfl (stc rfl (stc (hs.shows 4 rfl).stor stn))))))))) (leb rfl) (cs' := [v152, v155, (.flt .f32 y157), (.int .i64 y158), (.int .i64 y159), v161, (.int .i64 y163), (.int .i64 y164), v166]) rfl nofun (fun H172 hs => ?_)
      refine so_nil ?_
      refine fi_seq ?_
      refine fi_region ?_
      refine sv_lds hs 13 rfl rfl (leb rfl) rfl F4.ag46 F4.sz46 ?_
      refine sv_call (laws_toDesk_ok v9 l9 v10 l10 a11 a12 a13 v14 l14 a15 a16 v17 l17 hs (fun _ hs => (g9 _ hs.tl.tl.tl.tl.tl.tl.tl.tl.tl.tl.tl.tl.tl.tl.tl)) (fun _ hs => (g10 _ hs.tl.tl.tl.tl.tl.tl.tl.tl.tl.tl.tl.tl.tl.tl.tl)) (fun _ hs => (g14 _ hs.tl.tl.tl.tl.tl.tl.tl.tl.tl.tl.tl.tl.tl.tl.tl)) (fun _ hs => (g17 _ hs.tl.tl.tl.tl.tl.tl.tl.tl.tl.tl.tl.tl.tl.tl.tl)) _ h) rfl rfl nofun ?_
      clear h hs
      rintro _ H190 ⟨y173, y176, y179, y180, y181, y182, y185, y186, y187, h, v174, v177, v183, v188, rfl, hs⟩
      refine sv_alloc hs F4.ze53 rfl nofun (fun id191 H192 hs => ?_)
      refine sv_st hs 0 rfl rfl rfl (c := [v174, v177, (.flt .f32 y179), (.int .i64 y180), (.int .i64 y181), v183, (.int .i64 y185), (.int .i64 y186), v188]) rfl F4.sz53 rfl (stc (hs.shows 1 rfl).stor (stc (hs.shows 2 rfl).stor (stc rfl (stc rfl (stc rfl (stc (hs.shows 3 rfl).stor (stc rfl (stc rfl (stc (hs.shows 4 rfl).stor stn))))))))) (leb rfl) (cs' := [v174, v177, (.flt .f32 y179), (.int .i64 y180), (.int .i64 y181), v183, (.int .i64 y185), (.int .i64 y186), v188]) rfl nofun (fun H194 hs => ?_)
      refine so_nil ?_
      refine fi_seq ?_
      refine fi_region ?_
      refine sv_lds hs 5 rfl rfl (leb rfl) rfl F4.ag53 F4.sz53 ?_
      refine sv_lds hs 0 rfl rfl (leb rfl) rfl F4.ag53 F4.sz53 ?_
      refine sv_call (impl_SameDesk_ok v152 y151 v155 y154 y157 y158 y159 v161 y160 y163 y164 v166 y165 v174 y173 v177 y176 y179 y180 y181 v183 y182 y185 y186 v188 y187 hs (fun _ hs => (hs.shows 6 rfl)) (fun _ hs => (hs.shows 7 rfl)) (fun _ hs => (hs.shows 8 rfl)) (fun _ hs => (hs.shows 9 rfl)) (fun _ hs => (hs.shows 1 rfl)) (fun _ hs => (hs.shows 2 rfl)) (fun _ hs => (hs.shows 3 rfl)) (fun _ hs => (hs.shows 4 rfl)) _ h) rfl rfl nofun ?_
      clear h hs
      rintro _ H196 ⟨y195, h, rfl, hs⟩
      refine so_assign rfl ?_
      refine so_nil ?_
      refine fi_seq ?_
      refine fi_seq ?_
      refine fi_region ?_
      refine so_move rfl ?_
      refine so_move rfl ?_
      refine so_bin rfl rfl (ab_bneq F4.tb4) ?_
      refine so_nil ?_
      replace h := ofT h; rcases h with ⟨c197, h⟩ | ⟨c197, h⟩
      · refine fi_false rfl (not_f c197) ?_
        refine fi_skip ?_
        refine fi_seq ?_
        refine fi_seq ?_
        refine fi_free [0] ?_
        refine wf_free (.g [v152, v155, (.flt .f32 y157), (.int .i64 y158), (.int .i64 y159), v161, (.int .i64 y163), (.int .i64 y164), v166]) rfl (by kernel_rfl) (stepr (i := 0) rfl (by refine sv_lds hs 5 rfl rfl (leb rfl) rfl F4.ag53 F4.sz53 ?_; exact so_end ⟨rfl, rfl⟩)) fan ?_
        refine wf_same (by decide +kernel) (by kernel_rfl) ?_
        refine sv_lds hs 19 rfl rfl (leb rfl) rfl F4.ag46 F4.sz46 ?_
        refine so_end ⟨rfl, ?_⟩
        have hs0_ := hs
        refine wf_chg (by kernel_rfl) ?_
        refine sv_call (laws_toDesk_ok v0 l0 v1 l1 a2 a3 a4 v5 l5 a6 a7 v8 l8 hs (fun _ hs => (g0 _ hs.tl.tl.tl.tl.tl.tl.tl.tl.tl.tl.tl.tl.tl.tl.tl.tl.tl.tl.tl.tl)) (fun _ hs => (g1 _ hs.tl.tl.tl.tl.tl.tl.tl.tl.tl.tl.tl.tl.tl.tl.tl.tl.tl.tl.tl.tl)) (fun _ hs => (g5 _ hs.tl.tl.tl.tl.tl.tl.tl.tl.tl.tl.tl.tl.tl.tl.tl.tl.tl.tl.tl.tl)) (fun _ hs => (g8 _ hs.tl.tl.tl.tl.tl.tl.tl.tl.tl.tl.tl.tl.tl.tl.tl.tl.tl.tl.tl.tl)) _ h) rfl rfl nofun ?_
        clear h
        rintro _ H215 ⟨y198, y201, y204, y205, y206, y207, y210, y211, y212, h, v199, v202, v208, v213, rfl, hs⟩
        refine so_end ⟨(fac (.inr (stepr (i := 0) rfl (by refine sv_lds hs 9 rfl rfl (leb rfl) rfl F4.ag53 F4.sz53 ?_; exact so_end ⟨rfl, rfl⟩))) fan), ?_⟩
        have hs1_ := hs
        refine wf_chg (by kernel_rfl) ?_
        refine sv_call (laws_eqDesk_ok v152 y151 v155 y154 y157 y158 y159 v161 y160 y163 y164 v166 y165 v199 y198 v202 y201 y204 y205 y206 v208 y207 y210 y211 v213 y212 hs (fun _ hs => (hs.shows 10 rfl)) (fun _ hs => (hs.shows 11 rfl)) (fun _ hs => (hs.shows 12 rfl)) (fun _ hs => (hs.shows 13 rfl)) (fun _ hs => (hs.shows 0 rfl)) (fun _ hs => (hs.shows 1 rfl)) (fun _ hs => (hs.shows 2 rfl)) (fun _ hs => (hs.shows 3 rfl)) _ h) rfl rfl nofun ?_
        clear h
        rintro _ H217 ⟨y216, h, rfl, hs⟩
        refine so_end ⟨(fac (.inl ⟨3, by kernel_rfl⟩) fan), ?_⟩
        refine wf_pure rfl (by kernel_rfl) ?_
        refine so_un rfl au_not ?_
        refine so_end ?_
        refine wf_nil ?_
        replace h := ofT h; rcases h with ⟨c218, h⟩ | ⟨c218, h⟩
        · refine fi_false rfl (not_f c218) ?_
          refine fi_skip ?_
          refine fi_seq ?_
          refine fi_seq ?_
          refine fi_free [0] ?_
          refine wf_free (.g [v174, v177, (.flt .f32 y179), (.int .i64 y180), (.int .i64 y181), v183, (.int .i64 y185), (.int .i64 y186), v188]) rfl (by kernel_rfl) (stepr (i := 0) rfl (by refine sv_lds hs 4 rfl rfl (leb rfl) rfl F4.ag53 F4.sz53 ?_; exact so_end ⟨rfl, rfl⟩)) fan ?_
          refine wf_same (by decide +kernel) (by kernel_rfl) ?_
          refine sv_lds hs 22 rfl rfl (leb rfl) rfl F4.ag46 F4.sz46 ?_
          refine so_end ⟨rfl, ?_⟩
          have hs0_ := hs
          refine wf_chg (by kernel_rfl) ?_
          refine sv_call (laws_toDesk_ok v9 l9 v10 l10 a11 a12 a13 v14 l14 a15 a16 v17 l17 hs (fun _ hs => (g9 _ hs.tl.tl.tl.tl.tl.tl.tl.tl.tl.tl.tl.tl.tl.tl.tl.tl.tl.tl.tl.tl.tl.tl.tl.tl)) (fun _ hs => (g10 _ hs.tl.tl.tl.tl.tl.tl.tl.tl.tl.tl.tl.tl.tl.tl.tl.tl.tl.tl.tl.tl.tl.tl.tl.tl)) (fun _ hs => (g14 _ hs.tl.tl.tl.tl.tl.tl.tl.tl.tl.tl.tl.tl.tl.tl.tl.tl.tl.tl.tl.tl.tl.tl.tl.tl)) (fun _ hs => (g17 _ hs.tl.tl.tl.tl.tl.tl.tl.tl.tl.tl.tl.tl.tl.tl.tl.tl.tl.tl.tl.tl.tl.tl.tl.tl)) _ h) rfl rfl nofun ?_
          clear h
          rintro _ H236 ⟨y219, y222, y225, y226, y227, y228, y231, y232, y233, h, v220, v223, v229, v234, rfl, hs⟩
          refine so_end ⟨(fac (.inr (stepr (i := 0) rfl (by refine sv_lds hs 8 rfl rfl (leb rfl) rfl F4.ag53 F4.sz53 ?_; exact so_end ⟨rfl, rfl⟩))) fan), ?_⟩
          have hs1_ := hs
          refine wf_chg (by kernel_rfl) ?_
          refine sv_call (laws_eqDesk_ok v174 y173 v177 y176 y179 y180 y181 v183 y182 y185 y186 v188 y187 v220 y219 v223 y222 y225 y226 y227 v229 y228 y231 y232 v234 y233 hs (fun _ hs => (hs.shows 9 rfl)) (fun _ hs => (hs.shows 10 rfl)) (fun _ hs => (hs.shows 11 rfl)) (fun _ hs => (hs.shows 12 rfl)) (fun _ hs => (hs.shows 0 rfl)) (fun _ hs => (hs.shows 1 rfl)) (fun _ hs => (hs.shows 2 rfl)) (fun _ hs => (hs.shows 3 rfl)) _ h) rfl rfl nofun ?_
          clear h
          rintro _ H238 ⟨y237, h, rfl, hs⟩
          refine so_end ⟨(fac (.inl ⟨3, by kernel_rfl⟩) fan), ?_⟩
          refine wf_pure rfl (by kernel_rfl) ?_
          refine so_un rfl au_not ?_
          refine so_end ?_
          refine wf_nil ?_
          replace h := ofT h; rcases h with ⟨c239, h⟩ | ⟨c239, h⟩
          · refine fi_false rfl (not_f c239) ?_
            refine fi_skip ?_
            refine fi_seq ?_
            refine fi_region ?_
            refine so_assign rfl ?_
            refine so_nil ?_
            exact by_ret rfl ⟨_, h, rfl, (Sep.dropn 28 hs)⟩
          · refine fi_true rfl (not_t c239) ?_
            refine fi_seq ?_
            refine fi_region ?_
            refine so_assign rfl ?_
            refine so_nil ?_
            exact by_ret rfl ⟨_, h, rfl, (Sep.dropn 28 hs)⟩
        · refine fi_true rfl (not_t c218) ?_
          refine fi_seq ?_
          refine fi_region ?_
          refine so_assign rfl ?_
          refine so_nil ?_
          exact by_ret rfl ⟨_, h, rfl, (Sep.dropn 24 hs)⟩
      · refine fi_true rfl (not_t c197) ?_
        refine fi_seq ?_
        refine fi_region ?_
        refine so_assign rfl ?_
        refine so_nil ?_
        exact by_ret rfl ⟨_, h, rfl, (Sep.dropn 20 hs)⟩

end Go.Proofs.Ytpeijfnfffogeaa.G

